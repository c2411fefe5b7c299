/- A relation in which one block of the call's own is filled. -/
import Derived.Test.YtjoomdihjffmlaaRgnS
import Derived.Test.YtjoomdihjffmlaaRgnL
namespace Go.Proofs.Ytjoomdihjffmlaa
set_option linter.unusedSimpArgs false
set_option linter.unusedVariables false
open Go.RowKit
/-- Block r, of zero cells cs0, may be filled with cs1; else nothing turns. -/
structure FillR (r : Nat) (T : TypeId) (cs0 cs1 : Array Value) (w w' : World) : Prop where
  os : w'.os = w.os
  tape : w'.tape = w.tape
  output : w'.output = w.output
  size : w.heap.size ≤ w'.heap.size
  block : ∀ k, k < w.heap.size → w'.heap[k]? = w.heap[k]? ∨ (k = r ∧ w.heap[k]? = some (.cells cs0 T (0, 0)) ∧ w'.heap[k]? = some (.cells cs1 T (0, 0)))
theorem FillR.of_ext {r : Nat} {T : TypeId} {cs0 cs1 : Array Value} {w w' : World} (h : Ext w w') : FillR r T cs0 cs1 w w' := ⟨h.os, h.tape, h.output, Ext.size h, fun k hk => .inl (Below.block h k hk)⟩
theorem FillR.refl {r : Nat} {T : TypeId} {cs0 cs1 : Array Value} (w : World) : FillR r T cs0 cs1 w w := FillR.of_ext (Ext.refl w)
theorem FillR.trans {r : Nat} {T : TypeId} {cs0 cs1 : Array Value} {a b c : World} (h : FillR r T cs0 cs1 a b) (k : FillR r T cs0 cs1 b c) : FillR r T cs0 cs1 a c := by
  refine ⟨k.os.trans h.os, k.tape.trans h.tape, k.output.trans h.output, Nat.le_trans h.size k.size, fun i hi => ?_⟩
  rcases h.block i hi with h1 | ⟨h1, h2, h3⟩ <;> rcases k.block i (Nat.lt_of_lt_of_le hi h.size) with k1 | ⟨k1, k2, k3⟩
  · exact .inl (k1.trans h1)
  · exact .inr ⟨k1, by rw [← h1]; exact k2, k3⟩
  · exact .inr ⟨h1, h2, by rw [k1]; exact h3⟩
  · exact .inr ⟨h1, h2, k3⟩
theorem FillR.rel (r : Nat) (T : TypeId) (cs0 cs1 : Array Value) : WRel (FillR r T cs0 cs1) where
  refl := FillR.refl
  trans := FillR.trans
  size := FillR.size
  draw := fun w => FillR.of_ext ⟨rfl, rfl, rfl, Nat.le_refl _, fun _ _ => rfl⟩
theorem FillR.blk {r : Nat} {T : TypeId} {cs0 cs1 : Array Value} {w w' : World} (h : FillR r T cs0 cs1 w w') {b : Nat} {cs : Array Value} {U : TypeId} (k : Blk w b cs U) (hr : b ≠ r) : Blk w' b cs U := by
  rcases h.block b k.lt with e | ⟨e, _⟩
  · unfold Blk; rw [e]; exact k
  · exact absurd e hr
theorem FillR.put {r : Nat} {T : TypeId} {cs0 cs1 : Array Value} {w w' : World} (h : FillR r T cs0 cs1 w w') (k : Blk w r cs1 T) : Blk w' r cs1 T := by
  rcases h.block r k.lt with e | ⟨_, _, e⟩
  · unfold Blk; rw [e]; exact k
  · exact e
theorem FillR.put' {r : Nat} {T : TypeId} {cs0 cs1 : Array Value} {w w' : World} (h : FillR r T cs0 cs1 w w') (k : Blk w r cs0 T ∨ Blk w r cs1 T) : Blk w' r cs0 T ∨ Blk w' r cs1 T := by
  rcases k with k | k
  · rcases h.block r k.lt with e | ⟨_, _, e⟩
    · exact .inl (by unfold Blk; rw [e]; exact k)
    · exact .inr e
  · exact .inr (h.put k)
/-- Before the region the filled block lay below: of the blocks ahead of both nothing has turned. -/
theorem FillR.ext {r : Nat} {T : TypeId} {cs0 cs1 : Array Value} {w0 w w' : World} (h : Ext w0 w) (m : FillR r T cs0 cs1 w w') (hr : w0.heap.size ≤ r) : Ext w0 w' :=
  Below.trans h ⟨m.os, m.tape, m.output, m.size, fun k hk => by
    rcases m.block k (Nat.lt_of_lt_of_le hk h.size) with e | ⟨e, _⟩
    · exact e
    · omega⟩
/-- Block r is filled. -/
def fillT {r m : Nat} {T : TypeId} {cs0 cs1 : Array Value} : OpSpec (FillR r T cs0 cs1) m :=
  ⟨[], fun _ _ _ _ w => Blk w r cs1 T, fun _ _ _ _ _ _ _ _ _ hx h => hx.put h⟩
/-- The store that fills block r. -/
theorem wpList_fillR {P : Program} {ops : Array Oper} {o : Oper} {a : Act} {w B : World} {G : Value → World → Prop} {T : TypeId} {cs0 cs1 : Array Value} (r : Nat) (hgd : o.guard = none) (hno : o.dst = none) (x y : Operand) (ho : o.op = .store T x y)
    (hx : a.eval x = .pointer (some ⟨r, 0, none⟩)) (hy : a.eval y = .agg cs1) (hg : Blk w r cs0 T ∨ Blk w r cs1 T) (hi : (P.info? T).map (·.size) = some cs1.size)
    (hold : cs0.size = cs1.size) (h1 : cs1.all (·.oneCell') = true) (hB : Ext B w) (hBg : B.heap.size ≤ r)
    (h : ∀ w', FillR r T cs0 cs1 w w' → Blk w' r cs1 T → (∀ b, b ≠ r → w'.heap[b]? = w.heap[b]?) → ∀ u, G u w') : wpList P ops (StepS a o.dst G) [o] a w := by
  have hend : ∀ w', FillR r T cs0 cs1 w w' → Blk w' r cs1 T → (∀ b, b ≠ r → w'.heap[b]? = w.heap[b]?) → wpList P ops (StepS a o.dst G) [] a w' := fun w' f k hoth => by
    unfold wpList
    rw [hno]
    exact stepS_none rfl (h w' f k hoth)
  rcases hg with hg | hg
  · refine wpList_store_blk hgd hno T x y ho r cs1 hx hy T cs0 hg hi hold h1 hB hBg fun w' e1 k1 hoth hsz => hend w' ⟨?_, ?_, ?_, hsz, fun k hk => ?_⟩ k1 hoth
    · rw [e1.os, hB.os]
    · rw [e1.tape, hB.tape]
    · rw [e1.output, hB.output]
    · by_cases e : k = r
      · subst e; exact .inr ⟨rfl, hg, k1⟩
      · exact .inl (hoth k e)
  · refine wpList_store_blk hgd hno T x y ho r cs1 hx hy T cs1 hg hi rfl h1 hB hBg fun w' e1 k1 hoth hsz => hend w' ⟨?_, ?_, ?_, hsz, fun k hk => ?_⟩ k1 hoth
    · rw [e1.os, hB.os]
    · rw [e1.tape, hB.tape]
    · rw [e1.output, hB.output]
    · by_cases e : k = r
      · subst e; exact .inl (by rw [k1, hg])
      · exact .inl (hoth k e)
end Go.Proofs.Ytjoomdihjffmlaa
