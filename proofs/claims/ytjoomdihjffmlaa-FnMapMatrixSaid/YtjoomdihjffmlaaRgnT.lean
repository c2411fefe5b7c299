/- The region's rule with a fact that turns, where some operations have no slot; a relation in which the reader turns and one block is filled. -/
import Derived.Test.YtjoomdihjffmlaaRgnM
import Derived.Test.YtjoomdihjffmlaaRgnS
namespace Go.Proofs.Ytjoomdihjffmlaa
set_option linter.unusedSimpArgs false
set_option linter.unusedVariables false
open Go.RowKit

def zipOkT (G : World → Prop) {X : World → World → Prop} {n0 : Nat} (P : Program) (ops : Array Oper) (S : List (OpSpec X n0)) (a : Act) (v : Nat → Value) (lo up : Nat → Nat) (w w' : World) : List Oper → List (OpSpec X n0) → Prop
  | o :: l, s :: r => depsImp S v lo up w w' (wpList P ops (StepS a o.dst fun u w'' => X w' w'' ∧ s.rel (s.deps.map v) u w'.heap.size w''.heap.size w'' ∧ G w'') [o] a w') (s.deps ++ waits o) ∧ zipOkT G P ops S a v lo up w w' l r
  | _, _ => True

theorem zipOkT_get {G : World → Prop} {X : World → World → Prop} {n0 : Nat} {P : Program} {ops : Array Oper} {S : List (OpSpec X n0)} {a : Act} {v : Nat → Value} {lo up : Nat → Nat} {w w' : World} (l : List Oper) : ∀ (r : List (OpSpec X n0)), zipOkT G P ops S a v lo up w w' l r → ∀ (i : Nat) (o : Oper) (s : OpSpec X n0), l[i]? = some o → r[i]? = some s →
    depsOk S v lo up w w' (s.deps ++ waits o) → wpList P ops (StepS a o.dst fun u w'' => X w' w'' ∧ s.rel (s.deps.map v) u w'.heap.size w''.heap.size w'' ∧ G w'') [o] a w' := by
  induction l with
  | nil => intro r _ i o s ho; simp at ho
  | cons o l ih =>
    intro r h i o' s' ho hs
    cases r with
    | nil => simp at hs
    | cons s r =>
      cases i with
      | zero =>
        obtain rfl : o = o' := Option.some.inj ho
        obtain rfl : s = s' := Option.some.inj hs
        exact depsImp_get _ h.1
      | succ i => exact ih r h.2 i o' s' ho hs

theorem wp_region_zipT {X : World → World → Prop} (hX : WRel X) (J : Nat → World → Prop) {P : Program} {id : Nat} {Q : Exit → Act → World → Prop} {a : Act} {w : World} {l : List Oper} (S : List (OpSpec X w.heap.size)) (A : (Nat → Value) → Act)
    (hJ : J S.length { w with drawn := w.drawn + 1 })
    (hm : P.follows .mixedOrders = true) (hB : relB l.toArray S.length (fun i => (S.getD i (isv undef)).deps) = true)
    (hA : ∀ v, putAll l.toArray v S.length a = A v) (hsl : ∀ v, slotsS (A v).tmps.size (l.take S.length) = true)
    (step : ∀ (v : Nat → Value) (lo up : Nat → Nat) (w' : World), X w w' → ∀ m, m < S.length → J (m + 1) w' → zipOkT (J m) P l.toArray S (A v) v lo up w w' l S)
    (fin : ∀ (v : Nat → Value) (lo up : Nat → Nat) (w' : World), X w w' → J 0 w' → factsOk v lo up w w' 0 S → (∀ i j, i < S.length → j < S.length → i ≠ j → up i ≤ lo j ∨ up j ≤ lo i) →
      wpList P l.toArray Q (l.drop S.length) (A v) w') :
    (Code.region id l.toArray true).wp P Q a w :=
  wp_region_relJ J S.length (fun i => (S.getD i (isv undef)).deps) (fun i => (S.getD i (isv undef)).rel) hJ hm hB hX
    (fun i _ vs u lo hi w w' h1 h2 h3 h4 h5 => (S.getD i (isv undef)).stab vs u lo hi w w' h1 h2 h3 h4 h5)
    (fun i hi o ho v lo up w' hx m hm' hj hf => by
      have hs : S[i]? = some (S.getD i (isv undef)) := by simp [hi]
      have h1 := zipOkT_get l S (step v lo up w' hx m hm' hj) i o _ ho hs (depsOk_of _ fun e he => hf e (by
        rcases List.mem_append.1 he with he | he
        · exact .inl he
        · exact .inr (waitsFor_mem (by simpa using ho) he)))
      have hmem : o ∈ l.take S.length := List.mem_of_getElem? (i := i) (by rw [List.getElem?_take, if_pos hi]; exact ho)
      have h2 := List.all_eq_true.1 (hsl v) o hmem
      rw [hA v]
      exact relOp_of_wpListS (fun t hdt => by rw [hdt] at h2; simpa using h2) h1)
    (fun v lo up w' hx hj hf ha => by
      rw [hA v]
      exact fin v lo up w' hx hj (factsOk_of S 0 fun i s hs => by
        have hi : i < S.length := (List.getElem?_eq_some_iff.1 hs).1
        have := hf i hi
        have e : S.getD i (isv undef) = s := by simp [hs]
        rw [e] at this
        simpa using this) ha)


/-- Block g may turn; block r, of zero cells cs0, may be filled with cs1; else nothing turns. -/
structure ModF (g r : Nat) (T : TypeId) (cs0 cs1 : Array Value) (w w' : World) : Prop where
  os : w'.os = w.os
  tape : w'.tape = w.tape
  output : w'.output = w.output
  size : w.heap.size ≤ w'.heap.size
  block : ∀ k, k < w.heap.size → k ≠ g → w'.heap[k]? = w.heap[k]? ∨ (k = r ∧ w.heap[k]? = some (.cells cs0 T (0, 0)) ∧ w'.heap[k]? = some (.cells cs1 T (0, 0)))
theorem ModF.of_mod {g r : Nat} {T : TypeId} {cs0 cs1 : Array Value} {w w' : World} (h : Mod g w w') : ModF g r T cs0 cs1 w w' := ⟨h.os, h.tape, h.output, h.size, fun k hk hne => .inl (h.block k hk hne)⟩
theorem ModF.refl {g r : Nat} {T : TypeId} {cs0 cs1 : Array Value} (w : World) : ModF g r T cs0 cs1 w w := ModF.of_mod (Mod.refl g w)
theorem ModF.trans {g r : Nat} {T : TypeId} {cs0 cs1 : Array Value} {a b c : World} (h : ModF g r T cs0 cs1 a b) (k : ModF g r T cs0 cs1 b c) : ModF g r T cs0 cs1 a c := by
  refine ⟨k.os.trans h.os, k.tape.trans h.tape, k.output.trans h.output, Nat.le_trans h.size k.size, fun i hi hne => ?_⟩
  rcases h.block i hi hne with h1 | ⟨h1, h2, h3⟩ <;> rcases k.block i (Nat.lt_of_lt_of_le hi h.size) hne with k1 | ⟨k1, k2, k3⟩
  · exact .inl (k1.trans h1)
  · exact .inr ⟨k1, by rw [← h1]; exact k2, k3⟩
  · exact .inr ⟨h1, h2, by rw [k1]; exact h3⟩
  · exact .inr ⟨h1, h2, k3⟩
theorem ModF.rel (g r : Nat) (T : TypeId) (cs0 cs1 : Array Value) : WRel (ModF g r T cs0 cs1) where
  refl := ModF.refl
  trans := ModF.trans
  size := ModF.size
  draw := fun w => ModF.of_mod (Mod.of_ext ⟨rfl, rfl, rfl, Nat.le_refl _, fun _ _ => rfl⟩)
theorem ModF.blk {g r : Nat} {T : TypeId} {cs0 cs1 : Array Value} {w w' : World} (h : ModF g r T cs0 cs1 w w') {b : Nat} {cs : Array Value} {U : TypeId} (k : Blk w b cs U) (hg : b ≠ g) (hr : b ≠ r) : Blk w' b cs U := by
  rcases h.block b k.lt hg with e | ⟨e, _⟩
  · unfold Blk; rw [e]; exact k
  · exact absurd e hr
theorem ModF.put {g r : Nat} {T : TypeId} {cs0 cs1 : Array Value} {w w' : World} (h : ModF g r T cs0 cs1 w w') (hg : r ≠ g) (k : Blk w r cs1 T) : Blk w' r cs1 T := by
  rcases h.block r k.lt hg with e | ⟨_, _, e⟩
  · unfold Blk; rw [e]; exact k
  · exact e
theorem ModF.put' {g r : Nat} {T : TypeId} {cs0 cs1 : Array Value} {w w' : World} (h : ModF g r T cs0 cs1 w w') (hg : r ≠ g) (k : Blk w r cs0 T ∨ Blk w r cs1 T) : Blk w' r cs0 T ∨ Blk w' r cs1 T := by
  rcases k with k | k
  · rcases h.block r k.lt hg with e | ⟨_, _, e⟩
    · exact .inl (by unfold Blk; rw [e]; exact k)
    · exact .inr e
  · exact .inr (h.put hg k)
/-- Before the region the filled block lay below: of the blocks ahead of both nothing has turned. -/
theorem ModF.ext {g r : Nat} {T : TypeId} {cs0 cs1 : Array Value} {w0 w w' : World} (h : Ext w0 w) (m : ModF g r T cs0 cs1 w w') (hg : w0.heap.size ≤ g) (hr : w0.heap.size ≤ r) : Ext w0 w' :=
  Below.trans h ⟨m.os, m.tape, m.output, m.size, fun k hk => by
    rcases m.block k (Nat.lt_of_lt_of_le hk h.size) (by omega) with e | ⟨e, _⟩
    · exact e
    · omega⟩
/-- Block r is filled. -/
def fillS {g r m : Nat} {T : TypeId} {cs0 cs1 : Array Value} (hg : r ≠ g) : OpSpec (ModF g r T cs0 cs1) m :=
  ⟨[], fun _ _ _ _ w => Blk w r cs1 T, fun _ _ _ _ _ _ _ _ _ hx h => hx.put hg h⟩
/-- The store that fills block r. -/
theorem wpList_fillM {P : Program} {ops : Array Oper} {o : Oper} {a : Act} {w B : World} {G : Value → World → Prop} {T : TypeId} {cs0 cs1 : Array Value} (g r : Nat) (hgd : o.guard = none) (hno : o.dst = none) (x y : Operand) (ho : o.op = .store T x y)
    (hx : a.eval x = .pointer (some ⟨r, 0, none⟩)) (hy : a.eval y = .agg cs1) (hg : Blk w r cs0 T ∨ Blk w r cs1 T) (hi : (P.info? T).map (·.size) = some cs1.size)
    (hold : cs0.size = cs1.size) (h1 : cs1.all (·.oneCell') = true) (hB : Ext B w) (hBg : B.heap.size ≤ r)
    (h : ∀ w', ModF g r T cs0 cs1 w w' → Blk w' r cs1 T → (∀ b, b ≠ r → w'.heap[b]? = w.heap[b]?) → ∀ u, G u w') : wpList P ops (StepS a o.dst G) [o] a w := by
  have hend : ∀ w', ModF g r T cs0 cs1 w w' → Blk w' r cs1 T → (∀ b, b ≠ r → w'.heap[b]? = w.heap[b]?) → wpList P ops (StepS a o.dst G) [] a w' := fun w' f k hoth => by
    unfold wpList
    rw [hno]
    exact stepS_none rfl (h w' f k hoth)
  rcases hg with hg | hg
  · refine wpList_store_blk hgd hno T x y ho r cs1 hx hy T cs0 hg hi hold h1 hB hBg fun w' e1 k1 hoth hsz => hend w' ⟨?_, ?_, ?_, hsz, fun k hk hne => ?_⟩ k1 hoth
    · rw [e1.os, hB.os]
    · rw [e1.tape, hB.tape]
    · rw [e1.output, hB.output]
    · by_cases e : k = r
      · subst e; exact .inr ⟨rfl, hg, k1⟩
      · exact .inl (hoth k e)
  · refine wpList_store_blk hgd hno T x y ho r cs1 hx hy T cs1 hg hi rfl h1 hB hBg fun w' e1 k1 hoth hsz => hend w' ⟨?_, ?_, ?_, hsz, fun k hk hne => ?_⟩ k1 hoth
    · rw [e1.os, hB.os]
    · rw [e1.tape, hB.tape]
    · rw [e1.output, hB.output]
    · by_cases e : k = r
      · subst e; exact .inl (by rw [k1, hg])
      · exact .inl (hoth k e)
end Go.Proofs.Ytjoomdihjffmlaa
