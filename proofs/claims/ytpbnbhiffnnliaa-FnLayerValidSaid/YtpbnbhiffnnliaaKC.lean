/- Ring numbers, shares and seeds that are drawn from a code. -/
import Derived.Test.YtpbnbhiffnnliaaDraw
import Derived.Test.YtpbnbhiffnnliaaKA
import Derived.Test.YtpbnbhiffnnliaaKB
namespace Go.Proofs.Ytpbnbhiffnnliaa
set_option linter.unusedSimpArgs false
set_option linter.unusedVariables false
open Go.RowKit

theorem Mod.pick {g : Nat} {w w' : World} (m : Mod g w w') {b : Nat} {cs : Array Value} {T : TypeId} (k : Blk w b cs T) (hne : b ≠ g) {x : Nat} {n : Int} (hx : (x : Int) < n) (lo hi : Int)
    (hall : ∀ i : Nat, (i : Int) < n → ∃ v : Int, cs[i]? = some (.int .i64 v) ∧ lo ≤ v ∧ v ≤ hi) : ∃ v : Int, w'.cell? ⟨b, x, none⟩ = some (.int .i64 v) ∧ lo ≤ v ∧ v ≤ hi := by
  obtain ⟨v, h1, h2, h3⟩ := hall x hx
  exact ⟨v, by rw [(m.blk k hne).cell]; exact h1, h2, h3⟩
set_option maxHeartbeats 2000000 in
theorem ring20 (g P : Nat) (n : Int) (HN : Bnd n) (HP : Room (P + 6)) (w : World) (hr : Rdr g P w) : Calls Try.prog 50 #[.pointer (some ⟨g, 0, none⟩), .int .i64 n] w (Drawn g (P + 6) IsNum w) := by

  go_enter Try.func50, Try.ntmps50
  go_wp2_with (go_at_call 21; (with_reducible refine (pick g _ _ (HP.le (by omega)) _ (hr)).mono ?_); rintro e w1 ⟨v, rfl, ⟨x1, rfl, h1, z1⟩, hr1, hm1⟩)
  have l1 : (x1 : Int) < _ := h1 (by omega)
  clear h1 z1
  go_wp2_with (go_at_call 21; (with_reducible refine (pick g _ _ (HP.le (by omega)) _ (hr1)).mono ?_); rintro e w2 ⟨v, rfl, ⟨x2, rfl, h2, z2⟩, hr2, hm2⟩)
  have l2 : (x2 : Int) < _ := h2 (by omega)
  clear h2 z2
  go_wp2_with (first | (go_at_call 49; (with_reducible refine (spec_l1Ring _ _).mono ?_); rintro e wr ⟨rfl, rfl⟩) | (go_at_call 21; (with_reducible refine (pick g _ _ (HP.le (by omega)) _ (hr2)).mono ?_); rintro e w3 ⟨v, rfl, ⟨x3, rfl, h3, z3⟩, hr3, hm3⟩))
  have l3 : (x3 : Int) < _ := h3 (by omega)
  clear h3 z3
  go_wp2_with (fail)
  have rb := And.intro (ring_lo ((x2 : Int) - 128)) (ring_hi ((x2 : Int) - 128))
  (with_reducible refine (pick g _ _ (HP.le (by omega)) _ (Rdr.keep hr3 ((Ext.refl w3).alloc _))).mono ?_)
  rintro e w4 ⟨v, rfl, ⟨x4, rfl, h4, z4⟩, hr4, hm4⟩
  have l4 : (x4 : Int) < 8 := h4 (by omega)
  obtain ⟨y4, hy4, lo4, hi4⟩ := hm4.pick (Blk.new _ _ _) (by have := hr3.lt; omega) l4 (-1) 1099511627776 (by
    intro i hi
    have hi' : i = 0 ∨ i = 1 ∨ i = 2 ∨ i = 3 ∨ i = 4 ∨ i = 5 ∨ i = 6 ∨ i = 7 := by omega
    clear hi
    rcases hi' with rfl | rfl | rfl | rfl | rfl | rfl | rfl | rfl <;> exact ⟨_, rfl, by omega, by omega⟩)
  replace hm4 := (Mod.of_ext ((Ext.refl w3).alloc _)).trans hm4
  have N4 : In40 y4 := ⟨lo4, hi4⟩
  clear h4 z4 lo4 hi4
  replace hm4 := ((hm1.trans hm2).trans hm3).trans hm4
  clear hm1 hm2 hm3
  clear rb l1 l2 l3
  go_wp2_with (fail)
  (with_reducible refine (odd g _ _ HN (HP.le (by omega)) _ (hr4)).mono ?_)
  rintro e w5 ⟨v, rfl, ⟨b5, rfl⟩, hr5, hm5⟩
  replace hm5 := hm4.trans hm5
  clear hm4
  cases b5
  · go_wp2
    go_ret
    exact ⟨_, rfl, ⟨_, rfl, N4⟩, hr5.mono (by omega) HP, hm5⟩
  · go_wp2_with (fail)
    (with_reducible refine (pick g _ _ (HP.le (by omega)) _ (Rdr.keep hr5 ((Ext.refl w5).alloc _))).mono ?_)
    rintro e w6 ⟨v, rfl, ⟨x6, rfl, h6, z6⟩, hr6, hm6⟩
    have l6 : (x6 : Int) < 3 := h6 (by omega)
    obtain ⟨y6, hy6, lo6, hi6⟩ := hm6.pick (Blk.new _ _ _) (by have := hr5.lt; omega) l6 (-1) 1099511627776 (by
      intro i hi
      have hi' : i = 0 ∨ i = 1 ∨ i = 2 := by omega
      clear hi
      rcases hi' with rfl | rfl | rfl <;> exact ⟨_, rfl, by omega, by omega⟩)
    replace hm6 := (Mod.of_ext ((Ext.refl w5).alloc _)).trans hm6
    have N6 : In40 y6 := ⟨lo6, hi6⟩
    clear h6 z6 lo6 hi6

    go_wp2
    go_ret
    exact ⟨_, rfl, ⟨_, rfl, N6⟩, hr6.mono (by omega) HP, hm5.trans hm6⟩

end Go.Proofs.Ytpbnbhiffnnliaa
namespace Go.Proofs.Ytpbnbhiffnnliaa
set_option linter.unusedSimpArgs false
set_option linter.unusedVariables false
open Go.RowKit
/-- A pair of shares. -/
def IsSh (v : Value) : Prop := ∃ a b : Int, v = .agg #[.int .i64 a, .int .i64 b] ∧ In40 a ∧ In40 b

end Go.Proofs.Ytpbnbhiffnnliaa
namespace Go.Proofs.Ytpbnbhiffnnliaa
set_option linter.unusedSimpArgs false
set_option linter.unusedVariables false
open Go.RowKit
theorem Mod.rel (g : Nat) : WRel (Mod g) where
  refl := Mod.refl g
  trans := Mod.trans
  size := Mod.size
  draw := fun w => Mod.of_ext ⟨rfl, rfl, rfl, Nat.le_refl _, fun _ _ => rfl⟩
theorem modeNe : (Region.Mode.any == Region.Mode.text) = false := rfl
/-- The value is as p says. -/
def isP {X : World → World → Prop} {n0 : Nat} (p : Value → Prop) : OpSpec X n0 := ⟨[], fun _ u _ _ _ => p u, fun _ _ _ _ _ _ _ _ _ _ h => h⟩
/-- A new slice of n cells. -/
def newS {g n0 : Nat} (hg : g < n0) (n : Nat) (cs : Array Value) (T : TypeId) : OpSpec (Mod g) n0 :=
  ⟨[], fun _ u lo up w => u = .slice (some ⟨lo, 0, none⟩) n n ∧ up = lo + 1 ∧ Blk w lo cs T, fun _ _ _ _ _ _ h0 _ _ hx ⟨h1, h2, h3⟩ => ⟨h1, h2, hx.blk h3 (by omega)⟩⟩
/-- The address of one of the n cells of such a slice. -/
def ixS {g n0 : Nat} (hg : g < n0) (n : Nat) (cs : Array Value) (T : TypeId) : OpSpec (Mod g) n0 :=
  ⟨[], fun _ u _ _ w => ∃ b x : Nat, u = .pointer (some ⟨b, x, none⟩) ∧ x < n ∧ n0 ≤ b ∧ Blk w b cs T, fun _ _ _ _ _ _ _ _ _ hx ⟨b, x, h1, h2, h3, h4⟩ => ⟨b, x, h1, h2, h3, hx.blk h4 (by omega)⟩⟩
/-- An integer below n. -/
def Lt (n : Int) (u : Value) : Prop := ∃ x : Nat, u = .int .i64 x ∧ (x : Int) < n
def AnInt (u : Value) : Prop := ∃ x : Int, u = .int .i64 x
theorem Blk.at {w : World} {b : Nat} {cs : Array Value} {T : TypeId} (h : Blk w b cs T) {n x : Nat} (hx : x < n) (hall : ∀ i : Nat, i < n → ∃ v : Int, cs[i]? = some (.int .i64 v)) : ∃ v : Int, w.cell? ⟨b, x, none⟩ = some (.int .i64 v) := by
  obtain ⟨v, hv⟩ := hall x hx
  exact ⟨v, by rw [h.cell]; exact hv⟩
end Go.Proofs.Ytpbnbhiffnnliaa

namespace Go.Proofs.Ytpbnbhiffnnliaa
set_option linter.unusedSimpArgs false
set_option linter.unusedVariables false
open Go.RowKit

def zipOkT (G : World → Prop) {X : World → World → Prop} {n0 : Nat} (P : Program) (ops : Array Oper) (S : List (OpSpec X n0)) (a : Act) (v : Nat → Value) (lo up : Nat → Nat) (w w' : World) : List Oper → List (OpSpec X n0) → Prop
  | o :: l, s :: r => depsImp S v lo up w w' (wpList P ops (StepS a o.dst fun u w'' => X w' w'' ∧ s.rel (s.deps.map v) u w'.heap.size w''.heap.size w'' ∧ G w'') [o] a w') (s.deps ++ waits o) ∧ zipOkT G P ops S a v lo up w w' l r
  | _, _ => True

theorem zipOkT_get {G : World → Prop} {X : World → World → Prop} {n0 : Nat} {P : Program} {ops : Array Oper} {S : List (OpSpec X n0)} {a : Act} {v : Nat → Value} {lo up : Nat → Nat} {w w' : World} (l : List Oper) : ∀ (r : List (OpSpec X n0)), zipOkT G P ops S a v lo up w w' l r → ∀ (i : Nat) (o : Oper) (s : OpSpec X n0), l[i]? = some o → r[i]? = some s →
    depsOk S v lo up w w' (s.deps ++ waits o) → wpList P ops (StepS a o.dst fun u w'' => X w' w'' ∧ s.rel (s.deps.map v) u w'.heap.size w''.heap.size w'' ∧ G w'') [o] a w' := by
  induction l with
  | nil => intro r _ i o s ho; simp at ho
  | cons o l ih =>
    intro r h i o' s' ho hs
    cases r with
    | nil => simp at hs
    | cons s r =>
      cases i with
      | zero =>
        obtain rfl : o = o' := Option.some.inj ho
        obtain rfl : s = s' := Option.some.inj hs
        exact depsImp_get _ h.1
      | succ i => exact ih r h.2 i o' s' ho hs

theorem wp_region_zipT {X : World → World → Prop} (hX : WRel X) (J : Nat → World → Prop) {P : Program} {id : Nat} {Q : Exit → Act → World → Prop} {a : Act} {w : World} {l : List Oper} (S : List (OpSpec X w.heap.size)) (A : (Nat → Value) → Act)
    (hJ : J S.length { w with drawn := w.drawn + 1 })
    (hm : P.follows .mixedOrders = true) (hB : relB l.toArray S.length (fun i => (S.getD i (isv undef)).deps) = true)
    (hA : ∀ v, putAll l.toArray v S.length a = A v) (hsl : ∀ v, slotsS (A v).tmps.size (l.take S.length) = true)
    (step : ∀ (v : Nat → Value) (lo up : Nat → Nat) (w' : World), X w w' → ∀ m, m < S.length → J (m + 1) w' → zipOkT (J m) P l.toArray S (A v) v lo up w w' l S)
    (fin : ∀ (v : Nat → Value) (lo up : Nat → Nat) (w' : World), X w w' → J 0 w' → factsOk v lo up w w' 0 S → (∀ i j, i < S.length → j < S.length → i ≠ j → up i ≤ lo j ∨ up j ≤ lo i) →
      wpList P l.toArray Q (l.drop S.length) (A v) w') :
    (Code.region id l.toArray true).wp P Q a w :=
  wp_region_relJ J S.length (fun i => (S.getD i (isv undef)).deps) (fun i => (S.getD i (isv undef)).rel) hJ hm hB hX
    (fun i _ vs u lo hi w w' h1 h2 h3 h4 h5 => (S.getD i (isv undef)).stab vs u lo hi w w' h1 h2 h3 h4 h5)
    (fun i hi o ho v lo up w' hx m hm' hj hf => by
      have hs : S[i]? = some (S.getD i (isv undef)) := by simp [hi]
      have h1 := zipOkT_get l S (step v lo up w' hx m hm' hj) i o _ ho hs (depsOk_of _ fun e he => hf e (by
        rcases List.mem_append.1 he with he | he
        · exact .inl he
        · exact .inr (waitsFor_mem (by simpa using ho) he)))
      have hmem : o ∈ l.take S.length := List.mem_of_getElem? (i := i) (by rw [List.getElem?_take, if_pos hi]; exact ho)
      have h2 := List.all_eq_true.1 (hsl v) o hmem
      rw [hA v]
      exact relOp_of_wpListS (fun t hdt => by rw [hdt] at h2; simpa using h2) h1)
    (fun v lo up w' hx hj hf ha => by
      rw [hA v]
      exact fin v lo up w' hx hj (factsOk_of S 0 fun i s hs => by
        have hi : i < S.length := (List.getElem?_eq_some_iff.1 hs).1
        have := hf i hi
        have e : S.getD i (isv undef) = s := by simp [hs]
        rw [e] at this
        simpa using this) ha)


/-- Block g may turn; block r, of zero cells cs0, may be filled with cs1; else nothing turns. -/
structure ModF (g r : Nat) (T : TypeId) (cs0 cs1 : Array Value) (w w' : World) : Prop where
  os : w'.os = w.os
  tape : w'.tape = w.tape
  output : w'.output = w.output
  size : w.heap.size ≤ w'.heap.size
  block : ∀ k, k < w.heap.size → k ≠ g → w'.heap[k]? = w.heap[k]? ∨ (k = r ∧ w.heap[k]? = some (.cells cs0 T (0, 0)) ∧ w'.heap[k]? = some (.cells cs1 T (0, 0)))
theorem ModF.of_mod {g r : Nat} {T : TypeId} {cs0 cs1 : Array Value} {w w' : World} (h : Mod g w w') : ModF g r T cs0 cs1 w w' := ⟨h.os, h.tape, h.output, h.size, fun k hk hne => .inl (h.block k hk hne)⟩
theorem ModF.refl {g r : Nat} {T : TypeId} {cs0 cs1 : Array Value} (w : World) : ModF g r T cs0 cs1 w w := ModF.of_mod (Mod.refl g w)
theorem ModF.trans {g r : Nat} {T : TypeId} {cs0 cs1 : Array Value} {a b c : World} (h : ModF g r T cs0 cs1 a b) (k : ModF g r T cs0 cs1 b c) : ModF g r T cs0 cs1 a c := by
  refine ⟨k.os.trans h.os, k.tape.trans h.tape, k.output.trans h.output, Nat.le_trans h.size k.size, fun i hi hne => ?_⟩
  rcases h.block i hi hne with h1 | ⟨h1, h2, h3⟩ <;> rcases k.block i (Nat.lt_of_lt_of_le hi h.size) hne with k1 | ⟨k1, k2, k3⟩
  · exact .inl (k1.trans h1)
  · exact .inr ⟨k1, by rw [← h1]; exact k2, k3⟩
  · exact .inr ⟨h1, h2, by rw [k1]; exact h3⟩
  · exact .inr ⟨h1, h2, k3⟩
theorem ModF.rel (g r : Nat) (T : TypeId) (cs0 cs1 : Array Value) : WRel (ModF g r T cs0 cs1) where
  refl := ModF.refl
  trans := ModF.trans
  size := ModF.size
  draw := fun w => ModF.of_mod (Mod.of_ext ⟨rfl, rfl, rfl, Nat.le_refl _, fun _ _ => rfl⟩)
theorem ModF.blk {g r : Nat} {T : TypeId} {cs0 cs1 : Array Value} {w w' : World} (h : ModF g r T cs0 cs1 w w') {b : Nat} {cs : Array Value} {U : TypeId} (k : Blk w b cs U) (hg : b ≠ g) (hr : b ≠ r) : Blk w' b cs U := by
  rcases h.block b k.lt hg with e | ⟨e, _⟩
  · unfold Blk; rw [e]; exact k
  · exact absurd e hr
theorem ModF.put {g r : Nat} {T : TypeId} {cs0 cs1 : Array Value} {w w' : World} (h : ModF g r T cs0 cs1 w w') (hg : r ≠ g) (k : Blk w r cs1 T) : Blk w' r cs1 T := by
  rcases h.block r k.lt hg with e | ⟨_, _, e⟩
  · unfold Blk; rw [e]; exact k
  · exact e
theorem ModF.put' {g r : Nat} {T : TypeId} {cs0 cs1 : Array Value} {w w' : World} (h : ModF g r T cs0 cs1 w w') (hg : r ≠ g) (k : Blk w r cs0 T ∨ Blk w r cs1 T) : Blk w' r cs0 T ∨ Blk w' r cs1 T := by
  rcases k with k | k
  · rcases h.block r k.lt hg with e | ⟨_, _, e⟩
    · exact .inl (by unfold Blk; rw [e]; exact k)
    · exact .inr e
  · exact .inr (h.put hg k)
/-- Before the region the filled block lay below: of the blocks ahead of both nothing has turned. -/
theorem ModF.ext {g r : Nat} {T : TypeId} {cs0 cs1 : Array Value} {w0 w w' : World} (h : Ext w0 w) (m : ModF g r T cs0 cs1 w w') (hg : w0.heap.size ≤ g) (hr : w0.heap.size ≤ r) : Ext w0 w' :=
  Below.trans h ⟨m.os, m.tape, m.output, m.size, fun k hk => by
    rcases m.block k (Nat.lt_of_lt_of_le hk h.size) (by omega) with e | ⟨e, _⟩
    · exact e
    · omega⟩
/-- Block r is filled. -/
def fillS {g r m : Nat} {T : TypeId} {cs0 cs1 : Array Value} (hg : r ≠ g) : OpSpec (ModF g r T cs0 cs1) m :=
  ⟨[], fun _ _ _ _ w => Blk w r cs1 T, fun _ _ _ _ _ _ _ _ _ hx h => hx.put hg h⟩
/-- The store that fills block r. -/
theorem wpList_fillM {P : Program} {ops : Array Oper} {o : Oper} {a : Act} {w B : World} {G : Value → World → Prop} {T : TypeId} {cs0 cs1 : Array Value} (g r : Nat) (hgd : o.guard = none) (hno : o.dst = none) (x y : Operand) (ho : o.op = .store T x y)
    (hx : a.eval x = .pointer (some ⟨r, 0, none⟩)) (hy : a.eval y = .agg cs1) (hg : Blk w r cs0 T ∨ Blk w r cs1 T) (hi : (P.info? T).map (·.size) = some cs1.size)
    (hold : cs0.size = cs1.size) (h1 : cs1.all (·.oneCell') = true) (hB : Ext B w) (hBg : B.heap.size ≤ r)
    (h : ∀ w', ModF g r T cs0 cs1 w w' → Blk w' r cs1 T → (∀ b, b ≠ r → w'.heap[b]? = w.heap[b]?) → ∀ u, G u w') : wpList P ops (StepS a o.dst G) [o] a w := by
  have hend : ∀ w', ModF g r T cs0 cs1 w w' → Blk w' r cs1 T → (∀ b, b ≠ r → w'.heap[b]? = w.heap[b]?) → wpList P ops (StepS a o.dst G) [] a w' := fun w' f k hoth => by
    unfold wpList
    rw [hno]
    exact stepS_none rfl (h w' f k hoth)
  rcases hg with hg | hg
  · refine wpList_store_blk hgd hno T x y ho r cs1 hx hy T cs0 hg hi hold h1 hB hBg fun w' e1 k1 hoth hsz => hend w' ⟨?_, ?_, ?_, hsz, fun k hk hne => ?_⟩ k1 hoth
    · rw [e1.os, hB.os]
    · rw [e1.tape, hB.tape]
    · rw [e1.output, hB.output]
    · by_cases e : k = r
      · subst e; exact .inr ⟨rfl, hg, k1⟩
      · exact .inl (hoth k e)
  · refine wpList_store_blk hgd hno T x y ho r cs1 hx hy T cs1 hg hi rfl h1 hB hBg fun w' e1 k1 hoth hsz => hend w' ⟨?_, ?_, ?_, hsz, fun k hk hne => ?_⟩ k1 hoth
    · rw [e1.os, hB.os]
    · rw [e1.tape, hB.tape]
    · rw [e1.output, hB.output]
    · by_cases e : k = r
      · subst e; exact .inl (by rw [k1, hg])
      · exact .inl (hoth k e)
end Go.Proofs.Ytpbnbhiffnnliaa
