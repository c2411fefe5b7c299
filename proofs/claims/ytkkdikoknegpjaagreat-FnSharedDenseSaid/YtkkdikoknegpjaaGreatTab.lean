import Derived.Test.YtkkdikoknegpjaaGreatKH
import Derived.Test.YtkkdikoknegpjaaGreatKI
import Derived.Test.YtkkdikoknegpjaaGreatQA
namespace Go.Proofs.YtkkdikoknegpjaaGreat
set_option linter.unusedSimpArgs false
set_option linter.unusedVariables false
open Go.RowKit
theorem Blk.four {w : World} {b : Nat} {x y z u : Value} {T : TypeId} (h : Blk w b #[x, y, z, u] T) : w.cell? ⟨b, 0, none⟩ = some x ∧ w.cell? ⟨b, 1, none⟩ = some y ∧ w.cell? ⟨b, 2, none⟩ = some z ∧ w.cell? ⟨b, 3, none⟩ = some u :=
 ⟨by rw [h.cell]; rfl, by rw [h.cell]; rfl, by rw [h.cell]; rfl, by rw [h.cell]; rfl⟩
theorem Blk.setO {w : World} {b g : Nat} {cs : Array Value} {T : TypeId} (h : Blk w b cs T) (hne : b ≠ g) (i : Nat) (u : Value) : Blk (w.setCell ⟨g, i, none⟩ u) b cs T := by
 unfold Blk; rw [Below.heap_setCell _ _ _ _ (by show b ≠ g; exact hne)]; exact h
theorem beqd (a b : Int) : (a == b) = decide (a = b) := rfl
theorem list_ext' {xs ys : List Int} (hl : xs.length = ys.length) (h : ∀ i, i < xs.length → xs.getD i 0 = ys.getD i 0) : xs = ys := by
 apply List.ext_getElem hl
 intro i h1 h2
 have := h i h1
 simpa [h1, h2] using this
theorem getD_set' (xs : List Int) (j i : Nat) (y : Int) (hj : j < xs.length) : (xs.set j y).getD i 0 = if i = j then y else xs.getD i 0 := by
 by_cases h : i = j
 ·subst h; simp [hj]
 simp [List.getElem?_set, Ne.symm h, h]
theorem all_yes {xs : List Int} (h : ∀ i, i < xs.length → rv (xs.getD i 0) = true) : xs.all rv = true := by
 rw [List.all_eq_true]
 intro x hx
 obtain ⟨i, hi, rfl⟩ := List.getElem_of_mem hx
 have := h i hi
 simpa [hi] using this
theorem all_no {xs : List Int} {k : Nat} (hk : k < xs.length) (h : rv (xs.getD k 0) = false) : xs.all rv = false := by
 rw [List.all_eq_false]
 exact ⟨xs[k], List.getElem_mem hk, by simp [hk] at h; simp [h]⟩
set_option maxHeartbeats 1000000 in
theorem impl_allRing (v : Value) (xs : List Int) (w : World) (hv : Ints w v xs) : Calls Tryz.prog 72 #[v] w fun e w' => e = .returned (.bool (xs.all rv)) ∧ w = w' := by
 obtain ⟨a, cap, rfl, hm, hca⟩ := hv
 unfold maxLen at hm
 have HC := kp hca; clear hca
 go_enter Tryz.func72, Tryz.ntmps72
 go_wp2
 go_loopw [4, 7] (fun _ i wr => ∃ k : Nat, k ≤ xs.length ∧ i = .int .i64 k ∧ (∀ i, i < k → rv (xs.getD i 0) = true) ∧ wr = w) (fun _ i _ => xs.length - (intOf i).toNat)
 case atStart => exact ⟨0, Nat.zero_le _, rfl, fun i hi => absurd hi (Nat.not_lt_zero _), rfl⟩
 obtain ⟨k, hk, rfl, hall, rfl⟩ := hrel
 have HA := kp hall; clear hall
 by_cases hlt : k < xs.length
 ·obtain ⟨b, off, rfl, _, h1⟩ := HC.out k hlt
  cases hr : rv (xs.getD k 0)
  ·have HN := kp (all_no hlt hr)
   have HR := kp hr; clear hr
   generalize xs.getD k 0 = y at *
   go_wp2_with (go_at_call 46; (with_reducible refine (impl_RingValid _ false HR.out _).mono ?_); rintro e w1 ⟨rfl, rfl⟩)
   go_ret
   exact ⟨by rw [HN.out]; rfl, rfl⟩
  have HN : Kept (∀ i, i < k + 1 → rv (xs.getD i 0) = true) := ⟨fun i hi => by
   by_cases e : i = k
   ·rw [e]; exact hr
   exact HA.out i (by omega)⟩
  have HR := kp hr; clear hr
  generalize xs.getD k 0 = y at *
  go_wp2_with (go_at_call 46; (with_reducible refine (impl_RingValid _ true HR.out _).mono ?_); rintro e w1 ⟨rfl, rfl⟩)
  go_roundw
  case rel => exact ⟨k + 1, by omega, by go_num, HN.out, by trivial⟩
  case measure => simp [intOf]; omega
 go_wp2
 go_ret
 exact ⟨by rw [all_yes fun i hi => HA.out i (by omega)]; rfl, rfl⟩
def goodL (xs : List Int) : Bool := xs.all rv && decide ((xs.length : Int) = 4096)
set_option maxHeartbeats 1000000 in
theorem spec_l10Good (v : Value) (xs : List Int) (w : World) (hv : Ints w v xs) : Calls Tryz.prog 83 #[v] w fun e w' => e = .returned (.bool (goodL xs)) ∧ w = w' := by
 unfold goodL
 obtain ⟨a, cap, rfl, hm, hca⟩ := hv
 unfold maxLen at hm
 have HC := kp hca; clear hca
 go_enter Tryz.func83, Tryz.ntmps83
 go_wp2
 go_loopw [3] (fun i wr => ∃ k : Nat, k ≤ xs.length ∧ i = .int .i64 k ∧ (∀ i, i < k → rv (xs.getD i 0) = true) ∧ wr = w) (fun i _ => xs.length - (intOf i).toNat)
 case atStart => exact ⟨0, Nat.zero_le _, rfl, fun i hi => absurd hi (Nat.not_lt_zero _), rfl⟩
 obtain ⟨k, hk, rfl, hall, rfl⟩ := hrel
 have HA := kp hall; clear hall
 by_cases hlt : k < xs.length
 ·obtain ⟨b, off, rfl, _, h1⟩ := HC.out k hlt
  cases hr : rv (xs.getD k 0)
  ·have HN := kp (all_no hlt hr)
   have HR := kp hr; clear hr
   generalize xs.getD k 0 = y at *
   go_wp2_with (go_at_call 102; (with_reducible refine (spec_RingValid _ false HR.out _).mono ?_); rintro e w1 ⟨rfl, rfl⟩)
   go_ret
   exact ⟨by rw [HN.out]; rfl, rfl⟩
  have HN : Kept (∀ i, i < k + 1 → rv (xs.getD i 0) = true) := ⟨fun i hi => by
   by_cases e : i = k
   ·rw [e]; exact hr
   exact HA.out i (by omega)⟩
  have HR := kp hr; clear hr
  generalize xs.getD k 0 = y at *
  go_wp2_with (go_at_call 102; (with_reducible refine (spec_RingValid _ true HR.out _).mono ?_); rintro e w1 ⟨rfl, rfl⟩)
  go_roundw
  case rel => exact ⟨k + 1, by omega, by go_num, HN.out, by trivial⟩
  case measure => simp [intOf]; omega
 go_wp2
 go_ret
 exact ⟨by rw [all_yes fun i hi => HA.out i (by omega), Bool.true_and]; exact congrArg (fun b => Ending.returned (Value.bool b)) (beqd _ _), rfl⟩
def tabV (a b : Int) (xs ys : List Int) : Bool := rv a && rv b && (goodL xs && goodL ys)
set_option maxHeartbeats 2000000 in
theorem spec_TableValid (a b : Int) (v1 v2 : Value) (xs ys : List Int) (w : World) (h1 : Ints w v1 xs) (h2 : Ints w v2 ys) : Calls Tryz.prog 88 #[.agg #[.int .i64 a, .int .i64 b, v1, v2]] w fun e w' => e = .returned (.bool (tabV a b xs ys)) ∧ Ext w w' := by
 obtain ⟨s1, n1, rfl, hm1, hc1⟩ := id h1
 obtain ⟨s2, n2, rfl, hm2, hc2⟩ := id h2
 clear hm1 hm2 hc1 hc2
 have hx0 := (Ext.refl w).alloc (.cells #[.int .i64 a, .int .i64 b, .slice s1 xs.length n1, .slice s2 ys.length n2] 80)
 have G1 := kp (h1.keep hx0)
 have G2 := kp (h2.keep hx0)
 have k0 := Blk.new w #[.int .i64 a, .int .i64 b, .slice s1 xs.length n1, .slice s2 ys.length n2] 80
 have HX0 := kp hx0
 clear h1 h2 hx0
 cases hv : (rv a && rv b)
 ·rw [show tabV a b xs ys = false by simp [tabV, hv]]
  have H1 := kp hv; clear hv
  go_enter Tryz.func88, Tryz.ntmps88
  go_wp2_with (fail)
  (with_reducible refine (spec_SharedValid a b false H1.out _).mono ?_)
  rintro e w1 ⟨rfl, x1⟩
  replace k0 := k0.keep x1
  have g1 := kp (G1.out.keep x1)
  have g2 := kp (G2.out.keep x1)
  have hx := kp (HX0.out.trans x1)
  clear x1 G1 G2 HX0
  obtain ⟨c00, c01, c02, c03⟩ := k0.four
  go_wp2
  go_ret
  exact ⟨rfl, hx.out⟩
 rw [show tabV a b xs ys = (goodL xs && goodL ys) by simp [tabV, hv]]
 have H1 := kp hv; clear hv
 go_enter Tryz.func88, Tryz.ntmps88
 go_wp2_with (fail)
 (with_reducible refine (spec_SharedValid a b true H1.out _).mono ?_)
 rintro e w1 ⟨rfl, x1⟩
 replace k0 := k0.keep x1
 have g1 := kp (G1.out.keep x1)
 have g2 := kp (G2.out.keep x1)
 have hx := kp (HX0.out.trans x1)
 clear x1 G1 G2 HX0
 obtain ⟨c00, c01, c02, c03⟩ := k0.four
 go_wp2_with (fail)
 (with_reducible refine (spec_l10Good _ _ _ g1.out).mono ?_)
 rintro e w2 ⟨rfl, rfl⟩
 cases hg : goodL xs
 ·go_wp2
  go_ret
  exact ⟨by rw [hg]; rfl, hx.out⟩
 go_wp2_with (fail)
 (with_reducible refine (spec_l10Good _ _ _ g2.out).mono ?_)
 rintro e w2 ⟨rfl, rfl⟩
 cases hg2 : goodL ys
 all_goals
  go_wp2
  go_ret
  exact ⟨by rw [hg, hg2]; rfl, hx.out⟩
set_option maxHeartbeats 2000000 in
theorem impl_TableValid (a b : Int) (v1 v2 : Value) (xs ys : List Int) (w : World) (h1 : Ints w v1 xs) (h2 : Ints w v2 ys) : Calls Tryz.prog 127 #[.agg #[.int .i64 a, .int .i64 b, v1, v2]] w fun e w' => e = .returned (.bool (tabV a b xs ys)) ∧ Ext w w' := by
 obtain ⟨s1, n1, rfl, hm1, hc1⟩ := id h1
 obtain ⟨s2, n2, rfl, hm2, hc2⟩ := id h2
 clear hm1 hm2 hc1 hc2
 have hx0 := (Ext.refl w).alloc (.cells #[.int .i64 a, .int .i64 b, .slice s1 xs.length n1, .slice s2 ys.length n2] 80)
 have G1 := kp (h1.keep hx0)
 have G2 := kp (h2.keep hx0)
 have k0 := Blk.new w #[.int .i64 a, .int .i64 b, .slice s1 xs.length n1, .slice s2 ys.length n2] 80
 have HX0 := kp hx0
 clear h1 h2 hx0
 cases hv : (rv a && rv b)
 ·rw [show tabV a b xs ys = false by simp [tabV, hv]]
  have H1 := kp hv; clear hv
  go_enter Tryz.func127, Tryz.ntmps127
  go_wp2_with (fail)
  (with_reducible refine (impl_SharedValid a b false H1.out _).mono ?_)
  rintro e w1 ⟨rfl, x1⟩
  replace k0 := k0.keep x1
  have g1 := kp (G1.out.keep x1)
  have g2 := kp (G2.out.keep x1)
  have hx := kp (HX0.out.trans x1)
  clear x1 G1 G2 HX0
  obtain ⟨c00, c01, c02, c03⟩ := k0.four
  go_wp2
  go_ret
  exact ⟨rfl, hx.out⟩
 by_cases l1 : (xs.length : Int) = 4096
 ·by_cases l2 : (ys.length : Int) = 4096
  ·rw [show tabV a b xs ys = (xs.all rv && ys.all rv) by simp [tabV, goodL, hv, l1, l2]]
   have b1 : ((xs.length : Int) != 4096) = false := by simpa using l1
   have b2 : ((ys.length : Int) != 4096) = false := by simpa using l2
   clear l1 l2
   have H1 := kp hv; clear hv
   go_enter Tryz.func127, Tryz.ntmps127
   go_wp2_with (fail)
   (with_reducible refine (impl_SharedValid a b true H1.out _).mono ?_)
   rintro e w1 ⟨rfl, x1⟩
   replace k0 := k0.keep x1
   have g1 := kp (G1.out.keep x1)
   have g2 := kp (G2.out.keep x1)
   have hx := kp (HX0.out.trans x1)
   clear x1 G1 G2 HX0
   obtain ⟨c00, c01, c02, c03⟩ := k0.four
   go_wp2_with (fail)
   (with_reducible refine (impl_allRing _ _ _ g1.out).mono ?_)
   rintro e w2 ⟨rfl, rfl⟩
   cases hg : List.all xs rv
   ·go_wp2
    go_ret
    exact ⟨by rw [hg]; rfl, hx.out⟩
   go_wp2_with (fail)
   (with_reducible refine (impl_allRing _ _ _ g2.out).mono ?_)
   rintro e w2 ⟨rfl, rfl⟩
   cases hg2 : List.all ys rv
   all_goals
    go_wp2
    go_ret
    exact ⟨by rw [hg, hg2]; rfl, hx.out⟩
  rw [show tabV a b xs ys = false by simp [tabV, goodL, hv, l2]]
  have b1 : ((xs.length : Int) != 4096) = false := by simpa using l1
  have b2 : ((ys.length : Int) != 4096) = true := by simpa using l2
  clear l1 l2
  have H1 := kp hv; clear hv
  go_enter Tryz.func127, Tryz.ntmps127
  go_wp2_with (fail)
  (with_reducible refine (impl_SharedValid a b true H1.out _).mono ?_)
  rintro e w1 ⟨rfl, x1⟩
  replace k0 := k0.keep x1
  have g1 := kp (G1.out.keep x1)
  have g2 := kp (G2.out.keep x1)
  have hx := kp (HX0.out.trans x1)
  clear x1 G1 G2 HX0
  obtain ⟨c00, c01, c02, c03⟩ := k0.four
  go_wp2
  go_ret
  exact ⟨rfl, hx.out⟩
 rw [show tabV a b xs ys = false by simp [tabV, goodL, hv, l1]]
 have b1 : ((xs.length : Int) != 4096) = true := by simpa using l1
 clear l1
 have H1 := kp hv; clear hv
 go_enter Tryz.func127, Tryz.ntmps127
 go_wp2_with (fail)
 (with_reducible refine (impl_SharedValid a b true H1.out _).mono ?_)
 rintro e w1 ⟨rfl, x1⟩
 replace k0 := k0.keep x1
 have g1 := kp (G1.out.keep x1)
 have g2 := kp (G2.out.keep x1)
 have hx := kp (HX0.out.trans x1)
 clear x1 G1 G2 HX0
 obtain ⟨c00, c01, c02, c03⟩ := k0.four
 go_wp2
 go_ret
 exact ⟨rfl, hx.out⟩
end Go.Proofs.YtkkdikoknegpjaaGreat
