import Derived.Test.YtkkdikoknegpjaaGreatRing
import Derived.Test.YtkkdikoknegpjaaGreatKA
namespace Go.Proofs.YtkkdikoknegpjaaGreat
set_option linter.unusedSimpArgs false
set_option linter.unusedVariables false
open Go.RowKit
def okS (x y u v : Int) : Bool := rv x && rv y && (rv u && rv v)
def addF (x y u v : Int) : Int := if okS x y u v = true then ring (x + u) else -1
def addL (x y u v : Int) : Int := if okS x y u v = true then ring (y + v) else -1
theorem addR_ok {a b : Int} (h1 : rv a = true) (h2 : rv b = true) : addR a b = ring (a + b) := by simp [addR, h1, h2]
theorem subR_ok {a b : Int} (h1 : rv a = true) (h2 : rv b = true) : subR a b = ring (a - b) := by simp [subR, h1, h2]
set_option maxHeartbeats 1000000 in
theorem impl_noShares  (w : World) : Calls Tryz.prog 128 #[] w fun e w' => e = .returned (.agg #[.int .i64 (-1), .int .i64 (-1)]) ∧ Ext w w' := by
 go_enter Tryz.func128, Tryz.ntmps128
 go_wp2
 exact bodyPost_ret (v := .agg #[.int .i64 (-1), .int .i64 (-1)]) (by first | (simp [results, Tryz.results128, go_sem, hc]; done) | (simp [results, Tryz.results128, go_sem]; done) | (simp [results, Tryz.results128, go_sem, *]; done)) rfl ⟨rfl, (by (repeat (first | refine Ext.setCell ?_ (by first | (simp; done) | (simp; omega) | omega) _ | refine Ext.alloc ?_ _ | refine Ext.drew ?_ | refine Ext.setRow ?_ (by omega) _)); first | exact Ext.refl _ | exact hx | (refine Ext.trans ?_ hx; (repeat (refine Ext.alloc ?_ _)); exact Ext.refl _))⟩
set_option maxHeartbeats 1000000 in
theorem impl_SharedValid (x y : Int) (b : Bool) (h : (rv x && rv y) = b) (w : World) : Calls Tryz.prog 126 #[.agg #[.int .i64 x, .int .i64 y]] w fun e w' => e = .returned (.bool b) ∧ Ext w w' := by
 cases h1 : rv x <;> cases h2 : rv y
 all_goals
  rw [h1, h2] at h
  obtain rfl := h
  have H1 := Lib.hid h1; have H2 := Lib.hid h2; clear h1 h2
  go_enter Tryz.func126, Tryz.ntmps126
  go_wp2_with (first | (go_at_call 46; (with_reducible refine (impl_RingValid x _ H1.out _).mono ?_); rintro e w1 ⟨rfl, rfl⟩) | (go_at_call 46; (with_reducible refine (impl_RingValid y _ H2.out _).mono ?_); rintro e w1 ⟨rfl, rfl⟩))
  go_ret
  exact ⟨rfl, (by (repeat (first | refine Ext.setCell ?_ (by first | (simp; done) | (simp; omega) | omega) _ | refine Ext.alloc ?_ _ | refine Ext.drew ?_ | refine Ext.setRow ?_ (by omega) _)); first | exact Ext.refl _ | exact hx | (refine Ext.trans ?_ hx; (repeat (refine Ext.alloc ?_ _)); exact Ext.refl _))⟩
set_option maxHeartbeats 1000000 in
theorem impl_JoinShares (x y : Int) (w : World) : Calls Tryz.prog 125 #[.agg #[.int .i64 x, .int .i64 y]] w fun e w' => e = .returned (.int .i64 (addR x y)) ∧ Ext w w' := by
 go_enter Tryz.func125, Tryz.ntmps125
 go_wp2_with (go_at_call 70; (with_reducible refine (impl_AddRing _ _ _).mono ?_); rintro e w1 ⟨rfl, rfl⟩)
 go_ret
 exact ⟨rfl, (by (repeat (first | refine Ext.setCell ?_ (by first | (simp; done) | (simp; omega) | omega) _ | refine Ext.alloc ?_ _ | refine Ext.drew ?_ | refine Ext.setRow ?_ (by omega) _)); first | exact Ext.refl _ | exact hx | (refine Ext.trans ?_ hx; (repeat (refine Ext.alloc ?_ _)); exact Ext.refl _))⟩
set_option maxHeartbeats 1000000 in
theorem spec_l6Bad  (w : World) : Calls Tryz.prog 89 #[] w fun e w' => e = .returned (.agg #[.int .i64 (-1), .int .i64 (-1)]) ∧ Ext w w' := by
 go_enter Tryz.func89, Tryz.ntmps89
 go_wp2
 exact bodyPost_ret (v := .agg #[.int .i64 (-1), .int .i64 (-1)]) (by first | (simp [results, Tryz.results89, go_sem, hc]; done) | (simp [results, Tryz.results89, go_sem]; done) | (simp [results, Tryz.results89, go_sem, *]; done)) rfl ⟨rfl, (by (repeat (first | refine Ext.setCell ?_ (by first | (simp; done) | (simp; omega) | omega) _ | refine Ext.alloc ?_ _ | refine Ext.drew ?_ | refine Ext.setRow ?_ (by omega) _)); first | exact Ext.refl _ | exact hx | (refine Ext.trans ?_ hx; (repeat (refine Ext.alloc ?_ _)); exact Ext.refl _))⟩
set_option maxHeartbeats 1000000 in
theorem spec_SharedValid (x y : Int) (b : Bool) (h : (rv x && rv y) = b) (w : World) : Calls Tryz.prog 87 #[.agg #[.int .i64 x, .int .i64 y]] w fun e w' => e = .returned (.bool b) ∧ Ext w w' := by
 cases h1 : rv x <;> cases h2 : rv y
 all_goals
  rw [h1, h2] at h
  obtain rfl := h
  have H1 := Lib.hid h1; have H2 := Lib.hid h2; clear h1 h2
  go_enter Tryz.func87, Tryz.ntmps87
  go_wp2_with (first | (go_at_call 102; (with_reducible refine (spec_RingValid x _ H1.out _).mono ?_); rintro e w1 ⟨rfl, rfl⟩) | (go_at_call 102; (with_reducible refine (spec_RingValid y _ H2.out _).mono ?_); rintro e w1 ⟨rfl, rfl⟩))
  go_ret
  exact ⟨rfl, (by (repeat (first | refine Ext.setCell ?_ (by first | (simp; done) | (simp; omega) | omega) _ | refine Ext.alloc ?_ _ | refine Ext.drew ?_ | refine Ext.setRow ?_ (by omega) _)); first | exact Ext.refl _ | exact hx | (refine Ext.trans ?_ hx; (repeat (refine Ext.alloc ?_ _)); exact Ext.refl _))⟩
set_option maxHeartbeats 1000000 in
theorem spec_JoinShares (x y : Int) (w : World) : Calls Tryz.prog 85 #[.agg #[.int .i64 x, .int .i64 y]] w fun e w' => e = .returned (.int .i64 (addR x y)) ∧ Ext w w' := by
 go_enter Tryz.func85, Tryz.ntmps85
 go_wp2_with (go_at_call 91; (with_reducible refine (spec_AddRing _ _ _).mono ?_); rintro e w1 ⟨rfl, rfl⟩)
 go_ret
 exact ⟨rfl, (by (repeat (first | refine Ext.setCell ?_ (by first | (simp; done) | (simp; omega) | omega) _ | refine Ext.alloc ?_ _ | refine Ext.drew ?_ | refine Ext.setRow ?_ (by omega) _)); first | exact Ext.refl _ | exact hx | (refine Ext.trans ?_ hx; (repeat (refine Ext.alloc ?_ _)); exact Ext.refl _))⟩
set_option maxHeartbeats 1000000 in
theorem spec_AddShares (x y u v : Int) (w : World) : Calls Tryz.prog 90 #[.agg #[.int .i64 x, .int .i64 y], .agg #[.int .i64 u, .int .i64 v]] w fun e w' => e = .returned (.agg #[.int .i64 (addF x y u v), .int .i64 (addL x y u v)]) ∧ Ext w w' := by
 cases h1 : (rv x && rv y)
 ·rw [show addF x y u v = -1 by simp [addF, okS, h1], show addL x y u v = -1 by simp [addL, okS, h1]]
  have H1 := Lib.hid h1; clear h1
  go_enter Tryz.func90, Tryz.ntmps90
  go_wp2_with (first | (go_at_call 87; (with_reducible refine (spec_SharedValid x y false H1.out _).mono ?_); rintro e w1 ⟨rfl, hy⟩; (first | (replace hx := hx.trans hy; clear hc hz hy; obtain ⟨hc, hz⟩ := hx.cells) | (have hx := hy; clear hy; obtain ⟨hc, hz⟩ := hx.cells))) | (go_at_call 89; (with_reducible refine (spec_l6Bad _).mono ?_); rintro e w1 ⟨rfl, hy⟩; (first | (replace hx := hx.trans hy; clear hc hz hy; obtain ⟨hc, hz⟩ := hx.cells) | (have hx := hy; clear hy; obtain ⟨hc, hz⟩ := hx.cells))))
  exact bodyPost_ret (v := .agg #[.int .i64 (-1), .int .i64 (-1)]) (by first | (simp [results, Tryz.results90, go_sem, hc]; done) | (simp [results, Tryz.results90, go_sem]; done) | (simp [results, Tryz.results90, go_sem, *]; done)) rfl ⟨rfl, (by (repeat (first | refine Ext.setCell ?_ (by first | (simp; done) | (simp; omega) | omega) _ | refine Ext.alloc ?_ _ | refine Ext.drew ?_ | refine Ext.setRow ?_ (by omega) _)); first | exact Ext.refl _ | exact hx | (refine Ext.trans ?_ hx; (repeat (refine Ext.alloc ?_ _)); exact Ext.refl _))⟩
 cases h2 : (rv u && rv v)
 ·rw [show addF x y u v = -1 by simp [addF, okS, h1, h2], show addL x y u v = -1 by simp [addL, okS, h1, h2]]
  have H1 := Lib.hid h1; clear h1
  have H2 := Lib.hid h2; clear h2
  go_enter Tryz.func90, Tryz.ntmps90
  go_wp2_with (first | (go_at_call 87; (with_reducible refine (spec_SharedValid x y true H1.out _).mono ?_); rintro e w1 ⟨rfl, hy⟩; (first | (replace hx := hx.trans hy; clear hc hz hy; obtain ⟨hc, hz⟩ := hx.cells) | (have hx := hy; clear hy; obtain ⟨hc, hz⟩ := hx.cells))) | (go_at_call 87; (with_reducible refine (spec_SharedValid u v false H2.out _).mono ?_); rintro e w1 ⟨rfl, hy⟩; (first | (replace hx := hx.trans hy; clear hc hz hy; obtain ⟨hc, hz⟩ := hx.cells) | (have hx := hy; clear hy; obtain ⟨hc, hz⟩ := hx.cells))) | (go_at_call 89; (with_reducible refine (spec_l6Bad _).mono ?_); rintro e w1 ⟨rfl, hy⟩; (first | (replace hx := hx.trans hy; clear hc hz hy; obtain ⟨hc, hz⟩ := hx.cells) | (have hx := hy; clear hy; obtain ⟨hc, hz⟩ := hx.cells))))
  exact bodyPost_ret (v := .agg #[.int .i64 (-1), .int .i64 (-1)]) (by first | (simp [results, Tryz.results90, go_sem, hc]; done) | (simp [results, Tryz.results90, go_sem]; done) | (simp [results, Tryz.results90, go_sem, *]; done)) rfl ⟨rfl, (by (repeat (first | refine Ext.setCell ?_ (by first | (simp; done) | (simp; omega) | omega) _ | refine Ext.alloc ?_ _ | refine Ext.drew ?_ | refine Ext.setRow ?_ (by omega) _)); first | exact Ext.refl _ | exact hx | (refine Ext.trans ?_ hx; (repeat (refine Ext.alloc ?_ _)); exact Ext.refl _))⟩
 obtain ⟨rx, ry⟩ := Bool.and_eq_true_iff.1 h1
 obtain ⟨ru, rv'⟩ := Bool.and_eq_true_iff.1 h2
 have e1 : addF x y u v = ring (x + u) := by simp [addF, okS, h1, h2]
 have e2 : addL x y u v = ring (y + v) := by simp [addL, okS, h1, h2]
 rw [e1, e2]
 clear e1 e2
 have ⟨lx, ux⟩ := rv_iff.1 rx
 have ⟨ly, uy⟩ := rv_iff.1 ry
 have ⟨lu, uu⟩ := rv_iff.1 ru
 have ⟨lv, uv⟩ := rv_iff.1 rv'
 clear rx ry ru rv'
 have H1 := Lib.hid h1; have H2 := Lib.hid h2; clear h1 h2
 go_enter Tryz.func90, Tryz.ntmps90
 go_wp2_with (first | (go_at_call 87; (with_reducible refine (spec_SharedValid x y true H1.out _).mono ?_); rintro e w1 ⟨rfl, hy⟩; (first | (replace hx := hx.trans hy; clear hc hz hy; obtain ⟨hc, hz⟩ := hx.cells) | (have hx := hy; clear hy; obtain ⟨hc, hz⟩ := hx.cells))) | (go_at_call 87; (with_reducible refine (spec_SharedValid u v true H2.out _).mono ?_); rintro e w1 ⟨rfl, hy⟩; (first | (replace hx := hx.trans hy; clear hc hz hy; obtain ⟨hc, hz⟩ := hx.cells) | (have hx := hy; clear hy; obtain ⟨hc, hz⟩ := hx.cells))))
 apply wp_region_zip [isv _, isv _, isv _, isv _, isv _, isv _, isv _, isv _, isv _, isv _, isv _, isv _, isv _] _ (by kernel_rfl)
 case hA => intro V; simp [putAll, dstOf, Act.put]; exact rfl
 case hsl => intro V; exact rfl
 case step =>
  intro V lo up w' hr
  have hxr := hx.trans hr
  obtain ⟨hcr, hzr⟩ := hxr.cells
  simp only [zipOk, depsImp, isv, waits, Region.binds, List.map_nil, List.nil_append, List.filterMap_cons, List.filterMap_nil, ↓reduceIte, true_implies, List.getD_cons_zero, List.getD_cons_succ, and_true]
  refine ⟨?_, ?_, ?_, ?_, ?_, ?_, ?_, ?_, ?_, ?_, ?_, ?_, ?_⟩
  all_goals
   intros
   go_wp2_with (go_at_call 86; (with_reducible refine (spec_l1Ring _ _).mono ?_); rintro e w1 ⟨rfl, rfl⟩)
   refine sQ ?_
   first | exact ⟨hy, rfl⟩ | exact ⟨Ext.refl _, rfl⟩ | exact ⟨Ext.refl _, by assumption⟩ | exact ⟨(Ext.refl _).alloc _, rfl, by simp, Blk.new _ _ _⟩
 case hB => kernel_rfl
 intro V lo up w' hr hf ha
 simp only [factsOk, isv, List.map_nil, and_true, Nat.zero_add, Nat.reduceAdd] at hf
 simp only [List.length_cons, List.length_nil, Nat.zero_add, Nat.reduceAdd, List.drop_succ_cons, List.drop_zero]
 obtain ⟨⟨-, -, -, e0⟩, ⟨-, -, -, e1⟩, ⟨-, -, -, e2⟩, ⟨-, -, -, e3⟩, ⟨-, -, -, e4⟩, ⟨-, -, -, e5⟩, ⟨-, -, -, e6⟩, ⟨-, -, -, e7⟩, ⟨-, -, -, e8⟩, ⟨-, -, -, e9⟩, ⟨-, -, -, e10⟩, ⟨-, -, -, e11⟩, ⟨-, -, -, e12⟩⟩ := hf
 rw [e0, e1, e2, e3, e4, e5, e6, e7, e8, e9, e10, e11, e12]
 clear e0 e1 e2 e3 e4 e5 e6 e7 e8 e9 e10 e11 e12
 clear ha V lo up
 have hs0 := hx.size
 replace hx := hx.trans hr
 clear hr
 try clear hc hz
 obtain ⟨hc, hz⟩ := hx.cells
 go_wp2
 exact bodyPost_ret (v := .agg #[.int .i64 (ring (x + u)), .int .i64 (ring (y + v))]) (by first | (simp [results, Tryz.results90, go_sem, hc]; done) | (simp [results, Tryz.results90, go_sem]; done) | (simp [results, Tryz.results90, go_sem, *]; done)) rfl ⟨rfl, (by (repeat (first | refine Ext.setCell ?_ (by first | (simp; done) | (simp; omega) | omega) _ | refine Ext.alloc ?_ _ | refine Ext.drew ?_ | refine Ext.setRow ?_ (by omega) _)); first | exact Ext.refl _ | exact hx | (refine Ext.trans ?_ hx; (repeat (refine Ext.alloc ?_ _)); exact Ext.refl _))⟩
end Go.Proofs.YtkkdikoknegpjaaGreat
