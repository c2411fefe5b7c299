/- The contracts of a shared number with a known one, of triples: what each returns, for all whole numbers; nothing that was in memory turns. -/
import Derived.Test.YtokjdaknfkleeaaShares
namespace Go.Proofs.Ytokjdaknfkleeaa
set_option linter.unusedSimpArgs false
set_option linter.unusedVariables false
open Go.RowKit
set_option maxHeartbeats 1000000 in
theorem impl_AddKnown (x y k : Int) (w : World) : Calls Try.prog 27 #[.agg #[.int .i64 x, .int .i64 y], .int .i64 k] w fun e w' => e = .returned (.agg #[.int .i64 (akF x y k), .int .i64 (akL x y k)]) ∧ Ext w w' := by
  cases h1 : (rv x && rv y)
  · rw [show akF x y k = -1 by simp [akF, okK, h1], show akL x y k = -1 by simp [akL, okK, h1]]
    have H1 := Lib.hid h1; clear h1
    go_enter Try.func27, Try.ntmps27
    go_wp2_with (first | (go_at_call 29; (with_reducible refine (impl_SharedValid x y false H1.out _).mono ?_); rintro e w1 ⟨rfl, hy⟩; (first | (replace hx := hx.trans hy; clear hc hz hy; obtain ⟨hc, hz⟩ := hx.cells) | (have hx := hy; clear hy; obtain ⟨hc, hz⟩ := hx.cells))) | (go_at_call 49; (with_reducible refine (impl_noShares _).mono ?_); rintro e w1 ⟨rfl, hy⟩; (first | (replace hx := hx.trans hy; clear hc hz hy; obtain ⟨hc, hz⟩ := hx.cells) | (have hx := hy; clear hy; obtain ⟨hc, hz⟩ := hx.cells))))
    exact bodyPost_ret (v := .agg #[.int .i64 (-1), .int .i64 (-1)]) (by first | (simp [results, Try.results27, go_sem, hc]; done) | (simp [results, Try.results27, go_sem]; done) | (simp [results, Try.results27, go_sem, *]; done)) rfl ⟨rfl, (by (repeat (first | refine Ext.setCell ?_ (by first | (simp; done) | (simp; omega) | omega) _ | refine Ext.alloc ?_ _ | refine Ext.drew ?_ | refine Ext.setRow ?_ (by omega) _)); first | exact Ext.refl _ | exact hx | (refine Ext.trans ?_ hx; (repeat (refine Ext.alloc ?_ _)); exact Ext.refl _))⟩
  · cases h2 : rv k
    · rw [show akF x y k = -1 by simp [akF, okK, h1, h2], show akL x y k = -1 by simp [akL, okK, h1, h2]]
      have H1 := Lib.hid h1; clear h1
      have H2 := Lib.hid h2; clear h2
      go_enter Try.func27, Try.ntmps27
      go_wp2_with (first | (go_at_call 29; (with_reducible refine (impl_SharedValid x y true H1.out _).mono ?_); rintro e w1 ⟨rfl, hy⟩; (first | (replace hx := hx.trans hy; clear hc hz hy; obtain ⟨hc, hz⟩ := hx.cells) | (have hx := hy; clear hy; obtain ⟨hc, hz⟩ := hx.cells))) | (go_at_call 52; (with_reducible refine (impl_RingValid k false H2.out _).mono ?_); rintro e w1 ⟨rfl, rfl⟩) | (go_at_call 49; (with_reducible refine (impl_noShares _).mono ?_); rintro e w1 ⟨rfl, hy⟩; (first | (replace hx := hx.trans hy; clear hc hz hy; obtain ⟨hc, hz⟩ := hx.cells) | (have hx := hy; clear hy; obtain ⟨hc, hz⟩ := hx.cells))))
      exact bodyPost_ret (v := .agg #[.int .i64 (-1), .int .i64 (-1)]) (by first | (simp [results, Try.results27, go_sem, hc]; done) | (simp [results, Try.results27, go_sem]; done) | (simp [results, Try.results27, go_sem, *]; done)) rfl ⟨rfl, (by (repeat (first | refine Ext.setCell ?_ (by first | (simp; done) | (simp; omega) | omega) _ | refine Ext.alloc ?_ _ | refine Ext.drew ?_ | refine Ext.setRow ?_ (by omega) _)); first | exact Ext.refl _ | exact hx | (refine Ext.trans ?_ hx; (repeat (refine Ext.alloc ?_ _)); exact Ext.refl _))⟩
    · obtain ⟨rx, ry⟩ := Bool.and_eq_true_iff.1 h1
      have e0 : addR y 0 = y := by rw [addR_ok ry (by decide), Int.add_zero, ring_of ry]
      have e1 : akF x y k = ring (x + k) := by simp [akF, okK, h1, h2]
      have e2 : akL x y k = addR y 0 := by simp [akL, okK, h1, h2, e0]
      rw [e1, e2]
      clear e1 e2
      rw [← addR_ok rx h2]
      clear e0 rx ry
      have H1 := Lib.hid h1; have H2 := Lib.hid h2; clear h1 h2
      go_enter Try.func27, Try.ntmps27
      go_wp2_with (first | (go_at_call 29; (with_reducible refine (impl_SharedValid x y true H1.out _).mono ?_); rintro e w1 ⟨rfl, hy⟩; (first | (replace hx := hx.trans hy; clear hc hz hy; obtain ⟨hc, hz⟩ := hx.cells) | (have hx := hy; clear hy; obtain ⟨hc, hz⟩ := hx.cells))) | (go_at_call 52; (with_reducible refine (impl_RingValid k true H2.out _).mono ?_); rintro e w1 ⟨rfl, rfl⟩) | (go_at_call 50; (with_reducible refine (impl_both_AddRing _ _ _ _ _).mono ?_); rintro e w1 ⟨rfl, hy⟩; (first | (replace hx := hx.trans hy; clear hc hz hy; obtain ⟨hc, hz⟩ := hx.cells) | (have hx := hy; clear hy; obtain ⟨hc, hz⟩ := hx.cells))))
      exact bodyPost_ret (v := .agg #[.int .i64 (addR x k), .int .i64 (addR y 0)]) (by first | (simp [results, Try.results27, go_sem, hc]; done) | (simp [results, Try.results27, go_sem]; done) | (simp [results, Try.results27, go_sem, *]; done)) rfl ⟨rfl, (by (repeat (first | refine Ext.setCell ?_ (by first | (simp; done) | (simp; omega) | omega) _ | refine Ext.alloc ?_ _ | refine Ext.drew ?_ | refine Ext.setRow ?_ (by omega) _)); first | exact Ext.refl _ | exact hx | (refine Ext.trans ?_ hx; (repeat (refine Ext.alloc ?_ _)); exact Ext.refl _))⟩
set_option maxHeartbeats 1000000 in
theorem impl_TimesKnown (x y k : Int) (w : World) : Calls Try.prog 22 #[.agg #[.int .i64 x, .int .i64 y], .int .i64 k] w fun e w' => e = .returned (.agg #[.int .i64 (tkF x y k), .int .i64 (tkL x y k)]) ∧ Ext w w' := by
  cases h1 : (rv x && rv y)
  · rw [show tkF x y k = -1 by simp [tkF, okK, h1], show tkL x y k = -1 by simp [tkL, okK, h1]]
    have H1 := Lib.hid h1; clear h1
    go_enter Try.func22, Try.ntmps22
    go_wp2_with (first | (go_at_call 29; (with_reducible refine (impl_SharedValid x y false H1.out _).mono ?_); rintro e w1 ⟨rfl, hy⟩; (first | (replace hx := hx.trans hy; clear hc hz hy; obtain ⟨hc, hz⟩ := hx.cells) | (have hx := hy; clear hy; obtain ⟨hc, hz⟩ := hx.cells))) | (go_at_call 49; (with_reducible refine (impl_noShares _).mono ?_); rintro e w1 ⟨rfl, hy⟩; (first | (replace hx := hx.trans hy; clear hc hz hy; obtain ⟨hc, hz⟩ := hx.cells) | (have hx := hy; clear hy; obtain ⟨hc, hz⟩ := hx.cells))))
    exact bodyPost_ret (v := .agg #[.int .i64 (-1), .int .i64 (-1)]) (by first | (simp [results, Try.results22, go_sem, hc]; done) | (simp [results, Try.results22, go_sem]; done) | (simp [results, Try.results22, go_sem, *]; done)) rfl ⟨rfl, (by (repeat (first | refine Ext.setCell ?_ (by first | (simp; done) | (simp; omega) | omega) _ | refine Ext.alloc ?_ _ | refine Ext.drew ?_ | refine Ext.setRow ?_ (by omega) _)); first | exact Ext.refl _ | exact hx | (refine Ext.trans ?_ hx; (repeat (refine Ext.alloc ?_ _)); exact Ext.refl _))⟩
  · cases h2 : rv k
    · rw [show tkF x y k = -1 by simp [tkF, okK, h1, h2], show tkL x y k = -1 by simp [tkL, okK, h1, h2]]
      have H1 := Lib.hid h1; clear h1
      have H2 := Lib.hid h2; clear h2
      go_enter Try.func22, Try.ntmps22
      go_wp2_with (first | (go_at_call 29; (with_reducible refine (impl_SharedValid x y true H1.out _).mono ?_); rintro e w1 ⟨rfl, hy⟩; (first | (replace hx := hx.trans hy; clear hc hz hy; obtain ⟨hc, hz⟩ := hx.cells) | (have hx := hy; clear hy; obtain ⟨hc, hz⟩ := hx.cells))) | (go_at_call 52; (with_reducible refine (impl_RingValid k false H2.out _).mono ?_); rintro e w1 ⟨rfl, rfl⟩) | (go_at_call 49; (with_reducible refine (impl_noShares _).mono ?_); rintro e w1 ⟨rfl, hy⟩; (first | (replace hx := hx.trans hy; clear hc hz hy; obtain ⟨hc, hz⟩ := hx.cells) | (have hx := hy; clear hy; obtain ⟨hc, hz⟩ := hx.cells))))
      exact bodyPost_ret (v := .agg #[.int .i64 (-1), .int .i64 (-1)]) (by first | (simp [results, Try.results22, go_sem, hc]; done) | (simp [results, Try.results22, go_sem]; done) | (simp [results, Try.results22, go_sem, *]; done)) rfl ⟨rfl, (by (repeat (first | refine Ext.setCell ?_ (by first | (simp; done) | (simp; omega) | omega) _ | refine Ext.alloc ?_ _ | refine Ext.drew ?_ | refine Ext.setRow ?_ (by omega) _)); first | exact Ext.refl _ | exact hx | (refine Ext.trans ?_ hx; (repeat (refine Ext.alloc ?_ _)); exact Ext.refl _))⟩
    · obtain ⟨rx, ry⟩ := Bool.and_eq_true_iff.1 h1
      have e1 : tkF x y k = ring (x * k) := by simp [tkF, okK, h1, h2]
      have e2 : tkL x y k = ring (y * k) := by simp [tkL, okK, h1, h2]
      rw [e1, e2]
      clear e1 e2
      rw [← mulR_ok rx h2, ← mulR_ok ry h2]
      clear rx ry
      have H1 := Lib.hid h1; have H2 := Lib.hid h2; clear h1 h2
      go_enter Try.func22, Try.ntmps22
      go_wp2_with (first | (go_at_call 29; (with_reducible refine (impl_SharedValid x y true H1.out _).mono ?_); rintro e w1 ⟨rfl, hy⟩; (first | (replace hx := hx.trans hy; clear hc hz hy; obtain ⟨hc, hz⟩ := hx.cells) | (have hx := hy; clear hy; obtain ⟨hc, hz⟩ := hx.cells))) | (go_at_call 52; (with_reducible refine (impl_RingValid k true H2.out _).mono ?_); rintro e w1 ⟨rfl, rfl⟩) | (go_at_call 50; (with_reducible refine (impl_both_MulRing _ _ _ _ _).mono ?_); rintro e w1 ⟨rfl, hy⟩; (first | (replace hx := hx.trans hy; clear hc hz hy; obtain ⟨hc, hz⟩ := hx.cells) | (have hx := hy; clear hy; obtain ⟨hc, hz⟩ := hx.cells))))
      exact bodyPost_ret (v := .agg #[.int .i64 (mulR x k), .int .i64 (mulR y k)]) (by first | (simp [results, Try.results22, go_sem, hc]; done) | (simp [results, Try.results22, go_sem]; done) | (simp [results, Try.results22, go_sem, *]; done)) rfl ⟨rfl, (by (repeat (first | refine Ext.setCell ?_ (by first | (simp; done) | (simp; omega) | omega) _ | refine Ext.alloc ?_ _ | refine Ext.drew ?_ | refine Ext.setRow ?_ (by omega) _)); first | exact Ext.refl _ | exact hx | (refine Ext.trans ?_ hx; (repeat (refine Ext.alloc ?_ _)); exact Ext.refl _))⟩
set_option maxHeartbeats 1000000 in
theorem spec_AddKnown (x y k : Int) (w : World) : Calls Try.prog 28 #[.agg #[.int .i64 x, .int .i64 y], .int .i64 k] w fun e w' => e = .returned (.agg #[.int .i64 (akF x y k), .int .i64 (akL x y k)]) ∧ Ext w w' := by
  cases h1 : (rv x && rv y)
  · rw [show akF x y k = -1 by simp [akF, okK, h1], show akL x y k = -1 by simp [akL, okK, h1]]
    have H1 := Lib.hid h1; clear h1
    go_enter Try.func28, Try.ntmps28
    go_wp2_with (first | (go_at_call 46; (with_reducible refine (spec_SharedValid x y false H1.out _).mono ?_); rintro e w1 ⟨rfl, hy⟩; (first | (replace hx := hx.trans hy; clear hc hz hy; obtain ⟨hc, hz⟩ := hx.cells) | (have hx := hy; clear hy; obtain ⟨hc, hz⟩ := hx.cells))) | (go_at_call 47; (with_reducible refine (spec_l6Bad _).mono ?_); rintro e w1 ⟨rfl, hy⟩; (first | (replace hx := hx.trans hy; clear hc hz hy; obtain ⟨hc, hz⟩ := hx.cells) | (have hx := hy; clear hy; obtain ⟨hc, hz⟩ := hx.cells))))
    exact bodyPost_ret (v := .agg #[.int .i64 (-1), .int .i64 (-1)]) (by first | (simp [results, Try.results28, go_sem, hc]; done) | (simp [results, Try.results28, go_sem]; done) | (simp [results, Try.results28, go_sem, *]; done)) rfl ⟨rfl, (by (repeat (first | refine Ext.setCell ?_ (by first | (simp; done) | (simp; omega) | omega) _ | refine Ext.alloc ?_ _ | refine Ext.drew ?_ | refine Ext.setRow ?_ (by omega) _)); first | exact Ext.refl _ | exact hx | (refine Ext.trans ?_ hx; (repeat (refine Ext.alloc ?_ _)); exact Ext.refl _))⟩
  · cases h2 : rv k
    · rw [show akF x y k = -1 by simp [akF, okK, h1, h2], show akL x y k = -1 by simp [akL, okK, h1, h2]]
      have H1 := Lib.hid h1; clear h1
      have H2 := Lib.hid h2; clear h2
      go_enter Try.func28, Try.ntmps28
      go_wp2_with (first | (go_at_call 46; (with_reducible refine (spec_SharedValid x y true H1.out _).mono ?_); rintro e w1 ⟨rfl, hy⟩; (first | (replace hx := hx.trans hy; clear hc hz hy; obtain ⟨hc, hz⟩ := hx.cells) | (have hx := hy; clear hy; obtain ⟨hc, hz⟩ := hx.cells))) | (go_at_call 51; (with_reducible refine (spec_RingValid k false H2.out _).mono ?_); rintro e w1 ⟨rfl, rfl⟩) | (go_at_call 47; (with_reducible refine (spec_l6Bad _).mono ?_); rintro e w1 ⟨rfl, hy⟩; (first | (replace hx := hx.trans hy; clear hc hz hy; obtain ⟨hc, hz⟩ := hx.cells) | (have hx := hy; clear hy; obtain ⟨hc, hz⟩ := hx.cells))))
      exact bodyPost_ret (v := .agg #[.int .i64 (-1), .int .i64 (-1)]) (by first | (simp [results, Try.results28, go_sem, hc]; done) | (simp [results, Try.results28, go_sem]; done) | (simp [results, Try.results28, go_sem, *]; done)) rfl ⟨rfl, (by (repeat (first | refine Ext.setCell ?_ (by first | (simp; done) | (simp; omega) | omega) _ | refine Ext.alloc ?_ _ | refine Ext.drew ?_ | refine Ext.setRow ?_ (by omega) _)); first | exact Ext.refl _ | exact hx | (refine Ext.trans ?_ hx; (repeat (refine Ext.alloc ?_ _)); exact Ext.refl _))⟩
    · obtain ⟨rx, ry⟩ := Bool.and_eq_true_iff.1 h1
      have e1 : akF x y k = ring (x + k) := by simp [akF, okK, h1, h2]
      have e2 : akL x y k = y := by simp [akL, okK, h1, h2]
      rw [e1, e2]
      clear e1 e2
      have ⟨lx, ux⟩ := rv_iff.1 rx
      have ⟨ly, uy⟩ := rv_iff.1 ry
      have ⟨lk, uk⟩ := rv_iff.1 h2
      clear rx ry
      have H1 := Lib.hid h1; have H2 := Lib.hid h2; clear h1 h2
      go_enter Try.func28, Try.ntmps28
      go_wp2_with (first | (go_at_call 46; (with_reducible refine (spec_SharedValid x y true H1.out _).mono ?_); rintro e w1 ⟨rfl, hy⟩; (first | (replace hx := hx.trans hy; clear hc hz hy; obtain ⟨hc, hz⟩ := hx.cells) | (have hx := hy; clear hy; obtain ⟨hc, hz⟩ := hx.cells))) | (go_at_call 51; (with_reducible refine (spec_RingValid k true H2.out _).mono ?_); rintro e w1 ⟨rfl, rfl⟩))
      apply wp_region_zip [isv _, isv _, isv _, isv _, isv _, isv _, isv _, isv _] _ (by kernel_rfl)
      case hA => intro V; simp [putAll, dstOf, Act.put]; exact rfl
      case hsl => intro V; exact rfl
      case step =>
        intro V lo up w' hr
        have hxr := hx.trans hr
        obtain ⟨hcr, hzr⟩ := hxr.cells
        simp only [zipOk, depsImp, isv, waits, Region.binds, List.map_nil, List.nil_append, List.filterMap_cons, List.filterMap_nil, ↓reduceIte, true_implies, List.getD_cons_zero, List.getD_cons_succ, and_true]
        refine ⟨?_, ?_, ?_, ?_, ?_, ?_, ?_, ?_⟩
        all_goals
          intros
          go_wp2_with (go_at_call 48; (with_reducible refine (spec_l1Ring _ _).mono ?_); rintro e w1 ⟨rfl, rfl⟩)
          refine stepQ_mk rfl (by simp only [List.getElem?_toArray, List.getElem?_cons_succ, List.getElem?_cons_zero]; exact rfl) ?_
          first | exact ⟨hy, rfl⟩ | exact ⟨Ext.refl _, rfl⟩ | exact ⟨Ext.refl _, by assumption⟩ | exact ⟨(Ext.refl _).alloc _, rfl, by simp, Blk.new _ _ _⟩
      case hB => kernel_rfl
      case fin =>
        intro V lo up w' hr hf ha
        simp only [factsOk, isv, List.map_nil, and_true, Nat.zero_add, Nat.reduceAdd] at hf
        simp only [List.length_cons, List.length_nil, Nat.zero_add, Nat.reduceAdd, List.drop_succ_cons, List.drop_zero]
        obtain ⟨⟨-, -, -, e0⟩, ⟨-, -, -, e1⟩, ⟨-, -, -, e2⟩, ⟨-, -, -, e3⟩, ⟨-, -, -, e4⟩, ⟨-, -, -, e5⟩, ⟨-, -, -, e6⟩, ⟨-, -, -, e7⟩⟩ := hf
        rw [e0, e1, e2, e3, e4, e5, e6, e7]
        clear e0 e1 e2 e3 e4 e5 e6 e7
        clear ha V lo up
        have hs0 := hx.size
        replace hx := hx.trans hr
        clear hr
        try clear hc hz
        obtain ⟨hc, hz⟩ := hx.cells
        go_wp2
        exact bodyPost_ret (v := .agg #[.int .i64 (ring (x + k)), .int .i64 y]) (by first | (simp [results, Try.results28, go_sem, hc]; done) | (simp [results, Try.results28, go_sem]; done) | (simp [results, Try.results28, go_sem, *]; done)) rfl ⟨rfl, (by (repeat (first | refine Ext.setCell ?_ (by first | (simp; done) | (simp; omega) | omega) _ | refine Ext.alloc ?_ _ | refine Ext.drew ?_ | refine Ext.setRow ?_ (by omega) _)); first | exact Ext.refl _ | exact hx | (refine Ext.trans ?_ hx; (repeat (refine Ext.alloc ?_ _)); exact Ext.refl _))⟩
set_option maxHeartbeats 1000000 in
theorem spec_TimesKnown (x y k : Int) (w : World) : Calls Try.prog 21 #[.agg #[.int .i64 x, .int .i64 y], .int .i64 k] w fun e w' => e = .returned (.agg #[.int .i64 (tkF x y k), .int .i64 (tkL x y k)]) ∧ Ext w w' := by
  cases h1 : (rv x && rv y)
  · rw [show tkF x y k = -1 by simp [tkF, okK, h1], show tkL x y k = -1 by simp [tkL, okK, h1]]
    have H1 := Lib.hid h1; clear h1
    go_enter Try.func21, Try.ntmps21
    go_wp2_with (first | (go_at_call 46; (with_reducible refine (spec_SharedValid x y false H1.out _).mono ?_); rintro e w1 ⟨rfl, hy⟩; (first | (replace hx := hx.trans hy; clear hc hz hy; obtain ⟨hc, hz⟩ := hx.cells) | (have hx := hy; clear hy; obtain ⟨hc, hz⟩ := hx.cells))) | (go_at_call 47; (with_reducible refine (spec_l6Bad _).mono ?_); rintro e w1 ⟨rfl, hy⟩; (first | (replace hx := hx.trans hy; clear hc hz hy; obtain ⟨hc, hz⟩ := hx.cells) | (have hx := hy; clear hy; obtain ⟨hc, hz⟩ := hx.cells))))
    exact bodyPost_ret (v := .agg #[.int .i64 (-1), .int .i64 (-1)]) (by first | (simp [results, Try.results21, go_sem, hc]; done) | (simp [results, Try.results21, go_sem]; done) | (simp [results, Try.results21, go_sem, *]; done)) rfl ⟨rfl, (by (repeat (first | refine Ext.setCell ?_ (by first | (simp; done) | (simp; omega) | omega) _ | refine Ext.alloc ?_ _ | refine Ext.drew ?_ | refine Ext.setRow ?_ (by omega) _)); first | exact Ext.refl _ | exact hx | (refine Ext.trans ?_ hx; (repeat (refine Ext.alloc ?_ _)); exact Ext.refl _))⟩
  · cases h2 : rv k
    · rw [show tkF x y k = -1 by simp [tkF, okK, h1, h2], show tkL x y k = -1 by simp [tkL, okK, h1, h2]]
      have H1 := Lib.hid h1; clear h1
      have H2 := Lib.hid h2; clear h2
      go_enter Try.func21, Try.ntmps21
      go_wp2_with (first | (go_at_call 46; (with_reducible refine (spec_SharedValid x y true H1.out _).mono ?_); rintro e w1 ⟨rfl, hy⟩; (first | (replace hx := hx.trans hy; clear hc hz hy; obtain ⟨hc, hz⟩ := hx.cells) | (have hx := hy; clear hy; obtain ⟨hc, hz⟩ := hx.cells))) | (go_at_call 51; (with_reducible refine (spec_RingValid k false H2.out _).mono ?_); rintro e w1 ⟨rfl, rfl⟩) | (go_at_call 47; (with_reducible refine (spec_l6Bad _).mono ?_); rintro e w1 ⟨rfl, hy⟩; (first | (replace hx := hx.trans hy; clear hc hz hy; obtain ⟨hc, hz⟩ := hx.cells) | (have hx := hy; clear hy; obtain ⟨hc, hz⟩ := hx.cells))))
      exact bodyPost_ret (v := .agg #[.int .i64 (-1), .int .i64 (-1)]) (by first | (simp [results, Try.results21, go_sem, hc]; done) | (simp [results, Try.results21, go_sem]; done) | (simp [results, Try.results21, go_sem, *]; done)) rfl ⟨rfl, (by (repeat (first | refine Ext.setCell ?_ (by first | (simp; done) | (simp; omega) | omega) _ | refine Ext.alloc ?_ _ | refine Ext.drew ?_ | refine Ext.setRow ?_ (by omega) _)); first | exact Ext.refl _ | exact hx | (refine Ext.trans ?_ hx; (repeat (refine Ext.alloc ?_ _)); exact Ext.refl _))⟩
    · obtain ⟨rx, ry⟩ := Bool.and_eq_true_iff.1 h1
      have e1 : tkF x y k = ring (x * k) := by simp [tkF, okK, h1, h2]
      have e2 : tkL x y k = ring (y * k) := by simp [tkL, okK, h1, h2]
      rw [e1, e2]
      clear e1 e2
      have ⟨lx, ux⟩ := rv_iff.1 rx
      have ⟨ly, uy⟩ := rv_iff.1 ry
      have ⟨lk, uk⟩ := rv_iff.1 h2
      clear rx ry
      have hm1 : 0 ≤ x * k ∧ x * k ≤ 4095 * 4095 := ⟨Int.mul_nonneg lx lk, Int.mul_le_mul (by omega) (by omega) lk (by omega)⟩
      have hm2 : 0 ≤ y * k ∧ y * k ≤ 4095 * 4095 := ⟨Int.mul_nonneg ly lk, Int.mul_le_mul (by omega) (by omega) lk (by omega)⟩
      have ⟨_, _⟩ := hm1
      have ⟨_, _⟩ := hm2
      clear hm1 hm2
      have H1 := Lib.hid h1; have H2 := Lib.hid h2; clear h1 h2
      go_enter Try.func21, Try.ntmps21
      go_wp2_with (first | (go_at_call 46; (with_reducible refine (spec_SharedValid x y true H1.out _).mono ?_); rintro e w1 ⟨rfl, hy⟩; (first | (replace hx := hx.trans hy; clear hc hz hy; obtain ⟨hc, hz⟩ := hx.cells) | (have hx := hy; clear hy; obtain ⟨hc, hz⟩ := hx.cells))) | (go_at_call 51; (with_reducible refine (spec_RingValid k true H2.out _).mono ?_); rintro e w1 ⟨rfl, rfl⟩))
      apply wp_region_zip [isv _, isv _, isv _, isv _, isv _, isv _, isv _, isv _, isv _, isv _, isv _] _ (by kernel_rfl)
      case hA => intro V; simp [putAll, dstOf, Act.put]; exact rfl
      case hsl => intro V; exact rfl
      case step =>
        intro V lo up w' hr
        have hxr := hx.trans hr
        obtain ⟨hcr, hzr⟩ := hxr.cells
        simp only [zipOk, depsImp, isv, waits, Region.binds, List.map_nil, List.nil_append, List.filterMap_cons, List.filterMap_nil, ↓reduceIte, true_implies, List.getD_cons_zero, List.getD_cons_succ, and_true]
        refine ⟨?_, ?_, ?_, ?_, ?_, ?_, ?_, ?_, ?_, ?_, ?_⟩
        all_goals
          intros
          go_wp2_with (go_at_call 48; (with_reducible refine (spec_l1Ring _ _).mono ?_); rintro e w1 ⟨rfl, rfl⟩)
          refine stepQ_mk rfl (by simp only [List.getElem?_toArray, List.getElem?_cons_succ, List.getElem?_cons_zero]; exact rfl) ?_
          first | exact ⟨hy, rfl⟩ | exact ⟨Ext.refl _, rfl⟩ | exact ⟨Ext.refl _, by assumption⟩ | exact ⟨(Ext.refl _).alloc _, rfl, by simp, Blk.new _ _ _⟩
      case hB => kernel_rfl
      case fin =>
        intro V lo up w' hr hf ha
        simp only [factsOk, isv, List.map_nil, and_true, Nat.zero_add, Nat.reduceAdd] at hf
        simp only [List.length_cons, List.length_nil, Nat.zero_add, Nat.reduceAdd, List.drop_succ_cons, List.drop_zero]
        obtain ⟨⟨-, -, -, e0⟩, ⟨-, -, -, e1⟩, ⟨-, -, -, e2⟩, ⟨-, -, -, e3⟩, ⟨-, -, -, e4⟩, ⟨-, -, -, e5⟩, ⟨-, -, -, e6⟩, ⟨-, -, -, e7⟩, ⟨-, -, -, e8⟩, ⟨-, -, -, e9⟩, ⟨-, -, -, e10⟩⟩ := hf
        rw [e0, e1, e2, e3, e4, e5, e6, e7, e8, e9, e10]
        clear e0 e1 e2 e3 e4 e5 e6 e7 e8 e9 e10
        clear ha V lo up
        have hs0 := hx.size
        replace hx := hx.trans hr
        clear hr
        try clear hc hz
        obtain ⟨hc, hz⟩ := hx.cells
        go_wp2
        exact bodyPost_ret (v := .agg #[.int .i64 (ring (x * k)), .int .i64 (ring (y * k))]) (by first | (simp [results, Try.results21, go_sem, hc]; done) | (simp [results, Try.results21, go_sem]; done) | (simp [results, Try.results21, go_sem, *]; done)) rfl ⟨rfl, (by (repeat (first | refine Ext.setCell ?_ (by first | (simp; done) | (simp; omega) | omega) _ | refine Ext.alloc ?_ _ | refine Ext.drew ?_ | refine Ext.setRow ?_ (by omega) _)); first | exact Ext.refl _ | exact hx | (refine Ext.trans ?_ hx; (repeat (refine Ext.alloc ?_ _)); exact Ext.refl _))⟩
def okT (a b c d e f : Int) : Bool := rv a && rv b && (rv c && rv d && (rv e && rv f))
/-- The product of what is shared. -/
def prodT (a b c d : Int) : Int := mulR (addR a b) (addR c d)
def triR (a b c d e f : Int) : Bool := okT a b c d e f && (addR e f == prodT a b c d)

set_option maxHeartbeats 1000000 in
theorem laws_toTriple (a b c d e f : Int) (w : World) : Calls Try.prog 24 #[.agg #[.int .i64 a, .int .i64 b, .int .i64 c, .int .i64 d, .int .i64 e, .int .i64 f]] w fun e' w' => e' = .returned (.agg #[.int .i64 a, .int .i64 b, .int .i64 c, .int .i64 d, .int .i64 e, .int .i64 f]) ∧ Ext w w' := by
  go_enter Try.func24, Try.ntmps24
  go_wp2_with (go_at_call 16; (with_reducible refine (laws_toShared _ _ _).mono ?_); rintro e w1 ⟨rfl, hy⟩; (have hw' : Ext w _ := Ext.trans (by (repeat (first | refine Ext.setCell ?_ (by first | (simp; done) | (simp; omega) | omega) _ | refine Ext.alloc ?_ _)); first | exact Ext.refl _ | exact hw) hy); (try clear hw); have hw := hw'; clear hw'; obtain ⟨hc, hz⟩ := hy.cells; have z0 : w.heap.size < w1.heap.size := (by have := hy.size; (try simp at this); omega); have z1 : w.heap.size + 1 < w1.heap.size := (by have := hy.size; (try simp at this); omega); have z2 : w.heap.size + 1 + 1 < w1.heap.size := (by have := hy.size; (try simp at this); omega); have y2 : w.heap.size + 2 < w1.heap.size := (by have := hy.size; (try simp at this); omega); have zz := hy.size; (try simp at zz); clear hy)
  exact bodyPost_ret (v := .agg #[.int .i64 a, .int .i64 b, .int .i64 c, .int .i64 d, .int .i64 e, .int .i64 f]) (by first | (simp [results, Try.results24, go_sem, hc]; done) | (simp [results, Try.results24, go_sem]; done) | (simp [results, Try.results24, go_sem, *]; done)) rfl ⟨rfl, (by (repeat (first | refine Ext.setCell ?_ (by first | (simp; done) | (simp; omega) | omega) _ | refine Ext.alloc ?_ _)); first | exact Ext.refl _ | exact hw)⟩
set_option maxHeartbeats 1000000 in
theorem impl_product (a b c d e f : Int) (w : World) : Calls Try.prog 55 #[.agg #[.int .i64 a, .int .i64 b, .int .i64 c, .int .i64 d, .int .i64 e, .int .i64 f]] w fun e' w' => e' = .returned (.int .i64 (prodT a b c d)) ∧ Ext w w' := by
  go_enter Try.func55, Try.ntmps55
  go_wp2
  apply wp_region_zip [isv _, isv _, isv _, isv _, isv _, isv _, isv _, isv _] _ (by kernel_rfl)
  case hA => intro V; simp [putAll, dstOf, Act.put]; exact rfl
  case hsl => intro V; exact rfl
  case step =>
    intro V lo up w' hr
    obtain ⟨hcr, hzr⟩ := hr.cells
    simp only [zipOk, depsImp, isv, waits, Region.binds, List.map_nil, List.nil_append, List.filterMap_cons, List.filterMap_nil, ↓reduceIte, true_implies, List.getD_cons_zero, List.getD_cons_succ, and_true]
    refine ⟨?_, ?_, ?_, ?_, ?_, ?_, ?_, ?_⟩
    all_goals
      intros
      go_wp2_with (first | (go_at_call 31; (with_reducible refine (impl_JoinShares _ _ _).mono ?_); rintro e w1 ⟨rfl, hy⟩) | (go_at_call 37; (with_reducible refine (impl_MulRing _ _ _).mono ?_); rintro e w1 ⟨rfl, rfl⟩))
      refine stepQ_mk rfl (by simp only [List.getElem?_toArray, List.getElem?_cons_succ, List.getElem?_cons_zero]; exact rfl) ?_
      first | exact ⟨hy, rfl⟩ | exact ⟨Ext.refl _, rfl⟩ | exact ⟨Ext.refl _, by assumption⟩ | exact ⟨(Ext.refl _).alloc _, rfl, by simp, Blk.new _ _ _⟩
  case hB => kernel_rfl
  case fin =>
    intro V lo up w' hr hf ha
    simp only [factsOk, isv, List.map_nil, and_true, Nat.zero_add, Nat.reduceAdd] at hf
    simp only [List.length_cons, List.length_nil, Nat.zero_add, Nat.reduceAdd, List.drop_succ_cons, List.drop_zero]
    obtain ⟨⟨-, -, -, e0⟩, ⟨-, -, -, e1⟩, ⟨-, -, -, e2⟩, ⟨-, -, -, e3⟩, ⟨-, -, -, e4⟩, ⟨-, -, -, e5⟩, ⟨-, -, -, e6⟩, ⟨-, -, -, e7⟩⟩ := hf
    rw [e0, e1, e2, e3, e4, e5, e6, e7]
    clear e0 e1 e2 e3 e4 e5 e6 e7
    clear ha V lo up
    have hx := hr
    clear hr
    try clear hc hz
    obtain ⟨hc, hz⟩ := hx.cells
    go_wp2
    go_ret
    exact ⟨rfl, (by (repeat (first | refine Ext.setCell ?_ (by first | (simp; done) | (simp; omega) | omega) _ | refine Ext.alloc ?_ _ | refine Ext.drew ?_ | refine Ext.setRow ?_ (by omega) _)); first | exact Ext.refl _ | exact hx | (refine Ext.trans ?_ hx; (repeat (refine Ext.alloc ?_ _)); exact Ext.refl _))⟩
set_option maxHeartbeats 4000000 in
theorem impl_TripleRight (a b c d e f : Int) (w : World) : Calls Try.prog 25 #[.agg #[.int .i64 a, .int .i64 b, .int .i64 c, .int .i64 d, .int .i64 e, .int .i64 f]] w fun e' w' => e' = .returned (.bool (triR a b c d e f)) ∧ Ext w w' := by
  cases h1 : (rv a && rv b)
  · rw [show triR a b c d e f = false by simp [triR, okT, h1]]
    have H1 := Lib.hid h1; clear h1
    go_enter Try.func25, Try.ntmps25
    go_wp2_with (go_at_call 29; (with_reducible refine (impl_SharedValid a b false H1.out _).mono ?_); rintro e w1 ⟨rfl, hy⟩; (first | (replace hx := hx.trans hy; clear hc hz hy; obtain ⟨hc, hz⟩ := hx.cells) | (have hx := hy; clear hy; obtain ⟨hc, hz⟩ := hx.cells)))
    go_ret
    exact ⟨rfl, (by (repeat (first | refine Ext.setCell ?_ (by first | (simp; done) | (simp; omega) | omega) _ | refine Ext.alloc ?_ _ | refine Ext.drew ?_ | refine Ext.setRow ?_ (by omega) _)); first | exact Ext.refl _ | exact hx | (refine Ext.trans ?_ hx; (repeat (refine Ext.alloc ?_ _)); exact Ext.refl _))⟩
  · cases h2 : (rv c && rv d)
    · rw [show triR a b c d e f = false by simp [triR, okT, h1, h2]]
      have H1 := Lib.hid h1; clear h1
      have H2 := Lib.hid h2; clear h2
      go_enter Try.func25, Try.ntmps25
      go_wp2_with (first | (go_at_call 29; (with_reducible refine (impl_SharedValid a b true H1.out _).mono ?_); rintro e w1 ⟨rfl, hy⟩; (first | (replace hx := hx.trans hy; clear hc hz hy; obtain ⟨hc, hz⟩ := hx.cells) | (have hx := hy; clear hy; obtain ⟨hc, hz⟩ := hx.cells))) | (go_at_call 29; (with_reducible refine (impl_SharedValid c d false H2.out _).mono ?_); rintro e w1 ⟨rfl, hy⟩; (first | (replace hx := hx.trans hy; clear hc hz hy; obtain ⟨hc, hz⟩ := hx.cells) | (have hx := hy; clear hy; obtain ⟨hc, hz⟩ := hx.cells))))
      go_ret
      exact ⟨rfl, (by (repeat (first | refine Ext.setCell ?_ (by first | (simp; done) | (simp; omega) | omega) _ | refine Ext.alloc ?_ _ | refine Ext.drew ?_ | refine Ext.setRow ?_ (by omega) _)); first | exact Ext.refl _ | exact hx | (refine Ext.trans ?_ hx; (repeat (refine Ext.alloc ?_ _)); exact Ext.refl _))⟩
    · cases h3 : (rv e && rv f)
      · rw [show triR a b c d e f = false by simp [triR, okT, h1, h2, h3]]
        have H1 := Lib.hid h1; clear h1
        have H2 := Lib.hid h2; clear h2
        have H3 := Lib.hid h3; clear h3
        go_enter Try.func25, Try.ntmps25
        go_wp2_with (first | (go_at_call 29; (with_reducible refine (impl_SharedValid a b true H1.out _).mono ?_); rintro e w1 ⟨rfl, hy⟩; (first | (replace hx := hx.trans hy; clear hc hz hy; obtain ⟨hc, hz⟩ := hx.cells) | (have hx := hy; clear hy; obtain ⟨hc, hz⟩ := hx.cells))) | (go_at_call 29; (with_reducible refine (impl_SharedValid c d true H2.out _).mono ?_); rintro e w1 ⟨rfl, hy⟩; (first | (replace hx := hx.trans hy; clear hc hz hy; obtain ⟨hc, hz⟩ := hx.cells) | (have hx := hy; clear hy; obtain ⟨hc, hz⟩ := hx.cells))) | (go_at_call 29; (with_reducible refine (impl_SharedValid e f false H3.out _).mono ?_); rintro e w1 ⟨rfl, hy⟩; (first | (replace hx := hx.trans hy; clear hc hz hy; obtain ⟨hc, hz⟩ := hx.cells) | (have hx := hy; clear hy; obtain ⟨hc, hz⟩ := hx.cells))))
        go_ret
        exact ⟨rfl, (by (repeat (first | refine Ext.setCell ?_ (by first | (simp; done) | (simp; omega) | omega) _ | refine Ext.alloc ?_ _ | refine Ext.drew ?_ | refine Ext.setRow ?_ (by omega) _)); first | exact Ext.refl _ | exact hx | (refine Ext.trans ?_ hx; (repeat (refine Ext.alloc ?_ _)); exact Ext.refl _))⟩
      · rw [show triR a b c d e f = (addR e f == prodT a b c d) by simp [triR, okT, h1, h2, h3]]
        have H1 := Lib.hid h1; clear h1
        have H2 := Lib.hid h2; clear h2
        have H3 := Lib.hid h3; clear h3
        go_enter Try.func25, Try.ntmps25
        go_wp2_with (first | (go_at_call 29; (with_reducible refine (impl_SharedValid a b true H1.out _).mono ?_); rintro e w1 ⟨rfl, hy⟩; (first | (replace hx := hx.trans hy; clear hc hz hy; obtain ⟨hc, hz⟩ := hx.cells) | (have hx := hy; clear hy; obtain ⟨hc, hz⟩ := hx.cells))) | (go_at_call 29; (with_reducible refine (impl_SharedValid c d true H2.out _).mono ?_); rintro e w1 ⟨rfl, hy⟩; (first | (replace hx := hx.trans hy; clear hc hz hy; obtain ⟨hc, hz⟩ := hx.cells) | (have hx := hy; clear hy; obtain ⟨hc, hz⟩ := hx.cells))) | (go_at_call 29; (with_reducible refine (impl_SharedValid e f true H3.out _).mono ?_); rintro e w1 ⟨rfl, hy⟩; (first | (replace hx := hx.trans hy; clear hc hz hy; obtain ⟨hc, hz⟩ := hx.cells) | (have hx := hy; clear hy; obtain ⟨hc, hz⟩ := hx.cells))))
        apply wp_region_zip [isv _, isv _, isv _, isv _, isv _, isv _, isv _] _ (by kernel_rfl)
        case hA => intro V; simp [putAll, dstOf, Act.put]; exact rfl
        case hsl => intro V; exact rfl
        case step =>
          intro V lo up w' hr
          have hxr := hx.trans hr
          obtain ⟨hcr, hzr⟩ := hxr.cells
          simp only [zipOk, depsImp, isv, waits, Region.binds, List.map_nil, List.nil_append, List.filterMap_cons, List.filterMap_nil, ↓reduceIte, true_implies, List.getD_cons_zero, List.getD_cons_succ, and_true]
          refine ⟨?_, ?_, ?_, ?_, ?_, ?_, ?_⟩
          all_goals
            intros
            go_wp2_with (first | (go_at_call 31; (with_reducible refine (impl_JoinShares _ _ _).mono ?_); rintro e w1 ⟨rfl, hy⟩) | (go_at_call 55; (with_reducible refine (impl_product _ _ _ _ _ _ _).mono ?_); rintro e w1 ⟨rfl, hy⟩))
            refine stepQ_mk rfl (by simp only [List.getElem?_toArray, List.getElem?_cons_succ, List.getElem?_cons_zero]; exact rfl) ?_
            first | exact ⟨hy, rfl⟩ | exact ⟨Ext.refl _, rfl⟩ | exact ⟨Ext.refl _, by assumption⟩ | exact ⟨(Ext.refl _).alloc _, rfl, by simp, Blk.new _ _ _⟩
        case hB => kernel_rfl
        case fin =>
          intro V lo up w' hr hf ha
          simp only [factsOk, isv, List.map_nil, and_true, Nat.zero_add, Nat.reduceAdd] at hf
          simp only [List.length_cons, List.length_nil, Nat.zero_add, Nat.reduceAdd, List.drop_succ_cons, List.drop_zero]
          obtain ⟨⟨-, -, -, e0⟩, ⟨-, -, -, e1⟩, ⟨-, -, -, e2⟩, ⟨-, -, -, e3⟩, ⟨-, -, -, e4⟩, ⟨-, -, -, e5⟩, ⟨-, -, -, e6⟩⟩ := hf
          rw [e0, e1, e2, e3, e4, e5, e6]
          clear e0 e1 e2 e3 e4 e5 e6
          clear ha V lo up
          have hs0 := hx.size
          replace hx := hx.trans hr
          clear hr
          try clear hc hz
          obtain ⟨hc, hz⟩ := hx.cells
          go_wp2
          go_ret
          exact ⟨rfl, (by (repeat (first | refine Ext.setCell ?_ (by first | (simp; done) | (simp; omega) | omega) _ | refine Ext.alloc ?_ _ | refine Ext.drew ?_ | refine Ext.setRow ?_ (by omega) _)); first | exact Ext.refl _ | exact hx | (refine Ext.trans ?_ hx; (repeat (refine Ext.alloc ?_ _)); exact Ext.refl _))⟩
set_option maxHeartbeats 4000000 in
theorem spec_TripleRight (a b c d e f : Int) (w : World) : Calls Try.prog 23 #[.agg #[.int .i64 a, .int .i64 b, .int .i64 c, .int .i64 d, .int .i64 e, .int .i64 f]] w fun e' w' => e' = .returned (.bool (triR a b c d e f)) ∧ Ext w w' := by
  cases h1 : (rv a && rv b)
  · rw [show triR a b c d e f = false by simp [triR, okT, h1]]
    have H1 := Lib.hid h1; clear h1
    go_enter Try.func23, Try.ntmps23
    go_wp2
    apply wp_region_zip [isv _, isv _, isv _, isv _, isv _, isv _, isv _, isv _, isv _, isv _, isv _, isv _, isv _, isv _, isv _, isv _, isv _, isv _, isv _, isv _, isv _, isv _, isv _, isv _, isv _, isv _, isv _] _ (by kernel_rfl)
    case hA => intro V; simp [putAll, dstOf, Act.put]; exact rfl
    case hsl => intro V; exact rfl
    case step =>
      intro V lo up w' hr
      obtain ⟨hcr, hzr⟩ := hr.cells
      simp only [zipOk, depsImp, isv, waits, Region.binds, List.map_nil, List.nil_append, List.filterMap_cons, List.filterMap_nil, ↓reduceIte, true_implies, List.getD_cons_zero, List.getD_cons_succ, and_true]
      refine ⟨?_, ?_, ?_, ?_, ?_, ?_, ?_, ?_, ?_, ?_, ?_, ?_, ?_, ?_, ?_, ?_, ?_, ?_, ?_, ?_, ?_, ?_, ?_, ?_, ?_, ?_, ?_⟩
      all_goals
        intros
        go_wp2_with (go_at_call 46; (with_reducible refine (spec_SharedValid a b false H1.out _).mono ?_); rintro e w1 ⟨rfl, hy⟩)
        refine stepQ_mk rfl (by simp only [List.getElem?_toArray, List.getElem?_cons_succ, List.getElem?_cons_zero]; exact rfl) ?_
        first | exact ⟨hy, rfl⟩ | exact ⟨Ext.refl _, rfl⟩ | exact ⟨Ext.refl _, by assumption⟩ | exact ⟨(Ext.refl _).alloc _, rfl, by simp, Blk.new _ _ _⟩
    case hB => kernel_rfl
    case fin =>
      intro V lo up w' hr hf ha
      simp only [factsOk, isv, List.map_nil, and_true, Nat.zero_add, Nat.reduceAdd] at hf
      simp only [List.length_cons, List.length_nil, Nat.zero_add, Nat.reduceAdd, List.drop_succ_cons, List.drop_zero]
      obtain ⟨⟨-, -, -, e0⟩, ⟨-, -, -, e1⟩, ⟨-, -, -, e2⟩, ⟨-, -, -, e3⟩, ⟨-, -, -, e4⟩, ⟨-, -, -, e5⟩, ⟨-, -, -, e6⟩, ⟨-, -, -, e7⟩, ⟨-, -, -, e8⟩, ⟨-, -, -, e9⟩, ⟨-, -, -, e10⟩, ⟨-, -, -, e11⟩, ⟨-, -, -, e12⟩, ⟨-, -, -, e13⟩, ⟨-, -, -, e14⟩, ⟨-, -, -, e15⟩, ⟨-, -, -, e16⟩, ⟨-, -, -, e17⟩, ⟨-, -, -, e18⟩, ⟨-, -, -, e19⟩, ⟨-, -, -, e20⟩, ⟨-, -, -, e21⟩, ⟨-, -, -, e22⟩, ⟨-, -, -, e23⟩, ⟨-, -, -, e24⟩, ⟨-, -, -, e25⟩, ⟨-, -, -, e26⟩⟩ := hf
      rw [e0, e1, e2, e3, e4, e5, e6, e7, e8, e9, e10, e11, e12, e13, e14, e15, e16, e17, e18, e19, e20, e21, e22, e23, e24, e25, e26]
      clear e0 e1 e2 e3 e4 e5 e6 e7 e8 e9 e10 e11 e12 e13 e14 e15 e16 e17 e18 e19 e20 e21 e22 e23 e24 e25 e26
      clear ha V lo up
      have hx := hr
      clear hr
      try clear hc hz
      obtain ⟨hc, hz⟩ := hx.cells
      go_wp2
      go_ret
      exact ⟨rfl, (by (repeat (first | refine Ext.setCell ?_ (by first | (simp; done) | (simp; omega) | omega) _ | refine Ext.alloc ?_ _ | refine Ext.drew ?_ | refine Ext.setRow ?_ (by omega) _)); first | exact Ext.refl _ | exact hx | (refine Ext.trans ?_ hx; (repeat (refine Ext.alloc ?_ _)); exact Ext.refl _))⟩
  · cases h2 : (rv c && rv d)
    · rw [show triR a b c d e f = false by simp [triR, okT, h1, h2]]
      have H1 := Lib.hid h1; clear h1
      have H2 := Lib.hid h2; clear h2
      go_enter Try.func23, Try.ntmps23
      go_wp2
      apply wp_region_zip [isv _, isv _, isv _, isv _, isv _, isv _, isv _, isv _, isv _, isv _, isv _, isv _, isv _, isv _, isv _, isv _, isv _, isv _, isv _, isv _, isv _, isv _, isv _, isv _, isv _, isv _, isv _] _ (by kernel_rfl)
      case hA => intro V; simp [putAll, dstOf, Act.put]; exact rfl
      case hsl => intro V; exact rfl
      case step =>
        intro V lo up w' hr
        obtain ⟨hcr, hzr⟩ := hr.cells
        simp only [zipOk, depsImp, isv, waits, Region.binds, List.map_nil, List.nil_append, List.filterMap_cons, List.filterMap_nil, ↓reduceIte, true_implies, List.getD_cons_zero, List.getD_cons_succ, and_true]
        refine ⟨?_, ?_, ?_, ?_, ?_, ?_, ?_, ?_, ?_, ?_, ?_, ?_, ?_, ?_, ?_, ?_, ?_, ?_, ?_, ?_, ?_, ?_, ?_, ?_, ?_, ?_, ?_⟩
        all_goals
          intros
          go_wp2_with (first | (go_at_call 46; (with_reducible refine (spec_SharedValid a b true H1.out _).mono ?_); rintro e w1 ⟨rfl, hy⟩) | (go_at_call 46; (with_reducible refine (spec_SharedValid c d false H2.out _).mono ?_); rintro e w1 ⟨rfl, hy⟩))
          refine stepQ_mk rfl (by simp only [List.getElem?_toArray, List.getElem?_cons_succ, List.getElem?_cons_zero]; exact rfl) ?_
          first | exact ⟨hy, rfl⟩ | exact ⟨Ext.refl _, rfl⟩ | exact ⟨Ext.refl _, by assumption⟩ | exact ⟨(Ext.refl _).alloc _, rfl, by simp, Blk.new _ _ _⟩
      case hB => kernel_rfl
      case fin =>
        intro V lo up w' hr hf ha
        simp only [factsOk, isv, List.map_nil, and_true, Nat.zero_add, Nat.reduceAdd] at hf
        simp only [List.length_cons, List.length_nil, Nat.zero_add, Nat.reduceAdd, List.drop_succ_cons, List.drop_zero]
        obtain ⟨⟨-, -, -, e0⟩, ⟨-, -, -, e1⟩, ⟨-, -, -, e2⟩, ⟨-, -, -, e3⟩, ⟨-, -, -, e4⟩, ⟨-, -, -, e5⟩, ⟨-, -, -, e6⟩, ⟨-, -, -, e7⟩, ⟨-, -, -, e8⟩, ⟨-, -, -, e9⟩, ⟨-, -, -, e10⟩, ⟨-, -, -, e11⟩, ⟨-, -, -, e12⟩, ⟨-, -, -, e13⟩, ⟨-, -, -, e14⟩, ⟨-, -, -, e15⟩, ⟨-, -, -, e16⟩, ⟨-, -, -, e17⟩, ⟨-, -, -, e18⟩, ⟨-, -, -, e19⟩, ⟨-, -, -, e20⟩, ⟨-, -, -, e21⟩, ⟨-, -, -, e22⟩, ⟨-, -, -, e23⟩, ⟨-, -, -, e24⟩, ⟨-, -, -, e25⟩, ⟨-, -, -, e26⟩⟩ := hf
        rw [e0, e1, e2, e3, e4, e5, e6, e7, e8, e9, e10, e11, e12, e13, e14, e15, e16, e17, e18, e19, e20, e21, e22, e23, e24, e25, e26]
        clear e0 e1 e2 e3 e4 e5 e6 e7 e8 e9 e10 e11 e12 e13 e14 e15 e16 e17 e18 e19 e20 e21 e22 e23 e24 e25 e26
        clear ha V lo up
        have hx := hr
        clear hr
        try clear hc hz
        obtain ⟨hc, hz⟩ := hx.cells
        go_wp2
        go_ret
        exact ⟨rfl, (by (repeat (first | refine Ext.setCell ?_ (by first | (simp; done) | (simp; omega) | omega) _ | refine Ext.alloc ?_ _ | refine Ext.drew ?_ | refine Ext.setRow ?_ (by omega) _)); first | exact Ext.refl _ | exact hx | (refine Ext.trans ?_ hx; (repeat (refine Ext.alloc ?_ _)); exact Ext.refl _))⟩
    · cases h3 : (rv e && rv f)
      · rw [show triR a b c d e f = false by simp [triR, okT, h1, h2, h3]]
        have H1 := Lib.hid h1; clear h1
        have H2 := Lib.hid h2; clear h2
        have H3 := Lib.hid h3; clear h3
        go_enter Try.func23, Try.ntmps23
        go_wp2
        apply wp_region_zip [isv _, isv _, isv _, isv _, isv _, isv _, isv _, isv _, isv _, isv _, isv _, isv _, isv _, isv _, isv _, isv _, isv _, isv _, isv _, isv _, isv _, isv _, isv _, isv _, isv _, isv _, isv _] _ (by kernel_rfl)
        case hA => intro V; simp [putAll, dstOf, Act.put]; exact rfl
        case hsl => intro V; exact rfl
        case step =>
          intro V lo up w' hr
          obtain ⟨hcr, hzr⟩ := hr.cells
          simp only [zipOk, depsImp, isv, waits, Region.binds, List.map_nil, List.nil_append, List.filterMap_cons, List.filterMap_nil, ↓reduceIte, true_implies, List.getD_cons_zero, List.getD_cons_succ, and_true]
          refine ⟨?_, ?_, ?_, ?_, ?_, ?_, ?_, ?_, ?_, ?_, ?_, ?_, ?_, ?_, ?_, ?_, ?_, ?_, ?_, ?_, ?_, ?_, ?_, ?_, ?_, ?_, ?_⟩
          all_goals
            intros
            go_wp2_with (first | (go_at_call 46; (with_reducible refine (spec_SharedValid a b true H1.out _).mono ?_); rintro e w1 ⟨rfl, hy⟩) | (go_at_call 46; (with_reducible refine (spec_SharedValid c d true H2.out _).mono ?_); rintro e w1 ⟨rfl, hy⟩) | (go_at_call 46; (with_reducible refine (spec_SharedValid e f false H3.out _).mono ?_); rintro e w1 ⟨rfl, hy⟩))
            refine stepQ_mk rfl (by simp only [List.getElem?_toArray, List.getElem?_cons_succ, List.getElem?_cons_zero]; exact rfl) ?_
            first | exact ⟨hy, rfl⟩ | exact ⟨Ext.refl _, rfl⟩ | exact ⟨Ext.refl _, by assumption⟩ | exact ⟨(Ext.refl _).alloc _, rfl, by simp, Blk.new _ _ _⟩
        case hB => kernel_rfl
        case fin =>
          intro V lo up w' hr hf ha
          simp only [factsOk, isv, List.map_nil, and_true, Nat.zero_add, Nat.reduceAdd] at hf
          simp only [List.length_cons, List.length_nil, Nat.zero_add, Nat.reduceAdd, List.drop_succ_cons, List.drop_zero]
          obtain ⟨⟨-, -, -, e0⟩, ⟨-, -, -, e1⟩, ⟨-, -, -, e2⟩, ⟨-, -, -, e3⟩, ⟨-, -, -, e4⟩, ⟨-, -, -, e5⟩, ⟨-, -, -, e6⟩, ⟨-, -, -, e7⟩, ⟨-, -, -, e8⟩, ⟨-, -, -, e9⟩, ⟨-, -, -, e10⟩, ⟨-, -, -, e11⟩, ⟨-, -, -, e12⟩, ⟨-, -, -, e13⟩, ⟨-, -, -, e14⟩, ⟨-, -, -, e15⟩, ⟨-, -, -, e16⟩, ⟨-, -, -, e17⟩, ⟨-, -, -, e18⟩, ⟨-, -, -, e19⟩, ⟨-, -, -, e20⟩, ⟨-, -, -, e21⟩, ⟨-, -, -, e22⟩, ⟨-, -, -, e23⟩, ⟨-, -, -, e24⟩, ⟨-, -, -, e25⟩, ⟨-, -, -, e26⟩⟩ := hf
          rw [e0, e1, e2, e3, e4, e5, e6, e7, e8, e9, e10, e11, e12, e13, e14, e15, e16, e17, e18, e19, e20, e21, e22, e23, e24, e25, e26]
          clear e0 e1 e2 e3 e4 e5 e6 e7 e8 e9 e10 e11 e12 e13 e14 e15 e16 e17 e18 e19 e20 e21 e22 e23 e24 e25 e26
          clear ha V lo up
          have hx := hr
          clear hr
          try clear hc hz
          obtain ⟨hc, hz⟩ := hx.cells
          go_wp2
          go_ret
          exact ⟨rfl, (by (repeat (first | refine Ext.setCell ?_ (by first | (simp; done) | (simp; omega) | omega) _ | refine Ext.alloc ?_ _ | refine Ext.drew ?_ | refine Ext.setRow ?_ (by omega) _)); first | exact Ext.refl _ | exact hx | (refine Ext.trans ?_ hx; (repeat (refine Ext.alloc ?_ _)); exact Ext.refl _))⟩
      · rw [show triR a b c d e f = (addR e f == prodT a b c d) by simp [triR, okT, h1, h2, h3]]
        have H1 := Lib.hid h1; clear h1
        have H2 := Lib.hid h2; clear h2
        have H3 := Lib.hid h3; clear h3
        go_enter Try.func23, Try.ntmps23
        go_wp2
        apply wp_region_zip [isv _, isv _, isv _, isv _, isv _, isv _, isv _, isv _, isv _, isv _, isv _, isv _, isv _, isv _, isv _, isv _, isv _, isv _, isv _, isv _, isv _, isv _, isv _, isv _, isv _, isv _, isv _] _ (by kernel_rfl)
        case hA => intro V; simp [putAll, dstOf, Act.put]; exact rfl
        case hsl => intro V; exact rfl
        case step =>
          intro V lo up w' hr
          obtain ⟨hcr, hzr⟩ := hr.cells
          simp only [zipOk, depsImp, isv, waits, Region.binds, List.map_nil, List.nil_append, List.filterMap_cons, List.filterMap_nil, ↓reduceIte, true_implies, List.getD_cons_zero, List.getD_cons_succ, and_true]
          refine ⟨?_, ?_, ?_, ?_, ?_, ?_, ?_, ?_, ?_, ?_, ?_, ?_, ?_, ?_, ?_, ?_, ?_, ?_, ?_, ?_, ?_, ?_, ?_, ?_, ?_, ?_, ?_⟩
          all_goals
            intros
            go_wp2_with (first | (go_at_call 46; (with_reducible refine (spec_SharedValid a b true H1.out _).mono ?_); rintro e w1 ⟨rfl, hy⟩) | (go_at_call 46; (with_reducible refine (spec_SharedValid c d true H2.out _).mono ?_); rintro e w1 ⟨rfl, hy⟩) | (go_at_call 46; (with_reducible refine (spec_SharedValid e f true H3.out _).mono ?_); rintro e w1 ⟨rfl, hy⟩) | (go_at_call 53; (with_reducible refine (spec_JoinShares _ _ _).mono ?_); rintro e w1 ⟨rfl, hy⟩) | (go_at_call 54; (with_reducible refine (spec_MulRing _ _ _).mono ?_); rintro e w1 ⟨rfl, rfl⟩))
            refine stepQ_mk rfl (by simp only [List.getElem?_toArray, List.getElem?_cons_succ, List.getElem?_cons_zero]; exact rfl) ?_
            first | exact ⟨hy, rfl⟩ | exact ⟨Ext.refl _, rfl⟩ | exact ⟨Ext.refl _, by assumption⟩ | exact ⟨(Ext.refl _).alloc _, rfl, by simp, Blk.new _ _ _⟩
        case hB => kernel_rfl
        case fin =>
          intro V lo up w' hr hf ha
          simp only [factsOk, isv, List.map_nil, and_true, Nat.zero_add, Nat.reduceAdd] at hf
          simp only [List.length_cons, List.length_nil, Nat.zero_add, Nat.reduceAdd, List.drop_succ_cons, List.drop_zero]
          obtain ⟨⟨-, -, -, e0⟩, ⟨-, -, -, e1⟩, ⟨-, -, -, e2⟩, ⟨-, -, -, e3⟩, ⟨-, -, -, e4⟩, ⟨-, -, -, e5⟩, ⟨-, -, -, e6⟩, ⟨-, -, -, e7⟩, ⟨-, -, -, e8⟩, ⟨-, -, -, e9⟩, ⟨-, -, -, e10⟩, ⟨-, -, -, e11⟩, ⟨-, -, -, e12⟩, ⟨-, -, -, e13⟩, ⟨-, -, -, e14⟩, ⟨-, -, -, e15⟩, ⟨-, -, -, e16⟩, ⟨-, -, -, e17⟩, ⟨-, -, -, e18⟩, ⟨-, -, -, e19⟩, ⟨-, -, -, e20⟩, ⟨-, -, -, e21⟩, ⟨-, -, -, e22⟩, ⟨-, -, -, e23⟩, ⟨-, -, -, e24⟩, ⟨-, -, -, e25⟩, ⟨-, -, -, e26⟩⟩ := hf
          rw [e0, e1, e2, e3, e4, e5, e6, e7, e8, e9, e10, e11, e12, e13, e14, e15, e16, e17, e18, e19, e20, e21, e22, e23, e24, e25, e26]
          clear e0 e1 e2 e3 e4 e5 e6 e7 e8 e9 e10 e11 e12 e13 e14 e15 e16 e17 e18 e19 e20 e21 e22 e23 e24 e25 e26
          clear ha V lo up
          have hx := hr
          clear hr
          try clear hc hz
          obtain ⟨hc, hz⟩ := hx.cells
          go_wp2
          go_ret
          exact ⟨rfl, (by (repeat (first | refine Ext.setCell ?_ (by first | (simp; done) | (simp; omega) | omega) _ | refine Ext.alloc ?_ _ | refine Ext.drew ?_ | refine Ext.setRow ?_ (by omega) _)); first | exact Ext.refl _ | exact hx | (refine Ext.trans ?_ hx; (repeat (refine Ext.alloc ?_ _)); exact Ext.refl _))⟩
end Go.Proofs.Ytokjdaknfkleeaa
