/- Triples that are drawn from a code. -/
import Derived.Test.YtokjdaknfkleeaaDraw5
namespace Go.Proofs.Ytokjdaknfkleeaa
set_option linter.unusedSimpArgs false
set_option linter.unusedVariables false
open Go.RowKit
/-- Six numbers. -/
def IsTri (v : Value) : Prop := ∃ a b c d e f : Int, v = .agg #[.int .i64 a, .int .i64 b, .int .i64 c, .int .i64 d, .int .i64 e, .int .i64 f]

set_option maxHeartbeats 4000000 in
theorem tri20 (g P : Nat) (n : Int) (HN : Bnd n) (HP : Room (P + 60)) (w : World) (hr : Rdr g P w) : Calls Try.prog 60 #[.pointer (some ⟨g, 0, none⟩), .int .i64 n] w (Drawn g (P + 60) IsTri w) := by
  have hlt := hr.lt
  go_enter Try.func60, Try.ntmps60
  go_wp2_with (fail)
  (with_reducible refine (seed20 g _ 0 ⟨by omega, by omega⟩ (HP.le (by omega)) _ (hr.keep ((Ext.refl w).alloc _))).mono ?_)
  rintro e w1 ⟨v, rfl, ⟨s, rfl, hs⟩, hr1, hm1⟩
  clear hs
  have k0 := hm1.blk (Blk.new _ _ _) (by omega)
  replace hm1 := (Mod.of_ext ((Ext.refl w).alloc _)).trans hm1
  go_wp2_with (fail)
  (with_reducible refine (spec_MakeTriple s _).mono ?_)
  rintro e wt ⟨rfl, xt⟩
  replace hr1 := hr1.keep xt
  replace k0 := k0.keep xt
  replace hm1 := hm1.trans (Mod.of_ext xt)
  clear xt
  generalize tA s = a at *
  generalize tB s = b at *
  generalize tC s = c at *
  generalize tD s = d at *
  generalize tE s = h at *
  generalize tF s = j at *
  generalize tN s = m at *
  go_wp2_with (fail)
  (with_reducible refine (odd g _ _ HN (HP.le (by omega)) _ (hr1.keep ((Ext.refl wt).alloc _))).mono ?_)
  rintro e w2 ⟨v, rfl, ⟨b2, rfl⟩, hr2, hm2⟩
  have lt1 := hr1.lt
  have lk0 := k0.lt
  have k1 := hm2.blk (Blk.new _ _ _) (by omega)
  replace k0 := hm2.blk (k0.old _) (by omega)
  replace hm2 := hm1.trans ((Mod.of_ext ((Ext.refl wt).alloc _)).trans hm2)
  clear hm1 hr1 hr
  have d01 : w.heap.size ≠ wt.heap.size := by omega
  have d10 : wt.heap.size ≠ w.heap.size := by omega
  have lw : w.heap.size ≤ wt.heap.size := by omega
  have lg : g < wt.heap.size := by omega
  clear lt1 lk0
  cases b2
  · obtain ⟨c00, c01, c02, c03, c04, c05⟩ := k0.six
    obtain ⟨c10, c11, c12, c13, c14, c15⟩ := k1.six
    have f0 := k0.free
    have f1 := k1.free
    have HM := Kept.mk (hm2); clear hm2
    clear k0 k1
    go_wp2
    exact bodyPost_ret (v := .agg #[.int .i64 a, .int .i64 b, .int .i64 c, .int .i64 d, .int .i64 h, .int .i64 j]) (by simp [results, Try.results60, go_sem, *]) rfl ⟨_, rfl, ⟨_, _, _, _, _, _, rfl⟩, Rdr.mono ((((((((((((hr2).set (by omega) _ _)).set (by omega) _ _)).set (by omega) _ _)).set (by omega) _ _)).set (by omega) _ _)).set (by omega) _ _) (by omega) HP, ((((((((((((HM.out).setNew (by omega) _ _)).setNew (by omega) _ _)).setNew (by omega) _ _)).setNew (by omega) _ _)).setNew (by omega) _ _)).setNew (by omega) _ _)⟩

  · go_wp2_with (fail)
    (with_reducible refine (pick g _ _ (HP.le (by omega)) _ hr2).mono ?_)
    rintro e w3 ⟨v, rfl, ⟨x3, rfl, h3, z3⟩, hr3, hm3⟩
    have l3 := h3 (by omega)
    clear h3 z3
    replace k0 := hm3.blk k0 (by omega)
    replace k1 := hm3.blk k1 (by omega)
    replace hm3 := hm2.trans hm3
    clear hm2 hr2
    by_cases e3 : x3 = 0
    · subst e3
      obtain ⟨c00, c01, c02, c03, c04, c05⟩ := k0.six
      obtain ⟨c10, c11, c12, c13, c14, c15⟩ := k1.six
      have f0 := k0.free
      have f1 := k1.free
      have HM := Kept.mk (hm3); clear hm3
      clear k0 k1
      go_wp2_with (fail)
      (with_reducible refine (spec_l1Ring _ _).mono ?_)
      rintro e wr ⟨rfl, rfl⟩
      generalize ring _ = h'
      go_wp2
      exact bodyPost_ret (v := .agg #[.int .i64 a, .int .i64 b, .int .i64 c, .int .i64 d, .int .i64 h', .int .i64 j]) (by simp [results, Try.results60, go_sem, *]) rfl ⟨_, rfl, ⟨_, _, _, _, _, _, rfl⟩, Rdr.mono ((((((((((((((hr3).set (by omega) _ _)).set (by omega) _ _)).set (by omega) _ _)).set (by omega) _ _)).set (by omega) _ _)).set (by omega) _ _)).set (by omega) _ _) (by omega) HP, ((((((((((((((HM.out).setNew (by omega) _ _)).setNew (by omega) _ _)).setNew (by omega) _ _)).setNew (by omega) _ _)).setNew (by omega) _ _)).setNew (by omega) _ _)).setNew (by omega) _ _)⟩

    · have e4 : ((x3 : Int) == 0) = false := by simp; omega
      by_cases e5 : x3 = 1
      · subst e5
        go_wp2_with (fail)
        (with_reducible refine (sh20 g _ 1 ⟨by omega, by omega⟩ (HP.le (by omega)) _ hr3).mono ?_)
        rintro e w4 ⟨v, rfl, ⟨a', b', rfl, -, -⟩, hr4, hm4⟩
        replace k0 := hm4.blk k0 (by omega)
        replace k1 := hm4.blk k1 (by omega)
        replace hm4 := hm3.trans hm4
        clear hm3 hr3
        obtain ⟨c00, c01, c02, c03, c04, c05⟩ := k0.six
        obtain ⟨c10, c11, c12, c13, c14, c15⟩ := k1.six
        have f0 := k0.free
        have f1 := k1.free
        have HM := Kept.mk (hm4); clear hm4
        clear k0 k1
        go_wp2
        exact bodyPost_ret (v := .agg #[.int .i64 a', .int .i64 b', .int .i64 c, .int .i64 d, .int .i64 h, .int .i64 j]) (by simp [results, Try.results60, go_sem, *]) rfl ⟨_, rfl, ⟨_, _, _, _, _, _, rfl⟩, Rdr.mono ((((((((((((((((hr4).set (by omega) _ _)).set (by omega) _ _)).set (by omega) _ _)).set (by omega) _ _)).set (by omega) _ _)).set (by omega) _ _)).set (by omega) _ _)).set (by omega) _ _) (by omega) HP, ((((((((((((((((HM.out).setNew (by omega) _ _)).setNew (by omega) _ _)).setNew (by omega) _ _)).setNew (by omega) _ _)).setNew (by omega) _ _)).setNew (by omega) _ _)).setNew (by omega) _ _)).setNew (by omega) _ _)⟩

      · have e6 : ((x3 : Int) == 1) = false := by simp; omega
        clear e3 e5 l3
        go_wp2_with (fail)
        have hlt3 := hr3.lt
        have lk1 := k1.lt
        apply wp_region_zipJ (Mod.rel g) (fun m w' => Rdr g (P + 30 + 2 * (10 - m)) w') [isv _, isv _, isv _, isv _, isv _, isP AnInt, isP AnInt, isP AnInt, isv _, isv _] _ ?hJ (by kernel_rfl)
        case hJ => exact (hr3.keep ⟨rfl, rfl, rfl, Nat.le_refl _, fun _ _ => rfl⟩).mono (by first | (simp; done) | (simp; omega)) (HP.le (by first | (simp; done) | (simp; omega)))
        case hA => intro V; simp [putAll, dstOf, Act.put]; exact rfl
        case hsl => intro V; exact rfl
        case step =>
          intro V lo up w' hr m hm hj
          simp only [List.length_cons, List.length_nil, Nat.zero_add, Nat.reduceAdd] at hm
          have RJ : Rdr g (P + 30 + 2 * (10 - m)) w' := hj.mono (by omega) (HP.le (by omega))
          have k1 := hr.blk k1 (by omega)
          obtain ⟨c10, c11, c12, c13, c14, c15⟩ := k1.six
          simp only [zipOkJ, depsImp, isv, isP, waits, Region.binds, List.map_nil, List.nil_append, List.filterMap_cons, List.filterMap_nil, ↓reduceIte, modeNe, Bool.false_eq_true, true_implies, List.getD_cons_zero, List.getD_cons_succ, and_true]
          refine ⟨?_, ?_, ?_, ?_, ?_, ?_, ?_, ?_, ?_, ?_⟩
          · intros
            go_wp2
            refine stepQ_mk rfl (by simp only [List.getElem?_toArray, List.getElem?_cons_succ, List.getElem?_cons_zero]; exact rfl) ?_
            exact ⟨Mod.refl _ _, rfl, RJ⟩
          · intros
            go_wp2
            refine stepQ_mk rfl (by simp only [List.getElem?_toArray, List.getElem?_cons_succ, List.getElem?_cons_zero]; exact rfl) ?_
            exact ⟨Mod.refl _ _, rfl, RJ⟩
          · intros
            go_wp2
            refine stepQ_mk rfl (by simp only [List.getElem?_toArray, List.getElem?_cons_succ, List.getElem?_cons_zero]; exact rfl) ?_
            exact ⟨Mod.refl _ _, rfl, RJ⟩
          · intros
            go_wp2
            refine stepQ_mk rfl (by simp only [List.getElem?_toArray, List.getElem?_cons_succ, List.getElem?_cons_zero]; exact rfl) ?_
            exact ⟨Mod.refl _ _, rfl, RJ⟩
          · intros
            go_wp2
            refine stepQ_mk rfl (by simp only [List.getElem?_toArray, List.getElem?_cons_succ, List.getElem?_cons_zero]; exact rfl) ?_
            exact ⟨Mod.refl _ _, rfl, RJ⟩
          · intros
            go_wp2_with (fail)
            (with_reducible refine (pick g _ _ (HP.le (by omega)) _ hj).mono ?_)
            rintro e w5 ⟨v, rfl, ⟨x, rfl, -, -⟩, hr5, hm5⟩
            go_wp2
            refine stepQ_mk rfl (by simp only [List.getElem?_toArray, List.getElem?_cons_succ, List.getElem?_cons_zero]; exact rfl) ?_
            exact ⟨hm5, ⟨_, rfl⟩, hr5.mono (by omega) (HP.le (by omega))⟩
          · intro _ _ _ e3 _ _ _ ⟨y, ey⟩
            intros
            go_wp2
            refine stepQ_mk rfl (by simp only [List.getElem?_toArray, List.getElem?_cons_succ, List.getElem?_cons_zero]; exact rfl) ?_
            exact ⟨Mod.refl _ _, ⟨_, rfl⟩, RJ⟩
          · intro _ _ _ ⟨y, ey⟩
            intros
            rename_i e66
            obtain ⟨y6, ey6⟩ := e66
            go_wp2_with (fail)
            (with_reducible refine (spec_l1Ring _ _).mono ?_)
            rintro e w5 ⟨rfl, rfl⟩
            go_wp2
            refine stepQ_mk rfl (by simp only [List.getElem?_toArray, List.getElem?_cons_succ, List.getElem?_cons_zero]; exact rfl) ?_
            exact ⟨Mod.refl _ _, ⟨_, rfl⟩, RJ⟩
          · intros
            go_wp2
            refine stepQ_mk rfl (by simp only [List.getElem?_toArray, List.getElem?_cons_succ, List.getElem?_cons_zero]; exact rfl) ?_
            exact ⟨Mod.refl _ _, rfl, RJ⟩
          · intros
            go_wp2
            refine stepQ_mk rfl (by simp only [List.getElem?_toArray, List.getElem?_cons_succ, List.getElem?_cons_zero]; exact rfl) ?_
            exact ⟨Mod.refl _ _, rfl, RJ⟩
        case hB => kernel_rfl
        case fin =>
          intro V lo up w' hr hj hf ha
          simp only [factsOk, isv, isP, List.map_nil, and_true, Nat.zero_add, Nat.reduceAdd] at hf
          simp only [List.length_cons, List.length_nil, Nat.zero_add, Nat.reduceAdd, List.drop_succ_cons, List.drop_zero]
          obtain ⟨-, -, -, -, -, -, -, ⟨-, -, -, z, e7⟩, -, ⟨-, -, -, e9⟩⟩ := hf
          rw [e7, e9]
          clear e7 e9 ha
          have hr4 : Rdr g (P + 50) w' := hj.mono (by omega) (HP.le (by omega))
          clear hj hr3
          replace k0 := hr.blk k0 (by omega)
          replace k1 := hr.blk k1 (by omega)
          replace hm3 := hm3.trans hr
          clear hr
          obtain ⟨c00, c01, c02, c03, c04, c05⟩ := k0.six
          obtain ⟨c10, c11, c12, c13, c14, c15⟩ := k1.six
          have f0 := k0.free
          have f1 := k1.free
          have HM := Kept.mk (hm3); clear hm3
          clear k0 k1
          go_wp2
          exact bodyPost_ret (v := .agg #[.int .i64 a, .int .i64 b, .int .i64 c, .int .i64 z, .int .i64 h, .int .i64 j]) (by simp [results, Try.results60, go_sem, *]) rfl ⟨_, rfl, ⟨_, _, _, _, _, _, rfl⟩, Rdr.mono ((((((((((((((hr4).set (by omega) _ _)).set (by omega) _ _)).set (by omega) _ _)).set (by omega) _ _)).set (by omega) _ _)).set (by omega) _ _)).set (by omega) _ _) (by omega) HP, ((((((((((((((HM.out).setNew (by omega) _ _)).setNew (by omega) _ _)).setNew (by omega) _ _)).setNew (by omega) _ _)).setNew (by omega) _ _)).setNew (by omega) _ _)).setNew (by omega) _ _)⟩

set_option maxHeartbeats 2000000 in
theorem spec_DrawTripleRight (v : Value) (w : World) (hb : Bytes w v) : Calls Try.prog 38 #[v] w fun e w' => ∃ a b c d h j : Int, e = .returned (.agg #[.int .i64 a, .int .i64 b, .int .i64 c, .int .i64 d, .int .i64 h, .int .i64 j]) ∧ Ext w w' := by
  go_enter Try.func38, Try.ntmps38
  go_wp2_with (fail)
  (with_reducible refine (open' _ _ (hb.ext ((Ext.refl w).alloc _))).mono ?_)
  rintro e w1 ⟨g, rfl, hg, hr1, hx1⟩
  simp only [World.size_alloc] at hg
  have k0 := (Blk.new w _ _).keep hx1
  have HX := Kept.mk (((Ext.refl w).alloc _).trans hx1); clear hx1
  have HP : Room 100 := ⟨by omega⟩
  go_wp2_with (fail)
  (with_reducible refine (tri20 g _ 2 ⟨by omega, by omega⟩ (HP.le (by omega)) _ hr1).mono ?_)
  rintro e w2 ⟨v, rfl, ⟨a, b, c, d, h, j, rfl⟩, hr2, hm2⟩
  replace k0 := hm2.blk k0 (by omega)
  have HY := Kept.mk (Mod.ext HX.out hm2 (by omega)); clear HX hm2
  obtain ⟨c00, c01, c02, c03, c04, c05⟩ := k0.six
  have f0 := k0.free
  go_wp2
  exact bodyPost_ret (v := .agg #[.int .i64 a, .int .i64 b, .int .i64 c, .int .i64 d, .int .i64 h, .int .i64 j]) (by simp [results, Try.results38, go_sem, *]) rfl ⟨_, _, _, _, _, _, rfl, ((((((((((((HY.out).setCell (by simp) _)).setCell (by simp) _)).setCell (by simp) _)).setCell (by simp) _)).setCell (by simp) _)).setCell (by simp) _)⟩

end Go.Proofs.Ytokjdaknfkleeaa
