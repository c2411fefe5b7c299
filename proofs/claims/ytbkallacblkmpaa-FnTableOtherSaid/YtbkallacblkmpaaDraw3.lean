/- Shares and seeds that are drawn from a code. -/
import Derived.Test.YtbkallacblkmpaaDraw2
namespace Go.Proofs.Ytbkallacblkmpaa
set_option linter.unusedSimpArgs false
set_option linter.unusedVariables false
open Go.RowKit
/-- A pair of shares. -/
def IsSh (v : Value) : Prop := ∃ a b : Int, v = .agg #[.int .i64 a, .int .i64 b] ∧ In40 a ∧ In40 b

set_option maxHeartbeats 2000000 in
theorem sh20 (g P : Nat) (n : Int) (HN : Bnd n) (HP : Room (P + 20)) (w : World) (hr : Rdr g P w) : Calls Try.prog 53 #[.pointer (some ⟨g, 0, none⟩), .int .i64 n] w (Drawn g (P + 20) IsSh w) := by
  have hlt := hr.lt
  go_enter Try.func53, Try.ntmps53
  go_wp2_with (fail)
  (with_reducible refine (ring20 g _ 0 ⟨by omega, by omega⟩ (HP.le (by omega)) _ (hr.keep ((Ext.refl w).alloc _))).mono ?_)
  rintro e w1 ⟨v, rfl, ⟨x1, rfl, N1⟩, hr1, hm1⟩
  have k0 := hm1.blk (Blk.new _ _ _) (by omega)
  replace hm1 := (Mod.of_ext ((Ext.refl w).alloc _)).trans hm1
  go_wp2_with (fail)
  (with_reducible refine (ring20 g _ 0 ⟨by omega, by omega⟩ (HP.le (by omega)) _ (hr1)).mono ?_)
  rintro e w2 ⟨v, rfl, ⟨x2, rfl, N2⟩, hr2, hm2⟩
  replace k0 := hm2.blk k0 (by omega)
  replace hm2 := hm1.trans hm2
  clear hm1
  have hs2 := k0.lt
  have d01 : w.heap.size ≠ w2.heap.size := by omega
  have d10 : w2.heap.size ≠ w.heap.size := by omega
  go_wp2_with (fail)
  (with_reducible refine (odd g _ _ HN (HP.le (by omega)) _ (hr2.keep ((Ext.refl w2).alloc _))).mono ?_)
  rintro e w3 ⟨v, rfl, ⟨b3, rfl⟩, hr3, hm3⟩
  have k1 := hm3.blk (Blk.new _ _ _) (by omega)
  replace k0 := hm3.blk (k0.old _) (by omega)
  replace hm3 := hm2.trans ((Mod.of_ext ((Ext.refl w2).alloc _)).trans hm3)
  clear hm2
  cases b3
  · obtain ⟨c00, c01⟩ := k0.two
    obtain ⟨c10, c11⟩ := k1.two
    have f0 := k0.free
    have f1 := k1.free
    have HM := Lib.hid hm3; clear hm3
    go_wp2
    exact bodyPost_ret (v := .agg #[.int .i64 x1, .int .i64 x2]) (by simp [results, Try.results53, go_sem, *]) rfl ⟨_, rfl, ⟨x1, x2, rfl, N1, N2⟩, Rdr.mono ((((hr3).set (by omega) _ _)).set (by omega) _ _) (by omega) HP, ((((HM.out).setNew (by omega) _ _)).setNew (by omega) _ _)⟩
  · go_wp2_with (fail)
    (with_reducible refine (pick g _ _ (HP.le (by omega)) _ hr3).mono ?_)
    rintro e w4 ⟨v, rfl, ⟨x4, rfl, h4, z4⟩, hr4, hm4⟩
    have l4 := h4 (by omega)
    clear h4 z4
    replace k0 := hm4.blk k0 (by omega)
    replace k1 := hm4.blk k1 (by omega)
    replace hm4 := hm3.trans hm4
    clear hm3
    by_cases e4 : x4 = 0
    · subst e4
      go_wp2_with (fail)
      (with_reducible refine (pick g _ _ (HP.le (by omega)) _ (Rdr.keep hr4 ((Ext.refl w4).alloc _))).mono ?_)
      rintro e w5 ⟨v, rfl, ⟨x5, rfl, h5, z5⟩, hr5, hm5⟩
      have l5 : (x5 : Int) < 2 := h5 (by omega)
      obtain ⟨y5, hy5, lo5, hi5⟩ := hm5.pick (Blk.new _ _ _) (by have := hr4.lt; omega) l5 (-1) 1099511627776 (by
        intro i hi
        have hi' : i = 0 ∨ i = 1 := by omega
        clear hi
        rcases hi' with rfl | rfl <;> exact ⟨_, rfl, by omega, by omega⟩)
      replace k0 := hm5.blk (k0.old _) (by omega)
      replace k1 := hm5.blk (k1.old _) (by omega)
      replace hm5 := (Mod.of_ext ((Ext.refl w4).alloc _)).trans hm5
      have N5 : In40 y5 := ⟨lo5, hi5⟩
      clear h5 z5 lo5 hi5
      obtain ⟨c00, c01⟩ := k0.two
      obtain ⟨c10, c11⟩ := k1.two
      have f0 := k0.free
      have f1 := k1.free
      have HM := Lib.hid (hm4.trans hm5); clear hm4 hm5
      go_wp2
      exact bodyPost_ret (v := .agg #[.int .i64 y5, .int .i64 x2]) (by simp [results, Try.results53, go_sem, *]) rfl ⟨_, rfl, ⟨y5, x2, rfl, N5, N2⟩, Rdr.mono ((((((hr5).set (by omega) _ _)).set (by omega) _ _)).set (by omega) _ _) (by omega) HP, ((((((HM.out).setNew (by omega) _ _)).setNew (by omega) _ _)).setNew (by omega) _ _)⟩
    · have e5 : ((x4 : Int) == 0) = false := by simp; omega
      clear e4
      go_wp2_with (fail)
      (with_reducible refine (pick g _ _ (HP.le (by omega)) _ (Rdr.keep hr4 ((Ext.refl w4).alloc _))).mono ?_)
      rintro e w5 ⟨v, rfl, ⟨x5, rfl, h5, z5⟩, hr5, hm5⟩
      have l5 : (x5 : Int) < 2 := h5 (by omega)
      obtain ⟨y5, hy5, lo5, hi5⟩ := hm5.pick (Blk.new _ _ _) (by have := hr4.lt; omega) l5 (-1) 1099511627776 (by
        intro i hi
        have hi' : i = 0 ∨ i = 1 := by omega
        clear hi
        rcases hi' with rfl | rfl <;> exact ⟨_, rfl, by omega, by omega⟩)
      replace k0 := hm5.blk (k0.old _) (by omega)
      replace k1 := hm5.blk (k1.old _) (by omega)
      replace hm5 := (Mod.of_ext ((Ext.refl w4).alloc _)).trans hm5
      have N5 : In40 y5 := ⟨lo5, hi5⟩
      clear h5 z5 lo5 hi5
      obtain ⟨c00, c01⟩ := k0.two
      obtain ⟨c10, c11⟩ := k1.two
      have f0 := k0.free
      have f1 := k1.free
      have HM := Lib.hid (hm4.trans hm5); clear hm4 hm5
      go_wp2
      exact bodyPost_ret (v := .agg #[.int .i64 x1, .int .i64 y5]) (by simp [results, Try.results53, go_sem, *]) rfl ⟨_, rfl, ⟨x1, y5, rfl, N1, N5⟩, Rdr.mono ((((((hr5).set (by omega) _ _)).set (by omega) _ _)).set (by omega) _ _) (by omega) HP, ((((((HM.out).setNew (by omega) _ _)).setNew (by omega) _ _)).setNew (by omega) _ _)⟩

end Go.Proofs.Ytbkallacblkmpaa
