/- What the Draw functions of the shares' laws return. -/
import Derived.Test.YtokjdaknfkleeaaDraw3
namespace Go.Proofs.Ytokjdaknfkleeaa
open Go.RowKit

set_option maxHeartbeats 2000000 in
theorem spec_DrawAddShares (v : Value) (w : World) (hb : Bytes w v) : Calls Try.prog 33 #[v] w fun e w' => ∃ a0 b0 a1 b1 : Int, e = .returned (.tuple #[.agg #[.int .i64 a0, .int .i64 b0], .agg #[.int .i64 a1, .int .i64 b1]]) ∧ In40 a0 ∧ In40 b0 ∧ In40 a1 ∧ In40 b1 ∧ Ext w w' := by
  go_enter Try.func33, Try.ntmps33
  go_wp2_with (fail)
  (with_reducible refine (open' _ _ (hb.ext (((Ext.refl w).alloc _).alloc _))).mono ?_)
  rintro e w1 ⟨g, rfl, hg, hr1, hx1⟩
  simp only [World.size_alloc] at hg
  have k0 := ((Blk.new w #[.int .i64 0, .int .i64 0] 24).old _).keep hx1
  have k1 := (Blk.new (w.alloc (.cells #[.int .i64 0, .int .i64 0] 24)) #[.int .i64 0, .int .i64 0] 24).keep hx1
  simp only [World.size_alloc] at k1
  have HX := Lib.hid ((((Ext.refl w).alloc _).alloc _).trans hx1); clear hx1
  have HP : Room 100 := ⟨by omega⟩
  go_wp2_with (fail)
  (with_reducible refine (sh20 g _ 12 ⟨by omega, by omega⟩ (HP.le (by omega)) _ hr1).mono ?_)
  rintro e w2 ⟨v, rfl, ⟨a0, b0, rfl, A0, B0⟩, hr2, hm2⟩
  replace k0 := hm2.blk k0 (by omega)
  replace k1 := hm2.blk k1 (by omega)
  go_wp2_with (fail)
  (with_reducible refine (sh20 g _ 12 ⟨by omega, by omega⟩ (HP.le (by omega)) _ hr2).mono ?_)
  rintro e w3 ⟨v, rfl, ⟨a1, b1, rfl, A1, B1⟩, hr3, hm3⟩
  replace k0 := hm3.blk k0 (by omega)
  replace k1 := hm3.blk k1 (by omega)
  have HY := Lib.hid (Mod.ext HX.out (hm2.trans hm3) (by omega)); clear HX hm2 hm3
  obtain ⟨c00, c01⟩ := k0.two
  have f0 := k0.free
  obtain ⟨c10, c11⟩ := k1.two
  have f1 := k1.free
  go_wp2
  exact bodyPost_ret (v := .tuple #[.agg #[.int .i64 a0, .int .i64 b0], .agg #[.int .i64 a1, .int .i64 b1]]) (by simp [results, Try.results33, go_sem, *]) rfl ⟨a0, b0, a1, b1, rfl, A0, B0, A1, B1, ((((((((HY.out).setCell (by simp) _)).setCell (by simp) _)).setCell (by simp) _)).setCell (by simp) _)⟩

set_option maxHeartbeats 2000000 in
theorem spec_DrawSubShares (v : Value) (w : World) (hb : Bytes w v) : Calls Try.prog 34 #[v] w fun e w' => ∃ a0 b0 a1 b1 : Int, e = .returned (.tuple #[.agg #[.int .i64 a0, .int .i64 b0], .agg #[.int .i64 a1, .int .i64 b1]]) ∧ In40 a0 ∧ In40 b0 ∧ In40 a1 ∧ In40 b1 ∧ Ext w w' := by
  go_enter Try.func34, Try.ntmps34
  go_wp2_with (fail)
  (with_reducible refine (spec_DrawAddShares _ _ (hb.ext (((Ext.refl w).alloc _).alloc _))).mono ?_)
  rintro e w1 ⟨a0, b0, a1, b1, rfl, A0, B0, A1, B1, hx1⟩
  have k0 := ((Blk.new w #[.int .i64 0, .int .i64 0] 24).old _).keep hx1
  have k1 := (Blk.new (w.alloc (.cells #[.int .i64 0, .int .i64 0] 24)) #[.int .i64 0, .int .i64 0] 24).keep hx1
  simp only [World.size_alloc] at k1
  have HY := Lib.hid (Ext.trans (((Ext.refl w).alloc _).alloc _) hx1); clear hx1
  obtain ⟨c00, c01⟩ := k0.two
  have f0 := k0.free
  obtain ⟨c10, c11⟩ := k1.two
  have f1 := k1.free
  go_wp2
  exact bodyPost_ret (v := .tuple #[.agg #[.int .i64 a0, .int .i64 b0], .agg #[.int .i64 a1, .int .i64 b1]]) (by simp [results, Try.results34, go_sem, *]) rfl ⟨a0, b0, a1, b1, rfl, A0, B0, A1, B1, ((((((((HY.out).setCell (by simp) _)).setCell (by simp) _)).setCell (by simp) _)).setCell (by simp) _)⟩

set_option maxHeartbeats 2000000 in
theorem spec_DrawAddKnown (v : Value) (w : World) (hb : Bytes w v) : Calls Try.prog 26 #[v] w fun e w' => ∃ a0 b0 a1 : Int, e = .returned (.tuple #[.agg #[.int .i64 a0, .int .i64 b0], .int .i64 a1]) ∧ In40 a0 ∧ In40 b0 ∧ In40 a1 ∧ Ext w w' := by
  go_enter Try.func26, Try.ntmps26
  go_wp2_with (fail)
  (with_reducible refine (open' _ _ (hb.ext ((Ext.refl w).alloc _))).mono ?_)
  rintro e w1 ⟨g, rfl, hg, hr1, hx1⟩
  simp only [World.size_alloc] at hg
  have k0 := (Blk.new w #[.int .i64 0, .int .i64 0] 24).keep hx1
  have HX := Lib.hid (((Ext.refl w).alloc _).trans hx1); clear hx1
  have HP : Room 100 := ⟨by omega⟩
  go_wp2_with (fail)
  (with_reducible refine (sh20 g _ 12 ⟨by omega, by omega⟩ (HP.le (by omega)) _ hr1).mono ?_)
  rintro e w2 ⟨v, rfl, ⟨a0, b0, rfl, A0, B0⟩, hr2, hm2⟩
  replace k0 := hm2.blk k0 (by omega)
  go_wp2_with (fail)
  (with_reducible refine (ring20 g _ 12 ⟨by omega, by omega⟩ (HP.le (by omega)) _ hr2).mono ?_)
  rintro e w3 ⟨v, rfl, ⟨a1, rfl, A1⟩, hr3, hm3⟩
  replace k0 := hm3.blk k0 (by omega)
  have HY := Lib.hid (Mod.ext HX.out (hm2.trans hm3) (by omega)); clear HX hm2 hm3
  obtain ⟨c00, c01⟩ := k0.two
  have f0 := k0.free
  go_wp2
  exact bodyPost_ret (v := .tuple #[.agg #[.int .i64 a0, .int .i64 b0], .int .i64 a1]) (by simp [results, Try.results26, go_sem, *]) rfl ⟨a0, b0, a1, rfl, A0, B0, A1, ((((HY.out).setCell (by simp) _)).setCell (by simp) _)⟩

set_option maxHeartbeats 2000000 in
theorem spec_DrawTimesKnown (v : Value) (w : World) (hb : Bytes w v) : Calls Try.prog 36 #[v] w fun e w' => ∃ a0 b0 a1 : Int, e = .returned (.tuple #[.agg #[.int .i64 a0, .int .i64 b0], .int .i64 a1]) ∧ In40 a0 ∧ In40 b0 ∧ In40 a1 ∧ Ext w w' := by
  go_enter Try.func36, Try.ntmps36
  go_wp2_with (fail)
  (with_reducible refine (spec_DrawAddKnown _ _ (hb.ext ((Ext.refl w).alloc _))).mono ?_)
  rintro e w1 ⟨a0, b0, a1, rfl, A0, B0, A1, hx1⟩
  have k0 := (Blk.new w #[.int .i64 0, .int .i64 0] 24).keep hx1
  have HY := Lib.hid (Ext.trans ((Ext.refl w).alloc _) hx1); clear hx1
  obtain ⟨c00, c01⟩ := k0.two
  have f0 := k0.free
  go_wp2
  exact bodyPost_ret (v := .tuple #[.agg #[.int .i64 a0, .int .i64 b0], .int .i64 a1]) (by simp [results, Try.results36, go_sem, *]) rfl ⟨a0, b0, a1, rfl, A0, B0, A1, ((((HY.out).setCell (by simp) _)).setCell (by simp) _)⟩

end Go.Proofs.Ytokjdaknfkleeaa
