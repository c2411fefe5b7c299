/- What DrawMulShared returns. -/
import Derived.Test.YtokjdaknfkleeaaDrawT
import Derived.Test.YtokjdaknfkleeaaRgnL
namespace Go.Proofs.Ytokjdaknfkleeaa
set_option linter.unusedSimpArgs false
set_option linter.unusedVariables false
open Go.RowKit

set_option maxHeartbeats 2000000 in
theorem spec_DrawMulShared (v : Value) (w : World) (hb : Bytes w v) : Calls Try.prog 44 #[v] w fun e w' => ∃ a b c d p q r s x y : Int, e = .returned (.tuple #[.agg #[.int .i64 a, .int .i64 b], .agg #[.int .i64 c, .int .i64 d], .agg #[.int .i64 p, .int .i64 q, .int .i64 r, .int .i64 s, .int .i64 x, .int .i64 y]]) ∧ Ext w w' := by
  go_enter Try.func44, Try.ntmps44
  go_wp2_with (fail)
  (with_reducible refine (open' _ _ (hb.ext ((((Ext.refl w).alloc _).alloc _).alloc _))).mono ?_)
  rintro e w1 ⟨g, rfl, hg, hr1, hx1⟩
  have k0 := (((Blk.new w #[.int .i64 0, .int .i64 0] 24).old (.cells #[.int .i64 0, .int .i64 0] 24)).old (.cells #[.int .i64 0, .int .i64 0, .int .i64 0, .int .i64 0, .int .i64 0, .int .i64 0] 35)).keep hx1
  have k1 := ((Blk.new (w.alloc (.cells #[.int .i64 0, .int .i64 0] 24)) #[.int .i64 0, .int .i64 0] 24).old (.cells #[.int .i64 0, .int .i64 0, .int .i64 0, .int .i64 0, .int .i64 0, .int .i64 0] 35)).keep hx1
  have k2 := (Blk.new ((w.alloc (.cells #[.int .i64 0, .int .i64 0] 24)).alloc (.cells #[.int .i64 0, .int .i64 0] 24)) #[.int .i64 0, .int .i64 0, .int .i64 0, .int .i64 0, .int .i64 0, .int .i64 0] 35).keep hx1
  simp only [World.size_alloc] at hg k1 k2
  have HX := Kept.mk (((((Ext.refl w).alloc _).alloc _).alloc _).trans hx1); clear hx1
  have HP : Room 200 := ⟨by omega⟩
  go_wp2_with (fail)
  (with_reducible refine (sh20 g _ 14 ⟨by omega, by omega⟩ (HP.le (by omega)) _ hr1).mono ?_)
  rintro e w2 ⟨v, rfl, ⟨a, b, rfl, -, -⟩, hr2, hm2⟩
  replace k0 := hm2.blk k0 (by omega)
  replace k1 := hm2.blk k1 (by omega)
  replace k2 := hm2.blk k2 (by omega)
  have lt2 := hr2.lt
  go_wp2_with (fail)
  (with_reducible refine (sh20 g _ 14 ⟨by omega, by omega⟩ (HP.le (by omega)) _ (hr2.keep ((Ext.refl w2).alloc _))).mono ?_)
  rintro e w3 ⟨v, rfl, ⟨c, d, rfl, -, -⟩, hr3, hm3⟩
  have kA := hm3.blk (Blk.new w2 #[.int .i64 a, .int .i64 b] 24) (by omega)
  replace k0 := hm3.blk (k0.old _) (by omega)
  replace k1 := hm3.blk (k1.old _) (by omega)
  replace k2 := hm3.blk (k2.old _) (by omega)
  have HM := Kept.mk (hm2.trans ((Mod.of_ext ((Ext.refl w2).alloc _)).trans hm3)); clear hm2 hm3
  have lt3 := hr3.lt
  have lA := kA.lt
  have kB := Blk.new w3 #[.int .i64 c, .int .i64 d] 24
  replace k0 := k0.old (.cells #[.int .i64 c, .int .i64 d] 24)
  replace k1 := k1.old (.cells #[.int .i64 c, .int .i64 d] 24)
  replace k2 := k2.old (.cells #[.int .i64 c, .int .i64 d] 24)
  replace kA := kA.old (.cells #[.int .i64 c, .int .i64 d] 24)
  have hr4 := hr3.keep ((Ext.refl w3).alloc (.cells #[.int .i64 c, .int .i64 d] 24))
  have l2 := k2.lt
  have HY := Kept.mk ((Mod.ext HX.out HM.out (by omega)).alloc (.cells #[.int .i64 c, .int .i64 d] 24))
  clear HX HM
  go_wp2_with (fail)
  apply wp_region_zipL (ModF.rel g w.heap.size 24 #[.int .i64 0, .int .i64 0] #[.int .i64 a, .int .i64 b]) (fun L w' => L 3 = false → L 4 = false → Rdr g 40 w') [isv _, isv _, isv _, isP IsTri, fillS (by omega)] _ ?hJ (by kernel_rfl)
  case hJ => exact fun _ _ => hr4.keep ⟨rfl, rfl, rfl, Nat.le_refl _, fun _ _ => rfl⟩
  case hA => intro V; simp [putAll, dstOf, Act.put]; exact rfl
  case hsl => intro V; exact rfl
  case step =>
    intro V lo up w' hr L hj
    have kA := hr.blk kA (by omega) (by omega)
    have kB := hr.blk kB (by simp; omega) (by simp; omega)
    have k0' := hr.put' (by omega) (.inl k0)
    obtain ⟨cA0, cA1⟩ := kA.two
    obtain ⟨cB0, cB1⟩ := kB.two
    simp only [zipOkL, depsImp, isv, isP, fillS, waits, Region.binds, List.map_nil, List.nil_append, List.filterMap_cons, List.filterMap_nil, ↓reduceIte, modeNe, modeNg, Bool.false_eq_true, true_implies, List.getD_cons_zero, List.getD_cons_succ, and_true, Nat.zero_add, Nat.reduceAdd]
    refine ⟨?_, ?_, ?_, ?_, ?_⟩
    · intro _ _
      intros
      go_wp2
      refine stepS_mk rfl (by simp only [List.getElem?_toArray, List.getElem?_cons_succ, List.getElem?_cons_zero]; exact rfl) ?_
      exact ⟨ModF.refl _, rfl, fun h3 h4 => hj (by simpa [upd] using h3) (by simpa [upd] using h4)⟩
    · intro _ _
      intros
      go_wp2
      refine stepS_mk rfl (by simp only [List.getElem?_toArray, List.getElem?_cons_succ, List.getElem?_cons_zero]; exact rfl) ?_
      exact ⟨ModF.refl _, rfl, fun h3 h4 => hj (by simpa [upd] using h3) (by simpa [upd] using h4)⟩
    · intro _ _
      intros
      go_wp2
      refine stepS_mk rfl (by simp only [List.getElem?_toArray, List.getElem?_cons_succ, List.getElem?_cons_zero]; exact rfl) ?_
      exact ⟨ModF.refl _, rfl, fun h3 h4 => hj (by simpa [upd] using h3) (by simpa [upd] using h4)⟩
    · intro l3 l4'
      have l4 := l4' 4 _ rfl (by simp [waits, Region.binds])
      clear l4'
      intros
      go_wp2_with (fail)
      (with_reducible refine (tri20 g 40 9 ⟨by omega, by omega⟩ ⟨by omega⟩ _ (hj l3 l4)).mono ?_)
      rintro e w5 ⟨v, rfl, tv, hr5, hm5⟩
      go_wp2
      refine stepS_mk rfl (by simp only [List.getElem?_toArray, List.getElem?_cons_succ, List.getElem?_cons_zero]; exact rfl) ?_
      exact ⟨ModF.of_mod hm5, tv, fun h3 h4 => by simp [upd] at h3⟩
    · intro _ _ _ _ _ e0
      intros
      exact wpList_fillM g w.heap.size rfl rfl (.tmp 2) (.tmp 14) rfl rfl e0 k0' (by kernel_rfl) rfl (by simp [Value.oneCell']) (ModF.ext HY.out hr (by omega) (Nat.le_refl _)) (Nat.le_refl _) fun w'' f k hoth u => ⟨f, k, fun h3 h4 => by simp [upd] at h4⟩
  case hB => kernel_rfl
  case fin =>
    intro V lo up w' hr L hj hL hf ha
    simp only [factsOk, isv, isP, fillS, List.map_nil, and_true, Nat.zero_add, Nat.reduceAdd] at hf
    simp only [List.length_cons, List.length_nil, Nat.zero_add, Nat.reduceAdd, List.drop_succ_cons, List.drop_zero]
    have k1 := hr.blk k1 (by omega) (by omega)
    have k2 := hr.blk k2 (by omega) (by omega)
    have HE := Kept.mk (ModF.ext HY.out hr (by omega) (Nat.le_refl _))
    obtain ⟨-, ⟨-, -, -, e1⟩, -, ⟨-, -, -, p, q, r, s, x, y, e3⟩, ⟨-, -, -, k0⟩⟩ := hf
    rw [e1, e3]
    obtain ⟨c00, c01⟩ := k0.two
    obtain ⟨c10, c11⟩ := k1.two
    obtain ⟨c20, c21, c22, c23, c24, c25⟩ := k2.six
    have f1 := k1.free
    have f2 := k2.free
    go_wp2
    exact bodyPost_ret (v := .tuple #[.agg #[.int .i64 a, .int .i64 b], .agg #[.int .i64 c, .int .i64 d], .agg #[.int .i64 p, .int .i64 q, .int .i64 r, .int .i64 s, .int .i64 x, .int .i64 y]]) (by simp [results, Try.results44, go_sem, *]) rfl ⟨_, _, _, _, _, _, _, _, _, _, rfl, ((((((((((((((((HE.out).setCell (by show w.heap.size ≤ _; simp; try omega) _)).setCell (by show w.heap.size ≤ _; simp; try omega) _)).setCell (by show w.heap.size ≤ _; simp; try omega) _)).setCell (by show w.heap.size ≤ _; simp; try omega) _)).setCell (by show w.heap.size ≤ _; simp; try omega) _)).setCell (by show w.heap.size ≤ _; simp; try omega) _)).setCell (by show w.heap.size ≤ _; simp; try omega) _)).setCell (by show w.heap.size ≤ _; simp; try omega) _)⟩

end Go.Proofs.Ytokjdaknfkleeaa
