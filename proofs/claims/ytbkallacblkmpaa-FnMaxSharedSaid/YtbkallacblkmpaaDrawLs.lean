/- What DrawLessShared and DrawMaxShared return. -/
import Derived.Test.YtbkallacblkmpaaDraw5
import Derived.Test.YtbkallacblkmpaaDraw3
import Derived.Test.YtbkallacblkmpaaRgnL
import Derived.Test.YtbkallacblkmpaaRand
import Derived.Test.YtbkallacblkmpaaRgnM
namespace Go.Proofs.Ytbkallacblkmpaa
set_option linter.unusedSimpArgs false
set_option linter.unusedVariables false
open Go.RowKit
theorem Blk.fill2 {w : World} {b : Nat} {p0 p1 : Value} {T : TypeId} (h : Blk w b #[p0, p1] T) (p q : Value) : Blk ((w.setCell ⟨b, 0, none⟩ p).setCell ⟨b, 1, none⟩ q) b #[p, q] T :=
  heap_setCell_same _ b 1 _ T q (heap_setCell_same w b 0 _ T p h)
theorem Blk.set0 {w : World} {b g : Nat} {cs : Array Value} {T : TypeId} (h : Blk w b cs T) (hne : b ≠ g) (i : Nat) (u : Value) : Blk (w.setCell ⟨g, i, none⟩ u) b cs T := by
  unfold Blk; rw [Below.heap_setCell _ _ _ _ (by show b ≠ g; exact hne)]; exact h

set_option maxHeartbeats 4000000 in
theorem spec_DrawLessShared (v : Value) (w : World) (hb : Bytes w v) : Calls Try.prog 19 #[v] w fun e w' => ∃ a b c d s : Int, e = .returned (.tuple #[.agg #[.int .i64 a, .int .i64 b], .agg #[.int .i64 c, .int .i64 d], .int .i64 s]) ∧ Ext w w' := by
  go_enter Try.func19, Try.ntmps19
  go_wp2_with (fail)
  (with_reducible refine (open' _ _ (hb.ext (((Ext.refl w).alloc _).alloc _))).mono ?_)
  rintro e w1 ⟨g, rfl, hg, hr1, hx1⟩
  have k0 := ((Blk.new w #[.int .i64 0, .int .i64 0] 27).old (.cells #[.int .i64 0, .int .i64 0] 27)).keep hx1
  have k1 := (Blk.new (w.alloc (.cells #[.int .i64 0, .int .i64 0] 27)) #[.int .i64 0, .int .i64 0] 27).keep hx1
  simp only [World.size_alloc] at hg k1
  have HX := Kept.mk ((((Ext.refl w).alloc _).alloc _).trans hx1); clear hx1
  have HP : Room 300 := ⟨by omega⟩
  go_wp2_with (fail)
  (with_reducible refine (sh20 g _ 14 ⟨by omega, by omega⟩ (HP.le (by omega)) _ hr1).mono ?_)
  rintro e w2 ⟨v, rfl, ⟨a, b, rfl, -, -⟩, hr2, hm2⟩
  replace k0 := hm2.blk k0 (by omega)
  replace k1 := hm2.blk k1 (by omega)
  have lt2 := hr2.lt
  go_wp2_with (fail)
  (with_reducible refine (sh20 g _ 14 ⟨by omega, by omega⟩ (HP.le (by omega)) _ (hr2.keep ((Ext.refl w2).alloc _))).mono ?_)
  rintro e w3 ⟨v, rfl, ⟨c, d, rfl, -, -⟩, hr3, hm3⟩
  have kA := hm3.blk (Blk.new w2 #[.int .i64 a, .int .i64 b] 27) (by omega)
  replace k0 := hm3.blk (k0.old _) (by omega)
  replace k1 := hm3.blk (k1.old _) (by omega)
  have HM := Kept.mk (hm2.trans ((Mod.of_ext ((Ext.refl w2).alloc _)).trans hm3)); clear hm2 hm3
  have lt3 := hr3.lt
  have lA := kA.lt
  have kB := Blk.new w3 #[.int .i64 c, .int .i64 d] 27
  replace k0 := k0.old (.cells #[.int .i64 c, .int .i64 d] 27)
  replace k1 := k1.old (.cells #[.int .i64 c, .int .i64 d] 27)
  replace kA := kA.old (.cells #[.int .i64 c, .int .i64 d] 27)
  have hr4 := hr3.keep ((Ext.refl w3).alloc (.cells #[.int .i64 c, .int .i64 d] 27))
  have l1 := k1.lt
  have HY := Kept.mk ((Mod.ext HX.out HM.out (by omega)).alloc (.cells #[.int .i64 c, .int .i64 d] 27))
  have sX := HX.out.size
  have sM := HM.out.size
  clear HX HM
  have gA : g < w2.heap.size := by omega
  have gB : g < w3.heap.size := by omega
  have nAB : w2.heap.size ≠ w3.heap.size := by omega
  go_wp2_with (fail)
  (with_reducible refine (pick g _ 2 (HP.le (by omega)) _ hr4).mono ?_)
  rintro e w5 ⟨v, rfl, ⟨z5, rfl, -, -⟩, hr5, hm5⟩
  replace k0 := hm5.blk k0 (by omega)
  replace k1 := hm5.blk k1 (by omega)
  replace kA := hm5.blk kA (by omega)
  replace kB := hm5.blk kB (by omega)
  replace HY := Kept.mk (Mod.ext HY.out hm5 (by omega))
  clear hm5
  by_cases ez : (z5 : Int) = 0
  · have e5 : ((z5 : Int) == 0) = true := by simp [ez]
    clear ez
    go_wp2_with (fail)
    clear e5
    (with_reducible refine (pick g _ 256 (HP.le (by omega)) _ (hr5)).mono ?_)
    rintro e w6 ⟨v, rfl, ⟨z6, rfl, h6, -⟩, hr6, hm6⟩
    replace k0 := hm6.blk k0 (by omega)
    replace k1 := hm6.blk k1 (by omega)
    replace kA := hm6.blk kA (by omega)
    replace kB := hm6.blk kB (by omega)
    have u6 := h6 (by omega)
    clear h6
    replace HY := Kept.mk (Mod.ext HY.out hm6 (by omega))
    clear hm6
    go_wp2_with (fail)
    (with_reducible refine (spec_l1Ring _ _).mono ?_)
    rintro e w106 ⟨rfl, rfl⟩
    go_wp2_with (fail)
    (with_reducible refine (ring20 g _ 0 ⟨by omega, by omega⟩ (HP.le (by omega)) _ hr6).mono ?_)
    rintro e w7 ⟨v, rfl, ⟨y6, rfl, -⟩, hr7, hm7⟩
    replace k0 := hm7.blk k0 (by omega)
    replace k1 := hm7.blk k1 (by omega)
    replace kA := hm7.blk kA (by omega)
    replace kB := hm7.blk kB (by omega)
    replace HY := Kept.mk (Mod.ext HY.out hm7 (by omega))
    clear hm7 u6
    go_wp2_with (fail)
    (with_reducible refine (spec_SplitNumber _ _ _).mono ?_)
    rintro e w8 ⟨rfl, x6⟩
    replace k0 := k0.keep x6
    replace k1 := k1.keep x6
    replace kA := kA.keep x6
    replace kB := kB.keep x6
    have hr8 := hr7.keep x6
    replace HY := Kept.mk (HY.out.trans x6)
    clear x6
    generalize splF _ _ = p6 at *
    generalize splL _ _ = q6 at *
    have kA' := kA.fill2 (.int .i64 p6) (.int .i64 q6)
    have k0' := (k0.set0 (by omega : _ ≠ w2.heap.size) 0 (.int .i64 p6)).set0 (by omega : _ ≠ w2.heap.size) 1 (.int .i64 q6)
    have k1' := (k1.set0 (by omega : _ ≠ w2.heap.size) 0 (.int .i64 p6)).set0 (by omega : _ ≠ w2.heap.size) 1 (.int .i64 q6)
    have kB' := (kB.set0 (by omega : _ ≠ w2.heap.size) 0 (.int .i64 p6)).set0 (by omega : _ ≠ w2.heap.size) 1 (.int .i64 q6)
    have hr9 := (hr8.set (by omega : g < w2.heap.size) 0 (.int .i64 p6)).set (by omega : g < w2.heap.size) 1 (.int .i64 q6)
    have HY' := Kept.mk ((HY.out.setCell (p := ⟨w2.heap.size, 0, none⟩) (by show w.heap.size ≤ w2.heap.size; omega) (.int .i64 p6)).setCell (p := ⟨w2.heap.size, 1, none⟩) (by show w.heap.size ≤ w2.heap.size; omega) (.int .i64 q6))
    obtain ⟨e0, e1⟩ := kA.two
    have ef := kA.free
    go_wp2_with (fail)
    clear e0 e1 ef HY k0 k1 kA kB
    have k0 := k0'
    clear k0'
    have k1 := k1'
    clear k1'
    have kA := kA'
    clear kA'
    have kB := kB'
    clear kB'
    have HY := HY'
    clear HY'
    go_wp2_with (fail)
    (with_reducible refine (pick g _ 256 (HP.le (by omega)) _ (hr9)).mono ?_)
    rintro e w10 ⟨v, rfl, ⟨z10, rfl, h10, -⟩, hr10, hm10⟩
    replace k0 := hm10.blk k0 (by omega)
    replace k1 := hm10.blk k1 (by omega)
    replace kA := hm10.blk kA (by omega)
    replace kB := hm10.blk kB (by omega)
    have u10 := h10 (by omega)
    clear h10
    replace HY := Kept.mk (Mod.ext HY.out hm10 (by omega))
    clear hm10
    go_wp2_with (fail)
    (with_reducible refine (spec_l1Ring _ _).mono ?_)
    rintro e w110 ⟨rfl, rfl⟩
    go_wp2_with (fail)
    (with_reducible refine (ring20 g _ 0 ⟨by omega, by omega⟩ (HP.le (by omega)) _ hr10).mono ?_)
    rintro e w11 ⟨v, rfl, ⟨y10, rfl, -⟩, hr11, hm11⟩
    replace k0 := hm11.blk k0 (by omega)
    replace k1 := hm11.blk k1 (by omega)
    replace kA := hm11.blk kA (by omega)
    replace kB := hm11.blk kB (by omega)
    replace HY := Kept.mk (Mod.ext HY.out hm11 (by omega))
    clear hm11 u10
    go_wp2_with (fail)
    (with_reducible refine (spec_SplitNumber _ _ _).mono ?_)
    rintro e w12 ⟨rfl, x10⟩
    replace k0 := k0.keep x10
    replace k1 := k1.keep x10
    replace kA := kA.keep x10
    replace kB := kB.keep x10
    have hr12 := hr11.keep x10
    replace HY := Kept.mk (HY.out.trans x10)
    clear x10
    generalize splF _ _ = p10 at *
    generalize splL _ _ = q10 at *
    have kB' := kB.fill2 (.int .i64 p10) (.int .i64 q10)
    have k0' := (k0.set0 (by omega : _ ≠ w3.heap.size) 0 (.int .i64 p10)).set0 (by omega : _ ≠ w3.heap.size) 1 (.int .i64 q10)
    have k1' := (k1.set0 (by omega : _ ≠ w3.heap.size) 0 (.int .i64 p10)).set0 (by omega : _ ≠ w3.heap.size) 1 (.int .i64 q10)
    have kA' := (kA.set0 (by omega : _ ≠ w3.heap.size) 0 (.int .i64 p10)).set0 (by omega : _ ≠ w3.heap.size) 1 (.int .i64 q10)
    have hr13 := (hr12.set (by omega : g < w3.heap.size) 0 (.int .i64 p10)).set (by omega : g < w3.heap.size) 1 (.int .i64 q10)
    have HY' := Kept.mk ((HY.out.setCell (p := ⟨w3.heap.size, 0, none⟩) (by show w.heap.size ≤ w3.heap.size; omega) (.int .i64 p10)).setCell (p := ⟨w3.heap.size, 1, none⟩) (by show w.heap.size ≤ w3.heap.size; omega) (.int .i64 q10))
    obtain ⟨e0, e1⟩ := kB.two
    have ef := kB.free
    go_wp2_with (fail)
    clear e0 e1 ef HY k0 k1 kA kB
    have k0 := k0'
    clear k0'
    have k1 := k1'
    clear k1'
    have kA := kA'
    clear kA'
    have kB := kB'
    clear kB'
    have HY := HY'
    clear HY'
    apply wp_region_zipL (ModF.rel g w.heap.size 27 #[.int .i64 0, .int .i64 0] #[.int .i64 p6, .int .i64 q6]) (fun L w' => L 3 = false → L 4 = false → Rdr g 250 w') [isv _, isv _, isv _, isP (IsSd 14), fillS (by omega)] _ ?hJ (by kernel_rfl)
    case hJ => exact fun _ _ => (hr13.mono (by omega) (HP.le (by omega))).keep ⟨rfl, rfl, rfl, Nat.le_refl _, fun _ _ => rfl⟩
    case hA => intro V; simp [putAll, dstOf, Act.put]; exact rfl
    case hsl => intro V; exact rfl
    case step =>
      intro V lo up w' hr L hj
      have kA := hr.blk kA (by omega) (by omega)
      have kB := hr.blk kB (by omega) (by omega)
      have k0' := hr.put' (by omega) (.inl k0)
      obtain ⟨cA0, cA1⟩ := kA.two
      obtain ⟨cB0, cB1⟩ := kB.two
      simp only [zipOkL, depsImp, isv, isP, fillS, waits, Region.binds, List.map_nil, List.nil_append, List.filterMap_cons, List.filterMap_nil, ↓reduceIte, modeNe, modeNg, Bool.false_eq_true, true_implies, List.getD_cons_zero, List.getD_cons_succ, and_true, Nat.zero_add, Nat.reduceAdd]
      refine ⟨?_, ?_, ?_, ?_, ?_⟩
      · intro _ _
        intros
        go_wp2
        refine stepS_mk rfl (by simp only [List.getElem?_toArray, List.getElem?_cons_succ, List.getElem?_cons_zero]; exact rfl) ?_
        exact ⟨ModF.refl _, rfl, fun h3 h4 => hj (by simpa [upd] using h3) (by simpa [upd] using h4)⟩
      · intro _ _
        intros
        go_wp2
        refine stepS_mk rfl (by simp only [List.getElem?_toArray, List.getElem?_cons_succ, List.getElem?_cons_zero]; exact rfl) ?_
        exact ⟨ModF.refl _, rfl, fun h3 h4 => hj (by simpa [upd] using h3) (by simpa [upd] using h4)⟩
      · intro _ _
        intros
        go_wp2
        refine stepS_mk rfl (by simp only [List.getElem?_toArray, List.getElem?_cons_succ, List.getElem?_cons_zero]; exact rfl) ?_
        exact ⟨ModF.refl _, rfl, fun h3 h4 => hj (by simpa [upd] using h3) (by simpa [upd] using h4)⟩
      · intro l3 l4'
        have l4 := l4' 4 _ rfl (by simp [waits, Region.binds])
        clear l4'
        intros
        go_wp2_with (fail)
        (with_reducible refine (seed20 g 250 14 ⟨by omega, by omega⟩ (HP.le (by omega)) _ (hj l3 l4)).mono ?_)
        rintro e w25 ⟨v, rfl, tv, hr25, hm25⟩
        go_wp2
        refine stepS_mk rfl (by simp only [List.getElem?_toArray, List.getElem?_cons_succ, List.getElem?_cons_zero]; exact rfl) ?_
        exact ⟨ModF.of_mod hm25, tv, fun h3 h4 => by simp [upd] at h3⟩
      · intro _ _ _ _ _ e0
        intros
        exact wpList_fillM g w.heap.size rfl rfl (.tmp 2) (.tmp 31) rfl rfl e0 k0' (by kernel_rfl) rfl (by simp [Value.oneCell']) (ModF.ext HY.out hr (by omega) (Nat.le_refl _)) (Nat.le_refl _) fun w'' f k hoth u => ⟨f, k, fun h3 h4 => by simp [upd] at h4⟩
    case hB => kernel_rfl
    case fin =>
      intro V lo up w' hr L hj hL hf ha
      simp only [factsOk, isv, isP, fillS, List.map_nil, and_true, Nat.zero_add, Nat.reduceAdd] at hf
      simp only [List.length_cons, List.length_nil, Nat.zero_add, Nat.reduceAdd, List.drop_succ_cons, List.drop_zero]
      have k1 := hr.blk k1 (by omega) (by omega)
      have HE := Kept.mk (ModF.ext HY.out hr (by omega) (Nat.le_refl _))
      obtain ⟨-, ⟨-, -, -, e1⟩, -, ⟨-, -, -, s, e3, -⟩, ⟨-, -, -, k0⟩⟩ := hf
      rw [e1, e3]
      obtain ⟨c00, c01⟩ := k0.two
      obtain ⟨c10, c11⟩ := k1.two
      have f1 := k1.free
      go_wp2
      exact bodyPost_ret (v := .tuple #[.agg #[.int .i64 p6, .int .i64 q6], .agg #[.int .i64 p10, .int .i64 q10], .int .i64 s]) (by simp [results, Try.results19, go_sem, *]) rfl ⟨_, _, _, _, _, rfl, (HE.out.setCell (by show w.heap.size ≤ _; simp; try omega) _).setCell (by show w.heap.size ≤ _; simp; try omega) _⟩

  · have e5 : ((z5 : Int) == 0) = false := by simp; omega
    clear ez
    go_wp2_with (fail)
    clear e5
    apply wp_region_zipL (ModF.rel g w.heap.size 27 #[.int .i64 0, .int .i64 0] #[.int .i64 a, .int .i64 b]) (fun L w' => L 3 = false → L 4 = false → Rdr g 250 w') [isv _, isv _, isv _, isP (IsSd 14), fillS (by omega)] _ ?hJ (by kernel_rfl)
    case hJ => exact fun _ _ => (hr5.mono (by omega) (HP.le (by omega))).keep ⟨rfl, rfl, rfl, Nat.le_refl _, fun _ _ => rfl⟩
    case hA => intro V; simp [putAll, dstOf, Act.put]; exact rfl
    case hsl => intro V; exact rfl
    case step =>
      intro V lo up w' hr L hj
      have kA := hr.blk kA (by omega) (by omega)
      have kB := hr.blk kB (by omega) (by omega)
      have k0' := hr.put' (by omega) (.inl k0)
      obtain ⟨cA0, cA1⟩ := kA.two
      obtain ⟨cB0, cB1⟩ := kB.two
      simp only [zipOkL, depsImp, isv, isP, fillS, waits, Region.binds, List.map_nil, List.nil_append, List.filterMap_cons, List.filterMap_nil, ↓reduceIte, modeNe, modeNg, Bool.false_eq_true, true_implies, List.getD_cons_zero, List.getD_cons_succ, and_true, Nat.zero_add, Nat.reduceAdd]
      refine ⟨?_, ?_, ?_, ?_, ?_⟩
      · intro _ _
        intros
        go_wp2
        refine stepS_mk rfl (by simp only [List.getElem?_toArray, List.getElem?_cons_succ, List.getElem?_cons_zero]; exact rfl) ?_
        exact ⟨ModF.refl _, rfl, fun h3 h4 => hj (by simpa [upd] using h3) (by simpa [upd] using h4)⟩
      · intro _ _
        intros
        go_wp2
        refine stepS_mk rfl (by simp only [List.getElem?_toArray, List.getElem?_cons_succ, List.getElem?_cons_zero]; exact rfl) ?_
        exact ⟨ModF.refl _, rfl, fun h3 h4 => hj (by simpa [upd] using h3) (by simpa [upd] using h4)⟩
      · intro _ _
        intros
        go_wp2
        refine stepS_mk rfl (by simp only [List.getElem?_toArray, List.getElem?_cons_succ, List.getElem?_cons_zero]; exact rfl) ?_
        exact ⟨ModF.refl _, rfl, fun h3 h4 => hj (by simpa [upd] using h3) (by simpa [upd] using h4)⟩
      · intro l3 l4'
        have l4 := l4' 4 _ rfl (by simp [waits, Region.binds])
        clear l4'
        intros
        go_wp2_with (fail)
        (with_reducible refine (seed20 g 250 14 ⟨by omega, by omega⟩ (HP.le (by omega)) _ (hj l3 l4)).mono ?_)
        rintro e w25 ⟨v, rfl, tv, hr25, hm25⟩
        go_wp2
        refine stepS_mk rfl (by simp only [List.getElem?_toArray, List.getElem?_cons_succ, List.getElem?_cons_zero]; exact rfl) ?_
        exact ⟨ModF.of_mod hm25, tv, fun h3 h4 => by simp [upd] at h3⟩
      · intro _ _ _ _ _ e0
        intros
        exact wpList_fillM g w.heap.size rfl rfl (.tmp 2) (.tmp 31) rfl rfl e0 k0' (by kernel_rfl) rfl (by simp [Value.oneCell']) (ModF.ext HY.out hr (by omega) (Nat.le_refl _)) (Nat.le_refl _) fun w'' f k hoth u => ⟨f, k, fun h3 h4 => by simp [upd] at h4⟩
    case hB => kernel_rfl
    case fin =>
      intro V lo up w' hr L hj hL hf ha
      simp only [factsOk, isv, isP, fillS, List.map_nil, and_true, Nat.zero_add, Nat.reduceAdd] at hf
      simp only [List.length_cons, List.length_nil, Nat.zero_add, Nat.reduceAdd, List.drop_succ_cons, List.drop_zero]
      have k1 := hr.blk k1 (by omega) (by omega)
      have HE := Kept.mk (ModF.ext HY.out hr (by omega) (Nat.le_refl _))
      obtain ⟨-, ⟨-, -, -, e1⟩, -, ⟨-, -, -, s, e3, -⟩, ⟨-, -, -, k0⟩⟩ := hf
      rw [e1, e3]
      obtain ⟨c00, c01⟩ := k0.two
      obtain ⟨c10, c11⟩ := k1.two
      have f1 := k1.free
      go_wp2
      exact bodyPost_ret (v := .tuple #[.agg #[.int .i64 a, .int .i64 b], .agg #[.int .i64 c, .int .i64 d], .int .i64 s]) (by simp [results, Try.results19, go_sem, *]) rfl ⟨_, _, _, _, _, rfl, (HE.out.setCell (by show w.heap.size ≤ _; simp; try omega) _).setCell (by show w.heap.size ≤ _; simp; try omega) _⟩

set_option maxHeartbeats 2000000 in
theorem spec_DrawMaxShared (v : Value) (w : World) (hb : Bytes w v) : Calls Try.prog 27 #[v] w fun e w' => ∃ a b c d s : Int, e = .returned (.tuple #[.agg #[.int .i64 a, .int .i64 b], .agg #[.int .i64 c, .int .i64 d], .int .i64 s]) ∧ Ext w w' := by
  go_enter Try.func27, Try.ntmps27
  go_wp2_with (fail)
  (with_reducible refine (spec_DrawLessShared _ _ (hb.ext (((Ext.refl w).alloc _).alloc _))).mono ?_)
  rintro e w1 ⟨a, b, c, d, s, rfl, hx1⟩
  have k0 := ((Blk.new w #[.int .i64 0, .int .i64 0] 27).old (.cells #[.int .i64 0, .int .i64 0] 27)).keep hx1
  have k1 := (Blk.new (w.alloc (.cells #[.int .i64 0, .int .i64 0] 27)) #[.int .i64 0, .int .i64 0] 27).keep hx1
  simp only [World.size_alloc] at k1
  have HX := Kept.mk ((((Ext.refl w).alloc _).alloc _).trans hx1); clear hx1
  obtain ⟨c00, c01⟩ := k0.two
  obtain ⟨c10, c11⟩ := k1.two
  have f0 := k0.free
  have f1 := k1.free
  go_wp2
  exact bodyPost_ret (v := .tuple #[.agg #[.int .i64 a, .int .i64 b], .agg #[.int .i64 c, .int .i64 d], .int .i64 s]) (by simp [results, Try.results27, go_sem, *]) rfl ⟨_, _, _, _, _, rfl, (Ext.setCell (Ext.setCell (Ext.setCell (Ext.setCell HX.out (by show w.heap.size ≤ _; simp; try omega) _) (by show w.heap.size ≤ _; simp; try omega) _) (by show w.heap.size ≤ _; simp; try omega) _) (by show w.heap.size ≤ _; simp; try omega) _)⟩
end Go.Proofs.Ytbkallacblkmpaa
