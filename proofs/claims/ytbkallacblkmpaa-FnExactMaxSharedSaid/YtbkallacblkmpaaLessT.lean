/- The contracts of LessShared. -/
import Derived.Test.YtbkallacblkmpaaLessP
import Derived.Test.YtbkallacblkmpaaMadeP
import Derived.Test.YtbkallacblkmpaaTabD
import Derived.Test.YtbkallacblkmpaaRgnS
namespace Go.Proofs.Ytbkallacblkmpaa
set_option linter.unusedSimpArgs false
set_option linter.unusedVariables false
open Go.RowKit
def lsOk (x y u v s : Int) : Bool := rv x && rv y && (rv u && rv v) && seedOk s
def lsF (x y u v s : Int) : Int := if lsOk x y u v s = true then useF (subF x y u v) (subL x y u v) (mtA (fVals 3) s) (mtB (fVals 3) s) (mtF (fVals 3) s) (mtS (fVals 3) s) else -1
def lsL (x y u v s : Int) : Int := if lsOk x y u v s = true then useL (subF x y u v) (subL x y u v) (mtA (fVals 3) s) (mtB (fVals 3) s) (mtF (fVals 3) s) (mtS (fVals 3) s) else -1
/-- What is opened; -1 if nothing is. -/
def lsC (x y u v s : Int) : Int := if lsOk x y u v s = true then useC (subF x y u v) (subL x y u v) (mtA (fVals 3) s) (mtB (fVals 3) s) (mtF (fVals 3) s) (mtS (fVals 3) s) else -1
def lsN (x y u v s : Int) : Int := if lsOk x y u v s = true then mtN (fVals 3) s else 0

set_option maxHeartbeats 4000000 in
set_option maxRecDepth 4000 in
theorem impl_LessShared (x y u v s : Int) (w : World) : Calls Try.prog 17 #[.agg #[.int .i64 x, .int .i64 y], .agg #[.int .i64 u, .int .i64 v], .int .i64 s] w fun e w' =>
    e = .returned (.tuple #[.agg #[.int .i64 (lsF x y u v s), .int .i64 (lsL x y u v s)], .int .i64 (lsC x y u v s), .int .i64 (lsN x y u v s)]) ∧ Ext w w' := by
  cases h1 : (rv x && rv y)
  · have hk : lsOk x y u v s = false := by simp [lsOk, h1]
    rw [show lsF x y u v s = -1 by simp [lsF, hk], show lsL x y u v s = -1 by simp [lsL, hk], show lsC x y u v s = -1 by simp [lsC, hk], show lsN x y u v s = 0 by simp [lsN, hk]]
    clear hk
    have H1 := Kept.mk h1; clear h1
    go_enter Try.func17, Try.ntmps17
    go_wp2_with (first | (go_at_call 49; (with_reducible refine (impl_SharedValid x y false H1.out _).mono ?_); rintro e w1 ⟨rfl, hy⟩; (first | (replace hx := hx.trans hy; clear hc hz hy; obtain ⟨hc, hz⟩ := hx.cells) | (have hx := hy; clear hy; obtain ⟨hc, hz⟩ := hx.cells))) | (go_at_call 50; (with_reducible refine (impl_noShares _).mono ?_); rintro e w1 ⟨rfl, hy⟩; (first | (replace hx := hx.trans hy; clear hc hz hy; obtain ⟨hc, hz⟩ := hx.cells) | (have hx := hy; clear hy; obtain ⟨hc, hz⟩ := hx.cells))))
    exact bodyPost_ret (v := .tuple #[.agg #[.int .i64 (-1), .int .i64 (-1)], .int .i64 (-1), .int .i64 0]) (by first | (simp [results, Try.results17, go_sem, hc]; done) | (simp [results, Try.results17, go_sem, *]; done)) rfl ⟨rfl, (by (repeat (first | refine Ext.setCell ?_ (by first | (simp; done) | (simp; omega) | omega) _ | refine Ext.alloc ?_ _ | refine Ext.drew ?_ | refine Ext.setRow ?_ (by omega) _)); first | exact Ext.refl _ | exact hx | (refine Ext.trans ?_ hx; (repeat (refine Ext.alloc ?_ _)); exact Ext.refl _))⟩
  · cases h2 : (rv u && rv v)
    · have hk : lsOk x y u v s = false := by simp [lsOk, h1, h2]
      rw [show lsF x y u v s = -1 by simp [lsF, hk], show lsL x y u v s = -1 by simp [lsL, hk], show lsC x y u v s = -1 by simp [lsC, hk], show lsN x y u v s = 0 by simp [lsN, hk]]
      clear hk
      have H1 := Kept.mk h1; clear h1
      have H2 := Kept.mk h2; clear h2
      go_enter Try.func17, Try.ntmps17
      go_wp2_with (first | (go_at_call 49; (with_reducible refine (impl_SharedValid x y true H1.out _).mono ?_); rintro e w1 ⟨rfl, hy⟩; (first | (replace hx := hx.trans hy; clear hc hz hy; obtain ⟨hc, hz⟩ := hx.cells) | (have hx := hy; clear hy; obtain ⟨hc, hz⟩ := hx.cells))) | (go_at_call 49; (with_reducible refine (impl_SharedValid u v false H2.out _).mono ?_); rintro e w1 ⟨rfl, hy⟩; (first | (replace hx := hx.trans hy; clear hc hz hy; obtain ⟨hc, hz⟩ := hx.cells) | (have hx := hy; clear hy; obtain ⟨hc, hz⟩ := hx.cells))) | (go_at_call 50; (with_reducible refine (impl_noShares _).mono ?_); rintro e w1 ⟨rfl, hy⟩; (first | (replace hx := hx.trans hy; clear hc hz hy; obtain ⟨hc, hz⟩ := hx.cells) | (have hx := hy; clear hy; obtain ⟨hc, hz⟩ := hx.cells))))
      exact bodyPost_ret (v := .tuple #[.agg #[.int .i64 (-1), .int .i64 (-1)], .int .i64 (-1), .int .i64 0]) (by first | (simp [results, Try.results17, go_sem, hc]; done) | (simp [results, Try.results17, go_sem, *]; done)) rfl ⟨rfl, (by (repeat (first | refine Ext.setCell ?_ (by first | (simp; done) | (simp; omega) | omega) _ | refine Ext.alloc ?_ _ | refine Ext.drew ?_ | refine Ext.setRow ?_ (by omega) _)); first | exact Ext.refl _ | exact hx | (refine Ext.trans ?_ hx; (repeat (refine Ext.alloc ?_ _)); exact Ext.refl _))⟩
    · cases h3 : seedOk s
      · have hk : lsOk x y u v s = false := by simp [lsOk, h1, h2, h3]
        rw [show lsF x y u v s = -1 by simp [lsF, hk], show lsL x y u v s = -1 by simp [lsL, hk], show lsC x y u v s = -1 by simp [lsC, hk], show lsN x y u v s = 0 by simp [lsN, hk]]
        clear hk
        have H1 := Kept.mk h1; clear h1
        have H2 := Kept.mk h2; clear h2
        have H3 := Kept.mk (show (decide (1 ≤ s) && decide (s ≤ 2147483646)) = false from h3); clear h3
        go_enter Try.func17, Try.ntmps17
        go_wp2_with (first | (go_at_call 49; (with_reducible refine (impl_SharedValid x y true H1.out _).mono ?_); rintro e w1 ⟨rfl, hy⟩; (first | (replace hx := hx.trans hy; clear hc hz hy; obtain ⟨hc, hz⟩ := hx.cells) | (have hx := hy; clear hy; obtain ⟨hc, hz⟩ := hx.cells))) | (go_at_call 49; (with_reducible refine (impl_SharedValid u v true H2.out _).mono ?_); rintro e w1 ⟨rfl, hy⟩; (first | (replace hx := hx.trans hy; clear hc hz hy; obtain ⟨hc, hz⟩ := hx.cells) | (have hx := hy; clear hy; obtain ⟨hc, hz⟩ := hx.cells))) | (go_at_call 32; (with_reducible refine (impl_seedValid s false H3.out _).mono ?_); rintro e w1 ⟨rfl, rfl⟩) | (go_at_call 50; (with_reducible refine (impl_noShares _).mono ?_); rintro e w1 ⟨rfl, hy⟩; (first | (replace hx := hx.trans hy; clear hc hz hy; obtain ⟨hc, hz⟩ := hx.cells) | (have hx := hy; clear hy; obtain ⟨hc, hz⟩ := hx.cells))))
        exact bodyPost_ret (v := .tuple #[.agg #[.int .i64 (-1), .int .i64 (-1)], .int .i64 (-1), .int .i64 0]) (by first | (simp [results, Try.results17, go_sem, hc]; done) | (simp [results, Try.results17, go_sem, *]; done)) rfl ⟨rfl, (by (repeat (first | refine Ext.setCell ?_ (by first | (simp; done) | (simp; omega) | omega) _ | refine Ext.alloc ?_ _ | refine Ext.drew ?_ | refine Ext.setRow ?_ (by omega) _)); first | exact Ext.refl _ | exact hx | (refine Ext.trans ?_ hx; (repeat (refine Ext.alloc ?_ _)); exact Ext.refl _))⟩
      · have hk : lsOk x y u v s = true := by simp [lsOk, h1, h2, h3]
        rw [show lsF x y u v s = useF (subF x y u v) (subL x y u v) (mtA (fVals 3) s) (mtB (fVals 3) s) (mtF (fVals 3) s) (mtS (fVals 3) s) by simp only [lsF, hk, if_true]]
        rw [show lsL x y u v s = useL (subF x y u v) (subL x y u v) (mtA (fVals 3) s) (mtB (fVals 3) s) (mtF (fVals 3) s) (mtS (fVals 3) s) by simp only [lsL, hk, if_true]]
        rw [show lsC x y u v s = useC (subF x y u v) (subL x y u v) (mtA (fVals 3) s) (mtB (fVals 3) s) (mtF (fVals 3) s) (mtS (fVals 3) s) by simp only [lsC, hk, if_true]]
        rw [show lsN x y u v s = mtN (fVals 3) s by simp only [lsN, hk, if_true]]
        clear hk
        have H1 := Kept.mk h1; clear h1
        have H2 := Kept.mk h2; clear h2
        have H3 := Kept.mk (show (decide (1 ≤ s) && decide (s ≤ 2147483646)) = true from h3); clear h3
        have FV : Kept (∀ w', Calls Try.prog 13 #[.int .i64 3] w' (OwnPost (fVals 3) w')) := ⟨fun w' => impl_FunctionValues 3 w'⟩
        have MT : Kept (∀ v w', Ints w' v (fVals 3) → Calls Try.prog 9 #[v, .int .i64 s] w' (MadePost (fVals 3) s w')) := ⟨fun v w' h => impl_MakeTable (fVals 3) s v w' h⟩
        have SS : Kept (∀ w', Calls Try.prog 52 #[.agg #[.int .i64 x, .int .i64 y], .agg #[.int .i64 u, .int .i64 v]] w' fun e w'' => e = .returned (.agg #[.int .i64 (subF x y u v), .int .i64 (subL x y u v)]) ∧ Ext w' w'') := ⟨fun w' => impl_SubShares x y u v w'⟩
        unfold MadePost at MT
        generalize subF x y u v = p at *
        generalize subL x y u v = q at *
        generalize mtA (fVals 3) s = A at *
        generalize mtB (fVals 3) s = B at *
        generalize mtF (fVals 3) s = xs at *
        generalize mtS (fVals 3) s = ys at *
        generalize mtN (fVals 3) s = N at *
        have UT : Kept (∀ v1 v2 w', Ints w' v1 xs → Ints w' v2 ys → Calls Try.prog 51 #[.agg #[.int .i64 p, .int .i64 q], .agg #[.int .i64 A, .int .i64 B, v1, v2]] w' fun e w'' => e = .returned (.tuple #[.agg #[.int .i64 (useF p q A B xs ys), .int .i64 (useL p q A B xs ys)], .int .i64 (useC p q A B xs ys), .bool (useOk p q A B xs ys)]) ∧ Ext w' w'') := ⟨fun v1 v2 w' h1 h2 => impl_UseTable p q A B v1 v2 xs ys w' h1 h2⟩
        generalize useF p q A B xs ys = F at *
        generalize useL p q A B xs ys = L at *
        generalize useC p q A B xs ys = C at *
        generalize useOk p q A B xs ys = OK at *
        have hx := ((((Ext.refl w).alloc (.cells #[.int .i64 x, .int .i64 y] 27)).alloc (.cells #[.int .i64 u, .int .i64 v] 27)).alloc (.cells #[.int .i64 0, .int .i64 0] 27))
        have kX := ((Blk.new w #[.int .i64 x, .int .i64 y] 27).old (.cells #[.int .i64 u, .int .i64 v] 27)).old (.cells #[.int .i64 0, .int .i64 0] 27)
        have kY := (Blk.new (w.alloc (.cells #[.int .i64 x, .int .i64 y] 27)) #[.int .i64 u, .int .i64 v] 27).old (.cells #[.int .i64 0, .int .i64 0] 27)
        have kR := Blk.new ((w.alloc (.cells #[.int .i64 x, .int .i64 y] 27)).alloc (.cells #[.int .i64 u, .int .i64 v] 27)) #[.int .i64 0, .int .i64 0] 27
        simp only [World.size_alloc] at kY kR
        go_enter Try.func17, Try.ntmps17
        go_wp2_with (fail)
        (with_reducible refine (impl_SharedValid x y true H1.out _).mono ?_)
        rintro e w1 ⟨rfl, z1⟩
        replace kX := kX.keep z1
        replace kY := kY.keep z1
        replace kR := kR.keep z1
        replace hx := hx.trans z1
        clear z1
        obtain ⟨y0, y1⟩ := kY.two
        go_wp2_with (fail)
        (with_reducible refine (impl_SharedValid u v true H2.out _).mono ?_)
        rintro e w2 ⟨rfl, z2⟩
        clear y0 y1
        replace kX := kX.keep z2
        replace kY := kY.keep z2
        replace kR := kR.keep z2
        replace hx := hx.trans z2
        clear z2
        go_wp2_with (fail)
        (with_reducible refine (impl_seedValid s true H3.out _).mono ?_)
        rintro e w3 ⟨rfl, rfl⟩
        clear H1 H2 H3
        go_wp2_with (fail)
        (with_reducible refine (FV.out _).mono ?_)
        rintro e w4 ⟨v5, rfl, o5, z4⟩
        have i5 := o5.ints
        clear o5 FV
        replace kX := kX.keep z4
        replace kY := kY.keep z4
        replace kR := kR.keep z4
        replace hx := hx.trans z4
        clear z4
        have HI := Kept.mk i5
        clear i5
        go_wp2_with (fail)
        (with_reducible refine (MT.out _ _ HI.out).mono ?_)
        rintro e w5 ⟨v1, v2, rfl, o1, o2, -, z5⟩
        replace kX := kX.keep z5
        replace kY := kY.keep z5
        replace kR := kR.keep z5
        replace hx := hx.trans z5
        clear z5
        clear MT HI
        obtain ⟨p1, m1, hu1, -, -⟩ := id o1.ints
        subst hu1
        obtain ⟨p2, m2, hu2, -, -⟩ := id o2.ints
        subst hu2
        go_wp2_with (fail)
        have kT := Blk.new w5 #[.int .i64 A, .int .i64 B, .slice p1 xs.length m1, .slice p2 ys.length m2] 29
        replace kX := kX.old (.cells #[.int .i64 A, .int .i64 B, .slice p1 xs.length m1, .slice p2 ys.length m2] 29)
        replace kY := kY.old (.cells #[.int .i64 A, .int .i64 B, .slice p1 xs.length m1, .slice p2 ys.length m2] 29)
        replace kR := kR.old (.cells #[.int .i64 A, .int .i64 B, .slice p1 xs.length m1, .slice p2 ys.length m2] 29)
        have I1 := o1.ints.keep ((Ext.refl w5).alloc (.cells #[.int .i64 A, .int .i64 B, .slice p1 xs.length m1, .slice p2 ys.length m2] 29))
        have I2 := o2.ints.keep ((Ext.refl w5).alloc (.cells #[.int .i64 A, .int .i64 B, .slice p1 xs.length m1, .slice p2 ys.length m2] 29))
        replace hx := hx.alloc (.cells #[.int .i64 A, .int .i64 B, .slice p1 xs.length m1, .slice p2 ys.length m2] 29)
        clear o1 o2
        apply wp_region_zipF 27 #[.int .i64 0, .int .i64 0] #[.int .i64 F, .int .i64 L] [isv _, isv _, isv (.agg #[.int .i64 p, .int .i64 q]), isv _, isv (.tuple #[(.agg #[.int .i64 F, .int .i64 L]), .int .i64 C, .bool OK]), isv (.tuple #[(.agg #[.int .i64 F, .int .i64 L]), .int .i64 C, .bool OK]), isv (.agg #[.int .i64 F, .int .i64 L]), isv (.int .i64 C), isv (.bool OK), newF _ _ _ 27, putF 9 _ _ _ 27, isv (.int .i64 C), isv (.bool OK)] _ (by kernel_rfl)
        case hA => intro V; simp [putAll, dstOf, Act.put]; exact rfl
        case hsl => intro V; exact rfl
        case step =>
          intro V lo up w' hr
          replace hr := hr.ext
          have hxr := hx.trans hr
          obtain ⟨hcr, hzr⟩ := hxr.cells
          have hsr := hr.size
          have kX := kX.keep hr
          have kY := kY.keep hr
          have kR := kR.keep hr
          have kT := kT.keep hr
          have I1 := I1.keep hr
          have I2 := I2.keep hr
          obtain ⟨x0, x1⟩ := kX.two
          obtain ⟨y0, y1⟩ := kY.two
          obtain ⟨t0, t1, t2, t3⟩ := kT.four
          simp only [zipOkS, depsImp, isv, modeNg, newF, putF, waits, Region.binds, List.map_nil, List.map_cons, List.headD_cons, List.nil_append, List.cons_append, List.filterMap_cons, List.filterMap_nil, ↓reduceIte, modeNe, Bool.false_eq_true, true_implies, List.getD_cons_zero, List.getD_cons_succ, and_true]
          refine ⟨?_, ?_, ?_, ?_, ?_, ?_, ?_, ?_, ?_, ?_, ?_, ?_, ?_⟩
          · intros
            go_wp2
            refine stepS_mk rfl (by simp only [List.getElem?_toArray, List.getElem?_cons_succ, List.getElem?_cons_zero]; exact rfl) ?_
            exact ⟨Fill.refl _, rfl⟩
          · intros
            go_wp2
            refine stepS_mk rfl (by simp only [List.getElem?_toArray, List.getElem?_cons_succ, List.getElem?_cons_zero]; exact rfl) ?_
            exact ⟨Fill.refl _, rfl⟩
          · intros
            go_wp2_with (fail)
            (with_reducible refine (SS.out _).mono ?_)
            rintro e w7 ⟨rfl, z7⟩
            go_wp2
            refine stepS_mk rfl (by simp only [List.getElem?_toArray, List.getElem?_cons_succ, List.getElem?_cons_zero]; exact rfl) ?_
            exact ⟨Fill.of_ext z7, rfl⟩
          · intros
            go_wp2
            refine stepS_mk rfl (by simp only [List.getElem?_toArray, List.getElem?_cons_succ, List.getElem?_cons_zero]; exact rfl) ?_
            exact ⟨Fill.refl _, rfl⟩
          · intros
            go_wp2_with (fail)
            (with_reducible refine (UT.out _ _ _ I1 I2).mono ?_)
            rintro e w7 ⟨rfl, z7⟩
            go_wp2
            refine stepS_mk rfl (by simp only [List.getElem?_toArray, List.getElem?_cons_succ, List.getElem?_cons_zero]; exact rfl) ?_
            exact ⟨Fill.of_ext z7, rfl⟩
          · intros
            go_wp2
            refine stepS_mk rfl (by simp only [List.getElem?_toArray, List.getElem?_cons_succ, List.getElem?_cons_zero]; exact rfl) ?_
            exact ⟨Fill.refl _, by first | rfl | assumption⟩
          · intros
            go_wp2
            refine stepS_mk rfl (by simp only [List.getElem?_toArray, List.getElem?_cons_succ, List.getElem?_cons_zero]; exact rfl) ?_
            exact ⟨Fill.refl _, rfl⟩
          · intros
            go_wp2
            refine stepS_mk rfl (by simp only [List.getElem?_toArray, List.getElem?_cons_succ, List.getElem?_cons_zero]; exact rfl) ?_
            exact ⟨Fill.refl _, rfl⟩
          · intros
            go_wp2
            refine stepS_mk rfl (by simp only [List.getElem?_toArray, List.getElem?_cons_succ, List.getElem?_cons_zero]; exact rfl) ?_
            exact ⟨Fill.refl _, rfl⟩
          · intros
            go_wp2
            refine stepS_mk rfl (by simp only [List.getElem?_toArray, List.getElem?_cons_succ, List.getElem?_cons_zero]; exact rfl) ?_
            exact ⟨Fill.of_ext ((Ext.refl _).alloc _), rfl, by simp, .inl (Blk.new _ _ _)⟩
          · intro hl _ _ ⟨e9, _, k9⟩ _ _ _ _ _ _ _ e6
            intros
            exact wpList_fill rfl rfl (.tmp 11) (.tmp 40) rfl (lo 9) e9 e6 k9 (by kernel_rfl) rfl (by simp [Value.oneCell']) hr hl hl fun w'' f k u => ⟨f, _, e9, k⟩
          · intros
            go_wp2
            refine stepS_mk rfl (by simp only [List.getElem?_toArray, List.getElem?_cons_succ, List.getElem?_cons_zero]; exact rfl) ?_
            exact ⟨Fill.refl _, by first | rfl | assumption⟩
          · intros
            go_wp2
            refine stepS_mk rfl (by simp only [List.getElem?_toArray, List.getElem?_cons_succ, List.getElem?_cons_zero]; exact rfl) ?_
            exact ⟨Fill.refl _, by first | rfl | assumption⟩
        case hB => kernel_rfl
        case fin =>
          intro V lo up w' hr hf ha
          simp only [factsOk, isv, modeNg, newF, putF, List.map_nil, List.map_cons, List.headD_cons, and_true, Nat.zero_add, Nat.reduceAdd] at hf
          simp only [List.length_cons, List.length_nil, Nat.zero_add, Nat.reduceAdd, List.drop_succ_cons, List.drop_zero]
          obtain ⟨-, -, -, -, -, -, ⟨-, -, -, e6⟩, -, -, ⟨lA, -, -, e9, -, -⟩, ⟨-, -, -, b, e10, kA⟩, ⟨-, -, -, e11⟩, ⟨-, -, -, e12⟩⟩ := hf
          clear ha
          have hs0 := hx.size
          have hx' := hx.trans hr
          clear hx
          have hx := hx'
          clear hx'
          have tkR := kR.lt
          have tkT := kT.lt
          replace kX := kX.keep hr
          replace kY := kY.keep hr
          replace kR := kR.keep hr
          replace kT := kT.keep hr
          replace I1 := I1.keep hr
          replace I2 := I2.keep hr
          obtain rfl : lo 9 = b := by rw [e9] at e10; simpa using e10
          clear e10
          rw [e6, e9, e11, e12]
          clear e6 e9 e11 e12
          generalize lo 9 = gA at *
          clear hr
          try clear hc hz
          obtain ⟨a0, a1⟩ := kA.two
          obtain ⟨r0, r1⟩ := kR.two
          have rf := kR.free
          have HX := Kept.mk hx
          clear hx kX kY kT I1 I2 SS UT
          go_wp2
          exact bodyPost_ret (v := .tuple #[.agg #[.int .i64 F, .int .i64 L], .int .i64 C, .int .i64 N]) (by simp [results, Try.results17, go_sem, *]) rfl ⟨rfl, (HX.out.setCell (by show w.heap.size ≤ w.heap.size + 1 + 1; omega) _).setCell (by show w.heap.size ≤ w.heap.size + 1 + 1; omega) _⟩
set_option maxHeartbeats 4000000 in
set_option maxRecDepth 4000 in
theorem spec_LessShared (x y u v s : Int) (w : World) : Calls Try.prog 15 #[.agg #[.int .i64 x, .int .i64 y], .agg #[.int .i64 u, .int .i64 v], .int .i64 s] w fun e w' =>
    e = .returned (.tuple #[.agg #[.int .i64 (lsF x y u v s), .int .i64 (lsL x y u v s)], .int .i64 (lsC x y u v s), .int .i64 (lsN x y u v s)]) ∧ Ext w w' := by
  cases h1 : (rv x && rv y)
  · have hk : lsOk x y u v s = false := by simp [lsOk, h1]
    rw [show lsF x y u v s = -1 by simp [lsF, hk], show lsL x y u v s = -1 by simp [lsL, hk], show lsC x y u v s = -1 by simp [lsC, hk], show lsN x y u v s = 0 by simp [lsN, hk]]
    clear hk
    have H1 := Kept.mk h1; clear h1
    go_enter Try.func15, Try.ntmps15
    go_wp2_with (first | (go_at_call 44; (with_reducible refine (spec_SharedValid x y false H1.out _).mono ?_); rintro e w1 ⟨rfl, hy⟩; (first | (replace hx := hx.trans hy; clear hc hz hy; obtain ⟨hc, hz⟩ := hx.cells) | (have hx := hy; clear hy; obtain ⟨hc, hz⟩ := hx.cells))) | (go_at_call 45; (with_reducible refine (spec_l6Bad _).mono ?_); rintro e w1 ⟨rfl, hy⟩; (first | (replace hx := hx.trans hy; clear hc hz hy; obtain ⟨hc, hz⟩ := hx.cells) | (have hx := hy; clear hy; obtain ⟨hc, hz⟩ := hx.cells))))
    exact bodyPost_ret (v := .tuple #[.agg #[.int .i64 (-1), .int .i64 (-1)], .int .i64 (-1), .int .i64 0]) (by first | (simp [results, Try.results15, go_sem, hc]; done) | (simp [results, Try.results15, go_sem, *]; done)) rfl ⟨rfl, (by (repeat (first | refine Ext.setCell ?_ (by first | (simp; done) | (simp; omega) | omega) _ | refine Ext.alloc ?_ _ | refine Ext.drew ?_ | refine Ext.setRow ?_ (by omega) _)); first | exact Ext.refl _ | exact hx | (refine Ext.trans ?_ hx; (repeat (refine Ext.alloc ?_ _)); exact Ext.refl _))⟩
  · cases h2 : (rv u && rv v)
    · have hk : lsOk x y u v s = false := by simp [lsOk, h1, h2]
      rw [show lsF x y u v s = -1 by simp [lsF, hk], show lsL x y u v s = -1 by simp [lsL, hk], show lsC x y u v s = -1 by simp [lsC, hk], show lsN x y u v s = 0 by simp [lsN, hk]]
      clear hk
      have H1 := Kept.mk h1; clear h1
      have H2 := Kept.mk h2; clear h2
      go_enter Try.func15, Try.ntmps15
      go_wp2_with (first | (go_at_call 44; (with_reducible refine (spec_SharedValid x y true H1.out _).mono ?_); rintro e w1 ⟨rfl, hy⟩; (first | (replace hx := hx.trans hy; clear hc hz hy; obtain ⟨hc, hz⟩ := hx.cells) | (have hx := hy; clear hy; obtain ⟨hc, hz⟩ := hx.cells))) | (go_at_call 44; (with_reducible refine (spec_SharedValid u v false H2.out _).mono ?_); rintro e w1 ⟨rfl, hy⟩; (first | (replace hx := hx.trans hy; clear hc hz hy; obtain ⟨hc, hz⟩ := hx.cells) | (have hx := hy; clear hy; obtain ⟨hc, hz⟩ := hx.cells))) | (go_at_call 45; (with_reducible refine (spec_l6Bad _).mono ?_); rintro e w1 ⟨rfl, hy⟩; (first | (replace hx := hx.trans hy; clear hc hz hy; obtain ⟨hc, hz⟩ := hx.cells) | (have hx := hy; clear hy; obtain ⟨hc, hz⟩ := hx.cells))))
      exact bodyPost_ret (v := .tuple #[.agg #[.int .i64 (-1), .int .i64 (-1)], .int .i64 (-1), .int .i64 0]) (by first | (simp [results, Try.results15, go_sem, hc]; done) | (simp [results, Try.results15, go_sem, *]; done)) rfl ⟨rfl, (by (repeat (first | refine Ext.setCell ?_ (by first | (simp; done) | (simp; omega) | omega) _ | refine Ext.alloc ?_ _ | refine Ext.drew ?_ | refine Ext.setRow ?_ (by omega) _)); first | exact Ext.refl _ | exact hx | (refine Ext.trans ?_ hx; (repeat (refine Ext.alloc ?_ _)); exact Ext.refl _))⟩
    · cases h3 : seedOk s
      · have hk : lsOk x y u v s = false := by simp [lsOk, h1, h2, h3]
        rw [show lsF x y u v s = -1 by simp [lsF, hk], show lsL x y u v s = -1 by simp [lsL, hk], show lsC x y u v s = -1 by simp [lsC, hk], show lsN x y u v s = 0 by simp [lsN, hk]]
        clear hk
        have H1 := Kept.mk h1; clear h1
        have H2 := Kept.mk h2; clear h2
        have H3 := Kept.mk (show (decide (1 ≤ s) && decide (s ≤ 2147483646)) = false from h3); clear h3
        go_enter Try.func15, Try.ntmps15
        go_wp2_with (first | (go_at_call 44; (with_reducible refine (spec_SharedValid x y true H1.out _).mono ?_); rintro e w1 ⟨rfl, hy⟩; (first | (replace hx := hx.trans hy; clear hc hz hy; obtain ⟨hc, hz⟩ := hx.cells) | (have hx := hy; clear hy; obtain ⟨hc, hz⟩ := hx.cells))) | (go_at_call 44; (with_reducible refine (spec_SharedValid u v true H2.out _).mono ?_); rintro e w1 ⟨rfl, hy⟩; (first | (replace hx := hx.trans hy; clear hc hz hy; obtain ⟨hc, hz⟩ := hx.cells) | (have hx := hy; clear hy; obtain ⟨hc, hz⟩ := hx.cells))) | (go_at_call 37; (with_reducible refine (spec_l1In s 1 2147483646 false H3.out _).mono ?_); rintro e w1 ⟨rfl, rfl⟩) | (go_at_call 45; (with_reducible refine (spec_l6Bad _).mono ?_); rintro e w1 ⟨rfl, hy⟩; (first | (replace hx := hx.trans hy; clear hc hz hy; obtain ⟨hc, hz⟩ := hx.cells) | (have hx := hy; clear hy; obtain ⟨hc, hz⟩ := hx.cells))))
        exact bodyPost_ret (v := .tuple #[.agg #[.int .i64 (-1), .int .i64 (-1)], .int .i64 (-1), .int .i64 0]) (by first | (simp [results, Try.results15, go_sem, hc]; done) | (simp [results, Try.results15, go_sem, *]; done)) rfl ⟨rfl, (by (repeat (first | refine Ext.setCell ?_ (by first | (simp; done) | (simp; omega) | omega) _ | refine Ext.alloc ?_ _ | refine Ext.drew ?_ | refine Ext.setRow ?_ (by omega) _)); first | exact Ext.refl _ | exact hx | (refine Ext.trans ?_ hx; (repeat (refine Ext.alloc ?_ _)); exact Ext.refl _))⟩
      · have hk : lsOk x y u v s = true := by simp [lsOk, h1, h2, h3]
        rw [show lsF x y u v s = useF (subF x y u v) (subL x y u v) (mtA (fVals 3) s) (mtB (fVals 3) s) (mtF (fVals 3) s) (mtS (fVals 3) s) by simp only [lsF, hk, if_true]]
        rw [show lsL x y u v s = useL (subF x y u v) (subL x y u v) (mtA (fVals 3) s) (mtB (fVals 3) s) (mtF (fVals 3) s) (mtS (fVals 3) s) by simp only [lsL, hk, if_true]]
        rw [show lsC x y u v s = useC (subF x y u v) (subL x y u v) (mtA (fVals 3) s) (mtB (fVals 3) s) (mtF (fVals 3) s) (mtS (fVals 3) s) by simp only [lsC, hk, if_true]]
        rw [show lsN x y u v s = mtN (fVals 3) s by simp only [lsN, hk, if_true]]
        clear hk
        have H1 := Kept.mk h1; clear h1
        have H2 := Kept.mk h2; clear h2
        have H3 := Kept.mk (show (decide (1 ≤ s) && decide (s ≤ 2147483646)) = true from h3); clear h3
        have FV : Kept (∀ w', Calls Try.prog 46 #[.int .i64 3] w' (OwnPost (fVals 3) w')) := ⟨fun w' => spec_FunctionValues 3 w'⟩
        have MT : Kept (∀ v w', Ints w' v (fVals 3) → Calls Try.prog 10 #[v, .int .i64 s] w' (MadePost (fVals 3) s w')) := ⟨fun v w' h => spec_MakeTable (fVals 3) s v w' h⟩
        have SS : Kept (∀ w', Calls Try.prog 48 #[.agg #[.int .i64 x, .int .i64 y], .agg #[.int .i64 u, .int .i64 v]] w' fun e w'' => e = .returned (.agg #[.int .i64 (subF x y u v), .int .i64 (subL x y u v)]) ∧ Ext w' w'') := ⟨fun w' => spec_SubShares x y u v w'⟩
        unfold MadePost at MT
        generalize subF x y u v = p at *
        generalize subL x y u v = q at *
        generalize mtA (fVals 3) s = A at *
        generalize mtB (fVals 3) s = B at *
        generalize mtF (fVals 3) s = xs at *
        generalize mtS (fVals 3) s = ys at *
        generalize mtN (fVals 3) s = N at *
        have UT : Kept (∀ v1 v2 w', Ints w' v1 xs → Ints w' v2 ys → Calls Try.prog 47 #[.agg #[.int .i64 p, .int .i64 q], .agg #[.int .i64 A, .int .i64 B, v1, v2]] w' fun e w'' => e = .returned (.tuple #[.agg #[.int .i64 (useF p q A B xs ys), .int .i64 (useL p q A B xs ys)], .int .i64 (useC p q A B xs ys), .bool (useOk p q A B xs ys)]) ∧ Ext w' w'') := ⟨fun v1 v2 w' h1 h2 => spec_UseTable p q A B v1 v2 xs ys w' h1 h2⟩
        generalize useF p q A B xs ys = F at *
        generalize useL p q A B xs ys = L at *
        generalize useC p q A B xs ys = C at *
        generalize useOk p q A B xs ys = OK at *
        have hx := ((((Ext.refl w).alloc (.cells #[.int .i64 x, .int .i64 y] 27)).alloc (.cells #[.int .i64 u, .int .i64 v] 27)).alloc (.cells #[.int .i64 0, .int .i64 0] 27))
        have kX := ((Blk.new w #[.int .i64 x, .int .i64 y] 27).old (.cells #[.int .i64 u, .int .i64 v] 27)).old (.cells #[.int .i64 0, .int .i64 0] 27)
        have kY := (Blk.new (w.alloc (.cells #[.int .i64 x, .int .i64 y] 27)) #[.int .i64 u, .int .i64 v] 27).old (.cells #[.int .i64 0, .int .i64 0] 27)
        have kR := Blk.new ((w.alloc (.cells #[.int .i64 x, .int .i64 y] 27)).alloc (.cells #[.int .i64 u, .int .i64 v] 27)) #[.int .i64 0, .int .i64 0] 27
        simp only [World.size_alloc] at kY kR
        go_enter Try.func15, Try.ntmps15
        go_wp2_with (fail)
        (with_reducible refine (spec_SharedValid x y true H1.out _).mono ?_)
        rintro e w1 ⟨rfl, z1⟩
        replace kX := kX.keep z1
        replace kY := kY.keep z1
        replace kR := kR.keep z1
        replace hx := hx.trans z1
        clear z1
        obtain ⟨y0, y1⟩ := kY.two
        go_wp2_with (fail)
        (with_reducible refine (spec_SharedValid u v true H2.out _).mono ?_)
        rintro e w2 ⟨rfl, z2⟩
        clear y0 y1
        replace kX := kX.keep z2
        replace kY := kY.keep z2
        replace kR := kR.keep z2
        replace hx := hx.trans z2
        clear z2
        go_wp2_with (fail)
        (with_reducible refine (spec_l1In s 1 2147483646 true H3.out _).mono ?_)
        rintro e w3 ⟨rfl, rfl⟩
        clear H1 H2 H3
        go_wp2_with (fail)
        (with_reducible refine (FV.out _).mono ?_)
        rintro e w4 ⟨v5, rfl, o5, z4⟩
        have i5 := o5.ints
        clear o5 FV
        replace kX := kX.keep z4
        replace kY := kY.keep z4
        replace kR := kR.keep z4
        replace hx := hx.trans z4
        clear z4
        have HI := Kept.mk i5
        clear i5
        go_wp2_with (fail)
        (with_reducible refine (MT.out _ _ HI.out).mono ?_)
        rintro e w5 ⟨v1, v2, rfl, o1, o2, -, z5⟩
        replace kX := kX.keep z5
        replace kY := kY.keep z5
        replace kR := kR.keep z5
        replace hx := hx.trans z5
        clear z5
        clear MT HI
        obtain ⟨p1, m1, hu1, -, -⟩ := id o1.ints
        subst hu1
        obtain ⟨p2, m2, hu2, -, -⟩ := id o2.ints
        subst hu2
        go_wp2_with (fail)
        have kT := Blk.new w5 #[.int .i64 A, .int .i64 B, .slice p1 xs.length m1, .slice p2 ys.length m2] 29
        replace kX := kX.old (.cells #[.int .i64 A, .int .i64 B, .slice p1 xs.length m1, .slice p2 ys.length m2] 29)
        replace kY := kY.old (.cells #[.int .i64 A, .int .i64 B, .slice p1 xs.length m1, .slice p2 ys.length m2] 29)
        replace kR := kR.old (.cells #[.int .i64 A, .int .i64 B, .slice p1 xs.length m1, .slice p2 ys.length m2] 29)
        have I1 := o1.ints.keep ((Ext.refl w5).alloc (.cells #[.int .i64 A, .int .i64 B, .slice p1 xs.length m1, .slice p2 ys.length m2] 29))
        have I2 := o2.ints.keep ((Ext.refl w5).alloc (.cells #[.int .i64 A, .int .i64 B, .slice p1 xs.length m1, .slice p2 ys.length m2] 29))
        replace hx := hx.alloc (.cells #[.int .i64 A, .int .i64 B, .slice p1 xs.length m1, .slice p2 ys.length m2] 29)
        clear o1 o2
        apply wp_region_zipF 27 #[.int .i64 0, .int .i64 0] #[.int .i64 F, .int .i64 L] [isv _, isv _, isv (.agg #[.int .i64 p, .int .i64 q]), isv _, isv (.tuple #[(.agg #[.int .i64 F, .int .i64 L]), .int .i64 C, .bool OK]), isv (.tuple #[(.agg #[.int .i64 F, .int .i64 L]), .int .i64 C, .bool OK]), isv (.agg #[.int .i64 F, .int .i64 L]), isv (.int .i64 C), isv (.bool OK), newF _ _ _ 27, putF 9 _ _ _ 27, isv (.int .i64 C), isv (.bool OK)] _ (by kernel_rfl)
        case hA => intro V; simp [putAll, dstOf, Act.put]; exact rfl
        case hsl => intro V; exact rfl
        case step =>
          intro V lo up w' hr
          replace hr := hr.ext
          have hxr := hx.trans hr
          obtain ⟨hcr, hzr⟩ := hxr.cells
          have hsr := hr.size
          have kX := kX.keep hr
          have kY := kY.keep hr
          have kR := kR.keep hr
          have kT := kT.keep hr
          have I1 := I1.keep hr
          have I2 := I2.keep hr
          obtain ⟨x0, x1⟩ := kX.two
          obtain ⟨y0, y1⟩ := kY.two
          obtain ⟨t0, t1, t2, t3⟩ := kT.four
          simp only [zipOkS, depsImp, isv, modeNg, newF, putF, waits, Region.binds, List.map_nil, List.map_cons, List.headD_cons, List.nil_append, List.cons_append, List.filterMap_cons, List.filterMap_nil, ↓reduceIte, modeNe, Bool.false_eq_true, true_implies, List.getD_cons_zero, List.getD_cons_succ, and_true]
          refine ⟨?_, ?_, ?_, ?_, ?_, ?_, ?_, ?_, ?_, ?_, ?_, ?_, ?_⟩
          · intros
            go_wp2
            refine stepS_mk rfl (by simp only [List.getElem?_toArray, List.getElem?_cons_succ, List.getElem?_cons_zero]; exact rfl) ?_
            exact ⟨Fill.refl _, rfl⟩
          · intros
            go_wp2
            refine stepS_mk rfl (by simp only [List.getElem?_toArray, List.getElem?_cons_succ, List.getElem?_cons_zero]; exact rfl) ?_
            exact ⟨Fill.refl _, rfl⟩
          · intros
            go_wp2_with (fail)
            (with_reducible refine (SS.out _).mono ?_)
            rintro e w7 ⟨rfl, z7⟩
            go_wp2
            refine stepS_mk rfl (by simp only [List.getElem?_toArray, List.getElem?_cons_succ, List.getElem?_cons_zero]; exact rfl) ?_
            exact ⟨Fill.of_ext z7, rfl⟩
          · intros
            go_wp2
            refine stepS_mk rfl (by simp only [List.getElem?_toArray, List.getElem?_cons_succ, List.getElem?_cons_zero]; exact rfl) ?_
            exact ⟨Fill.refl _, rfl⟩
          · intros
            go_wp2_with (fail)
            (with_reducible refine (UT.out _ _ _ I1 I2).mono ?_)
            rintro e w7 ⟨rfl, z7⟩
            go_wp2
            refine stepS_mk rfl (by simp only [List.getElem?_toArray, List.getElem?_cons_succ, List.getElem?_cons_zero]; exact rfl) ?_
            exact ⟨Fill.of_ext z7, rfl⟩
          · intros
            go_wp2
            refine stepS_mk rfl (by simp only [List.getElem?_toArray, List.getElem?_cons_succ, List.getElem?_cons_zero]; exact rfl) ?_
            exact ⟨Fill.refl _, by first | rfl | assumption⟩
          · intros
            go_wp2
            refine stepS_mk rfl (by simp only [List.getElem?_toArray, List.getElem?_cons_succ, List.getElem?_cons_zero]; exact rfl) ?_
            exact ⟨Fill.refl _, rfl⟩
          · intros
            go_wp2
            refine stepS_mk rfl (by simp only [List.getElem?_toArray, List.getElem?_cons_succ, List.getElem?_cons_zero]; exact rfl) ?_
            exact ⟨Fill.refl _, rfl⟩
          · intros
            go_wp2
            refine stepS_mk rfl (by simp only [List.getElem?_toArray, List.getElem?_cons_succ, List.getElem?_cons_zero]; exact rfl) ?_
            exact ⟨Fill.refl _, rfl⟩
          · intros
            go_wp2
            refine stepS_mk rfl (by simp only [List.getElem?_toArray, List.getElem?_cons_succ, List.getElem?_cons_zero]; exact rfl) ?_
            exact ⟨Fill.of_ext ((Ext.refl _).alloc _), rfl, by simp, .inl (Blk.new _ _ _)⟩
          · intro hl _ _ ⟨e9, _, k9⟩ _ _ _ _ _ _ _ e6
            intros
            exact wpList_fill rfl rfl (.tmp 11) (.tmp 40) rfl (lo 9) e9 e6 k9 (by kernel_rfl) rfl (by simp [Value.oneCell']) hr hl hl fun w'' f k u => ⟨f, _, e9, k⟩
          · intros
            go_wp2
            refine stepS_mk rfl (by simp only [List.getElem?_toArray, List.getElem?_cons_succ, List.getElem?_cons_zero]; exact rfl) ?_
            exact ⟨Fill.refl _, by first | rfl | assumption⟩
          · intros
            go_wp2
            refine stepS_mk rfl (by simp only [List.getElem?_toArray, List.getElem?_cons_succ, List.getElem?_cons_zero]; exact rfl) ?_
            exact ⟨Fill.refl _, by first | rfl | assumption⟩
        case hB => kernel_rfl
        case fin =>
          intro V lo up w' hr hf ha
          simp only [factsOk, isv, modeNg, newF, putF, List.map_nil, List.map_cons, List.headD_cons, and_true, Nat.zero_add, Nat.reduceAdd] at hf
          simp only [List.length_cons, List.length_nil, Nat.zero_add, Nat.reduceAdd, List.drop_succ_cons, List.drop_zero]
          obtain ⟨-, -, -, -, -, -, ⟨-, -, -, e6⟩, -, -, ⟨lA, -, -, e9, -, -⟩, ⟨-, -, -, b, e10, kA⟩, ⟨-, -, -, e11⟩, ⟨-, -, -, e12⟩⟩ := hf
          clear ha
          have hs0 := hx.size
          have hx' := hx.trans hr
          clear hx
          have hx := hx'
          clear hx'
          have tkR := kR.lt
          have tkT := kT.lt
          replace kX := kX.keep hr
          replace kY := kY.keep hr
          replace kR := kR.keep hr
          replace kT := kT.keep hr
          replace I1 := I1.keep hr
          replace I2 := I2.keep hr
          obtain rfl : lo 9 = b := by rw [e9] at e10; simpa using e10
          clear e10
          rw [e6, e9, e11, e12]
          clear e6 e9 e11 e12
          generalize lo 9 = gA at *
          clear hr
          try clear hc hz
          obtain ⟨a0, a1⟩ := kA.two
          obtain ⟨r0, r1⟩ := kR.two
          have rf := kR.free
          have HX := Kept.mk hx
          clear hx kX kY kT I1 I2 SS UT
          go_wp2
          exact bodyPost_ret (v := .tuple #[.agg #[.int .i64 F, .int .i64 L], .int .i64 C, .int .i64 N]) (by simp [results, Try.results15, go_sem, *]) rfl ⟨rfl, (HX.out.setCell (by show w.heap.size ≤ w.heap.size + 1 + 1; omega) _).setCell (by show w.heap.size ≤ w.heap.size + 1 + 1; omega) _⟩
end Go.Proofs.Ytbkallacblkmpaa
