/- The contracts of MaxShared. -/
import Derived.Test.YtbkallacblkmpaaLessL
import Derived.Test.YtbkallacblkmpaaMulP
import Derived.Test.YtbkallacblkmpaaApp
import Derived.Test.YtbkallacblkmpaaRgnS
namespace Go.Proofs.Ytbkallacblkmpaa
set_option linter.unusedSimpArgs false
set_option linter.unusedVariables false
open Go.RowKit
/-- The product that MaxShared adds. -/
def mxG (x y u v s : Int) : Int := mulF (lsF x y u v s) (lsL x y u v s) (subF u v x y) (subL u v x y) (tA (lsN x y u v s)) (tB (lsN x y u v s)) (tC (lsN x y u v s)) (tD (lsN x y u v s)) (tE (lsN x y u v s)) (tF (lsN x y u v s))
def mxH (x y u v s : Int) : Int := mulL (lsF x y u v s) (lsL x y u v s) (subF u v x y) (subL u v x y) (tA (lsN x y u v s)) (tB (lsN x y u v s)) (tC (lsN x y u v s)) (tD (lsN x y u v s)) (tE (lsN x y u v s)) (tF (lsN x y u v s))
def mxF (x y u v s : Int) : Int := if lsOk x y u v s = true then addF x y (mxG x y u v s) (mxH x y u v s) else -1
def mxL (x y u v s : Int) : Int := if lsOk x y u v s = true then addL x y (mxG x y u v s) (mxH x y u v s) else -1
def mxO (x y u v s : Int) : List Int := if lsOk x y u v s = true then [lsC x y u v s, opX (lsF x y u v s) (lsL x y u v s) (tA (lsN x y u v s)) (tB (lsN x y u v s)), opX (subF u v x y) (subL u v x y) (tC (lsN x y u v s)) (tD (lsN x y u v s))] else []
def mxN (x y u v s : Int) : Int := if lsOk x y u v s = true then tN (lsN x y u v s) else 0
/-- What MaxShared leaves. -/
def MaxPost (F L N : Int) (xs : List Int) (w : World) (e' : Ending) (w' : World) : Prop :=
  ∃ s, e' = .returned (.tuple #[.agg #[.int .i64 F, .int .i64 L], s, .int .i64 N]) ∧ Own w.heap.size w' s xs ∧ Ext w w'
theorem mx_ok {x y u v s : Int} (h : lsOk x y u v s = true) : okM (lsF x y u v s) (lsL x y u v s) (subF u v x y) (subL u v x y) (tA (lsN x y u v s)) (tB (lsN x y u v s)) (tC (lsN x y u v s)) (tD (lsN x y u v s)) (tE (lsN x y u v s)) (tF (lsN x y u v s)) = true := by
  have h1 : (rv x && rv y) = true := by simp only [lsOk, Bool.and_eq_true] at h ⊢; exact h.1.1
  have h2 : (rv u && rv v) = true := by simp only [lsOk, Bool.and_eq_true] at h ⊢; exact h.1.2
  obtain ⟨_, _, _, _, _, _, _, rFL, _, _, _, _, _, sN⟩ := less_law h
  have sj := (sub_join h2 h1).1
  have tr := made_right sN
  simp only [Bool.and_eq_true] at rFL sj
  simp [okM, rFL, sj, tr]

set_option maxHeartbeats 4000000 in
set_option maxRecDepth 4000 in
theorem impl_MaxShared (x y u v s : Int) (w : World) : Calls Try.prog 23 #[.agg #[.int .i64 x, .int .i64 y], .agg #[.int .i64 u, .int .i64 v], .int .i64 s] w (MaxPost (mxF x y u v s) (mxL x y u v s) (mxN x y u v s) (mxO x y u v s) w) := by
  unfold MaxPost
  cases h1 : (rv x && rv y)
  · have hk : lsOk x y u v s = false := by simp [lsOk, h1]
    rw [show mxF x y u v s = -1 by simp [mxF, hk], show mxL x y u v s = -1 by simp [mxL, hk], show mxO x y u v s = [] by simp [mxO, hk], show mxN x y u v s = 0 by simp [mxN, hk]]
    clear hk
    have H1 := Kept.mk h1; clear h1
    go_enter Try.func23, Try.ntmps23
    go_wp2_with (first | (go_at_call 49; (with_reducible refine (impl_SharedValid x y false H1.out _).mono ?_); rintro e w1 ⟨rfl, hy⟩; (first | (replace hx := hx.trans hy; clear hc hz hy; obtain ⟨hc, hz⟩ := hx.cells) | (have hx := hy; clear hy; obtain ⟨hc, hz⟩ := hx.cells))) | (go_at_call 50; (with_reducible refine (impl_noShares _).mono ?_); rintro e w1 ⟨rfl, hy⟩; (first | (replace hx := hx.trans hy; clear hc hz hy; obtain ⟨hc, hz⟩ := hx.cells) | (have hx := hy; clear hy; obtain ⟨hc, hz⟩ := hx.cells))))
    exact bodyPost_ret (v := .tuple #[.agg #[.int .i64 (-1), .int .i64 (-1)], .slice none 0 0, .int .i64 0]) (by first | (simp [results, Try.results23, go_sem, hc]; done) | (simp [results, Try.results23, go_sem, *]; done)) rfl ⟨_, rfl, Own.nil _ _, (by (repeat (first | refine Ext.setCell ?_ (by first | (simp; done) | (simp; omega) | omega) _ | refine Ext.alloc ?_ _ | refine Ext.drew ?_ | refine Ext.setRow ?_ (by omega) _)); first | exact Ext.refl _ | exact hx | (refine Ext.trans ?_ hx; (repeat (refine Ext.alloc ?_ _)); exact Ext.refl _))⟩
  · cases h2 : (rv u && rv v)
    · have hk : lsOk x y u v s = false := by simp [lsOk, h1, h2]
      rw [show mxF x y u v s = -1 by simp [mxF, hk], show mxL x y u v s = -1 by simp [mxL, hk], show mxO x y u v s = [] by simp [mxO, hk], show mxN x y u v s = 0 by simp [mxN, hk]]
      clear hk
      have H1 := Kept.mk h1; clear h1
      have H2 := Kept.mk h2; clear h2
      go_enter Try.func23, Try.ntmps23
      go_wp2_with (first | (go_at_call 49; (with_reducible refine (impl_SharedValid x y true H1.out _).mono ?_); rintro e w1 ⟨rfl, hy⟩; (first | (replace hx := hx.trans hy; clear hc hz hy; obtain ⟨hc, hz⟩ := hx.cells) | (have hx := hy; clear hy; obtain ⟨hc, hz⟩ := hx.cells))) | (go_at_call 49; (with_reducible refine (impl_SharedValid u v false H2.out _).mono ?_); rintro e w1 ⟨rfl, hy⟩; (first | (replace hx := hx.trans hy; clear hc hz hy; obtain ⟨hc, hz⟩ := hx.cells) | (have hx := hy; clear hy; obtain ⟨hc, hz⟩ := hx.cells))) | (go_at_call 50; (with_reducible refine (impl_noShares _).mono ?_); rintro e w1 ⟨rfl, hy⟩; (first | (replace hx := hx.trans hy; clear hc hz hy; obtain ⟨hc, hz⟩ := hx.cells) | (have hx := hy; clear hy; obtain ⟨hc, hz⟩ := hx.cells))))
      exact bodyPost_ret (v := .tuple #[.agg #[.int .i64 (-1), .int .i64 (-1)], .slice none 0 0, .int .i64 0]) (by first | (simp [results, Try.results23, go_sem, hc]; done) | (simp [results, Try.results23, go_sem, *]; done)) rfl ⟨_, rfl, Own.nil _ _, (by (repeat (first | refine Ext.setCell ?_ (by first | (simp; done) | (simp; omega) | omega) _ | refine Ext.alloc ?_ _ | refine Ext.drew ?_ | refine Ext.setRow ?_ (by omega) _)); first | exact Ext.refl _ | exact hx | (refine Ext.trans ?_ hx; (repeat (refine Ext.alloc ?_ _)); exact Ext.refl _))⟩
    · cases h3 : seedOk s
      · have hk : lsOk x y u v s = false := by simp [lsOk, h1, h2, h3]
        rw [show mxF x y u v s = -1 by simp [mxF, hk], show mxL x y u v s = -1 by simp [mxL, hk], show mxO x y u v s = [] by simp [mxO, hk], show mxN x y u v s = 0 by simp [mxN, hk]]
        clear hk
        have H1 := Kept.mk h1; clear h1
        have H2 := Kept.mk h2; clear h2
        have H3 := Kept.mk (show (decide (1 ≤ s) && decide (s ≤ 2147483646)) = false from h3); clear h3
        go_enter Try.func23, Try.ntmps23
        go_wp2_with (first | (go_at_call 49; (with_reducible refine (impl_SharedValid x y true H1.out _).mono ?_); rintro e w1 ⟨rfl, hy⟩; (first | (replace hx := hx.trans hy; clear hc hz hy; obtain ⟨hc, hz⟩ := hx.cells) | (have hx := hy; clear hy; obtain ⟨hc, hz⟩ := hx.cells))) | (go_at_call 49; (with_reducible refine (impl_SharedValid u v true H2.out _).mono ?_); rintro e w1 ⟨rfl, hy⟩; (first | (replace hx := hx.trans hy; clear hc hz hy; obtain ⟨hc, hz⟩ := hx.cells) | (have hx := hy; clear hy; obtain ⟨hc, hz⟩ := hx.cells))) | (go_at_call 32; (with_reducible refine (impl_seedValid s false H3.out _).mono ?_); rintro e w1 ⟨rfl, rfl⟩) | (go_at_call 50; (with_reducible refine (impl_noShares _).mono ?_); rintro e w1 ⟨rfl, hy⟩; (first | (replace hx := hx.trans hy; clear hc hz hy; obtain ⟨hc, hz⟩ := hx.cells) | (have hx := hy; clear hy; obtain ⟨hc, hz⟩ := hx.cells))))
        exact bodyPost_ret (v := .tuple #[.agg #[.int .i64 (-1), .int .i64 (-1)], .slice none 0 0, .int .i64 0]) (by first | (simp [results, Try.results23, go_sem, hc]; done) | (simp [results, Try.results23, go_sem, *]; done)) rfl ⟨_, rfl, Own.nil _ _, (by (repeat (first | refine Ext.setCell ?_ (by first | (simp; done) | (simp; omega) | omega) _ | refine Ext.alloc ?_ _ | refine Ext.drew ?_ | refine Ext.setRow ?_ (by omega) _)); first | exact Ext.refl _ | exact hx | (refine Ext.trans ?_ hx; (repeat (refine Ext.alloc ?_ _)); exact Ext.refl _))⟩
      · have hk : lsOk x y u v s = true := by simp [lsOk, h1, h2, h3]
        have ok := mx_ok hk
        have H1 := Kept.mk h1; clear h1
        have H2 := Kept.mk h2; clear h2
        have H3 := Kept.mk (show (decide (1 ≤ s) && decide (s ≤ 2147483646)) = true from h3); clear h3
        rw [show mxF x y u v s = addF x y (mxG x y u v s) (mxH x y u v s) by simp only [mxF, hk, if_true], show mxL x y u v s = addL x y (mxG x y u v s) (mxH x y u v s) by simp only [mxL, hk, if_true], show mxN x y u v s = tN (lsN x y u v s) by simp only [mxN, hk, if_true]]
        rw [show mxO x y u v s = [lsC x y u v s, opX (lsF x y u v s) (lsL x y u v s) (tA (lsN x y u v s)) (tB (lsN x y u v s)), opX (subF u v x y) (subL u v x y) (tC (lsN x y u v s)) (tD (lsN x y u v s))] by simp only [mxO, hk, if_true]]
        clear hk
        have LS' := impl_LessShared x y u v s
        unfold mxG mxH
        have MS' := fun w' => impl_MulShared (lsF x y u v s) (lsL x y u v s) (subF u v x y) (subL u v x y) (tA (lsN x y u v s)) (tB (lsN x y u v s)) (tC (lsN x y u v s)) (tD (lsN x y u v s)) (tE (lsN x y u v s)) (tF (lsN x y u v s)) w'
        unfold MulPost at MS'
        rw [show mulO (lsF x y u v s) (lsL x y u v s) (subF u v x y) (subL u v x y) (tA (lsN x y u v s)) (tB (lsN x y u v s)) (tC (lsN x y u v s)) (tD (lsN x y u v s)) (tE (lsN x y u v s)) (tF (lsN x y u v s)) = [opX (lsF x y u v s) (lsL x y u v s) (tA (lsN x y u v s)) (tB (lsN x y u v s)), opX (subF u v x y) (subL u v x y) (tC (lsN x y u v s)) (tD (lsN x y u v s))] by simp only [mulO, ok, if_true], ok] at MS'
        clear ok
        have SS' := fun w' => impl_SubShares u v x y w'
        have MT' := fun w' => impl_MakeTriple (lsN x y u v s) w'
        generalize mulF (lsF x y u v s) (lsL x y u v s) (subF u v x y) (subL u v x y) (tA (lsN x y u v s)) (tB (lsN x y u v s)) (tC (lsN x y u v s)) (tD (lsN x y u v s)) (tE (lsN x y u v s)) (tF (lsN x y u v s)) = G at *
        generalize mulL (lsF x y u v s) (lsL x y u v s) (subF u v x y) (subL u v x y) (tA (lsN x y u v s)) (tB (lsN x y u v s)) (tC (lsN x y u v s)) (tD (lsN x y u v s)) (tE (lsN x y u v s)) (tF (lsN x y u v s)) = H at *
        generalize opX (lsF x y u v s) (lsL x y u v s) (tA (lsN x y u v s)) (tB (lsN x y u v s)) = D at *
        generalize opX (subF u v x y) (subL u v x y) (tC (lsN x y u v s)) (tD (lsN x y u v s)) = E at *
        generalize lsF x y u v s = F at *
        generalize lsL x y u v s = L at *
        generalize lsC x y u v s = C at *
        generalize lsN x y u v s = N at *
        generalize tA N = ta at *
        generalize tB N = tb at *
        generalize tC N = tc at *
        generalize tD N = td at *
        generalize tE N = te at *
        generalize tF N = tf at *
        generalize tN N = M at *
        generalize subF u v x y = p at *
        generalize subL u v x y = q at *
        have AS' := fun w' => impl_AddShares x y G H w'
        generalize addF x y G H = P at *
        generalize addL x y G H = Q at *
        have LS : Kept (∀ w', Calls Try.prog 17 #[.agg #[.int .i64 x, .int .i64 y], .agg #[.int .i64 u, .int .i64 v], .int .i64 s] w' fun e w'' => e = .returned (.tuple #[.agg #[.int .i64 F, .int .i64 L], .int .i64 C, .int .i64 N]) ∧ Ext w' w'') := ⟨LS'⟩
        clear LS'
        have MS : Kept (∀ w', Calls Try.prog 62 #[.agg #[.int .i64 F, .int .i64 L], .agg #[.int .i64 p, .int .i64 q], .agg #[.int .i64 ta, .int .i64 tb, .int .i64 tc, .int .i64 td, .int .i64 te, .int .i64 tf]] w' fun e w'' => ∃ s, e = .returned (.tuple #[.agg #[.int .i64 G, .int .i64 H], s, .bool true]) ∧ Own w'.heap.size w'' s [D, E] ∧ Ext w' w'') := ⟨MS'⟩
        clear MS'
        have SS : Kept (∀ w', Calls Try.prog 52 #[.agg #[.int .i64 u, .int .i64 v], .agg #[.int .i64 x, .int .i64 y]] w' fun e w'' => e = .returned (.agg #[.int .i64 p, .int .i64 q]) ∧ Ext w' w'') := ⟨SS'⟩
        clear SS'
        have MT : Kept (∀ w', Calls Try.prog 61 #[.int .i64 N] w' fun e w'' => e = .returned (.tuple #[.agg #[.int .i64 ta, .int .i64 tb, .int .i64 tc, .int .i64 td, .int .i64 te, .int .i64 tf], .int .i64 M]) ∧ Ext w' w'') := ⟨MT'⟩
        clear MT'
        have AS : Kept (∀ w', Calls Try.prog 63 #[.agg #[.int .i64 x, .int .i64 y], .agg #[.int .i64 G, .int .i64 H]] w' fun e w'' => e = .returned (.agg #[.int .i64 P, .int .i64 Q]) ∧ Ext w' w'') := ⟨AS'⟩
        clear AS'
        have hx := ((((Ext.refl w).alloc (.cells #[.int .i64 x, .int .i64 y] 27)).alloc (.cells #[.int .i64 u, .int .i64 v] 27)).alloc (.cells #[.int .i64 0, .int .i64 0] 27))
        have kX := ((Blk.new w #[.int .i64 x, .int .i64 y] 27).old (.cells #[.int .i64 u, .int .i64 v] 27)).old (.cells #[.int .i64 0, .int .i64 0] 27)
        have kY := (Blk.new (w.alloc (.cells #[.int .i64 x, .int .i64 y] 27)) #[.int .i64 u, .int .i64 v] 27).old (.cells #[.int .i64 0, .int .i64 0] 27)
        have kR := Blk.new ((w.alloc (.cells #[.int .i64 x, .int .i64 y] 27)).alloc (.cells #[.int .i64 u, .int .i64 v] 27)) #[.int .i64 0, .int .i64 0] 27
        simp only [World.size_alloc] at kY kR
        go_enter Try.func23, Try.ntmps23
        go_wp2_with (fail)
        (with_reducible refine (impl_SharedValid x y true H1.out _).mono ?_)
        rintro e w1 ⟨rfl, z1⟩
        replace kX := kX.keep z1
        replace kY := kY.keep z1
        replace kR := kR.keep z1
        replace hx := hx.trans z1
        clear z1
        obtain ⟨y0, y1⟩ := kY.two
        go_wp2_with (fail)
        (with_reducible refine (impl_SharedValid u v true H2.out _).mono ?_)
        rintro e w2 ⟨rfl, z2⟩
        clear y0 y1
        replace kX := kX.keep z2
        replace kY := kY.keep z2
        replace kR := kR.keep z2
        replace hx := hx.trans z2
        clear z2
        go_wp2_with (fail)
        (with_reducible refine (impl_seedValid s true H3.out _).mono ?_)
        rintro e w3 ⟨rfl, rfl⟩
        clear H1 H2 H3
        obtain ⟨x0, x1⟩ := kX.two
        obtain ⟨y0, y1⟩ := kY.two
        go_wp2_with (fail)
        (with_reducible refine (LS.out _).mono ?_)
        rintro e w4 ⟨rfl, z4⟩
        clear x0 x1 y0 y1 LS
        replace kX := kX.keep z4
        replace kY := kY.keep z4
        replace kR := kR.keep z4
        replace hx := hx.trans z4
        clear z4
        have kL := Blk.new w4 #[.int .i64 F, .int .i64 L] 27
        replace kX := kX.old (.cells #[.int .i64 F, .int .i64 L] 27)
        replace kY := kY.old (.cells #[.int .i64 F, .int .i64 L] 27)
        replace kR := kR.old (.cells #[.int .i64 F, .int .i64 L] 27)
        replace hx := hx.alloc (.cells #[.int .i64 F, .int .i64 L] 27)
        go_wp2_with (fail)
        (with_reducible refine (MT.out _).mono ?_)
        rintro e w5 ⟨rfl, z5⟩
        clear MT
        have lL := kL.lt
        replace kX := kX.keep z5
        replace kY := kY.keep z5
        replace kR := kR.keep z5
        replace kL := kL.keep z5
        replace hx := hx.trans z5
        clear z5
        have kT := Blk.new w5 #[.int .i64 ta, .int .i64 tb, .int .i64 tc, .int .i64 td, .int .i64 te, .int .i64 tf] 67
        replace kX := kX.old (.cells #[.int .i64 ta, .int .i64 tb, .int .i64 tc, .int .i64 td, .int .i64 te, .int .i64 tf] 67)
        replace kY := kY.old (.cells #[.int .i64 ta, .int .i64 tb, .int .i64 tc, .int .i64 td, .int .i64 te, .int .i64 tf] 67)
        replace kR := kR.old (.cells #[.int .i64 ta, .int .i64 tb, .int .i64 tc, .int .i64 td, .int .i64 te, .int .i64 tf] 67)
        replace kL := kL.old (.cells #[.int .i64 ta, .int .i64 tb, .int .i64 tc, .int .i64 td, .int .i64 te, .int .i64 tf] 67)
        replace hx := hx.alloc (.cells #[.int .i64 ta, .int .i64 tb, .int .i64 tc, .int .i64 td, .int .i64 te, .int .i64 tf] 67)
        go_wp2_with (fail)
        apply wp_region_zipF 27 #[.int .i64 0, .int .i64 0] #[.int .i64 G, .int .i64 H] [isv _, isv _, isv _, isv (.agg #[.int .i64 p, .int .i64 q]), isv _, tupF (by decide) (.agg #[.int .i64 G, .int .i64 H]) (.bool true) [D, E], tupF (by decide) (.agg #[.int .i64 G, .int .i64 H]) (.bool true) [D, E], isv (.agg #[.int .i64 G, .int .i64 H]), ownF (by decide) [D, E], isv (.bool true), newF _ _ _ 27, putF 10 _ _ _ 27, ownF (by decide) [D, E], isv (.bool true)] _ (by kernel_rfl)
        case hA => intro V; simp [putAll, dstOf, Act.put]; exact rfl
        case hsl => intro V; exact rfl
        case step =>
          intro V lo up w' hr
          replace hr := hr.ext
          have hxr := hx.trans hr
          obtain ⟨hcr, hzr⟩ := hxr.cells
          have hsr := hr.size
          have kX := kX.keep hr
          have kY := kY.keep hr
          have kR := kR.keep hr
          have kL := kL.keep hr
          have kT := kT.keep hr
          obtain ⟨x0, x1⟩ := kX.two
          obtain ⟨y0, y1⟩ := kY.two
          obtain ⟨l0, l1⟩ := kL.two
          obtain ⟨t0, t1, t2, t3, t4, t5⟩ := kT.six
          simp only [zipOkS, depsImp, isv, tupF, ownF, modeNg, newF, putF, waits, Region.binds, List.map_nil, List.map_cons, List.headD_cons, List.nil_append, List.cons_append, List.filterMap_cons, List.filterMap_nil, ↓reduceIte, modeNe, Bool.false_eq_true, true_implies, List.getD_cons_zero, List.getD_cons_succ, and_true]
          refine ⟨?_, ?_, ?_, ?_, ?_, ?_, ?_, ?_, ?_, ?_, ?_, ?_, ?_, ?_⟩
          · intros
            go_wp2
            refine stepS_mk rfl (by simp only [List.getElem?_toArray, List.getElem?_cons_succ, List.getElem?_cons_zero]; exact rfl) ?_
            exact ⟨Fill.refl _, rfl⟩
          · intros
            go_wp2
            refine stepS_mk rfl (by simp only [List.getElem?_toArray, List.getElem?_cons_succ, List.getElem?_cons_zero]; exact rfl) ?_
            exact ⟨Fill.refl _, rfl⟩
          · intros
            go_wp2
            refine stepS_mk rfl (by simp only [List.getElem?_toArray, List.getElem?_cons_succ, List.getElem?_cons_zero]; exact rfl) ?_
            exact ⟨Fill.refl _, rfl⟩
          · intros
            go_wp2_with (fail)
            (with_reducible refine (SS.out _).mono ?_)
            rintro e w7 ⟨rfl, z7⟩
            go_wp2
            refine stepS_mk rfl (by simp only [List.getElem?_toArray, List.getElem?_cons_succ, List.getElem?_cons_zero]; exact rfl) ?_
            exact ⟨Fill.of_ext z7, rfl⟩
          · intros
            go_wp2
            refine stepS_mk rfl (by simp only [List.getElem?_toArray, List.getElem?_cons_succ, List.getElem?_cons_zero]; exact rfl) ?_
            exact ⟨Fill.refl _, rfl⟩
          · intros
            go_wp2_with (fail)
            (with_reducible refine (MS.out _).mono ?_)
            rintro e w7 ⟨sl, rfl, o, z7⟩
            go_wp2
            refine stepS_mk rfl (by simp only [List.getElem?_toArray, List.getElem?_cons_succ, List.getElem?_cons_zero]; exact rfl) ?_
            exact ⟨Fill.of_ext z7, sl, rfl, o.mono hsr⟩
          · intro _ _ _ ⟨s, es, os⟩
            intros
            go_wp2
            refine stepS_mk rfl (by simp only [List.getElem?_toArray, List.getElem?_cons_succ, List.getElem?_cons_zero]; exact rfl) ?_
            first | exact ⟨Fill.refl _, s, es, os⟩ | exact ⟨Fill.refl _, s, rfl, os⟩
          · intro _ _ _ ⟨s, es, os⟩
            intros
            go_wp2
            refine stepS_mk rfl (by simp only [List.getElem?_toArray, List.getElem?_cons_succ, List.getElem?_cons_zero]; exact rfl) ?_
            exact ⟨Fill.refl _, rfl⟩
          · intro _ _ _ ⟨s, es, os⟩
            intros
            go_wp2
            refine stepS_mk rfl (by simp only [List.getElem?_toArray, List.getElem?_cons_succ, List.getElem?_cons_zero]; exact rfl) ?_
            exact ⟨Fill.refl _, os⟩
          · intro _ _ _ ⟨s, es, os⟩
            intros
            go_wp2
            refine stepS_mk rfl (by simp only [List.getElem?_toArray, List.getElem?_cons_succ, List.getElem?_cons_zero]; exact rfl) ?_
            exact ⟨Fill.refl _, rfl⟩
          · intros
            go_wp2
            refine stepS_mk rfl (by simp only [List.getElem?_toArray, List.getElem?_cons_succ, List.getElem?_cons_zero]; exact rfl) ?_
            exact ⟨Fill.of_ext ((Ext.refl _).alloc _), rfl, by simp, .inl (Blk.new _ _ _)⟩
          · intro hl _ _ ⟨e11, _, k11⟩ _ _ _ _ _ _ _ e8
            intros
            exact wpList_fill rfl rfl (.tmp 14) (.tmp 51) rfl (lo 10) e11 e8 k11 (by kernel_rfl) rfl (by simp [Value.oneCell']) hr hl hl fun w'' f k u => ⟨f, _, e11, k⟩
          · intros
            go_wp2
            refine stepS_mk rfl (by simp only [List.getElem?_toArray, List.getElem?_cons_succ, List.getElem?_cons_zero]; exact rfl) ?_
            exact ⟨Fill.refl _, by assumption⟩
          · intros
            go_wp2
            refine stepS_mk rfl (by simp only [List.getElem?_toArray, List.getElem?_cons_succ, List.getElem?_cons_zero]; exact rfl) ?_
            exact ⟨Fill.refl _, by first | rfl | assumption⟩
        case hB => kernel_rfl
        case fin =>
          intro V lo up w' hr hf ha
          simp only [factsOk, isv, tupF, ownF, modeNg, newF, putF, List.map_nil, List.map_cons, List.headD_cons, and_true, Nat.zero_add, Nat.reduceAdd] at hf
          simp only [List.length_cons, List.length_nil, Nat.zero_add, Nat.reduceAdd, List.drop_succ_cons, List.drop_zero]
          obtain ⟨-, -, -, -, -, -, -, ⟨-, -, -, e8⟩, -, -, ⟨lA, -, -, e11, -, -⟩, ⟨-, -, -, b, e12, kA⟩, ⟨-, -, -, oA⟩, ⟨-, -, -, e10⟩⟩ := hf
          clear ha
          have hs0 := hx.size
          have hx' := hx.trans hr
          clear hx
          have hx := hx'
          clear hx'
          have tkR := kR.lt
          replace kX := kX.keep hr
          replace kY := kY.keep hr
          replace kR := kR.keep hr
          replace kL := kL.keep hr
          replace kT := kT.keep hr
          obtain rfl : lo 10 = b := by rw [e11] at e12; simpa using e12
          clear e12
          obtain ⟨gO, cO, e9', -, -, -⟩ := oA.form (by simp)
          have e9 : _ = Value.slice (some ⟨gO, 0, none⟩) 2 cO := e9'
          clear e9'
          rw [e9] at oA
          rw [e8, e9, e10, e11]
          clear e8 e9 e10 e11
          generalize lo 10 = gA at *
          clear hr
          try clear hc hz
          clear SS MS kL kT kY
          have lw := hx.size
          obtain ⟨x0, x1⟩ := kX.two
          obtain ⟨a0, a1⟩ := kA.two
          go_wp2_with (fail)
          (with_reducible refine (AS.out _).mono ?_)
          rintro e w8 ⟨rfl, z8⟩
          clear AS x0 x1 a0 a1 kX kA
          replace kR := kR.keep z8
          replace oA := oA.keep z8
          replace hx := hx.trans z8
          clear z8
          have lw8 := hx.size
          have HX := Kept.mk hx
          clear hx
          replace oA := oA.keep ((Ext.refl w8).alloc (.cells #[.int .i64 C] 3))
          replace kR := kR.old (.cells #[.int .i64 C] 3)
          have kC := Blk.new w8 #[.int .i64 C] 3
          have oC : Own w8.heap.size (w8.alloc (.cells #[.int .i64 C] 3)) (.slice (some ⟨w8.heap.size, 0, none⟩) 1 1) [C] := Own.lit [C] (Nat.le_refl _) kC (by show 1 ≤ maxLen; unfold maxLen; omega)
          have neR := oC.ne kR (by decide)
          have OC := Kept.mk oC
          have OA := Kept.mk oA
          have KR := Kept.mk kR
          clear oC oA kR kC
          go_wp2_with (at_builtin; refine wpList_append_ints rfl _ _ rfl w8.heap.size _ [C] rfl OC.out _ [D, E] rfl OA.out.ints OA.out.nilOk (by simp) (by simp; try omega) ?_; intro v' w9 hown htu; have kR := Turned.blk KR.out htu neR; obtain ⟨r0, r1⟩ := kR.two; have rf := kR.free; have OW := Kept.mk hown; have NE := Kept.mk (hown.ne kR (by decide)); have XE := Kept.mk (Turned.ext (HX.out.alloc (.cells #[.int .i64 C] 3)) htu (fun q hq => by have := (OC.out.block q hq).1; omega)); clear kR hown htu)
          exact bodyPost_ret (v := .tuple #[.agg #[.int .i64 P, .int .i64 Q], v', .int .i64 M]) (by simp [results, Try.results23, go_sem, *]) rfl ⟨_, rfl, Own.mono (Own.setOther (Own.setOther OW.out _ NE.out _ _) _ NE.out _ _) lw8, (XE.out.setCell (by show w.heap.size ≤ w.heap.size + 1 + 1; omega) _).setCell (by show w.heap.size ≤ w.heap.size + 1 + 1; omega) _⟩
set_option maxHeartbeats 4000000 in
set_option maxRecDepth 4000 in
theorem spec_MaxShared (x y u v s : Int) (w : World) : Calls Try.prog 22 #[.agg #[.int .i64 x, .int .i64 y], .agg #[.int .i64 u, .int .i64 v], .int .i64 s] w (MaxPost (mxF x y u v s) (mxL x y u v s) (mxN x y u v s) (mxO x y u v s) w) := by
  unfold MaxPost
  cases hk : lsOk x y u v s
  · rw [show mxF x y u v s = -1 by simp [mxF, hk], show mxL x y u v s = -1 by simp [mxL, hk], show mxO x y u v s = [] by simp [mxO, hk], show mxN x y u v s = 0 by simp [mxN, hk]]
    have LS' := spec_LessShared x y u v s
    rw [show lsF x y u v s = -1 by simp [lsF, hk], show lsL x y u v s = -1 by simp [lsL, hk], show lsC x y u v s = -1 by simp [lsC, hk], show lsN x y u v s = 0 by simp [lsN, hk]] at LS'
    clear hk
    have LS : Kept (∀ w', Calls Try.prog 15 #[.agg #[.int .i64 x, .int .i64 y], .agg #[.int .i64 u, .int .i64 v], .int .i64 s] w' fun e w'' => e = .returned (.tuple #[.agg #[.int .i64 (-1), .int .i64 (-1)], .int .i64 (-1), .int .i64 0]) ∧ Ext w' w'') := ⟨LS'⟩
    clear LS'
    have hx := ((((Ext.refl w).alloc (.cells #[.int .i64 x, .int .i64 y] 27)).alloc (.cells #[.int .i64 u, .int .i64 v] 27)).alloc (.cells #[.int .i64 0, .int .i64 0] 27))
    have kX := ((Blk.new w #[.int .i64 x, .int .i64 y] 27).old (.cells #[.int .i64 u, .int .i64 v] 27)).old (.cells #[.int .i64 0, .int .i64 0] 27)
    have kY := (Blk.new (w.alloc (.cells #[.int .i64 x, .int .i64 y] 27)) #[.int .i64 u, .int .i64 v] 27).old (.cells #[.int .i64 0, .int .i64 0] 27)
    have kR := Blk.new ((w.alloc (.cells #[.int .i64 x, .int .i64 y] 27)).alloc (.cells #[.int .i64 u, .int .i64 v] 27)) #[.int .i64 0, .int .i64 0] 27
    simp only [World.size_alloc] at kY kR
    go_enter Try.func22, Try.ntmps22
    obtain ⟨x0, x1⟩ := kX.two
    obtain ⟨y0, y1⟩ := kY.two
    go_wp2_with (fail)
    (with_reducible refine (LS.out _).mono ?_)
    rintro e w1 ⟨rfl, z1⟩
    clear x0 x1 y0 y1
    replace kR := kR.keep z1
    replace hx := hx.trans z1
    clear z1
    go_wp2_with (fail)
    (with_reducible refine (spec_l6Bad _).mono ?_)
    rintro e W1 ⟨rfl, hy⟩
    replace kR := (kR.old (.cells #[.int .i64 (-1), .int .i64 (-1)] 27)).keep hy
    replace hx := (hx.alloc (.cells #[.int .i64 (-1), .int .i64 (-1)] 27)).trans hy
    clear hy kX kY
    have lR := kR.lt
    obtain ⟨s0, s1⟩ := kR.two
    have sf := kR.free
    replace kR := kR.old (.cells #[] 3)
    obtain ⟨r0, r1⟩ := kR.two
    have rf := kR.free
    have zz := hx.size
    have HX := Kept.mk hx
    clear hx kR LS
    go_wp2
    exact bodyPost_ret (v := .tuple #[.agg #[.int .i64 (-1), .int .i64 (-1)], .slice (some ⟨W1.heap.size, 0, none⟩) 0 0, .int .i64 0]) (by simp [results, Try.results22, go_sem, *]) rfl ⟨_, rfl, Own.empty (by omega) (by have h := Blk.new ((W1.setCell ⟨w.heap.size + 1 + 1, 0, none⟩ (.int .i64 (-1))).setCell ⟨w.heap.size + 1 + 1, 1, none⟩ (.int .i64 (-1))) #[] 3; simpa [World.setCell, Blk] using h) (Nat.zero_le _) rfl, ((HX.out.setCell (by show w.heap.size ≤ w.heap.size + 1 + 1; omega) _).setCell (by show w.heap.size ≤ w.heap.size + 1 + 1; omega) _).alloc _⟩
  · have ok := mx_ok hk
    obtain ⟨_, _, _, _, _, _, _, -, _, _, _, -, c0, -⟩ := less_law hk
    rw [show mxF x y u v s = addF x y (mxG x y u v s) (mxH x y u v s) by simp only [mxF, hk, if_true], show mxL x y u v s = addL x y (mxG x y u v s) (mxH x y u v s) by simp only [mxL, hk, if_true], show mxN x y u v s = tN (lsN x y u v s) by simp only [mxN, hk, if_true]]
    rw [show mxO x y u v s = [lsC x y u v s, opX (lsF x y u v s) (lsL x y u v s) (tA (lsN x y u v s)) (tB (lsN x y u v s)), opX (subF u v x y) (subL u v x y) (tC (lsN x y u v s)) (tD (lsN x y u v s))] by simp only [mxO, hk, if_true]]
    clear hk
    have LS' := spec_LessShared x y u v s
    unfold mxG mxH
    have MS' := fun w' => spec_MulShared (lsF x y u v s) (lsL x y u v s) (subF u v x y) (subL u v x y) (tA (lsN x y u v s)) (tB (lsN x y u v s)) (tC (lsN x y u v s)) (tD (lsN x y u v s)) (tE (lsN x y u v s)) (tF (lsN x y u v s)) w'
    unfold MulPost at MS'
    rw [show mulO (lsF x y u v s) (lsL x y u v s) (subF u v x y) (subL u v x y) (tA (lsN x y u v s)) (tB (lsN x y u v s)) (tC (lsN x y u v s)) (tD (lsN x y u v s)) (tE (lsN x y u v s)) (tF (lsN x y u v s)) = [opX (lsF x y u v s) (lsL x y u v s) (tA (lsN x y u v s)) (tB (lsN x y u v s)), opX (subF u v x y) (subL u v x y) (tC (lsN x y u v s)) (tD (lsN x y u v s))] by simp only [mulO, ok, if_true], ok] at MS'
    clear ok
    have SS' := fun w' => spec_SubShares u v x y w'
    have MT' := fun w' => spec_MakeTriple (lsN x y u v s) w'
    generalize mulF (lsF x y u v s) (lsL x y u v s) (subF u v x y) (subL u v x y) (tA (lsN x y u v s)) (tB (lsN x y u v s)) (tC (lsN x y u v s)) (tD (lsN x y u v s)) (tE (lsN x y u v s)) (tF (lsN x y u v s)) = G at *
    generalize mulL (lsF x y u v s) (lsL x y u v s) (subF u v x y) (subL u v x y) (tA (lsN x y u v s)) (tB (lsN x y u v s)) (tC (lsN x y u v s)) (tD (lsN x y u v s)) (tE (lsN x y u v s)) (tF (lsN x y u v s)) = H at *
    generalize opX (lsF x y u v s) (lsL x y u v s) (tA (lsN x y u v s)) (tB (lsN x y u v s)) = D at *
    generalize opX (subF u v x y) (subL u v x y) (tC (lsN x y u v s)) (tD (lsN x y u v s)) = E at *
    generalize lsF x y u v s = F at *
    generalize lsL x y u v s = L at *
    generalize lsC x y u v s = C at *
    generalize lsN x y u v s = N at *
    generalize tA N = ta at *
    generalize tB N = tb at *
    generalize tC N = tc at *
    generalize tD N = td at *
    generalize tE N = te at *
    generalize tF N = tf at *
    generalize tN N = M at *
    generalize subF u v x y = p at *
    generalize subL u v x y = q at *
    have AS' := fun w' => spec_AddShares x y G H w'
    generalize addF x y G H = P at *
    generalize addL x y G H = Q at *
    have LS : Kept (∀ w', Calls Try.prog 15 #[.agg #[.int .i64 x, .int .i64 y], .agg #[.int .i64 u, .int .i64 v], .int .i64 s] w' fun e w'' => e = .returned (.tuple #[.agg #[.int .i64 F, .int .i64 L], .int .i64 C, .int .i64 N]) ∧ Ext w' w'') := ⟨LS'⟩
    clear LS'
    have MS : Kept (∀ w', Calls Try.prog 59 #[.agg #[.int .i64 F, .int .i64 L], .agg #[.int .i64 p, .int .i64 q], .agg #[.int .i64 ta, .int .i64 tb, .int .i64 tc, .int .i64 td, .int .i64 te, .int .i64 tf]] w' fun e w'' => ∃ s, e = .returned (.tuple #[.agg #[.int .i64 G, .int .i64 H], s, .bool true]) ∧ Own w'.heap.size w'' s [D, E] ∧ Ext w' w'') := ⟨MS'⟩
    clear MS'
    have SS : Kept (∀ w', Calls Try.prog 48 #[.agg #[.int .i64 u, .int .i64 v], .agg #[.int .i64 x, .int .i64 y]] w' fun e w'' => e = .returned (.agg #[.int .i64 p, .int .i64 q]) ∧ Ext w' w'') := ⟨SS'⟩
    clear SS'
    have MT : Kept (∀ w', Calls Try.prog 58 #[.int .i64 N] w' fun e w'' => e = .returned (.tuple #[.agg #[.int .i64 ta, .int .i64 tb, .int .i64 tc, .int .i64 td, .int .i64 te, .int .i64 tf], .int .i64 M]) ∧ Ext w' w'') := ⟨MT'⟩
    clear MT'
    have AS : Kept (∀ w', Calls Try.prog 60 #[.agg #[.int .i64 x, .int .i64 y], .agg #[.int .i64 G, .int .i64 H]] w' fun e w'' => e = .returned (.agg #[.int .i64 P, .int .i64 Q]) ∧ Ext w' w'') := ⟨AS'⟩
    clear AS'
    have hx := ((((Ext.refl w).alloc (.cells #[.int .i64 x, .int .i64 y] 27)).alloc (.cells #[.int .i64 u, .int .i64 v] 27)).alloc (.cells #[.int .i64 0, .int .i64 0] 27))
    have kX := ((Blk.new w #[.int .i64 x, .int .i64 y] 27).old (.cells #[.int .i64 u, .int .i64 v] 27)).old (.cells #[.int .i64 0, .int .i64 0] 27)
    have kY := (Blk.new (w.alloc (.cells #[.int .i64 x, .int .i64 y] 27)) #[.int .i64 u, .int .i64 v] 27).old (.cells #[.int .i64 0, .int .i64 0] 27)
    have kR := Blk.new ((w.alloc (.cells #[.int .i64 x, .int .i64 y] 27)).alloc (.cells #[.int .i64 u, .int .i64 v] 27)) #[.int .i64 0, .int .i64 0] 27
    simp only [World.size_alloc] at kY kR
    have c1 : decide (C < 0) = false := by simp; omega
    clear c0
    go_enter Try.func22, Try.ntmps22
    obtain ⟨x0, x1⟩ := kX.two
    obtain ⟨y0, y1⟩ := kY.two
    go_wp2_with (fail)
    (with_reducible refine (LS.out _).mono ?_)
    rintro e w4 ⟨rfl, z4⟩
    clear x0 x1 y0 y1 LS
    replace kX := kX.keep z4
    replace kY := kY.keep z4
    replace kR := kR.keep z4
    replace hx := hx.trans z4
    clear z4
    have kL := Blk.new w4 #[.int .i64 F, .int .i64 L] 27
    replace kX := kX.old (.cells #[.int .i64 F, .int .i64 L] 27)
    replace kY := kY.old (.cells #[.int .i64 F, .int .i64 L] 27)
    replace kR := kR.old (.cells #[.int .i64 F, .int .i64 L] 27)
    replace hx := hx.alloc (.cells #[.int .i64 F, .int .i64 L] 27)
    go_wp2_with (fail)
    (with_reducible refine (MT.out _).mono ?_)
    rintro e w5 ⟨rfl, z5⟩
    clear MT
    clear c1
    have lL := kL.lt
    replace kX := kX.keep z5
    replace kY := kY.keep z5
    replace kR := kR.keep z5
    replace kL := kL.keep z5
    replace hx := hx.trans z5
    clear z5
    have kT := Blk.new w5 #[.int .i64 ta, .int .i64 tb, .int .i64 tc, .int .i64 td, .int .i64 te, .int .i64 tf] 67
    replace kX := kX.old (.cells #[.int .i64 ta, .int .i64 tb, .int .i64 tc, .int .i64 td, .int .i64 te, .int .i64 tf] 67)
    replace kY := kY.old (.cells #[.int .i64 ta, .int .i64 tb, .int .i64 tc, .int .i64 td, .int .i64 te, .int .i64 tf] 67)
    replace kR := kR.old (.cells #[.int .i64 ta, .int .i64 tb, .int .i64 tc, .int .i64 td, .int .i64 te, .int .i64 tf] 67)
    replace kL := kL.old (.cells #[.int .i64 ta, .int .i64 tb, .int .i64 tc, .int .i64 td, .int .i64 te, .int .i64 tf] 67)
    replace hx := hx.alloc (.cells #[.int .i64 ta, .int .i64 tb, .int .i64 tc, .int .i64 td, .int .i64 te, .int .i64 tf] 67)
    go_wp2_with (fail)
    apply wp_region_zipF 27 #[.int .i64 0, .int .i64 0] #[.int .i64 G, .int .i64 H] [isv _, isv _, isv _, isv (.agg #[.int .i64 p, .int .i64 q]), isv _, tupF (by decide) (.agg #[.int .i64 G, .int .i64 H]) (.bool true) [D, E], tupF (by decide) (.agg #[.int .i64 G, .int .i64 H]) (.bool true) [D, E], isv (.agg #[.int .i64 G, .int .i64 H]), ownF (by decide) [D, E], isv (.bool true), newF _ _ _ 27, putF 10 _ _ _ 27, ownF (by decide) [D, E], isv (.bool true)] _ (by kernel_rfl)
    case hA => intro V; simp [putAll, dstOf, Act.put]; exact rfl
    case hsl => intro V; exact rfl
    case step =>
      intro V lo up w' hr
      replace hr := hr.ext
      have hxr := hx.trans hr
      obtain ⟨hcr, hzr⟩ := hxr.cells
      have hsr := hr.size
      have kX := kX.keep hr
      have kY := kY.keep hr
      have kR := kR.keep hr
      have kL := kL.keep hr
      have kT := kT.keep hr
      obtain ⟨x0, x1⟩ := kX.two
      obtain ⟨y0, y1⟩ := kY.two
      obtain ⟨l0, l1⟩ := kL.two
      obtain ⟨t0, t1, t2, t3, t4, t5⟩ := kT.six
      simp only [zipOkS, depsImp, isv, tupF, ownF, modeNg, newF, putF, waits, Region.binds, List.map_nil, List.map_cons, List.headD_cons, List.nil_append, List.cons_append, List.filterMap_cons, List.filterMap_nil, ↓reduceIte, modeNe, Bool.false_eq_true, true_implies, List.getD_cons_zero, List.getD_cons_succ, and_true]
      refine ⟨?_, ?_, ?_, ?_, ?_, ?_, ?_, ?_, ?_, ?_, ?_, ?_, ?_, ?_⟩
      · intros
        go_wp2
        refine stepS_mk rfl (by simp only [List.getElem?_toArray, List.getElem?_cons_succ, List.getElem?_cons_zero]; exact rfl) ?_
        exact ⟨Fill.refl _, rfl⟩
      · intros
        go_wp2
        refine stepS_mk rfl (by simp only [List.getElem?_toArray, List.getElem?_cons_succ, List.getElem?_cons_zero]; exact rfl) ?_
        exact ⟨Fill.refl _, rfl⟩
      · intros
        go_wp2
        refine stepS_mk rfl (by simp only [List.getElem?_toArray, List.getElem?_cons_succ, List.getElem?_cons_zero]; exact rfl) ?_
        exact ⟨Fill.refl _, rfl⟩
      · intros
        go_wp2_with (fail)
        (with_reducible refine (SS.out _).mono ?_)
        rintro e w7 ⟨rfl, z7⟩
        go_wp2
        refine stepS_mk rfl (by simp only [List.getElem?_toArray, List.getElem?_cons_succ, List.getElem?_cons_zero]; exact rfl) ?_
        exact ⟨Fill.of_ext z7, rfl⟩
      · intros
        go_wp2
        refine stepS_mk rfl (by simp only [List.getElem?_toArray, List.getElem?_cons_succ, List.getElem?_cons_zero]; exact rfl) ?_
        exact ⟨Fill.refl _, rfl⟩
      · intros
        go_wp2_with (fail)
        (with_reducible refine (MS.out _).mono ?_)
        rintro e w7 ⟨sl, rfl, o, z7⟩
        go_wp2
        refine stepS_mk rfl (by simp only [List.getElem?_toArray, List.getElem?_cons_succ, List.getElem?_cons_zero]; exact rfl) ?_
        exact ⟨Fill.of_ext z7, sl, rfl, o.mono hsr⟩
      · intro _ _ _ ⟨s, es, os⟩
        intros
        go_wp2
        refine stepS_mk rfl (by simp only [List.getElem?_toArray, List.getElem?_cons_succ, List.getElem?_cons_zero]; exact rfl) ?_
        first | exact ⟨Fill.refl _, s, es, os⟩ | exact ⟨Fill.refl _, s, rfl, os⟩
      · intro _ _ _ ⟨s, es, os⟩
        intros
        go_wp2
        refine stepS_mk rfl (by simp only [List.getElem?_toArray, List.getElem?_cons_succ, List.getElem?_cons_zero]; exact rfl) ?_
        exact ⟨Fill.refl _, rfl⟩
      · intro _ _ _ ⟨s, es, os⟩
        intros
        go_wp2
        refine stepS_mk rfl (by simp only [List.getElem?_toArray, List.getElem?_cons_succ, List.getElem?_cons_zero]; exact rfl) ?_
        exact ⟨Fill.refl _, os⟩
      · intro _ _ _ ⟨s, es, os⟩
        intros
        go_wp2
        refine stepS_mk rfl (by simp only [List.getElem?_toArray, List.getElem?_cons_succ, List.getElem?_cons_zero]; exact rfl) ?_
        exact ⟨Fill.refl _, rfl⟩
      · intros
        go_wp2
        refine stepS_mk rfl (by simp only [List.getElem?_toArray, List.getElem?_cons_succ, List.getElem?_cons_zero]; exact rfl) ?_
        exact ⟨Fill.of_ext ((Ext.refl _).alloc _), rfl, by simp, .inl (Blk.new _ _ _)⟩
      · intro hl _ _ ⟨e11, _, k11⟩ _ _ _ _ _ _ _ e8
        intros
        exact wpList_fill rfl rfl (.tmp 14) (.tmp 41) rfl (lo 10) e11 e8 k11 (by kernel_rfl) rfl (by simp [Value.oneCell']) hr hl hl fun w'' f k u => ⟨f, _, e11, k⟩
      · intros
        go_wp2
        refine stepS_mk rfl (by simp only [List.getElem?_toArray, List.getElem?_cons_succ, List.getElem?_cons_zero]; exact rfl) ?_
        exact ⟨Fill.refl _, by assumption⟩
      · intros
        go_wp2
        refine stepS_mk rfl (by simp only [List.getElem?_toArray, List.getElem?_cons_succ, List.getElem?_cons_zero]; exact rfl) ?_
        exact ⟨Fill.refl _, by first | rfl | assumption⟩
    case hB => kernel_rfl
    case fin =>
      intro V lo up w' hr hf ha
      simp only [factsOk, isv, tupF, ownF, modeNg, newF, putF, List.map_nil, List.map_cons, List.headD_cons, and_true, Nat.zero_add, Nat.reduceAdd] at hf
      simp only [List.length_cons, List.length_nil, Nat.zero_add, Nat.reduceAdd, List.drop_succ_cons, List.drop_zero]
      obtain ⟨-, -, -, -, -, -, -, ⟨-, -, -, e8⟩, -, -, ⟨lA, -, -, e11, -, -⟩, ⟨-, -, -, b, e12, kA⟩, ⟨-, -, -, oA⟩, ⟨-, -, -, e10⟩⟩ := hf
      clear ha
      have hs0 := hx.size
      have hx' := hx.trans hr
      clear hx
      have hx := hx'
      clear hx'
      have tkR := kR.lt
      replace kX := kX.keep hr
      replace kY := kY.keep hr
      replace kR := kR.keep hr
      replace kL := kL.keep hr
      replace kT := kT.keep hr
      obtain rfl : lo 10 = b := by rw [e11] at e12; simpa using e12
      clear e12
      obtain ⟨gO, cO, e9', -, -, -⟩ := oA.form (by simp)
      have e9 : _ = Value.slice (some ⟨gO, 0, none⟩) 2 cO := e9'
      clear e9'
      rw [e9] at oA
      rw [e8, e9, e10, e11]
      clear e8 e9 e10 e11
      generalize lo 10 = gA at *
      clear hr
      try clear hc hz
      clear SS MS kL kT kY
      have lw := hx.size
      obtain ⟨x0, x1⟩ := kX.two
      obtain ⟨a0, a1⟩ := kA.two
      go_wp2_with (fail)
      (with_reducible refine (AS.out _).mono ?_)
      rintro e w8 ⟨rfl, z8⟩
      clear AS x0 x1 a0 a1 kX kA
      replace kR := kR.keep z8
      replace oA := oA.keep z8
      replace hx := hx.trans z8
      clear z8
      have lw8 := hx.size
      have HX := Kept.mk hx
      clear hx
      replace oA := oA.keep ((Ext.refl w8).alloc (.cells #[.int .i64 C] 3))
      replace kR := kR.old (.cells #[.int .i64 C] 3)
      have kC := Blk.new w8 #[.int .i64 C] 3
      have oC : Own w8.heap.size (w8.alloc (.cells #[.int .i64 C] 3)) (.slice (some ⟨w8.heap.size, 0, none⟩) 1 1) [C] := Own.lit [C] (Nat.le_refl _) kC (by show 1 ≤ maxLen; unfold maxLen; omega)
      have neR := oC.ne kR (by decide)
      have OC := Kept.mk oC
      have OA := Kept.mk oA
      have KR := Kept.mk kR
      clear oC oA kR kC
      go_wp2_with (at_builtin; refine wpList_append_ints rfl _ _ rfl w8.heap.size _ [C] rfl OC.out _ [D, E] rfl OA.out.ints OA.out.nilOk (by simp) (by simp; try omega) ?_; intro v' w9 hown htu; have kR := Turned.blk KR.out htu neR; obtain ⟨r0, r1⟩ := kR.two; have rf := kR.free; have OW := Kept.mk hown; have NE := Kept.mk (hown.ne kR (by decide)); have XE := Kept.mk (Turned.ext (HX.out.alloc (.cells #[.int .i64 C] 3)) htu (fun q hq => by have := (OC.out.block q hq).1; omega)); clear kR hown htu)
      exact bodyPost_ret (v := .tuple #[.agg #[.int .i64 P, .int .i64 Q], v', .int .i64 M]) (by simp [results, Try.results22, go_sem, *]) rfl ⟨_, rfl, Own.mono (Own.setOther (Own.setOther OW.out _ NE.out _ _) _ NE.out _ _) lw8, (XE.out.setCell (by show w.heap.size ≤ w.heap.size + 1 + 1; omega) _).setCell (by show w.heap.size ≤ w.heap.size + 1 + 1; omega) _⟩
end Go.Proofs.Ytbkallacblkmpaa
