/- Proved: the law FnMakeTable answers true for every input. No condition. -/
import Derived.Test.YtnblocljjljebaaRows
import Derived.Test.YtnblocljjljebaaTabE
import Derived.Test.YtnblocljjljebaaOpen
import Derived.ChangeSlices
import Derived.Test.YtnblocljjljebaaOpen
import Derived.ChangeOld
import Derived.Carry
namespace Go.Proofs.Ytnblocljjljebaa
set_option linter.unusedSimpArgs false
set_option linter.unusedVariables false
open Go.ChangeShapes Go.WideShapes Go.ChangeAt Go.RowKit Go.Joins
set_option linter.unusedVariables false
theorem own : ownKnob Try.prog.godebug = none := by kernel_rfl
theorem laidOut : laidOutB Try.prog = true := by kernel_rfl

theorem laws_alive (w : World) : Calls Try.prog 18 #[] w fun e w' => e = .returned (.bool true) ∧ w = w' := by
  go_enter Try.func18, Try.ntmps18
  go_wp2_with (go_at_call 33; (with_reducible refine (impl_RingValid 5 true (by decide) _).mono ?_); rintro e w1 ⟨rfl, rfl⟩)
  go_ret
  exact ⟨rfl, rfl⟩
theorem made_tab {vs : List Int} {s : Int} (h : mkOk vs s = true) : tabV (mtA vs s) (mtB vs s) (mtF vs s) (mtS vs s) = true := by
  have hA : mtA vs s = rnd s 0 := by simp [mtA, h]
  have hB : mtB vs s = rnd s 1 := by simp [mtB, h]
  have hF : mtF vs s = rlist (strm s 2) 4096 := by simp [mtF, h]
  have hS : mtS vs s = secL vs s 4096 := by simp [mtS, h]
  rw [hA, hB, hF, hS]
  have g1 : goodL (rlist (strm s 2) 4096) = true := by
    simp only [goodL, rlist_len, Bool.and_eq_true, decide_eq_true_eq, List.all_eq_true]
    refine ⟨fun x hx => ?_, by omega⟩
    simp only [rlist, List.mem_map, List.mem_range] at hx
    obtain ⟨i, _, rfl⟩ := hx
    exact rnd_rv _ _
  have g2 : goodL (secL vs s 4096) = true := by
    simp only [goodL, secL_len, Bool.and_eq_true, decide_eq_true_eq, List.all_eq_true]
    refine ⟨fun x hx => ?_, by omega⟩
    simp only [secL, List.mem_map, List.mem_range] at hx
    obtain ⟨i, _, rfl⟩ := hx
    exact rv_ring _
  simp [tabV, g1, g2, rnd_rv]
theorem made_seed {vs : List Int} {s : Int} (h : mkOk vs s = true) : mtN vs s ≠ 0 := by
  have hs : seedOk s = true := by simp only [mkOk, Bool.and_eq_true] at h; exact h.2
  have := (((seed_of hs).strm 2).strm 4096).lo
  have e : mtN vs s = strm (strm s 2) 4096 := by simp [mtN, h]
  rw [e]; omega
/-- A number that is looked up is the value at it. -/
theorem made_look {vs : List Int} {s x y : Int} (h : mkOk vs s = true) (hx : (rv x && rv y) = true) : ∃ n m : Nat, addR x y = (n : Int) ∧ n < vs.length ∧ addR (n : Int) (addR (mtA vs s) (mtB vs s)) = (m : Int) ∧ addR ((mtF vs s).getD m 0) ((mtS vs s).getD m 0) = vs.getD n 0 := by
  have hg : goodL vs = true := by simp only [mkOk, Bool.and_eq_true] at h; exact h.1
  have hl := good_len hg
  simp only [Bool.and_eq_true] at hx
  have hA : mtA vs s = rnd s 0 := by simp [mtA, h]
  have hB : mtB vs s = rnd s 1 := by simp [mtB, h]
  have hF : mtF vs s = rlist (strm s 2) 4096 := by simp [mtF, h]
  have hS : mtS vs s = secL vs s 4096 := by simp [mtS, h]
  have a1 := ring_lo (x + y)
  have a2 := ring_hi (x + y)
  have hsh : addR (rnd s 0) (rnd s 1) = ring (rnd s 0 + rnd s 1) := addR_ok (rnd_rv s 0) (rnd_rv s 1)
  have b1 := ring_lo (ring (x + y) + ring (rnd s 0 + rnd s 1))
  have b2 := ring_hi (ring (x + y) + ring (rnd s 0 + rnd s 1))
  obtain ⟨n, hn⟩ := Int.eq_ofNat_of_zero_le a1
  obtain ⟨m, hm⟩ := Int.eq_ofNat_of_zero_le b1
  have hm4 : m < 4096 := by omega
  refine ⟨n, m, by rw [addR_ok hx.1 hx.2, hn], by omega, ?_, ?_⟩
  · rw [hA, hB, hsh, ← hn, addR_ok (rv_ring _) (rv_ring _), hm]
  · rw [hF, hS, rlist_get _ _ _ hm4, secL_get _ _ _ _ hm4]
    have e : ring ((m : Int) - shT s) = (n : Int) := by
      rw [shT, hsh, ← hm, ← hn]
      unfold ring; omega
    rw [sec_at e, addR_ok (rnd_rv _ _) (rv_ring _)]
    have hr := good_rv hg n (by omega)
    rw [rv_iff] at hr
    unfold ring; omega
theorem addR_bad {x y : Int} (h : (rv x && rv y) = false) : addR x y = -1 := by
  unfold addR
  rw [if_neg (by intro k; rw [k.1, k.2] at h; cases h)]

set_option maxHeartbeats 8000000 in
set_option maxRecDepth 4000 in
theorem walk_FnMakeTable (v u : Value) (w : World) (hb : Bytes w v) (hc : Bytes w u) : Calls Try.prog 14 #[v, u] w fun e w' => e = .returned (.bool true) ∧ Ext w w' := by
  obtain ⟨ca, n0, cap, rfl, -, -, -⟩ := id hb
  obtain ⟨da, n1, dap, rfl, -, -, -⟩ := id hc
  have HB := Kept.mk hb; clear hb
  have HU := Kept.mk hc; clear hc
  by_cases hl : (n0 : Int) ≤ 1048576
  · by_cases hm : (n1 : Int) ≤ 1048576
    · go_enter Try.func14, Try.ntmps14
      go_wp2_with (fail)
      (with_reducible refine (spec_DrawMakeTable _ _ HB.out).mono ?_)
      rintro e w1 ⟨u5, vs, s, rfl, i5, hx1⟩
      clear hl hm
      obtain ⟨sv, nv, h5, -, -⟩ := id i5.ints
      subst h5
      have I5 := Kept.mk i5.ints
      clear i5
      have hx0 := Kept.mk hx1
      clear hx1
      have hx := Ext.refl w1
      have MI : Kept (∀ w', Ext w1 w' → Calls Try.prog 47 #[.slice sv vs.length nv, .int .i64 s] w' (MadePost vs s w')) := ⟨fun w' hx => impl_MakeTable vs s _ w' (I5.out.keep hx)⟩
      have MS : Kept (∀ w', Ext w1 w' → Calls Try.prog 45 #[.slice sv vs.length nv, .int .i64 s] w' (MadePost vs s w')) := ⟨fun w' hx => spec_MakeTable vs s _ w' (I5.out.keep hx)⟩
      unfold MadePost at MI MS
      cases hk : mkOk vs s
      · have z1 : mtA vs s = 0 := by simp [mtA, hk]
        have z2 : mtB vs s = 0 := by simp [mtB, hk]
        have z3 : mtF vs s = [] := by simp [mtF, hk]
        have z4 : mtS vs s = [] := by simp [mtS, hk]
        have z5 : mtN vs s = 0 := by simp [mtN, hk]
        rw [z1, z2, z3, z4, z5] at MI MS
        clear z1 z2 z3 z4 z5 hk
        go_wp2_with (fail)
        (with_reducible refine (MI.out _ hx).mono ?_)
        rintro e w2 ⟨v1, v2, rfl, o71, o72, -, x2⟩
        replace hx := hx.trans x2
        clear x2
        obtain ⟨p71, m71, hh, -, -⟩ := id o71.ints
        simp only [List.length_nil] at hh
        subst hh
        obtain ⟨p72, m72, hh, -, -⟩ := id o72.ints
        simp only [List.length_nil] at hh
        subst hh
        have k7 := Blk.new w2 #[.int .i64 0, .int .i64 0, .slice p71 0 m71, .slice p72 0 m72] 39
        have xa := (Ext.refl w2).alloc (.cells #[.int .i64 0, .int .i64 0, .slice p71 0 m71, .slice p72 0 m72] 39)
        replace o71 := o71.keep xa
        replace o72 := o72.keep xa
        replace hx := hx.trans xa
        clear xa
        go_wp2_with (fail)
        (with_reducible refine (MS.out _ hx).mono ?_)
        rintro e w3 ⟨v1, v2, rfl, o91, o92, -, x3⟩
        have l7 := k7.lt
        replace k7 := k7.keep x3
        replace o71 := o71.keep x3
        replace o72 := o72.keep x3
        replace hx := hx.trans x3
        clear x3
        obtain ⟨p91, m91, hh, -, -⟩ := id o91.ints
        simp only [List.length_nil] at hh
        subst hh
        obtain ⟨p92, m92, hh, -, -⟩ := id o92.ints
        simp only [List.length_nil] at hh
        subst hh
        have k9 := Blk.new w3 #[.int .i64 0, .int .i64 0, .slice p91 0 m91, .slice p92 0 m92] 39
        have xa := (Ext.refl w3).alloc (.cells #[.int .i64 0, .int .i64 0, .slice p91 0 m91, .slice p92 0 m92] 39)
        replace k7 := k7.keep xa
        replace o71 := o71.keep xa
        replace o72 := o72.keep xa
        replace o91 := o91.keep xa
        replace o92 := o92.keep xa
        replace hx := hx.trans xa
        clear xa
        obtain ⟨a0, a1, a2, a3⟩ := k7.four
        obtain ⟨b0, b1, b2, b3⟩ := k9.four
        go_wp2_with (fail)
        (with_reducible refine (laws_sameTable 0 0 _ _ _ _ [] [] _ o71.ints o72.ints o91.ints o92.ints).mono ?_)
        rintro e w4 ⟨rfl, x4⟩
        clear a0 a1 a2 a3 b0 b1 b2 b3 k9 o91 o92
        replace k7 := k7.keep x4
        replace o71 := o71.keep x4
        replace o72 := o72.keep x4
        replace hx := hx.trans x4
        clear x4
        obtain ⟨a0, a1, a2, a3⟩ := k7.four
        have HX := Kept.mk (hx0.out.trans hx)
        go_wp2_with (go_at_call 18; (with_reducible refine (laws_alive _).mono ?_); rintro e w1 ⟨rfl, rfl⟩)
        go_ret
        exact ⟨rfl, HX.out⟩
      · have TV := Kept.mk (made_tab hk)
        have N0 := made_seed hk
        have LK := Kept.mk (fun (x y : Int) => made_look (x := x) (y := y) hk)
        clear hk
        generalize mtA vs s = A at *
        generalize mtB vs s = C at *
        generalize mtF vs s = F at *
        generalize mtS vs s = G at *
        generalize mtN vs s = N at *
        go_wp2_with (fail)
        (with_reducible refine (MI.out _ hx).mono ?_)
        rintro e w2 ⟨v1, v2, rfl, o71, o72, -, x2⟩
        replace hx := hx.trans x2
        clear x2
        obtain ⟨p71, m71, hh, -, -⟩ := id o71.ints
        subst hh
        obtain ⟨p72, m72, hh, -, -⟩ := id o72.ints
        subst hh
        have k7 := Blk.new w2 #[.int .i64 A, .int .i64 C, .slice p71 F.length m71, .slice p72 G.length m72] 39
        have xa := (Ext.refl w2).alloc (.cells #[.int .i64 A, .int .i64 C, .slice p71 F.length m71, .slice p72 G.length m72] 39)
        replace o71 := o71.keep xa
        replace o72 := o72.keep xa
        replace hx := hx.trans xa
        clear xa
        go_wp2_with (fail)
        (with_reducible refine (MS.out _ hx).mono ?_)
        rintro e w3 ⟨v1, v2, rfl, o91, o92, -, x3⟩
        have l7 := k7.lt
        replace k7 := k7.keep x3
        replace o71 := o71.keep x3
        replace o72 := o72.keep x3
        replace hx := hx.trans x3
        clear x3
        obtain ⟨p91, m91, hh, -, -⟩ := id o91.ints
        subst hh
        obtain ⟨p92, m92, hh, -, -⟩ := id o92.ints
        subst hh
        have k9 := Blk.new w3 #[.int .i64 A, .int .i64 C, .slice p91 F.length m91, .slice p92 G.length m92] 39
        have xa := (Ext.refl w3).alloc (.cells #[.int .i64 A, .int .i64 C, .slice p91 F.length m91, .slice p92 G.length m92] 39)
        replace k7 := k7.keep xa
        replace o71 := o71.keep xa
        replace o72 := o72.keep xa
        replace o91 := o91.keep xa
        replace o92 := o92.keep xa
        replace hx := hx.trans xa
        clear xa
        obtain ⟨a0, a1, a2, a3⟩ := k7.four
        obtain ⟨b0, b1, b2, b3⟩ := k9.four
        go_wp2_with (fail)
        (with_reducible refine (laws_sameTable A C _ _ _ _ F G _ o71.ints o72.ints o91.ints o92.ints).mono ?_)
        rintro e w4 ⟨rfl, x4⟩
        clear a0 a1 a2 a3 b0 b1 b2 b3 k9 o91 o92
        replace k7 := k7.keep x4
        replace o71 := o71.keep x4
        replace o72 := o72.keep x4
        replace hx := hx.trans x4
        clear x4
        have e0 : (N == 0) = false := by simp; omega
        clear N0
        go_wp2_with (fail)
        (with_reducible refine (spec_DrawJoinShares _ _ (HU.out.ext (hx0.out.trans hx))).mono ?_)
        rintro e w5 ⟨x, y, rfl, x5⟩
        clear e0
        replace k7 := k7.keep x5
        replace o71 := o71.keep x5
        replace o72 := o72.keep x5
        replace hx := hx.trans x5
        clear x5
        have l7' := k7.lt
        have kX := Blk.new w5 #[.int .i64 x, .int .i64 y] 37
        have xa := (Ext.refl w5).alloc (.cells #[.int .i64 x, .int .i64 y] 37)
        replace k7 := k7.keep xa
        replace o71 := o71.keep xa
        replace o72 := o72.keep xa
        replace hx := hx.trans xa
        clear xa
        cases hxy : (rv x && rv y)
        · have uo : useOk x y A C F G = false := by simp [useOk, hxy]
          have e1 : useF x y A C F G = -1 := by simp [useF, uo]
          have e2 : useL x y A C F G = -1 := by simp [useL, uo]
          have e3 : useC x y A C F G = -1 := by simp [useC, uo]
          have en := addR_bad hxy
          have UT := impl_UseTable x y A C _ _ F G _ o71.ints o72.ints
          rw [e1, e2, e3, uo] at UT
          clear e1 e2 e3 uo
          have UK := Kept.mk UT
          clear UT
          have EN := Kept.mk en
          clear en
          clear hxy
          obtain ⟨a0, a1, a2, a3⟩ := k7.four
          go_wp2_with (fail)
          (with_reducible refine (UK.out).mono ?_)
          rintro e w6 ⟨rfl, x6⟩
          clear a0 a1 a2 a3 UK
          have lX := kX.lt
          replace k7 := k7.keep x6
          replace kX := kX.keep x6
          replace o71 := o71.keep x6
          replace o72 := o72.keep x6
          replace hx := hx.trans x6
          clear x6
          have kY := Blk.new w6 #[.int .i64 (-1), .int .i64 (-1)] 37
          have xa := (Ext.refl w6).alloc (.cells #[.int .i64 (-1), .int .i64 (-1)] 37)
          replace k7 := k7.keep xa
          replace kX := kX.keep xa
          replace o71 := o71.keep xa
          replace o72 := o72.keep xa
          replace hx := hx.trans xa
          clear xa
          obtain ⟨x0, x1⟩ := kX.two
          have JX : Kept (∀ w', Calls Try.prog 53 #[.agg #[.int .i64 x, .int .i64 y]] w' fun e w'' => e = .returned (.int .i64 (-1)) ∧ Ext w' w'') := ⟨fun w' => EN.out ▸ impl_JoinShares x y w'⟩
          go_wp2_with (fail)
          (with_reducible refine (JX.out _).mono ?_)
          rintro e w7 ⟨rfl, x7⟩
          clear x0 x1 kX EN JX
          replace k7 := k7.keep x7
          replace kY := kY.keep x7
          replace o71 := o71.keep x7
          replace o72 := o72.keep x7
          replace hx := hx.trans x7
          clear x7
          have HX := Kept.mk (hx0.out.trans hx)
          go_wp2
          go_ret
          exact ⟨rfl, HX.out⟩
        · obtain ⟨n, m, en, ln, em, el⟩ := LK.out x y hxy
          have uo : useOk x y A C F G = true := by simp [useOk, hxy, TV.out]
          have e1 : useF x y A C F G = F.getD m 0 := by simp only [useF, uo, if_true, en, em]; rfl
          have e2 : useL x y A C F G = G.getD m 0 := by simp only [useL, uo, if_true, en, em]; rfl
          have e3 : useC x y A C F G = (m : Int) := by simp only [useC, uo, if_true, en, em]
          have UT := impl_UseTable x y A C _ _ F G _ o71.ints o72.ints
          rw [e1, e2, e3, uo] at UT
          clear e1 e2 e3 uo
          generalize F.getD m 0 = p at *
          generalize G.getD m 0 = q at *
          have UK := Kept.mk UT
          clear UT
          have EN := Kept.mk en
          clear en
          clear hxy
          have EM := Kept.mk em
          have EL := Kept.mk el
          clear em el
          obtain ⟨a0, a1, a2, a3⟩ := k7.four
          go_wp2_with (fail)
          (with_reducible refine (UK.out).mono ?_)
          rintro e w6 ⟨rfl, x6⟩
          clear a0 a1 a2 a3 UK
          have lX := kX.lt
          replace k7 := k7.keep x6
          replace kX := kX.keep x6
          replace o71 := o71.keep x6
          replace o72 := o72.keep x6
          replace hx := hx.trans x6
          clear x6
          have kY := Blk.new w6 #[.int .i64 p, .int .i64 q] 37
          have xa := (Ext.refl w6).alloc (.cells #[.int .i64 p, .int .i64 q] 37)
          replace k7 := k7.keep xa
          replace kX := kX.keep xa
          replace o71 := o71.keep xa
          replace o72 := o72.keep xa
          replace hx := hx.trans xa
          clear xa
          obtain ⟨x0, x1⟩ := kX.two
          have JX : Kept (∀ w', Calls Try.prog 53 #[.agg #[.int .i64 x, .int .i64 y]] w' fun e w'' => e = .returned (.int .i64 (n : Int)) ∧ Ext w' w'') := ⟨fun w' => EN.out ▸ impl_JoinShares x y w'⟩
          go_wp2_with (fail)
          (with_reducible refine (JX.out _).mono ?_)
          rintro e w7 ⟨rfl, x7⟩
          clear x0 x1 kX EN JX
          replace k7 := k7.keep x7
          replace kY := kY.keep x7
          replace o71 := o71.keep x7
          replace o72 := o72.keep x7
          replace hx := hx.trans x7
          clear x7
          have ln' : (n : Int) < (vs.length : Int) := by omega
          obtain ⟨b, off, es, lb, cb⟩ := I5.out.at ln
          subst es
          generalize vs.getD n 0 = z at *
          have HH := Kept.mk hx0.out
          go_wp2_with (fail)
          have JY : Kept (∀ w', Calls Try.prog 53 #[.agg #[.int .i64 p, .int .i64 q]] w' fun e w'' => e = .returned (.int .i64 z) ∧ Ext w' w'') := ⟨fun w' => EL.out ▸ impl_JoinShares p q w'⟩
          have JS : Kept (∀ w', Calls Try.prog 53 #[.agg #[.int .i64 A, .int .i64 C]] w' fun e w'' => e = .returned (.int .i64 (addR A C)) ∧ Ext w' w'') := ⟨fun w' => impl_JoinShares A C w'⟩
          have AR : Kept (∀ w', Calls Try.prog 54 #[.int .i64 (n : Int), .int .i64 (addR A C)] w' fun e w'' => e = .returned (.int .i64 (m : Int)) ∧ w' = w'') := ⟨fun w' => EM.out ▸ impl_AddRing (n : Int) (addR A C) w'⟩
          have TT : Kept (∀ w', Ext w7 w' → Calls Try.prog 24 #[.agg #[.int .i64 A, .int .i64 C, .slice p71 F.length m71, .slice p72 G.length m72]] w' fun e w'' => e = .returned (.bool true) ∧ Ext w' w'') := ⟨fun w' h => TV.out ▸ impl_TableValid A C _ _ F G w' (o71.ints.keep h) (o72.ints.keep h)⟩
          clear o71 o72
          apply wp_region_zip [isv _, isv _, isv _, isv _, isv _, isv _, isv _, isv _, isv _, isv _, isv _, isv _, isv _, isv _, isv _, isv _, isv _, isv _, isv _, isv _] _ (by kernel_rfl)
          case hA => intro V; simp [putAll, dstOf, Act.put]; exact rfl
          case hsl => intro V; exact rfl
          case step =>
            intro V lo up w' hr
            have hxr := hx.trans hr
            obtain ⟨hcr, hzr⟩ := hxr.cells
            have k7 := k7.keep hr
            have kY := kY.keep hr
            obtain ⟨a0, a1, a2, a3⟩ := k7.four
            obtain ⟨y0, y1⟩ := kY.two
            have c1 := (hxr.cells.1 b (off + n) lb).trans cb
            simp only [zipOk, depsImp, isv, waits, Region.binds, List.map_nil, List.nil_append, List.filterMap_cons, List.filterMap_nil, ↓reduceIte, true_implies, List.getD_cons_zero, List.getD_cons_succ, and_true]
            refine ⟨?_, ?_, ?_, ?_, ?_, ?_, ?_, ?_, ?_, ?_, ?_, ?_, ?_, ?_, ?_, ?_, ?_, ?_, ?_, ?_⟩
            all_goals
              intros
              go_wp2_with (first | (go_at_call 53; (with_reducible refine (JY.out _).mono ?_); rintro e w1 ⟨rfl, hy⟩) | (go_at_call 53; (with_reducible refine (JS.out _).mono ?_); rintro e w1 ⟨rfl, hy⟩) | (go_at_call 54; (with_reducible refine (AR.out _).mono ?_); rintro e w1 ⟨rfl, rfl⟩) | (go_at_call 24; (with_reducible refine (TT.out _ hr).mono ?_); rintro e w1 ⟨rfl, hy⟩))
              refine stepQ_mk rfl (by simp only [List.getElem?_toArray, List.getElem?_cons_succ, List.getElem?_cons_zero]; exact rfl) ?_
              first | exact ⟨hy, rfl⟩ | exact ⟨Ext.refl _, rfl⟩ | exact ⟨Ext.refl _, by assumption⟩ | exact ⟨(Ext.refl _).alloc _, rfl, by simp, Blk.new _ _ _⟩
          case hB => kernel_rfl
          case fin =>
            intro V lo up w' hr hf ha
            simp only [factsOk, isv, List.map_nil, and_true, Nat.zero_add, Nat.reduceAdd] at hf
            simp only [List.length_cons, List.length_nil, Nat.zero_add, Nat.reduceAdd, List.drop_succ_cons, List.drop_zero]
            obtain ⟨⟨-, -, -, e0⟩, ⟨-, -, -, e1⟩, ⟨-, -, -, e2⟩, ⟨-, -, -, e3⟩, ⟨-, -, -, e4⟩, ⟨-, -, -, e5⟩, ⟨-, -, -, e6⟩, ⟨-, -, -, e7⟩, ⟨-, -, -, e8⟩, ⟨-, -, -, e9⟩, ⟨-, -, -, e10⟩, ⟨-, -, -, e11⟩, ⟨-, -, -, e12⟩, ⟨-, -, -, e13⟩, ⟨-, -, -, e14⟩, ⟨-, -, -, e15⟩, ⟨-, -, -, e16⟩, ⟨-, -, -, e17⟩, ⟨-, -, -, e18⟩, ⟨-, -, -, e19⟩⟩ := hf
            rw [e0, e1, e2, e3, e4, e5, e6, e7, e8, e9, e10, e11, e12, e13, e14, e15, e16, e17, e18, e19]
            clear e0 e1 e2 e3 e4 e5 e6 e7 e8 e9 e10 e11 e12 e13 e14 e15 e16 e17 e18 e19
            clear ha V lo up
            have hs0 := hx.size
            replace hx := hx.trans hr
            have tk7 := k7.lt
            replace k7 := k7.keep hr
            have tkY := kY.lt
            replace kY := kY.keep hr
            clear hr
            try clear hc hz
            obtain ⟨hc, hz⟩ := hx.cells
            go_wp2
            go_ret
            exact ⟨rfl, HH.out.trans hx⟩
    · have hg : (1048576 : Int) < n1 := by omega
      clear hm
      go_enter Try.func14, Try.ntmps14
      go_wp2_with (fail)
      go_ret
      exact ⟨rfl, Ext.refl _⟩
  · have hg : (1048576 : Int) < n0 := by omega
    clear hl
    go_enter Try.func14, Try.ntmps14
    go_wp2_with (fail)
    go_ret
    exact ⟨rfl, Ext.refl _⟩
theorem add_at (b o i : Nat) : (⟨b, o, none⟩ : Addr).add i = ⟨b, o + i, none⟩ := by
  unfold Addr.add; by_cases h : i = 0
  · subst h; rfl
  · rw [if_neg h]
theorem cell_lt {w : World} {b o : Nat} {v : Value} (h : w.cell? ⟨b, o, none⟩ = some v) : b < w.heap.size := by
  apply Classical.byContradiction
  intro hn
  have : w.heap[b]? = none := by simp; omega
  simp [World.cell?, this] at h
theorem bytes_of {H : Type} {enc : TypeId × Value → H} {w : World} {base : Nat} {held : Bool} {t e : TypeId} {fuel : Nat} {a : Option Addr} {len cap : Nat} {x : DataW H × List MemPlace} (ht : Try.prog.underlying t = some (.slice e)) (he : Try.prog.underlying e = some (.int .u8)) (hc : Try.prog.cellsOf e = 1)
    (h : DataW.trod enc Try.prog w base (fun _ => true) held fuel t (Value.slice a len cap).cells.toList = some x) : Bytes w (.slice a len cap) := by
  rcases open_ints ht he hc h with ⟨hcs, _⟩ | ⟨x, l, c, zs, hcs, _, hl, hm, hz, _, hcell, hwz⟩
  · simp [Value.cells] at hcs
    obtain ⟨rfl, rfl, rfl⟩ := hcs
    exact ⟨none, 0, 0, rfl, Nat.le_refl _, by omega, fun i hi => absurd hi (Nat.not_lt_zero _)⟩
  · simp [Value.cells] at hcs
    obtain ⟨rfl, rfl, rfl⟩ := hcs
    have hz' : zs.length = cap := by simpa using hz
    refine ⟨some x, len, cap, rfl, hl, by unfold maxLen at hm; omega, fun i hi => ?_⟩
    have hci := hcell i (by omega)
    obtain ⟨b, off, spot⟩ := x
    have hspot : spot = none := by
      have h0 := hcell 0 (by omega)
      simpa [Addr.add] using World.cell?_spot h0
    subst hspot
    rw [add_at] at hci
    have hwf := hwz (zs.getD i 0) (by
      have : i < zs.length := by omega
      simp [this])
    refine ⟨b, off, rfl, cell_lt hci, _, hci, ?_⟩
    have := bounds_u8 hwf
    omega

set_option maxRecDepth 100000 in
theorem lifted_FnMakeTable (os : Os) (started : os.Started) (H : Type) (enc : TypeId × Value → H) :
    ReturnsInHanded {} Try.checked os 14 .any (Rows.fnMakeTableSpec.pre6 enc Try.prog Try.f14 Rows.fnMakeTableRow.domain false) (Rows.fnMakeTableSpec.post enc Try.prog Try.f14 false true false false) := by
  refine returnsInHanded_of_change (C := Try.checked) own started (by kernel_rfl) Try.func14
    (ChangeSpec.witness6 (enc := enc) (C := Try.checked) false ⟨#[], #[.slice none 0 0, .slice none 0 0], []⟩ 8 (by kernel_rfl) (by kernel_rfl) (by kernel_rfl) (by kernel_rfl)) ?_
  intro W base args ds gs before hval0 hW hcnd _
  have hval : ∀ (j : Nat) t v, Try.f14.params[j]? = some t → args[j]? = some v → Value.okWide Try.prog W .any base t v := hval0
  have hW' := hW
  obtain ⟨p, q, hA0, hV, rfl, hfz, hnd⟩ := hW
  have hA : DataW.TrodAll enc Try.prog W 0 (fun _ => true) true Try.f14.params.toList args.toList ds p := hA0
  rw [Try.params14] at hA hval
  obtain ⟨v0, vs0, d0, ds0, p0, q0, hargs, rfl, rfl, h0, r0⟩ := trodAll_cons hA
  obtain ⟨v1, vs1, d1, ds1, p1, q1, rfl, rfl, rfl, h1, r1⟩ := trodAll_cons r0
  obtain ⟨rfl, rfl, rfl⟩ := trodAll_nil r1
  obtain rfl : args = #[v0, v1] := by cases args; simp_all
  obtain ⟨rfl, rfl⟩ := trodVars_none hV
  have k0 := h0
  have lt0 : ∀ x ∈ p0, x.block < W.heap.size := by obtain ⟨m, hm⟩ := k0; exact DataW.trod_lt m _ _ _ hm
  obtain ⟨sa0, sl0, sc0, rfl⟩ := okWide_slice Try.underlying24 (hval 0 24 v0 rfl rfl)
  have by0 : Bytes W (.slice sa0 sl0 sc0) := by
    obtain ⟨fu, hf⟩ := h0
    exact bytes_of Try.underlying24 Try.underlying5 (by kernel_rfl) hf
  have k1 := h1
  have lt1 : ∀ x ∈ p1, x.block < W.heap.size := by obtain ⟨m, hm⟩ := k1; exact DataW.trod_lt m _ _ _ hm
  obtain ⟨sa1, sl1, sc1, rfl⟩ := okWide_slice Try.underlying24 (hval 1 24 v1 rfl rfl)
  have by1 : Bytes W (.slice sa1 sl1 sc1) := by
    obtain ⟨fu, hf⟩ := h1
    exact bytes_of Try.underlying24 Try.underlying5 (by kernel_rfl) hf
  clear hA0 hval0
  refine (walk_FnMakeTable (.slice sa0 sl0 sc0) (.slice sa1 sl1 sc1) W by0 by1).mono fun e W' ⟨he, bel⟩ => ?_
  subst he
  exact ⟨_, rfl, _, _, _, [], _, [], hW', trodAll_mk1 (shut_bool Try.underlying4 _), (trodAll_cons_mk (Below.trod laidOut (by kernel_rfl) (of_decide_eq_true (by kernel_rfl)) k0 bel lt0) (trodAll_cons_mk (Below.trod laidOut (by kernel_rfl) (of_decide_eq_true (by kernel_rfl)) k1 bel lt1) trodAll_mk0)), rfl, Below.frame bel _, fun h => by cases h⟩
theorem proved_FnMakeTable : Rows.FnMakeTableSaid :=
  OpenClaim.holds_of_wide 14 Try.f14 rfl rfl rfl rfl rfl rfl rfl ⟨rfl, rfl, rfl, rfl, rfl⟩ rfl rfl rfl rfl rfl (by kernel_rfl) Try.func14 (by kernel_rfl)
    (of_decide_eq_true (by kernel_rfl)) (by unfold Func.isWrapper; rw [if_neg (of_decide_eq_false (by kernel_rfl))]; exact ⟨rfl, rfl⟩)
    (fun os started H enc _ => lifted_FnMakeTable os started H enc)
#print axioms proved_FnMakeTable

end Go.Proofs.Ytnblocljjljebaa
