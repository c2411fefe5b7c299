/- Proved: the law FnExactUseTable answers true for every input and leaves its arguments as they were. No condition. -/
import Derived.Test.YtnblocljjljebaaRows
import Derived.Test.YtnblocljjljebaaUTab
import Derived.ChangeSlices
import Derived.Test.YtnblocljjljebaaOpen
import Derived.ChangeOld
import Derived.Carry
namespace Go.Proofs.Ytnblocljjljebaa
set_option linter.unusedSimpArgs false
set_option linter.unusedVariables false
open Go.ChangeShapes Go.WideShapes Go.ChangeAt Go.RowKit Go.Joins
set_option linter.unusedVariables false
theorem own : ownKnob Try.prog.godebug = none := by kernel_rfl
theorem laidOut : laidOutB Try.prog = true := by kernel_rfl

/-- A table of these lists. -/
def TabIs (a b : Int) (xs ys : List Int) (u : Value) (w : World) : Prop := ∃ v1 v2, u = .agg #[.int .i64 a, .int .i64 b, v1, v2] ∧ Ints w v1 xs ∧ Ints w v2 ys
def tabS {n0 : Nat} (a b : Int) (xs ys : List Int) : OpSpec Ext n0 :=
  ⟨[], fun _ u _ _ w => TabIs a b xs ys u w, fun _ _ _ _ _ _ _ _ _ hx ⟨v1, v2, h1, h2, h3⟩ => ⟨v1, v2, h1, h2.keep hx, h3.keep hx⟩⟩
def tabF {n0 m : Nat} {T : TypeId} {cs0 cs1 : Array Value} (hT : T ≠ 3) (a b : Int) (xs ys : List Int) : OpSpec (Fill n0 T cs0 cs1) m :=
  ⟨[], fun _ u _ _ w => ∃ v1 v2, u = .agg #[.int .i64 a, .int .i64 b, v1, v2] ∧ Own n0 w v1 xs ∧ Own n0 w v2 ys, fun _ _ _ _ _ _ _ _ _ hx ⟨v1, v2, h1, h2, h3⟩ => ⟨v1, v2, h1, h2.fill hx hT, h3.fill hx hT⟩⟩

set_option maxHeartbeats 4000000 in
set_option maxRecDepth 4000 in
theorem walk_FnExactUseTable (x y a b : Int) (v1 v2 : Value) (xs ys : List Int) (w : World) (h1 : Ints w v1 xs) (h2 : Ints w v2 ys) : Calls Try.prog 8 #[.agg #[.int .i64 x, .int .i64 y], .agg #[.int .i64 a, .int .i64 b, v1, v2]] w fun e w' => e = .returned (.bool true) ∧ Ext w w' := by
  obtain ⟨s1, n1, rfl, hm1, hc1⟩ := id h1
  obtain ⟨s2, n2, rfl, hm2, hc2⟩ := id h2
  clear hm1 hm2 hc1 hc2
  have kX := (Blk.new w #[.int .i64 x, .int .i64 y] 31).old (.cells #[.int .i64 a, .int .i64 b, .slice s1 xs.length n1, .slice s2 ys.length n2] 34)
  have kT := Blk.new (w.alloc (.cells #[.int .i64 x, .int .i64 y] 31)) #[.int .i64 a, .int .i64 b, .slice s1 xs.length n1, .slice s2 ys.length n2] 34
  simp only [World.size_alloc] at kT
  have X := ((Ext.refl w).alloc (.cells #[.int .i64 x, .int .i64 y] 31)).alloc (.cells #[.int .i64 a, .int .i64 b, .slice s1 xs.length n1, .slice s2 ys.length n2] 34)
  have SZ := Kept.mk (laws_szTable a b _ _ xs ys 1048576 _ (h1.keep X) (h2.keep X) (by omega) (by omega))
  have H1 := Kept.mk h1
  have H2 := Kept.mk h2
  clear h1 h2
  by_cases hb : (1048576 : Int) - xs.length - ys.length < 0
  · rw [if_pos hb] at SZ
    clear hb
    go_enter Try.func8, Try.ntmps8
    go_wp2_with (fail)
    (with_reducible refine (SZ.out).mono ?_)
    rintro e w1 ⟨rfl, x1⟩
    go_wp2
    go_ret
    exact ⟨rfl, X.trans x1⟩
  · rw [if_neg hb] at SZ
    have L1 : Kept (xs.length ≤ 1048576) := ⟨by omega⟩
    have L2 : Kept (ys.length ≤ 1048576) := ⟨by omega⟩
    have hd : decide ((1048576 : Int) - xs.length - ys.length < 0) = false := by simpa using hb
    clear hb
    go_enter Try.func8, Try.ntmps8
    go_wp2_with (fail)
    (with_reducible refine (SZ.out).mono ?_)
    rintro e w1 ⟨rfl, x1⟩
    replace kX := kX.keep x1
    replace kT := kT.keep x1
    have hx := X.trans x1
    clear x1 SZ X
    go_wp2_with (fail)
    clear hd
    apply wp_region_zipF 37 #[.int .i64 0, .int .i64 0] #[.int .i64 (useF x y a b xs ys), .int .i64 (useL x y a b xs ys)] [isv _, isv _, isv _, tabF (by decide) a b xs ys, isv (.tuple #[(.agg #[.int .i64 (useF x y a b xs ys), .int .i64 (useL x y a b xs ys)]), .int .i64 (useC x y a b xs ys), .bool (useOk x y a b xs ys)]), isv (.tuple #[(.agg #[.int .i64 (useF x y a b xs ys), .int .i64 (useL x y a b xs ys)]), .int .i64 (useC x y a b xs ys), .bool (useOk x y a b xs ys)]), isv (.agg #[.int .i64 (useF x y a b xs ys), .int .i64 (useL x y a b xs ys)]), isv (.int .i64 (useC x y a b xs ys)), isv (.bool (useOk x y a b xs ys)), newF _ _ _ 37, putF 9 _ _ _ 37, isv (.int .i64 (useC x y a b xs ys)), isv (.bool (useOk x y a b xs ys))] _ (by kernel_rfl)
    case hA => intro V; simp [putAll, dstOf, Act.put]; exact rfl
    case hsl => intro V; exact rfl
    case step =>
      intro V lo up w' hr
      replace hr := hr.ext
      have hxr := hx.trans hr
      obtain ⟨hcr, hzr⟩ := hxr.cells
      have hsr := hr.size
      have kX := kX.keep hr
      have kT := kT.keep hr
      obtain ⟨x0, x1⟩ := kX.two
      obtain ⟨t0, t1, t2, t3⟩ := kT.four
      simp only [zipOkS, depsImp, isv, tabF, modeNg, newF, putF, waits, Region.binds, List.map_nil, List.map_cons, List.headD_cons, List.nil_append, List.cons_append, List.filterMap_cons, List.filterMap_nil, ↓reduceIte, modeNe, Bool.false_eq_true, true_implies, List.getD_cons_zero, List.getD_cons_succ, and_true]
      refine ⟨?_, ?_, ?_, ?_, ?_, ?_, ?_, ?_, ?_, ?_, ?_, ?_, ?_⟩
      · intros
        go_wp2
        refine stepS_mk rfl (by simp only [List.getElem?_toArray, List.getElem?_cons_succ, List.getElem?_cons_zero]; exact rfl) ?_
        exact ⟨Fill.refl _, rfl⟩
      · intros
        go_wp2_with (fail)
        (with_reducible refine (laws_toShared _ _ _).mono ?_)
        rintro e w1 ⟨rfl, hy⟩
        go_wp2
        refine stepS_mk rfl (by simp only [List.getElem?_toArray, List.getElem?_cons_succ, List.getElem?_cons_zero]; exact rfl) ?_
        exact ⟨Fill.of_ext hy, rfl⟩
      · intros
        go_wp2
        refine stepS_mk rfl (by simp only [List.getElem?_toArray, List.getElem?_cons_succ, List.getElem?_cons_zero]; exact rfl) ?_
        exact ⟨Fill.refl _, rfl⟩
      · intros
        go_wp2_with (fail)
        (with_reducible refine (laws_toTable a b _ _ xs ys _ (H1.out.keep hxr) (H2.out.keep hxr) L1.out L2.out).mono ?_)
        rintro e w2 ⟨u1, u2, rfl, o1, o2, x2⟩
        go_wp2
        refine stepS_mk rfl (by simp only [List.getElem?_toArray, List.getElem?_cons_succ, List.getElem?_cons_zero]; exact rfl) ?_
        exact ⟨Fill.of_ext x2, u1, u2, rfl, o1.mono hsr, o2.mono hsr⟩
      · intro _ _ _ e1 _ _ _ ⟨u1, u2, e3, o1, o2⟩
        intros
        go_wp2_with (fail)
        (with_reducible refine (spec_UseTable x y a b _ _ xs ys _ o1.ints o2.ints).mono ?_)
        rintro e w2 ⟨rfl, x2⟩
        go_wp2
        refine stepS_mk rfl (by simp only [List.getElem?_toArray, List.getElem?_cons_succ, List.getElem?_cons_zero]; exact rfl) ?_
        exact ⟨Fill.of_ext x2, rfl⟩
      · intros
        go_wp2
        refine stepS_mk rfl (by simp only [List.getElem?_toArray, List.getElem?_cons_succ, List.getElem?_cons_zero]; exact rfl) ?_
        exact ⟨Fill.refl _, by first | rfl | assumption⟩
      · intros
        go_wp2
        refine stepS_mk rfl (by simp only [List.getElem?_toArray, List.getElem?_cons_succ, List.getElem?_cons_zero]; exact rfl) ?_
        exact ⟨Fill.refl _, rfl⟩
      · intros
        go_wp2
        refine stepS_mk rfl (by simp only [List.getElem?_toArray, List.getElem?_cons_succ, List.getElem?_cons_zero]; exact rfl) ?_
        exact ⟨Fill.refl _, rfl⟩
      · intros
        go_wp2
        refine stepS_mk rfl (by simp only [List.getElem?_toArray, List.getElem?_cons_succ, List.getElem?_cons_zero]; exact rfl) ?_
        exact ⟨Fill.refl _, rfl⟩
      · intros
        go_wp2
        refine stepS_mk rfl (by simp only [List.getElem?_toArray, List.getElem?_cons_succ, List.getElem?_cons_zero]; exact rfl) ?_
        exact ⟨Fill.of_ext ((Ext.refl _).alloc _), rfl, by simp, .inl (Blk.new _ _ _)⟩
      · intro hl _ _ ⟨e9, _, k9⟩ _ _ _ _ _ _ _ e6
        intros
        exact wpList_fill rfl rfl (.tmp 6) (.tmp 24) rfl (lo 9) e9 e6 k9 (by kernel_rfl) rfl (by simp [Value.oneCell']) hr hl hl fun w'' f k u => ⟨f, _, e9, k⟩
      · intros
        go_wp2
        refine stepS_mk rfl (by simp only [List.getElem?_toArray, List.getElem?_cons_succ, List.getElem?_cons_zero]; exact rfl) ?_
        exact ⟨Fill.refl _, by first | rfl | assumption⟩
      · intros
        go_wp2
        refine stepS_mk rfl (by simp only [List.getElem?_toArray, List.getElem?_cons_succ, List.getElem?_cons_zero]; exact rfl) ?_
        exact ⟨Fill.refl _, by first | rfl | assumption⟩
    case hB => kernel_rfl
    case fin =>
      intro V lo up w' hr hf ha
      simp only [factsOk, isv, tabF, modeNg, newF, putF, List.map_nil, List.map_cons, List.headD_cons, and_true, Nat.zero_add, Nat.reduceAdd] at hf
      simp only [List.length_cons, List.length_nil, Nat.zero_add, Nat.reduceAdd, List.drop_succ_cons, List.drop_zero]
      obtain ⟨-, -, -, -, -, -, ⟨-, -, -, e6⟩, -, -, ⟨lA, -, -, e9, -, -⟩, ⟨-, -, -, b, e10, kA⟩, ⟨-, -, -, e11⟩, ⟨-, -, -, e12⟩⟩ := hf
      clear ha
      have hs0 := hx.size
      have hx' := hx.trans hr
      clear hx
      have hx := hx'
      clear hx'
      have tkX := kX.lt
      have tkT := kT.lt
      replace kX := kX.keep hr
      replace kT := kT.keep hr
      obtain rfl : lo 9 = b := by rw [e9] at e10; simpa using e10
      clear e10
      rw [e6, e9, e11, e12]
      clear e6 e9 e11 e12
      generalize lo 9 = gA at *
      clear hr
      try clear hc hz
      obtain ⟨t0, t1, t2, t3⟩ := kT.four
      go_wp2_with (fail)
      (with_reducible refine (laws_toTable a b _ _ xs ys _ (H1.out.keep hx) (H2.out.keep hx) L1.out L2.out).mono ?_)
      rintro e w6 ⟨u1, u2, rfl, o1, o2, x6⟩
      replace kA := kA.keep x6
      replace kX := kX.keep x6
      replace kT := kT.keep x6
      replace hx := hx.trans x6
      clear x6 t0 t1 t2 t3
      obtain ⟨p1, m1, hu1, -, -⟩ := id o1.ints
      subst hu1
      obtain ⟨p2, m2, hu2, -, -⟩ := id o2.ints
      subst hu2
      go_wp2_with (fail)
      have kC := Blk.new w6 #[.int .i64 a, .int .i64 b, .slice p1 xs.length m1, .slice p2 ys.length m2] 39
      replace kA := kA.old (.cells #[.int .i64 a, .int .i64 b, .slice p1 xs.length m1, .slice p2 ys.length m2] 39)
      replace kX := kX.old (.cells #[.int .i64 a, .int .i64 b, .slice p1 xs.length m1, .slice p2 ys.length m2] 39)
      replace kT := kT.old (.cells #[.int .i64 a, .int .i64 b, .slice p1 xs.length m1, .slice p2 ys.length m2] 39)
      have I1 := o1.ints.keep ((Ext.refl w6).alloc (.cells #[.int .i64 a, .int .i64 b, .slice p1 xs.length m1, .slice p2 ys.length m2] 39))
      have I2 := o2.ints.keep ((Ext.refl w6).alloc (.cells #[.int .i64 a, .int .i64 b, .slice p1 xs.length m1, .slice p2 ys.length m2] 39))
      replace hx := hx.alloc (.cells #[.int .i64 a, .int .i64 b, .slice p1 xs.length m1, .slice p2 ys.length m2] 39)
      clear o1 o2
      apply wp_region_zipF 37 #[.int .i64 0, .int .i64 0] #[.int .i64 (useF x y a b xs ys), .int .i64 (useL x y a b xs ys)] [isv _, isv _, isv _, isv (.tuple #[(.agg #[.int .i64 (useF x y a b xs ys), .int .i64 (useL x y a b xs ys)]), .int .i64 (useC x y a b xs ys), .bool (useOk x y a b xs ys)]), isv (.tuple #[(.agg #[.int .i64 (useF x y a b xs ys), .int .i64 (useL x y a b xs ys)]), .int .i64 (useC x y a b xs ys), .bool (useOk x y a b xs ys)]), isv (.agg #[.int .i64 (useF x y a b xs ys), .int .i64 (useL x y a b xs ys)]), isv (.int .i64 (useC x y a b xs ys)), isv (.bool (useOk x y a b xs ys)), newF _ _ _ 37, putF 8 _ _ _ 37, isv (.int .i64 (useC x y a b xs ys)), isv (.bool (useOk x y a b xs ys))] _ (by kernel_rfl)
      case hA => intro V; simp [putAll, dstOf, Act.put]; exact rfl
      case hsl => intro V; exact rfl
      case step =>
        intro V lo up w' hr
        replace hr := hr.ext
        have hxr := hx.trans hr
        obtain ⟨hcr, hzr⟩ := hxr.cells
        have hsr := hr.size
        have kX := kX.keep hr
        have kT := kT.keep hr
        have kC := kC.keep hr
        have I1 := I1.keep hr
        have I2 := I2.keep hr
        have kA := kA.keep hr
        obtain ⟨x0, x1⟩ := kX.two
        obtain ⟨c0, c1, c2, c3⟩ := kC.four
        simp only [zipOkS, depsImp, isv, modeNg, newF, putF, waits, Region.binds, List.map_nil, List.map_cons, List.headD_cons, List.nil_append, List.cons_append, List.filterMap_cons, List.filterMap_nil, ↓reduceIte, modeNe, Bool.false_eq_true, true_implies, List.getD_cons_zero, List.getD_cons_succ, and_true]
        refine ⟨?_, ?_, ?_, ?_, ?_, ?_, ?_, ?_, ?_, ?_, ?_, ?_⟩
        · intros
          go_wp2
          refine stepS_mk rfl (by simp only [List.getElem?_toArray, List.getElem?_cons_succ, List.getElem?_cons_zero]; exact rfl) ?_
          exact ⟨Fill.refl _, rfl⟩
        · intros
          go_wp2_with (fail)
          (with_reducible refine (laws_toShared _ _ _).mono ?_)
          rintro e w1 ⟨rfl, hy⟩
          go_wp2
          refine stepS_mk rfl (by simp only [List.getElem?_toArray, List.getElem?_cons_succ, List.getElem?_cons_zero]; exact rfl) ?_
          exact ⟨Fill.of_ext hy, rfl⟩
        · intros
          go_wp2
          refine stepS_mk rfl (by simp only [List.getElem?_toArray, List.getElem?_cons_succ, List.getElem?_cons_zero]; exact rfl) ?_
          exact ⟨Fill.refl _, rfl⟩
        · intros
          go_wp2_with (fail)
          (with_reducible refine (impl_UseTable x y a b _ _ xs ys _ I1 I2).mono ?_)
          rintro e w2 ⟨rfl, x2⟩
          go_wp2
          refine stepS_mk rfl (by simp only [List.getElem?_toArray, List.getElem?_cons_succ, List.getElem?_cons_zero]; exact rfl) ?_
          exact ⟨Fill.of_ext x2, rfl⟩
        · intros
          go_wp2
          refine stepS_mk rfl (by simp only [List.getElem?_toArray, List.getElem?_cons_succ, List.getElem?_cons_zero]; exact rfl) ?_
          exact ⟨Fill.refl _, by first | rfl | assumption⟩
        · intros
          go_wp2
          refine stepS_mk rfl (by simp only [List.getElem?_toArray, List.getElem?_cons_succ, List.getElem?_cons_zero]; exact rfl) ?_
          exact ⟨Fill.refl _, rfl⟩
        · intros
          go_wp2
          refine stepS_mk rfl (by simp only [List.getElem?_toArray, List.getElem?_cons_succ, List.getElem?_cons_zero]; exact rfl) ?_
          exact ⟨Fill.refl _, rfl⟩
        · intros
          go_wp2
          refine stepS_mk rfl (by simp only [List.getElem?_toArray, List.getElem?_cons_succ, List.getElem?_cons_zero]; exact rfl) ?_
          exact ⟨Fill.refl _, rfl⟩
        · intros
          go_wp2
          refine stepS_mk rfl (by simp only [List.getElem?_toArray, List.getElem?_cons_succ, List.getElem?_cons_zero]; exact rfl) ?_
          exact ⟨Fill.of_ext ((Ext.refl _).alloc _), rfl, by simp, .inl (Blk.new _ _ _)⟩
        · intro hl _ _ ⟨e9, _, k9⟩ _ _ _ _ _ _ _ e6
          intros
          exact wpList_fill rfl rfl (.tmp 10) (.tmp 34) rfl (lo 8) e9 e6 k9 (by kernel_rfl) rfl (by simp [Value.oneCell']) hr hl hl fun w'' f k u => ⟨f, _, e9, k⟩
        · intros
          go_wp2
          refine stepS_mk rfl (by simp only [List.getElem?_toArray, List.getElem?_cons_succ, List.getElem?_cons_zero]; exact rfl) ?_
          exact ⟨Fill.refl _, by first | rfl | assumption⟩
        · intros
          go_wp2
          refine stepS_mk rfl (by simp only [List.getElem?_toArray, List.getElem?_cons_succ, List.getElem?_cons_zero]; exact rfl) ?_
          exact ⟨Fill.refl _, by first | rfl | assumption⟩
      case hB => kernel_rfl
      case fin =>
        intro V lo up w' hr hf ha
        simp only [factsOk, isv, modeNg, newF, putF, List.map_nil, List.map_cons, List.headD_cons, and_true, Nat.zero_add, Nat.reduceAdd] at hf
        simp only [List.length_cons, List.length_nil, Nat.zero_add, Nat.reduceAdd, List.drop_succ_cons, List.drop_zero]
        obtain ⟨-, -, -, -, -, ⟨-, -, -, e6⟩, -, -, ⟨lB, -, -, e9, -, -⟩, ⟨-, -, -, b, e10, kB⟩, ⟨-, -, -, e11⟩, ⟨-, -, -, e12⟩⟩ := hf
        clear ha
        have hs0 := hx.size
        have hx' := hx.trans hr
        clear hx
        have hx := hx'
        clear hx'
        have tkA := kA.lt
        have tkC := kC.lt
        replace kX := kX.keep hr
        replace kT := kT.keep hr
        replace kC := kC.keep hr
        replace I1 := I1.keep hr
        replace I2 := I2.keep hr
        replace kA := kA.keep hr
        obtain rfl : lo 8 = b := by rw [e9] at e10; simpa using e10
        clear e10
        rw [e6, e9, e11, e12]
        clear e6 e9 e11 e12
        generalize lo 8 = gB at *
        clear hr
        try clear hc hz
        obtain ⟨a0, a1⟩ := kA.two
        obtain ⟨b0, b1⟩ := kB.two
        go_wp2_with (fail)
        (with_reducible refine (laws_eqShared (useF x y a b xs ys) (useL x y a b xs ys) (useF x y a b xs ys) (useL x y a b xs ys) true (by simp) _).mono ?_)
        rintro e w8 ⟨rfl, x8⟩
        replace kT := kT.keep x8
        replace kC := kC.keep x8
        replace I1 := I1.keep x8
        replace I2 := I2.keep x8
        replace hx := hx.trans x8
        clear x8 a0 a1 b0 b1 kA kB
        go_wp2_with (fail)
        apply wp_region_zip [isv _, isv _, tabS a b xs ys, isv _, isv _] _ (by kernel_rfl)
        case hA => intro V; simp [putAll, dstOf, Act.put]; exact rfl
        case hsl => intro V; exact rfl
        case step =>
          intro V lo up w' hr
          replace kT := kT.keep hr
          replace kC := kC.keep hr
          have XR := Kept.mk (hx.trans hr)
          have J1 := Kept.mk (I1.keep hr)
          have J2 := Kept.mk (I2.keep hr)
          obtain ⟨t0, t1, t2, t3⟩ := kT.four
          obtain ⟨c0, c1, c2, c3⟩ := kC.four
          simp only [zipOk, depsImp, isv, tabS, waits, Region.binds, List.map_nil, List.nil_append, List.filterMap_cons, List.filterMap_nil, ↓reduceIte, modeNe, Bool.false_eq_true, true_implies, List.getD_cons_zero, List.getD_cons_succ, and_true]
          refine ⟨?_, ?_, ?_, ?_, ?_⟩
          · go_wp2
            refine stepQ_mk rfl (by simp only [List.getElem?_toArray, List.getElem?_cons_succ, List.getElem?_cons_zero]; exact rfl) ?_
            exact ⟨Ext.refl _, rfl⟩
          · go_wp2
            refine stepQ_mk rfl (by simp only [List.getElem?_toArray, List.getElem?_cons_succ, List.getElem?_cons_zero]; exact rfl) ?_
            exact ⟨Ext.refl _, rfl⟩
          · intro _ _ _ e1
            go_wp2_with (fail)
            (with_reducible refine (laws_toTable a b _ _ xs ys _ (H1.out.keep XR.out) (H2.out.keep XR.out) L1.out L2.out).mono ?_)
            rintro e w9 ⟨q1, q2, rfl, o1, o2, x6⟩
            go_wp2
            refine stepQ_mk rfl (by simp only [List.getElem?_toArray, List.getElem?_cons_succ, List.getElem?_cons_zero]; exact rfl) ?_
            exact ⟨x6, q1, q2, rfl, o1.ints, o2.ints⟩
          · intro _ _ _ e0 _ _ _ ⟨q1, q2, e2, j1, j2⟩
            intros
            go_wp2_with (fail)
            (with_reducible refine (laws_eqTable a b _ _ _ _ xs ys _ J1.out J2.out j1 j2).mono ?_)
            rintro e w9 ⟨rfl, x6⟩
            go_wp2
            refine stepQ_mk rfl (by simp only [List.getElem?_toArray, List.getElem?_cons_succ, List.getElem?_cons_zero]; exact rfl) ?_
            exact ⟨x6, rfl⟩
          · intros
            go_wp2
            refine stepQ_mk rfl (by simp only [List.getElem?_toArray, List.getElem?_cons_succ, List.getElem?_cons_zero]; exact rfl) ?_
            exact ⟨Ext.refl _, rfl⟩
        case hB => kernel_rfl
        case fin =>
          intro V lo up w' hr hf ha
          simp only [factsOk, isv, tabS, List.map_nil, and_true, Nat.zero_add, Nat.reduceAdd] at hf
          simp only [List.length_cons, List.length_nil, Nat.zero_add, Nat.reduceAdd, List.drop_succ_cons, List.drop_zero]
          obtain ⟨⟨-, -, -, e0⟩, ⟨-, -, -, e1⟩, -, ⟨-, -, -, e3⟩, ⟨-, -, -, e4⟩⟩ := hf
          rw [e0, e1, e3, e4]
          go_wp2
          go_ret
          exact ⟨rfl, hx.trans hr⟩

theorem cells_int : Try.prog.cellsOf 3 = 1 := by kernel_rfl
theorem cells_sh : Try.prog.cellsOf 31 = 2 := by kernel_rfl
theorem trod_sh {H : Type} {enc : TypeId × Value → H} {w : World} {base : Nat} {spare : Nat → Bool} {held : Bool} {n : Nat} {c0 c1 : Value} {x : DataW H × List MemPlace} (h : DataW.trod enc Try.prog w base spare held n 31 [c0, c1] = some x) :
    ∃ a b : Int, c0 = .int .i64 a ∧ c1 = .int .i64 b ∧ (-9223372036854775808 ≤ a ∧ a ≤ 9223372036854775807) ∧ (-9223372036854775808 ≤ b ∧ b ≤ 9223372036854775807) := by
  obtain ⟨_, hf⟩ := struct_field Try.underlying31 h
  obtain ⟨_, _, t0⟩ := hf 0 _ rfl
  obtain ⟨_, _, t1⟩ := hf 1 _ rfl
  simp [cells_int] at t0 t1
  obtain ⟨a, e0, b0⟩ := leaf_int Try.underlying3 t0
  obtain ⟨b, e1, b1⟩ := leaf_int Try.underlying3 t1
  simp at e0 e1
  exact ⟨a, b, e0, e1, b0, b1⟩
theorem iadd_at (b o i : Nat) : (⟨b, o, none⟩ : Addr).add i = ⟨b, o + i, none⟩ := by
  unfold Addr.add; by_cases h : i = 0
  · subst h; rfl
  · rw [if_neg h]
theorem icell_lt {w : World} {b o : Nat} {v : Value} (h : w.cell? ⟨b, o, none⟩ = some v) : b < w.heap.size := by
  apply Classical.byContradiction
  intro hn
  have : w.heap[b]? = none := by simp; omega
  simp [World.cell?, this] at h
theorem ints_of {H : Type} {enc : TypeId × Value → H} {w : World} {base : Nat} {spare : Nat → Bool} {held : Bool} {fuel : Nat} {c : Value} {x : DataW H × List MemPlace}
    (h : DataW.trod enc Try.prog w base spare held fuel 32 [c] = some x) : ∃ xs, Ints w c xs := by
  rcases open_ints Try.underlying32 Try.underlying3 (by kernel_rfl) h with ⟨hcs, _⟩ | ⟨y, l, cp, zs, hcs, _, hl, hm, hz, _, hcell, hwz⟩
  · simp at hcs
    subst hcs
    exact ⟨[], none, 0, rfl, Nat.zero_le _, fun i hi => absurd hi (Nat.not_lt_zero _)⟩
  · simp at hcs
    subst hcs
    have hz' : l ≤ zs.length := by rw [hz]; split <;> omega
    have hlen : (zs.take l).length = l := by rw [List.length_take]; omega
    refine ⟨zs.take l, some y, cp, by rw [hlen], by rw [hlen]; omega, fun i hi => ?_⟩
    rw [hlen] at hi
    have hci := hcell i (by omega)
    obtain ⟨b, off, spot⟩ := y
    have hspot : spot = none := by
      have h0 := hcell 0 (by omega)
      simpa [Addr.add] using World.cell?_spot h0
    subst hspot
    rw [iadd_at] at hci
    refine ⟨b, off, rfl, icell_lt hci, ?_⟩
    rw [hci]
    have h1 : i < zs.length := by omega
    simp [hi, h1]
theorem cells_int' : Try.prog.cellsOf 3 = 1 := by kernel_rfl
theorem cells_ints : Try.prog.cellsOf 32 = 1 := by kernel_rfl
theorem cells_sh' : Try.prog.cellsOf 31 = 2 := by kernel_rfl
theorem cells_table : Try.prog.cellsOf 34 = 4 := by kernel_rfl
theorem trod_sh' {H : Type} {enc : TypeId × Value → H} {w : World} {base : Nat} {spare : Nat → Bool} {held : Bool} {n : Nat} {c0 c1 : Value} {x : DataW H × List MemPlace} (h : DataW.trod enc Try.prog w base spare held n 31 [c0, c1] = some x) :
    ∃ a b : Int, c0 = .int .i64 a ∧ c1 = .int .i64 b := by
  obtain ⟨_, hf⟩ := struct_field Try.underlying31 h
  obtain ⟨_, _, t0⟩ := hf 0 _ rfl
  obtain ⟨_, _, t1⟩ := hf 1 _ rfl
  simp [cells_int'] at t0 t1
  obtain ⟨a, e0, b0⟩ := leaf_int Try.underlying3 t0
  obtain ⟨b, e1, b1⟩ := leaf_int Try.underlying3 t1
  simp at e0 e1
  exact ⟨a, b, e0, e1⟩
theorem trod_table {H : Type} {enc : TypeId × Value → H} {w : World} {base : Nat} {spare : Nat → Bool} {held : Bool} {n : Nat} {c0 c1 c2 c3 : Value} {x : DataW H × List MemPlace} (h : DataW.trod enc Try.prog w base spare held n 34 [c0, c1, c2, c3] = some x) :
    ∃ (a b : Int) (xs ys : List Int), c0 = .int .i64 a ∧ c1 = .int .i64 b ∧ Ints w c2 xs ∧ Ints w c3 ys := by
  obtain ⟨_, hf⟩ := struct_field Try.underlying34 h
  obtain ⟨_, _, t0⟩ := hf 0 _ rfl
  obtain ⟨_, _, t1⟩ := hf 1 _ rfl
  obtain ⟨_, _, t2⟩ := hf 2 _ rfl
  simp [cells_sh', cells_ints] at t0 t1 t2
  obtain ⟨a, b, e0, e1⟩ := trod_sh' t0
  obtain ⟨xs, hx⟩ := ints_of t1
  obtain ⟨ys, hy⟩ := ints_of t2
  exact ⟨a, b, xs, ys, e0, e1, hx, hy⟩

set_option maxRecDepth 100000 in
theorem lifted_FnExactUseTable (os : Os) (started : os.Started) (H : Type) (enc : TypeId × Value → H) :
    ReturnsInHanded {} Try.checked os 8 .any (Rows.fnExactUseTableSpec.pre6 enc Try.prog Try.f8 Rows.fnExactUseTableRow.domain false) (Rows.fnExactUseTableSpec.post enc Try.prog Try.f8 false true false false) := by
  refine returnsInHanded_of_change (C := Try.checked) own started (by kernel_rfl) Try.func8
    (ChangeSpec.witness6 (enc := enc) (C := Try.checked) false ⟨#[], #[.agg #[.int .i64 0, .int .i64 0], .agg #[.int .i64 0, .int .i64 0, .slice none 0 0, .slice none 0 0]], []⟩ 8 (by kernel_rfl) (by kernel_rfl) (by kernel_rfl) (by kernel_rfl)) ?_
  intro W base args ds gs before hval0 hW hcnd _
  have hval : ∀ (j : Nat) t v, Try.f8.params[j]? = some t → args[j]? = some v → Value.okWide Try.prog W .any base t v := hval0
  have hW' := hW
  obtain ⟨p, q, hA0, hV, rfl, hfz, hnd⟩ := hW
  have hA : DataW.TrodAll enc Try.prog W 0 (fun _ => true) true Try.f8.params.toList args.toList ds p := hA0
  rw [Try.params8] at hA hval
  obtain ⟨v0, vs0, d0, ds0, p0, q0, hargs, rfl, rfl, h0, r0⟩ := trodAll_cons hA
  obtain ⟨v1, vs1, d1, ds1, p1, q1, rfl, rfl, rfl, h1, r1⟩ := trodAll_cons r0
  obtain ⟨rfl, rfl, rfl⟩ := trodAll_nil r1
  obtain rfl : args = #[v0, v1] := by cases args; simp_all
  obtain ⟨rfl, rfl⟩ := trodVars_none hV
  have k0 := h0
  have lt0 : ∀ x ∈ p0, x.block < W.heap.size := by obtain ⟨m, hm⟩ := k0; exact DataW.trod_lt m _ _ _ hm
  obtain ⟨cs0, rfl, hs0⟩ := okWide_struct Try.underlying31 (hval 0 31 v0 rfl rfl)
  rw [cells_sh] at hs0
  obtain ⟨c00, c01, rfl⟩ := array2 hs0
  obtain ⟨fu0, hf0⟩ := h0
  obtain ⟨a00, a01, rfl, rfl, _⟩ := trod_sh (by simpa [Value.cells] using hf0)
  have k1 := h1
  have lt1 : ∀ x ∈ p1, x.block < W.heap.size := by obtain ⟨m, hm⟩ := k1; exact DataW.trod_lt m _ _ _ hm
  obtain ⟨cs1, rfl, hs1⟩ := okWide_struct Try.underlying34 (hval 1 34 v1 rfl rfl)
  rw [cells_table] at hs1
  obtain ⟨cs1⟩ := cs1
  obtain ⟨c10, c11, c12, c13, rfl⟩ := list4 (l := cs1) (by simpa using hs1)
  obtain ⟨fu1, hf1⟩ := h1
  obtain ⟨a10, a11, xs1, ys1, rfl, rfl, ix1, iy1⟩ := trod_table (by simpa [Value.cells] using hf1)
  clear hA0 hval0
  refine (walk_FnExactUseTable a00 a01 a10 a11 c12 c13 xs1 ys1 W ix1 iy1).mono fun e W' ⟨he, bel⟩ => ?_
  subst he
  exact ⟨_, rfl, _, _, _, [], _, [], hW', trodAll_mk1 (shut_bool Try.underlying4 _), (trodAll_cons_mk (Below.trod laidOut (by kernel_rfl) (of_decide_eq_true (by kernel_rfl)) k0 bel lt0) (trodAll_cons_mk (Below.trod laidOut (by kernel_rfl) (of_decide_eq_true (by kernel_rfl)) k1 bel lt1) trodAll_mk0)), rfl, Below.frame bel _, fun h => by cases h⟩
theorem proved_FnExactUseTable : Rows.FnExactUseTableSaid :=
  OpenClaim.holds_of_wide 8 Try.f8 rfl rfl rfl rfl rfl rfl rfl ⟨rfl, rfl, rfl, rfl, rfl⟩ rfl rfl rfl rfl rfl (by kernel_rfl) Try.func8 (by kernel_rfl)
    (of_decide_eq_true (by kernel_rfl)) (by unfold Func.isWrapper; rw [if_neg (of_decide_eq_false (by kernel_rfl))]; exact ⟨rfl, rfl⟩)
    (fun os started H enc _ => lifted_FnExactUseTable os started H enc)
#print axioms proved_FnExactUseTable

end Go.Proofs.Ytnblocljjljebaa
