/- Proved: the law FnExactMaxShared answers true for every input and leaves its arguments as they were. No condition. -/
import Derived.Test.YtbkallacblkmpaaRows
import Derived.Test.YtbkallacblkmpaaMaxT
import Derived.Test.YtbkallacblkmpaaRgnM
import Derived.ChangeSlices
import Derived.Test.YtbkallacblkmpaaOpen
import Derived.ChangeOld
import Derived.Carry
namespace Go.Proofs.Ytbkallacblkmpaa
set_option linter.unusedSimpArgs false
set_option linter.unusedVariables false
open Go.ChangeShapes Go.WideShapes Go.ChangeAt Go.RowKit Go.Joins
set_option linter.unusedVariables false
theorem own : ownKnob Try.prog.godebug = none := by kernel_rfl
theorem laidOut : laidOutB Try.prog = true := by kernel_rfl

set_option maxHeartbeats 4000000 in
set_option maxRecDepth 4000 in
theorem walk_FnExactMaxShared (x y u v s : Int) (w : World) : Calls Try.prog 6 #[.agg #[.int .i64 x, .int .i64 y], .agg #[.int .i64 u, .int .i64 v], .int .i64 s] w fun e w' => e = .returned (.bool true) ∧ Ext w w' := by
  have SP : Kept (∀ W, Calls Try.prog 22 #[.agg #[.int .i64 x, .int .i64 y], .agg #[.int .i64 u, .int .i64 v], .int .i64 s] W (MaxPost (mxF x y u v s) (mxL x y u v s) (mxN x y u v s) (mxO x y u v s) W)) := Kept.mk (spec_MaxShared x y u v s)
  have IP : Kept (∀ W, Calls Try.prog 23 #[.agg #[.int .i64 x, .int .i64 y], .agg #[.int .i64 u, .int .i64 v], .int .i64 s] W (MaxPost (mxF x y u v s) (mxL x y u v s) (mxN x y u v s) (mxO x y u v s) W)) := Kept.mk (impl_MaxShared x y u v s)
  have hn : (mxO x y u v s).length ≤ 3 := by unfold mxO; split <;> simp
  generalize mxF x y u v s = F at *
  generalize mxL x y u v s = L at *
  generalize mxN x y u v s = N at *
  generalize mxO x y u v s = xs at *
  unfold MaxPost at SP IP
  have hx := ((Ext.refl w).alloc (.cells #[.int .i64 x, .int .i64 y] 37)).alloc (.cells #[.int .i64 u, .int .i64 v] 37)
  have kX := (Blk.new w #[.int .i64 x, .int .i64 y] 37).old (.cells #[.int .i64 u, .int .i64 v] 37)
  have kY := Blk.new (w.alloc (.cells #[.int .i64 x, .int .i64 y] 37)) #[.int .i64 u, .int .i64 v] 37
  simp only [World.size_alloc] at kY
  go_enter Try.func6, Try.ntmps6
  go_wp2_with (fail)
  apply wp_region_zipF 27 #[.int .i64 0, .int .i64 0] #[.int .i64 F, .int .i64 L] [isv _, isv _, isv _, isv _, isv _, tupF (by decide) (.agg #[.int .i64 F, .int .i64 L]) (.int .i64 N) xs, tupF (by decide) (.agg #[.int .i64 F, .int .i64 L]) (.int .i64 N) xs, isv _, ownF (by decide) xs, isv (.int .i64 N), newF _ _ _ 27, putF 10 _ _ _ 27, ownF (by decide) xs, isv (.int .i64 N)] _ (by kernel_rfl)
  case hA => intro V; simp [putAll, dstOf, Act.put]; exact rfl
  case hsl => intro V; exact rfl
  case step =>
    intro V lo up w' hr
    replace hr := hr.ext
    have hxr := hx.trans hr
    obtain ⟨hcr, hzr⟩ := hxr.cells
    have hsr := hr.size
    have kX := kX.keep hr
    have kY := kY.keep hr
    obtain ⟨x0, x1⟩ := kX.two
    obtain ⟨y0, y1⟩ := kY.two
    simp only [zipOkS, depsImp, isv, tupF, ownF, modeNg, newF, putF, waits, Region.binds, List.map_nil, List.map_cons, List.headD_cons, List.nil_append, List.cons_append, List.filterMap_cons, List.filterMap_nil, ↓reduceIte, modeNe, Bool.false_eq_true, true_implies, List.getD_cons_zero, List.getD_cons_succ, and_true]
    refine ⟨?_, ?_, ?_, ?_, ?_, ?_, ?_, ?_, ?_, ?_, ?_, ?_, ?_, ?_⟩
    · intros
      go_wp2
      refine stepS_mk rfl (by simp only [List.getElem?_toArray, List.getElem?_cons_succ, List.getElem?_cons_zero]; exact rfl) ?_
      exact ⟨Fill.refl _, rfl⟩
    · intros
      go_wp2_with (fail)
      (with_reducible refine (laws_toShared _ _ _).mono ?_)
      rintro e w1 ⟨rfl, hy⟩
      go_wp2
      refine stepS_mk rfl (by simp only [List.getElem?_toArray, List.getElem?_cons_succ, List.getElem?_cons_zero]; exact rfl) ?_
      exact ⟨Fill.of_ext hy, rfl⟩
    · intros
      go_wp2
      refine stepS_mk rfl (by simp only [List.getElem?_toArray, List.getElem?_cons_succ, List.getElem?_cons_zero]; exact rfl) ?_
      exact ⟨Fill.refl _, rfl⟩
    · intros
      go_wp2_with (fail)
      (with_reducible refine (laws_toShared _ _ _).mono ?_)
      rintro e w1 ⟨rfl, hy⟩
      go_wp2
      refine stepS_mk rfl (by simp only [List.getElem?_toArray, List.getElem?_cons_succ, List.getElem?_cons_zero]; exact rfl) ?_
      exact ⟨Fill.of_ext hy, rfl⟩
    · intros
      go_wp2
      refine stepS_mk rfl (by simp only [List.getElem?_toArray, List.getElem?_cons_succ, List.getElem?_cons_zero]; exact rfl) ?_
      exact ⟨Fill.refl _, rfl⟩
    · intros
      go_wp2_with (fail)
      (with_reducible refine (SP.out _).mono ?_)
      rintro e w1 ⟨sl, rfl, o, hy⟩
      go_wp2
      refine stepS_mk rfl (by simp only [List.getElem?_toArray, List.getElem?_cons_succ, List.getElem?_cons_zero]; exact rfl) ?_
      exact ⟨Fill.of_ext hy, sl, rfl, o.mono hsr⟩
    · intro _ _ _ ⟨sl, es, os⟩
      intros
      go_wp2
      refine stepS_mk rfl (by simp only [List.getElem?_toArray, List.getElem?_cons_succ, List.getElem?_cons_zero]; exact rfl) ?_
      first | exact ⟨Fill.refl _, sl, es, os⟩ | exact ⟨Fill.refl _, sl, rfl, os⟩
    · intro _ _ _ ⟨sl, es, os⟩
      intros
      go_wp2
      refine stepS_mk rfl (by simp only [List.getElem?_toArray, List.getElem?_cons_succ, List.getElem?_cons_zero]; exact rfl) ?_
      exact ⟨Fill.refl _, rfl⟩
    · intro _ _ _ ⟨sl, es, os⟩
      intros
      go_wp2
      refine stepS_mk rfl (by simp only [List.getElem?_toArray, List.getElem?_cons_succ, List.getElem?_cons_zero]; exact rfl) ?_
      exact ⟨Fill.refl _, os⟩
    · intro _ _ _ ⟨sl, es, os⟩
      intros
      go_wp2
      refine stepS_mk rfl (by simp only [List.getElem?_toArray, List.getElem?_cons_succ, List.getElem?_cons_zero]; exact rfl) ?_
      exact ⟨Fill.refl _, rfl⟩
    · intros
      go_wp2
      refine stepS_mk rfl (by simp only [List.getElem?_toArray, List.getElem?_cons_succ, List.getElem?_cons_zero]; exact rfl) ?_
      exact ⟨Fill.of_ext ((Ext.refl _).alloc _), rfl, by simp, .inl (Blk.new _ _ _)⟩
    · intro hl _ _ ⟨e11, _, k11⟩ _ _ _ _ _ _ _ e8
      intros
      exact wpList_fill rfl rfl (.tmp 7) (.tmp 25) rfl (lo 10) e11 e8 k11 (by kernel_rfl) rfl (by simp [Value.oneCell']) hr hl hl fun w'' f k u => ⟨f, _, e11, k⟩
    · intros
      go_wp2
      refine stepS_mk rfl (by simp only [List.getElem?_toArray, List.getElem?_cons_succ, List.getElem?_cons_zero]; exact rfl) ?_
      exact ⟨Fill.refl _, by assumption⟩
    · intros
      go_wp2
      refine stepS_mk rfl (by simp only [List.getElem?_toArray, List.getElem?_cons_succ, List.getElem?_cons_zero]; exact rfl) ?_
      exact ⟨Fill.refl _, by first | rfl | assumption⟩
  case hB => kernel_rfl
  case fin =>
    intro V lo up w' hr hf ha
    simp only [factsOk, isv, tupF, ownF, modeNg, newF, putF, List.map_nil, List.map_cons, List.headD_cons, and_true, Nat.zero_add, Nat.reduceAdd] at hf
    simp only [List.length_cons, List.length_nil, Nat.zero_add, Nat.reduceAdd, List.drop_succ_cons, List.drop_zero]
    obtain ⟨-, -, -, -, -, -, -, ⟨-, -, -, e8⟩, -, -, ⟨lA, -, -, e11, -, -⟩, ⟨-, -, -, b, e12, kA⟩, ⟨-, -, -, oA⟩, ⟨-, -, -, e10⟩⟩ := hf
    clear ha
    have hs0 := hx.size
    have hx' := hx.trans hr
    clear hx
    have hx := hx'
    clear hx'
    have tkX := kX.lt
    have tkY := kY.lt
    replace kX := kX.keep hr
    replace kY := kY.keep hr
    obtain rfl : lo 10 = b := by rw [e11] at e12; simpa using e12
    clear e12
    have bA := Kept.mk oA.block
    obtain ⟨pA, nA, e9, -, -⟩ := id oA.ints
    rw [e9] at oA bA
    rw [e8, e9, e10, e11]
    clear e8 e9 e10 e11
    generalize lo 10 = gA at *
    clear hr
    try clear hc hz
    obtain ⟨hc, hz⟩ := hx.cells
    go_wp2_with (fail)
    apply wp_region_zipF 27 #[.int .i64 0, .int .i64 0] #[.int .i64 F, .int .i64 L] [isv _, isv _, isv _, isv _, isv _, tupF (by decide) (.agg #[.int .i64 F, .int .i64 L]) (.int .i64 N) xs, tupF (by decide) (.agg #[.int .i64 F, .int .i64 L]) (.int .i64 N) xs, isv _, ownF (by decide) xs, isv (.int .i64 N), newF _ _ _ 27, putF 10 _ _ _ 27, ownF (by decide) xs, isv (.int .i64 N)] _ (by kernel_rfl)
    case hA => intro V; simp [putAll, dstOf, Act.put]; exact rfl
    case hsl => intro V; exact rfl
    case step =>
      intro V lo up w' hr
      replace hr := hr.ext
      have hxr := hx.trans hr
      obtain ⟨hcr, hzr⟩ := hxr.cells
      have hsr := hr.size
      have kX := kX.keep hr
      have kY := kY.keep hr
      have kA := kA.keep hr
      have oA := oA.keep hr
      obtain ⟨x0, x1⟩ := kX.two
      obtain ⟨y0, y1⟩ := kY.two
      simp only [zipOkS, depsImp, isv, tupF, ownF, modeNg, newF, putF, waits, Region.binds, List.map_nil, List.map_cons, List.headD_cons, List.nil_append, List.cons_append, List.filterMap_cons, List.filterMap_nil, ↓reduceIte, modeNe, Bool.false_eq_true, true_implies, List.getD_cons_zero, List.getD_cons_succ, and_true]
      refine ⟨?_, ?_, ?_, ?_, ?_, ?_, ?_, ?_, ?_, ?_, ?_, ?_, ?_, ?_⟩
      · intros
        go_wp2
        refine stepS_mk rfl (by simp only [List.getElem?_toArray, List.getElem?_cons_succ, List.getElem?_cons_zero]; exact rfl) ?_
        exact ⟨Fill.refl _, rfl⟩
      · intros
        go_wp2_with (fail)
        (with_reducible refine (laws_toShared _ _ _).mono ?_)
        rintro e w1 ⟨rfl, hy⟩
        go_wp2
        refine stepS_mk rfl (by simp only [List.getElem?_toArray, List.getElem?_cons_succ, List.getElem?_cons_zero]; exact rfl) ?_
        exact ⟨Fill.of_ext hy, rfl⟩
      · intros
        go_wp2
        refine stepS_mk rfl (by simp only [List.getElem?_toArray, List.getElem?_cons_succ, List.getElem?_cons_zero]; exact rfl) ?_
        exact ⟨Fill.refl _, rfl⟩
      · intros
        go_wp2_with (fail)
        (with_reducible refine (laws_toShared _ _ _).mono ?_)
        rintro e w1 ⟨rfl, hy⟩
        go_wp2
        refine stepS_mk rfl (by simp only [List.getElem?_toArray, List.getElem?_cons_succ, List.getElem?_cons_zero]; exact rfl) ?_
        exact ⟨Fill.of_ext hy, rfl⟩
      · intros
        go_wp2
        refine stepS_mk rfl (by simp only [List.getElem?_toArray, List.getElem?_cons_succ, List.getElem?_cons_zero]; exact rfl) ?_
        exact ⟨Fill.refl _, rfl⟩
      · intros
        go_wp2_with (fail)
        (with_reducible refine (IP.out _).mono ?_)
        rintro e w1 ⟨sl, rfl, o, hy⟩
        go_wp2
        refine stepS_mk rfl (by simp only [List.getElem?_toArray, List.getElem?_cons_succ, List.getElem?_cons_zero]; exact rfl) ?_
        exact ⟨Fill.of_ext hy, sl, rfl, o.mono hsr⟩
      · intro _ _ _ ⟨sl, es, os⟩
        intros
        go_wp2
        refine stepS_mk rfl (by simp only [List.getElem?_toArray, List.getElem?_cons_succ, List.getElem?_cons_zero]; exact rfl) ?_
        first | exact ⟨Fill.refl _, sl, es, os⟩ | exact ⟨Fill.refl _, sl, rfl, os⟩
      · intro _ _ _ ⟨sl, es, os⟩
        intros
        go_wp2
        refine stepS_mk rfl (by simp only [List.getElem?_toArray, List.getElem?_cons_succ, List.getElem?_cons_zero]; exact rfl) ?_
        exact ⟨Fill.refl _, rfl⟩
      · intro _ _ _ ⟨sl, es, os⟩
        intros
        go_wp2
        refine stepS_mk rfl (by simp only [List.getElem?_toArray, List.getElem?_cons_succ, List.getElem?_cons_zero]; exact rfl) ?_
        exact ⟨Fill.refl _, os⟩
      · intro _ _ _ ⟨sl, es, os⟩
        intros
        go_wp2
        refine stepS_mk rfl (by simp only [List.getElem?_toArray, List.getElem?_cons_succ, List.getElem?_cons_zero]; exact rfl) ?_
        exact ⟨Fill.refl _, rfl⟩
      · intros
        go_wp2
        refine stepS_mk rfl (by simp only [List.getElem?_toArray, List.getElem?_cons_succ, List.getElem?_cons_zero]; exact rfl) ?_
        exact ⟨Fill.of_ext ((Ext.refl _).alloc _), rfl, by simp, .inl (Blk.new _ _ _)⟩
      · intro hl _ _ ⟨e11, _, k11⟩ _ _ _ _ _ _ _ e8
        intros
        exact wpList_fill rfl rfl (.tmp 10) (.tmp 35) rfl (lo 10) e11 e8 k11 (by kernel_rfl) rfl (by simp [Value.oneCell']) hr hl hl fun w'' f k u => ⟨f, _, e11, k⟩
      · intros
        go_wp2
        refine stepS_mk rfl (by simp only [List.getElem?_toArray, List.getElem?_cons_succ, List.getElem?_cons_zero]; exact rfl) ?_
        exact ⟨Fill.refl _, by assumption⟩
      · intros
        go_wp2
        refine stepS_mk rfl (by simp only [List.getElem?_toArray, List.getElem?_cons_succ, List.getElem?_cons_zero]; exact rfl) ?_
        exact ⟨Fill.refl _, by first | rfl | assumption⟩
    case hB => kernel_rfl
    case fin =>
      intro V lo up w' hr hf ha
      simp only [factsOk, isv, tupF, ownF, modeNg, newF, putF, List.map_nil, List.map_cons, List.headD_cons, and_true, Nat.zero_add, Nat.reduceAdd] at hf
      simp only [List.length_cons, List.length_nil, Nat.zero_add, Nat.reduceAdd, List.drop_succ_cons, List.drop_zero]
      obtain ⟨-, -, -, -, -, -, -, ⟨-, -, -, e8⟩, -, -, ⟨lB, -, -, e11, -, -⟩, ⟨-, -, -, b, e12, kB⟩, ⟨-, -, -, oB⟩, ⟨-, -, -, e10⟩⟩ := hf
      clear ha
      have hs0 := hx.size
      have hx' := hx.trans hr
      clear hx
      have hx := hx'
      clear hx'
      have tkX := kX.lt
      have tkY := kY.lt
      have tkA := kA.lt
      replace kX := kX.keep hr
      replace kY := kY.keep hr
      replace kA := kA.keep hr
      replace oA := oA.keep hr
      obtain rfl : lo 10 = b := by rw [e11] at e12; simpa using e12
      clear e12
      have bB := Kept.mk oB.block
      obtain ⟨pB, nB, e9, -, -⟩ := id oB.ints
      rw [e9] at oB bB
      rw [e8, e9, e10, e11]
      clear e8 e9 e10 e11
      generalize lo 10 = gB at *
      clear hr
      try clear hc hz
      obtain ⟨hc, hz⟩ := hx.cells
      obtain ⟨cA0, cA1⟩ := kA.two
      obtain ⟨cB0, cB1⟩ := kB.two
      go_wp2_with (fail)
      have hd := Kept.mk (show ∀ q, Value.ownBlock (.slice pB xs.length nB) = some q → Value.ownBlock (.slice pA xs.length nA) ≠ some q from fun q h2 h1 => by have := (bB.out q h2).1; have := (bA.out q h1).2; omega)
      (with_reducible refine (laws_eqShared F L F L true (by simp) _).mono ?_)
      rintro e w1 ⟨rfl, x1⟩
      replace kX := kX.keep x1
      replace kY := kY.keep x1
      replace oA := oA.keep x1
      replace oB := oB.keep x1
      replace kA := kA.keep x1
      replace hx := hx.trans x1
      clear x1
      clear cA0 cA1 cB0 cB1
      clear hc hz
      obtain ⟨hc, hz⟩ := hx.cells
      go_wp2_with (fail)
      (with_reducible refine (laws_eqIntS _ _ _ _ oB.ints oA.ints).mono ?_)
      rintro e w2 ⟨rfl, x2⟩
      replace kX := kX.keep x2
      replace kY := kY.keep x2
      replace oA := oA.keep x2
      replace oB := oB.keep x2
      replace kA := kA.keep x2
      replace hx := hx.trans x2
      clear x2
      clear hc hz
      obtain ⟨hc, hz⟩ := hx.cells
      go_wp2_with (fail)
      (with_reducible refine (laws_markIntS _ _ _ 1 xs.length rfl _ oB (by omega) (by omega)).mono ?_)
      rintro e w3 ⟨rfl, m4, t4⟩
      replace oA := t4.own oA hd.out
      replace kA := t4.blk kA (oB.ne kA (by decide))
      replace kX := t4.blk kX (oB.ne kX (by decide))
      replace kY := t4.blk kY (oB.ne kY (by decide))
      have hlo := Kept.mk (fun q hq => (bB.out q hq).1)
      replace hx := t4.ext hx (fun q hq => by have := (bB.out q hq).1; omega)
      clear t4 oB hd bA bB hlo
      have mB := m4
      clear m4
      clear hc hz
      obtain ⟨hc, hz⟩ := hx.cells
      go_wp2_with (fail)
      (with_reducible refine (laws_heldIntS _ 1 xs.length _ mB.ints (by omega) (by omega)).mono ?_)
      rintro e w9 ⟨rfl, rfl⟩
      go_wp2_with (fail)
      apply wp_region_zipF 27 #[.int .i64 0, .int .i64 0] #[.int .i64 F, .int .i64 L] [isv _, isv _, isv _, isv _, isv _, tupF (by decide) (.agg #[.int .i64 F, .int .i64 L]) (.int .i64 N) xs, tupF (by decide) (.agg #[.int .i64 F, .int .i64 L]) (.int .i64 N) xs, isv _, ownF (by decide) xs, isv (.int .i64 N), newF _ _ _ 27, putF 10 _ _ _ 27, ownF (by decide) xs, isv (.int .i64 N)] _ (by kernel_rfl)
      case hA => intro V; simp [putAll, dstOf, Act.put]; exact rfl
      case hsl => intro V; exact rfl
      case step =>
        intro V lo up w' hr
        replace hr := hr.ext
        have hxr := hx.trans hr
        obtain ⟨hcr, hzr⟩ := hxr.cells
        have hsr := hr.size
        have kX := kX.keep hr
        have kY := kY.keep hr
        have kA := kA.keep hr
        have oA := oA.keep hr
        have mB := mB.keep hr
        obtain ⟨x0, x1⟩ := kX.two
        obtain ⟨y0, y1⟩ := kY.two
        simp only [zipOkS, depsImp, isv, tupF, ownF, modeNg, newF, putF, waits, Region.binds, List.map_nil, List.map_cons, List.headD_cons, List.nil_append, List.cons_append, List.filterMap_cons, List.filterMap_nil, ↓reduceIte, modeNe, Bool.false_eq_true, true_implies, List.getD_cons_zero, List.getD_cons_succ, and_true]
        refine ⟨?_, ?_, ?_, ?_, ?_, ?_, ?_, ?_, ?_, ?_, ?_, ?_, ?_, ?_⟩
        · intros
          go_wp2
          refine stepS_mk rfl (by simp only [List.getElem?_toArray, List.getElem?_cons_succ, List.getElem?_cons_zero]; exact rfl) ?_
          exact ⟨Fill.refl _, rfl⟩
        · intros
          go_wp2_with (fail)
          (with_reducible refine (laws_toShared _ _ _).mono ?_)
          rintro e w1 ⟨rfl, hy⟩
          go_wp2
          refine stepS_mk rfl (by simp only [List.getElem?_toArray, List.getElem?_cons_succ, List.getElem?_cons_zero]; exact rfl) ?_
          exact ⟨Fill.of_ext hy, rfl⟩
        · intros
          go_wp2
          refine stepS_mk rfl (by simp only [List.getElem?_toArray, List.getElem?_cons_succ, List.getElem?_cons_zero]; exact rfl) ?_
          exact ⟨Fill.refl _, rfl⟩
        · intros
          go_wp2_with (fail)
          (with_reducible refine (laws_toShared _ _ _).mono ?_)
          rintro e w1 ⟨rfl, hy⟩
          go_wp2
          refine stepS_mk rfl (by simp only [List.getElem?_toArray, List.getElem?_cons_succ, List.getElem?_cons_zero]; exact rfl) ?_
          exact ⟨Fill.of_ext hy, rfl⟩
        · intros
          go_wp2
          refine stepS_mk rfl (by simp only [List.getElem?_toArray, List.getElem?_cons_succ, List.getElem?_cons_zero]; exact rfl) ?_
          exact ⟨Fill.refl _, rfl⟩
        · intros
          go_wp2_with (fail)
          (with_reducible refine (IP.out _).mono ?_)
          rintro e w1 ⟨sl, rfl, o, hy⟩
          go_wp2
          refine stepS_mk rfl (by simp only [List.getElem?_toArray, List.getElem?_cons_succ, List.getElem?_cons_zero]; exact rfl) ?_
          exact ⟨Fill.of_ext hy, sl, rfl, o.mono hsr⟩
        · intro _ _ _ ⟨sl, es, os⟩
          intros
          go_wp2
          refine stepS_mk rfl (by simp only [List.getElem?_toArray, List.getElem?_cons_succ, List.getElem?_cons_zero]; exact rfl) ?_
          first | exact ⟨Fill.refl _, sl, es, os⟩ | exact ⟨Fill.refl _, sl, rfl, os⟩
        · intro _ _ _ ⟨sl, es, os⟩
          intros
          go_wp2
          refine stepS_mk rfl (by simp only [List.getElem?_toArray, List.getElem?_cons_succ, List.getElem?_cons_zero]; exact rfl) ?_
          exact ⟨Fill.refl _, rfl⟩
        · intro _ _ _ ⟨sl, es, os⟩
          intros
          go_wp2
          refine stepS_mk rfl (by simp only [List.getElem?_toArray, List.getElem?_cons_succ, List.getElem?_cons_zero]; exact rfl) ?_
          exact ⟨Fill.refl _, os⟩
        · intro _ _ _ ⟨sl, es, os⟩
          intros
          go_wp2
          refine stepS_mk rfl (by simp only [List.getElem?_toArray, List.getElem?_cons_succ, List.getElem?_cons_zero]; exact rfl) ?_
          exact ⟨Fill.refl _, rfl⟩
        · intros
          go_wp2
          refine stepS_mk rfl (by simp only [List.getElem?_toArray, List.getElem?_cons_succ, List.getElem?_cons_zero]; exact rfl) ?_
          exact ⟨Fill.of_ext ((Ext.refl _).alloc _), rfl, by simp, .inl (Blk.new _ _ _)⟩
        · intro hl _ _ ⟨e11, _, k11⟩ _ _ _ _ _ _ _ e8
          intros
          exact wpList_fill rfl rfl (.tmp 15) (.tmp 71) rfl (lo 10) e11 e8 k11 (by kernel_rfl) rfl (by simp [Value.oneCell']) hr hl hl fun w'' f k u => ⟨f, _, e11, k⟩
        · intros
          go_wp2
          refine stepS_mk rfl (by simp only [List.getElem?_toArray, List.getElem?_cons_succ, List.getElem?_cons_zero]; exact rfl) ?_
          exact ⟨Fill.refl _, by assumption⟩
        · intros
          go_wp2
          refine stepS_mk rfl (by simp only [List.getElem?_toArray, List.getElem?_cons_succ, List.getElem?_cons_zero]; exact rfl) ?_
          exact ⟨Fill.refl _, by first | rfl | assumption⟩
      case hB => kernel_rfl
      case fin =>
        intro V lo up w' hr hf ha
        simp only [factsOk, isv, tupF, ownF, modeNg, newF, putF, List.map_nil, List.map_cons, List.headD_cons, and_true, Nat.zero_add, Nat.reduceAdd] at hf
        simp only [List.length_cons, List.length_nil, Nat.zero_add, Nat.reduceAdd, List.drop_succ_cons, List.drop_zero]
        obtain ⟨-, -, -, -, -, -, -, ⟨-, -, -, e8⟩, -, -, ⟨lC, -, -, e11, -, -⟩, ⟨-, -, -, b, e12, kC⟩, ⟨-, -, -, oC⟩, ⟨-, -, -, e10⟩⟩ := hf
        clear ha
        have hs0 := hx.size
        have hx' := hx.trans hr
        clear hx
        have hx := hx'
        clear hx'
        have tkX := kX.lt
        have tkY := kY.lt
        have tkA := kA.lt
        replace kX := kX.keep hr
        replace kY := kY.keep hr
        replace kA := kA.keep hr
        replace oA := oA.keep hr
        replace mB := mB.keep hr
        obtain rfl : lo 10 = b := by rw [e11] at e12; simpa using e12
        clear e12
        have bC := Kept.mk oC.block
        obtain ⟨pC, nC, e9, -, -⟩ := id oC.ints
        rw [e9] at oC bC
        rw [e8, e9, e10, e11]
        clear e8 e9 e10 e11
        generalize lo 10 = gC at *
        clear hr
        try clear hc hz
        obtain ⟨hc, hz⟩ := hx.cells
        obtain ⟨cA0, cA1⟩ := kA.two
        obtain ⟨cC0, cC1⟩ := kC.two
        go_wp2_with (fail)
        (with_reducible refine (laws_eqShared F L F L true (by simp) _).mono ?_)
        rintro e w1 ⟨rfl, x1⟩
        replace kX := kX.keep x1
        replace kY := kY.keep x1
        replace oA := oA.keep x1
        replace oC := oC.keep x1
        replace kA := kA.keep x1
        replace mB := mB.keep x1
        replace hx := hx.trans x1
        clear x1
        clear cA0 cA1 cC0 cC1
        clear hc hz
        obtain ⟨hc, hz⟩ := hx.cells
        go_wp2_with (fail)
        (with_reducible refine (laws_eqIntS _ _ _ _ oC.ints oA.ints).mono ?_)
        rintro e w2 ⟨rfl, x2⟩
        replace kX := kX.keep x2
        replace kY := kY.keep x2
        replace oA := oA.keep x2
        replace oC := oC.keep x2
        replace kA := kA.keep x2
        replace mB := mB.keep x2
        replace hx := hx.trans x2
        clear x2
        clear hc hz
        obtain ⟨hc, hz⟩ := hx.cells
        go_wp2_with (fail)
        (with_reducible refine (laws_heldIntS _ 1 xs.length _ mB.ints (by omega) (by omega)).mono ?_)
        rintro e w9 ⟨rfl, rfl⟩
        have HX := Kept.mk hx
        clear hx hc hz
        go_wp2
        go_ret
        exact ⟨rfl, HX.out⟩
theorem cells_int : Try.prog.cellsOf 3 = 1 := by kernel_rfl
theorem cells_sh : Try.prog.cellsOf 37 = 2 := by kernel_rfl
theorem trod_sh {H : Type} {enc : TypeId × Value → H} {w : World} {base : Nat} {spare : Nat → Bool} {held : Bool} {n : Nat} {c0 c1 : Value} {x : DataW H × List MemPlace} (h : DataW.trod enc Try.prog w base spare held n 37 [c0, c1] = some x) :
    ∃ a b : Int, c0 = .int .i64 a ∧ c1 = .int .i64 b ∧ (-9223372036854775808 ≤ a ∧ a ≤ 9223372036854775807) ∧ (-9223372036854775808 ≤ b ∧ b ≤ 9223372036854775807) := by
  obtain ⟨_, hf⟩ := struct_field Try.underlying37 h
  obtain ⟨_, _, t0⟩ := hf 0 _ rfl
  obtain ⟨_, _, t1⟩ := hf 1 _ rfl
  simp [cells_int] at t0 t1
  obtain ⟨a, e0, b0⟩ := leaf_int Try.underlying3 t0
  obtain ⟨b, e1, b1⟩ := leaf_int Try.underlying3 t1
  simp at e0 e1
  exact ⟨a, b, e0, e1, b0, b1⟩

set_option maxRecDepth 100000 in
theorem lifted_FnExactMaxShared (os : Os) (started : os.Started) (H : Type) (enc : TypeId × Value → H) :
    ReturnsInHanded {} Try.checked os 6 .any (Rows.fnExactMaxSharedSpec.pre6 enc Try.prog Try.f6 Rows.fnExactMaxSharedRow.domain false) (Rows.fnExactMaxSharedSpec.post enc Try.prog Try.f6 false true false false) := by
  refine returnsInHanded_of_change (C := Try.checked) own started (by kernel_rfl) Try.func6
    (ChangeSpec.witness6 (enc := enc) (C := Try.checked) false ⟨#[], #[.agg #[.int .i64 0, .int .i64 0], .agg #[.int .i64 0, .int .i64 0], .int .i64 0], []⟩ 8 (by kernel_rfl) (by kernel_rfl) (by kernel_rfl) (by kernel_rfl)) ?_
  intro W base args ds gs before hval0 hW hcnd _
  have hval : ∀ (j : Nat) t v, Try.f6.params[j]? = some t → args[j]? = some v → Value.okWide Try.prog W .any base t v := hval0
  have hW' := hW
  obtain ⟨p, q, hA0, hV, rfl, hfz, hnd⟩ := hW
  have hA : DataW.TrodAll enc Try.prog W 0 (fun _ => true) true Try.f6.params.toList args.toList ds p := hA0
  rw [Try.params6] at hA hval
  obtain ⟨v0, vs0, d0, ds0, p0, q0, hargs, rfl, rfl, h0, r0⟩ := trodAll_cons hA
  obtain ⟨v1, vs1, d1, ds1, p1, q1, rfl, rfl, rfl, h1, r1⟩ := trodAll_cons r0
  obtain ⟨v2, vs2, d2, ds2, p2, q2, rfl, rfl, rfl, h2, r2⟩ := trodAll_cons r1
  obtain ⟨rfl, rfl, rfl⟩ := trodAll_nil r2
  obtain rfl : args = #[v0, v1, v2] := by cases args; simp_all
  obtain ⟨rfl, rfl⟩ := trodVars_none hV
  have k0 := h0
  have lt0 : ∀ x ∈ p0, x.block < W.heap.size := by obtain ⟨m, hm⟩ := k0; exact DataW.trod_lt m _ _ _ hm
  obtain ⟨cs0, rfl, hs0⟩ := okWide_struct Try.underlying37 (hval 0 37 v0 rfl rfl)
  rw [cells_sh] at hs0
  obtain ⟨c00, c01, rfl⟩ := array2 hs0
  obtain ⟨fu0, hf0⟩ := h0
  obtain ⟨a00, a01, rfl, rfl, _⟩ := trod_sh (by simpa [Value.cells] using hf0)
  have k1 := h1
  have lt1 : ∀ x ∈ p1, x.block < W.heap.size := by obtain ⟨m, hm⟩ := k1; exact DataW.trod_lt m _ _ _ hm
  obtain ⟨cs1, rfl, hs1⟩ := okWide_struct Try.underlying37 (hval 1 37 v1 rfl rfl)
  rw [cells_sh] at hs1
  obtain ⟨c10, c11, rfl⟩ := array2 hs1
  obtain ⟨fu1, hf1⟩ := h1
  obtain ⟨a10, a11, rfl, rfl, _⟩ := trod_sh (by simpa [Value.cells] using hf1)
  have k2 := h2
  have lt2 : ∀ x ∈ p2, x.block < W.heap.size := by obtain ⟨m, hm⟩ := k2; exact DataW.trod_lt m _ _ _ hm
  obtain ⟨a2, rfl, rfl, rfl, w2⟩ := open_int Try.underlying3 (hval 2 3 v2 rfl rfl) h2
  clear hA0 hval0
  refine (walk_FnExactMaxShared a00 a01 a10 a11 a2 W).mono fun e W' ⟨he, bel⟩ => ?_
  subst he
  exact ⟨_, rfl, _, _, _, [], _, [], hW', trodAll_mk1 (shut_bool Try.underlying4 _), (trodAll_cons_mk (Below.trod laidOut (by kernel_rfl) (of_decide_eq_true (by kernel_rfl)) k0 bel lt0) (trodAll_cons_mk (Below.trod laidOut (by kernel_rfl) (of_decide_eq_true (by kernel_rfl)) k1 bel lt1) (trodAll_cons_mk (shut_int Try.underlying3 w2) trodAll_mk0))), rfl, Below.frame bel _, fun h => by cases h⟩
theorem proved_FnExactMaxShared : Rows.FnExactMaxSharedSaid :=
  OpenClaim.holds_of_wide 6 Try.f6 rfl rfl rfl rfl rfl rfl rfl ⟨rfl, rfl, rfl, rfl, rfl⟩ rfl rfl rfl rfl rfl (by kernel_rfl) Try.func6 (by kernel_rfl)
    (of_decide_eq_true (by kernel_rfl)) (by unfold Func.isWrapper; rw [if_neg (of_decide_eq_false (by kernel_rfl))]; exact ⟨rfl, rfl⟩)
    (fun os started H enc _ => lifted_FnExactMaxShared os started H enc)
#print axioms proved_FnExactMaxShared

end Go.Proofs.Ytbkallacblkmpaa
