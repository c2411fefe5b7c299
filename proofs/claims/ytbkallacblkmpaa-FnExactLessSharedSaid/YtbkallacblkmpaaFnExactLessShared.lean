/- Proved: the law FnExactLessShared answers true for every input and leaves its arguments as they were. No condition. -/
import Derived.Test.YtbkallacblkmpaaRows
import Derived.Test.YtbkallacblkmpaaLessT
import Derived.ChangeSlices
import Derived.Test.YtbkallacblkmpaaOpen
import Derived.ChangeOld
import Derived.Carry
namespace Go.Proofs.Ytbkallacblkmpaa
set_option linter.unusedSimpArgs false
set_option linter.unusedVariables false
open Go.ChangeShapes Go.WideShapes Go.ChangeAt Go.RowKit Go.Joins
set_option linter.unusedVariables false
theorem own : ownKnob Try.prog.godebug = none := by kernel_rfl
theorem laidOut : laidOutB Try.prog = true := by kernel_rfl

set_option maxHeartbeats 4000000 in
set_option maxRecDepth 4000 in
theorem walk_FnExactLessShared (x y u v s : Int) (w : World) : Calls Try.prog 4 #[.agg #[.int .i64 x, .int .i64 y], .agg #[.int .i64 u, .int .i64 v], .int .i64 s] w fun e w' => e = .returned (.bool true) ∧ Ext w w' := by
  have hx := ((Ext.refl w).alloc (.cells #[.int .i64 x, .int .i64 y] 37)).alloc (.cells #[.int .i64 u, .int .i64 v] 37)
  have kX := (Blk.new w #[.int .i64 x, .int .i64 y] 37).old (.cells #[.int .i64 u, .int .i64 v] 37)
  have kY := Blk.new (w.alloc (.cells #[.int .i64 x, .int .i64 y] 37)) #[.int .i64 u, .int .i64 v] 37
  simp only [World.size_alloc] at kY
  have SP : Kept (∀ w', Calls Try.prog 15 #[.agg #[.int .i64 x, .int .i64 y], .agg #[.int .i64 u, .int .i64 v], .int .i64 s] w' fun e w'' => e = .returned (.tuple #[.agg #[.int .i64 (lsF x y u v s), .int .i64 (lsL x y u v s)], .int .i64 (lsC x y u v s), .int .i64 (lsN x y u v s)]) ∧ Ext w' w'') := ⟨spec_LessShared x y u v s⟩
  have IP : Kept (∀ w', Calls Try.prog 17 #[.agg #[.int .i64 x, .int .i64 y], .agg #[.int .i64 u, .int .i64 v], .int .i64 s] w' fun e w'' => e = .returned (.tuple #[.agg #[.int .i64 (lsF x y u v s), .int .i64 (lsL x y u v s)], .int .i64 (lsC x y u v s), .int .i64 (lsN x y u v s)]) ∧ Ext w' w'') := ⟨impl_LessShared x y u v s⟩
  generalize lsF x y u v s = F at *
  generalize lsL x y u v s = L at *
  generalize lsC x y u v s = C at *
  generalize lsN x y u v s = N at *
  go_enter Try.func4, Try.ntmps4
  go_wp2_with (fail)
  apply wp_region_zipF 27 #[.int .i64 0, .int .i64 0] #[.int .i64 F, .int .i64 L] [isv _, isv _, isv _, isv _, isv _, isv (.tuple #[(.agg #[.int .i64 F, .int .i64 L]), .int .i64 C, .int .i64 N]), isv (.tuple #[(.agg #[.int .i64 F, .int .i64 L]), .int .i64 C, .int .i64 N]), isv (.agg #[.int .i64 F, .int .i64 L]), isv (.int .i64 C), isv (.int .i64 N), newF _ _ _ 27, putF 10 _ _ _ 27, isv (.int .i64 C), isv (.int .i64 N)] _ (by kernel_rfl)
  case hA => intro V; simp [putAll, dstOf, Act.put]; exact rfl
  case hsl => intro V; exact rfl
  case step =>
    intro V lo up w' hr
    replace hr := hr.ext
    have hxr := hx.trans hr
    obtain ⟨hcr, hzr⟩ := hxr.cells
    have hsr := hr.size
    have kX := kX.keep hr
    have kY := kY.keep hr
    obtain ⟨x0, x1⟩ := kX.two
    obtain ⟨y0, y1⟩ := kY.two
    simp only [zipOkS, depsImp, isv, modeNg, newF, putF, waits, Region.binds, List.map_nil, List.map_cons, List.headD_cons, List.nil_append, List.cons_append, List.filterMap_cons, List.filterMap_nil, ↓reduceIte, modeNe, Bool.false_eq_true, true_implies, List.getD_cons_zero, List.getD_cons_succ, and_true]
    refine ⟨?_, ?_, ?_, ?_, ?_, ?_, ?_, ?_, ?_, ?_, ?_, ?_, ?_, ?_⟩
    · intros
      go_wp2
      refine stepS_mk rfl (by simp only [List.getElem?_toArray, List.getElem?_cons_succ, List.getElem?_cons_zero]; exact rfl) ?_
      exact ⟨Fill.refl _, rfl⟩
    · intros
      go_wp2_with (fail)
      (with_reducible refine (laws_toShared _ _ _).mono ?_)
      rintro e w1 ⟨rfl, hy⟩
      go_wp2
      refine stepS_mk rfl (by simp only [List.getElem?_toArray, List.getElem?_cons_succ, List.getElem?_cons_zero]; exact rfl) ?_
      exact ⟨Fill.of_ext hy, rfl⟩
    · intros
      go_wp2
      refine stepS_mk rfl (by simp only [List.getElem?_toArray, List.getElem?_cons_succ, List.getElem?_cons_zero]; exact rfl) ?_
      exact ⟨Fill.refl _, rfl⟩
    · intros
      go_wp2_with (fail)
      (with_reducible refine (laws_toShared _ _ _).mono ?_)
      rintro e w1 ⟨rfl, hy⟩
      go_wp2
      refine stepS_mk rfl (by simp only [List.getElem?_toArray, List.getElem?_cons_succ, List.getElem?_cons_zero]; exact rfl) ?_
      exact ⟨Fill.of_ext hy, rfl⟩
    · intros
      go_wp2
      refine stepS_mk rfl (by simp only [List.getElem?_toArray, List.getElem?_cons_succ, List.getElem?_cons_zero]; exact rfl) ?_
      exact ⟨Fill.refl _, rfl⟩
    · intros
      go_wp2_with (fail)
      (with_reducible refine (SP.out _).mono ?_)
      rintro e w7 ⟨rfl, z7⟩
      go_wp2
      refine stepS_mk rfl (by simp only [List.getElem?_toArray, List.getElem?_cons_succ, List.getElem?_cons_zero]; exact rfl) ?_
      exact ⟨Fill.of_ext z7, rfl⟩
    · intros
      go_wp2
      refine stepS_mk rfl (by simp only [List.getElem?_toArray, List.getElem?_cons_succ, List.getElem?_cons_zero]; exact rfl) ?_
      exact ⟨Fill.refl _, by first | rfl | assumption⟩
    · intros
      go_wp2
      refine stepS_mk rfl (by simp only [List.getElem?_toArray, List.getElem?_cons_succ, List.getElem?_cons_zero]; exact rfl) ?_
      exact ⟨Fill.refl _, rfl⟩
    · intros
      go_wp2
      refine stepS_mk rfl (by simp only [List.getElem?_toArray, List.getElem?_cons_succ, List.getElem?_cons_zero]; exact rfl) ?_
      exact ⟨Fill.refl _, rfl⟩
    · intros
      go_wp2
      refine stepS_mk rfl (by simp only [List.getElem?_toArray, List.getElem?_cons_succ, List.getElem?_cons_zero]; exact rfl) ?_
      exact ⟨Fill.refl _, rfl⟩
    · intros
      go_wp2
      refine stepS_mk rfl (by simp only [List.getElem?_toArray, List.getElem?_cons_succ, List.getElem?_cons_zero]; exact rfl) ?_
      exact ⟨Fill.of_ext ((Ext.refl _).alloc _), rfl, by simp, .inl (Blk.new _ _ _)⟩
    · intro hl _ _ ⟨e9, _, k9⟩ _ _ _ _ _ _ _ e6
      intros
      exact wpList_fill rfl rfl (.tmp 7) (.tmp 20) rfl (lo 10) e9 e6 k9 (by kernel_rfl) rfl (by simp [Value.oneCell']) hr hl hl fun w'' f k u => ⟨f, _, e9, k⟩
    · intros
      go_wp2
      refine stepS_mk rfl (by simp only [List.getElem?_toArray, List.getElem?_cons_succ, List.getElem?_cons_zero]; exact rfl) ?_
      exact ⟨Fill.refl _, by first | rfl | assumption⟩
    · intros
      go_wp2
      refine stepS_mk rfl (by simp only [List.getElem?_toArray, List.getElem?_cons_succ, List.getElem?_cons_zero]; exact rfl) ?_
      exact ⟨Fill.refl _, by first | rfl | assumption⟩
  case hB => kernel_rfl
  case fin =>
    intro V lo up w' hr hf ha
    simp only [factsOk, isv, modeNg, newF, putF, List.map_nil, List.map_cons, List.headD_cons, and_true, Nat.zero_add, Nat.reduceAdd] at hf
    simp only [List.length_cons, List.length_nil, Nat.zero_add, Nat.reduceAdd, List.drop_succ_cons, List.drop_zero]
    obtain ⟨-, -, -, -, -, -, -, ⟨-, -, -, e6⟩, -, -, ⟨lA, -, -, e9, -, -⟩, ⟨-, -, -, b, e10, kA⟩, ⟨-, -, -, e11⟩, ⟨-, -, -, e12⟩⟩ := hf
    clear ha
    have hs0 := hx.size
    have hx' := hx.trans hr
    clear hx
    have hx := hx'
    clear hx'
    have tkX := kX.lt
    have tkY := kY.lt
    replace kX := kX.keep hr
    replace kY := kY.keep hr
    obtain rfl : lo 10 = b := by rw [e9] at e10; simpa using e10
    clear e10
    rw [e6, e9, e11, e12]
    clear e6 e9 e11 e12
    generalize lo 10 = gA at *
    clear hr
    try clear hc hz
    go_wp2_with (fail)
    apply wp_region_zipF 27 #[.int .i64 0, .int .i64 0] #[.int .i64 F, .int .i64 L] [isv _, isv _, isv _, isv _, isv _, isv (.tuple #[(.agg #[.int .i64 F, .int .i64 L]), .int .i64 C, .int .i64 N]), isv (.tuple #[(.agg #[.int .i64 F, .int .i64 L]), .int .i64 C, .int .i64 N]), isv (.agg #[.int .i64 F, .int .i64 L]), isv (.int .i64 C), isv (.int .i64 N), newF _ _ _ 27, putF 10 _ _ _ 27, isv (.int .i64 C), isv (.int .i64 N)] _ (by kernel_rfl)
    case hA => intro V; simp [putAll, dstOf, Act.put]; exact rfl
    case hsl => intro V; exact rfl
    case step =>
      intro V lo up w' hr
      replace hr := hr.ext
      have hxr := hx.trans hr
      obtain ⟨hcr, hzr⟩ := hxr.cells
      have hsr := hr.size
      have kX := kX.keep hr
      have kY := kY.keep hr
      have kA := kA.keep hr
      obtain ⟨x0, x1⟩ := kX.two
      obtain ⟨y0, y1⟩ := kY.two
      simp only [zipOkS, depsImp, isv, modeNg, newF, putF, waits, Region.binds, List.map_nil, List.map_cons, List.headD_cons, List.nil_append, List.cons_append, List.filterMap_cons, List.filterMap_nil, ↓reduceIte, modeNe, Bool.false_eq_true, true_implies, List.getD_cons_zero, List.getD_cons_succ, and_true]
      refine ⟨?_, ?_, ?_, ?_, ?_, ?_, ?_, ?_, ?_, ?_, ?_, ?_, ?_, ?_⟩
      · intros
        go_wp2
        refine stepS_mk rfl (by simp only [List.getElem?_toArray, List.getElem?_cons_succ, List.getElem?_cons_zero]; exact rfl) ?_
        exact ⟨Fill.refl _, rfl⟩
      · intros
        go_wp2_with (fail)
        (with_reducible refine (laws_toShared _ _ _).mono ?_)
        rintro e w1 ⟨rfl, hy⟩
        go_wp2
        refine stepS_mk rfl (by simp only [List.getElem?_toArray, List.getElem?_cons_succ, List.getElem?_cons_zero]; exact rfl) ?_
        exact ⟨Fill.of_ext hy, rfl⟩
      · intros
        go_wp2
        refine stepS_mk rfl (by simp only [List.getElem?_toArray, List.getElem?_cons_succ, List.getElem?_cons_zero]; exact rfl) ?_
        exact ⟨Fill.refl _, rfl⟩
      · intros
        go_wp2_with (fail)
        (with_reducible refine (laws_toShared _ _ _).mono ?_)
        rintro e w1 ⟨rfl, hy⟩
        go_wp2
        refine stepS_mk rfl (by simp only [List.getElem?_toArray, List.getElem?_cons_succ, List.getElem?_cons_zero]; exact rfl) ?_
        exact ⟨Fill.of_ext hy, rfl⟩
      · intros
        go_wp2
        refine stepS_mk rfl (by simp only [List.getElem?_toArray, List.getElem?_cons_succ, List.getElem?_cons_zero]; exact rfl) ?_
        exact ⟨Fill.refl _, rfl⟩
      · intros
        go_wp2_with (fail)
        (with_reducible refine (IP.out _).mono ?_)
        rintro e w7 ⟨rfl, z7⟩
        go_wp2
        refine stepS_mk rfl (by simp only [List.getElem?_toArray, List.getElem?_cons_succ, List.getElem?_cons_zero]; exact rfl) ?_
        exact ⟨Fill.of_ext z7, rfl⟩
      · intros
        go_wp2
        refine stepS_mk rfl (by simp only [List.getElem?_toArray, List.getElem?_cons_succ, List.getElem?_cons_zero]; exact rfl) ?_
        exact ⟨Fill.refl _, by first | rfl | assumption⟩
      · intros
        go_wp2
        refine stepS_mk rfl (by simp only [List.getElem?_toArray, List.getElem?_cons_succ, List.getElem?_cons_zero]; exact rfl) ?_
        exact ⟨Fill.refl _, rfl⟩
      · intros
        go_wp2
        refine stepS_mk rfl (by simp only [List.getElem?_toArray, List.getElem?_cons_succ, List.getElem?_cons_zero]; exact rfl) ?_
        exact ⟨Fill.refl _, rfl⟩
      · intros
        go_wp2
        refine stepS_mk rfl (by simp only [List.getElem?_toArray, List.getElem?_cons_succ, List.getElem?_cons_zero]; exact rfl) ?_
        exact ⟨Fill.refl _, rfl⟩
      · intros
        go_wp2
        refine stepS_mk rfl (by simp only [List.getElem?_toArray, List.getElem?_cons_succ, List.getElem?_cons_zero]; exact rfl) ?_
        exact ⟨Fill.of_ext ((Ext.refl _).alloc _), rfl, by simp, .inl (Blk.new _ _ _)⟩
      · intro hl _ _ ⟨e9, _, k9⟩ _ _ _ _ _ _ _ e6
        intros
        exact wpList_fill rfl rfl (.tmp 10) (.tmp 30) rfl (lo 10) e9 e6 k9 (by kernel_rfl) rfl (by simp [Value.oneCell']) hr hl hl fun w'' f k u => ⟨f, _, e9, k⟩
      · intros
        go_wp2
        refine stepS_mk rfl (by simp only [List.getElem?_toArray, List.getElem?_cons_succ, List.getElem?_cons_zero]; exact rfl) ?_
        exact ⟨Fill.refl _, by first | rfl | assumption⟩
      · intros
        go_wp2
        refine stepS_mk rfl (by simp only [List.getElem?_toArray, List.getElem?_cons_succ, List.getElem?_cons_zero]; exact rfl) ?_
        exact ⟨Fill.refl _, by first | rfl | assumption⟩
    case hB => kernel_rfl
    case fin =>
      intro V lo up w' hr hf ha
      simp only [factsOk, isv, modeNg, newF, putF, List.map_nil, List.map_cons, List.headD_cons, and_true, Nat.zero_add, Nat.reduceAdd] at hf
      simp only [List.length_cons, List.length_nil, Nat.zero_add, Nat.reduceAdd, List.drop_succ_cons, List.drop_zero]
      obtain ⟨-, -, -, -, -, -, -, ⟨-, -, -, e6⟩, -, -, ⟨lB, -, -, e9, -, -⟩, ⟨-, -, -, b, e10, kB⟩, ⟨-, -, -, e11⟩, ⟨-, -, -, e12⟩⟩ := hf
      clear ha
      have hs0 := hx.size
      have hx' := hx.trans hr
      clear hx
      have hx := hx'
      clear hx'
      have tkX := kX.lt
      have tkY := kY.lt
      have tkA := kA.lt
      replace kX := kX.keep hr
      replace kY := kY.keep hr
      replace kA := kA.keep hr
      obtain rfl : lo 10 = b := by rw [e9] at e10; simpa using e10
      clear e10
      rw [e6, e9, e11, e12]
      clear e6 e9 e11 e12
      generalize lo 10 = gB at *
      clear hr
      try clear hc hz
      obtain ⟨a0, a1⟩ := kA.two
      obtain ⟨b0, b1⟩ := kB.two
      go_wp2_with (fail)
      (with_reducible refine (laws_eqShared F L F L true (by simp) _).mono ?_)
      rintro e w8 ⟨rfl, z8⟩
      have HX := Kept.mk (hx.trans z8)
      go_wp2
      go_ret
      exact ⟨rfl, HX.out⟩
theorem cells_int : Try.prog.cellsOf 3 = 1 := by kernel_rfl
theorem cells_sh : Try.prog.cellsOf 37 = 2 := by kernel_rfl
theorem trod_sh {H : Type} {enc : TypeId × Value → H} {w : World} {base : Nat} {spare : Nat → Bool} {held : Bool} {n : Nat} {c0 c1 : Value} {x : DataW H × List MemPlace} (h : DataW.trod enc Try.prog w base spare held n 37 [c0, c1] = some x) :
    ∃ a b : Int, c0 = .int .i64 a ∧ c1 = .int .i64 b ∧ (-9223372036854775808 ≤ a ∧ a ≤ 9223372036854775807) ∧ (-9223372036854775808 ≤ b ∧ b ≤ 9223372036854775807) := by
  obtain ⟨_, hf⟩ := struct_field Try.underlying37 h
  obtain ⟨_, _, t0⟩ := hf 0 _ rfl
  obtain ⟨_, _, t1⟩ := hf 1 _ rfl
  simp [cells_int] at t0 t1
  obtain ⟨a, e0, b0⟩ := leaf_int Try.underlying3 t0
  obtain ⟨b, e1, b1⟩ := leaf_int Try.underlying3 t1
  simp at e0 e1
  exact ⟨a, b, e0, e1, b0, b1⟩

set_option maxRecDepth 100000 in
theorem lifted_FnExactLessShared (os : Os) (started : os.Started) (H : Type) (enc : TypeId × Value → H) :
    ReturnsInHanded {} Try.checked os 4 .any (Rows.fnExactLessSharedSpec.pre6 enc Try.prog Try.f4 Rows.fnExactLessSharedRow.domain false) (Rows.fnExactLessSharedSpec.post enc Try.prog Try.f4 false true false false) := by
  refine returnsInHanded_of_change (C := Try.checked) own started (by kernel_rfl) Try.func4
    (ChangeSpec.witness6 (enc := enc) (C := Try.checked) false ⟨#[], #[.agg #[.int .i64 0, .int .i64 0], .agg #[.int .i64 0, .int .i64 0], .int .i64 0], []⟩ 8 (by kernel_rfl) (by kernel_rfl) (by kernel_rfl) (by kernel_rfl)) ?_
  intro W base args ds gs before hval0 hW hcnd _
  have hval : ∀ (j : Nat) t v, Try.f4.params[j]? = some t → args[j]? = some v → Value.okWide Try.prog W .any base t v := hval0
  have hW' := hW
  obtain ⟨p, q, hA0, hV, rfl, hfz, hnd⟩ := hW
  have hA : DataW.TrodAll enc Try.prog W 0 (fun _ => true) true Try.f4.params.toList args.toList ds p := hA0
  rw [Try.params4] at hA hval
  obtain ⟨v0, vs0, d0, ds0, p0, q0, hargs, rfl, rfl, h0, r0⟩ := trodAll_cons hA
  obtain ⟨v1, vs1, d1, ds1, p1, q1, rfl, rfl, rfl, h1, r1⟩ := trodAll_cons r0
  obtain ⟨v2, vs2, d2, ds2, p2, q2, rfl, rfl, rfl, h2, r2⟩ := trodAll_cons r1
  obtain ⟨rfl, rfl, rfl⟩ := trodAll_nil r2
  obtain rfl : args = #[v0, v1, v2] := by cases args; simp_all
  obtain ⟨rfl, rfl⟩ := trodVars_none hV
  have k0 := h0
  have lt0 : ∀ x ∈ p0, x.block < W.heap.size := by obtain ⟨m, hm⟩ := k0; exact DataW.trod_lt m _ _ _ hm
  obtain ⟨cs0, rfl, hs0⟩ := okWide_struct Try.underlying37 (hval 0 37 v0 rfl rfl)
  rw [cells_sh] at hs0
  obtain ⟨c00, c01, rfl⟩ := array2 hs0
  obtain ⟨fu0, hf0⟩ := h0
  obtain ⟨a00, a01, rfl, rfl, _⟩ := trod_sh (by simpa [Value.cells] using hf0)
  have k1 := h1
  have lt1 : ∀ x ∈ p1, x.block < W.heap.size := by obtain ⟨m, hm⟩ := k1; exact DataW.trod_lt m _ _ _ hm
  obtain ⟨cs1, rfl, hs1⟩ := okWide_struct Try.underlying37 (hval 1 37 v1 rfl rfl)
  rw [cells_sh] at hs1
  obtain ⟨c10, c11, rfl⟩ := array2 hs1
  obtain ⟨fu1, hf1⟩ := h1
  obtain ⟨a10, a11, rfl, rfl, _⟩ := trod_sh (by simpa [Value.cells] using hf1)
  have k2 := h2
  have lt2 : ∀ x ∈ p2, x.block < W.heap.size := by obtain ⟨m, hm⟩ := k2; exact DataW.trod_lt m _ _ _ hm
  obtain ⟨a2, rfl, rfl, rfl, w2⟩ := open_int Try.underlying3 (hval 2 3 v2 rfl rfl) h2
  clear hA0 hval0
  refine (walk_FnExactLessShared a00 a01 a10 a11 a2 W).mono fun e W' ⟨he, bel⟩ => ?_
  subst he
  exact ⟨_, rfl, _, _, _, [], _, [], hW', trodAll_mk1 (shut_bool Try.underlying4 _), (trodAll_cons_mk (Below.trod laidOut (by kernel_rfl) (of_decide_eq_true (by kernel_rfl)) k0 bel lt0) (trodAll_cons_mk (Below.trod laidOut (by kernel_rfl) (of_decide_eq_true (by kernel_rfl)) k1 bel lt1) (trodAll_cons_mk (shut_int Try.underlying3 w2) trodAll_mk0))), rfl, Below.frame bel _, fun h => by cases h⟩
theorem proved_FnExactLessShared : Rows.FnExactLessSharedSaid :=
  OpenClaim.holds_of_wide 4 Try.f4 rfl rfl rfl rfl rfl rfl rfl ⟨rfl, rfl, rfl, rfl, rfl⟩ rfl rfl rfl rfl rfl (by kernel_rfl) Try.func4 (by kernel_rfl)
    (of_decide_eq_true (by kernel_rfl)) (by unfold Func.isWrapper; rw [if_neg (of_decide_eq_false (by kernel_rfl))]; exact ⟨rfl, rfl⟩)
    (fun os started H enc _ => lifted_FnExactLessShared os started H enc)
#print axioms proved_FnExactLessShared

end Go.Proofs.Ytbkallacblkmpaa
