/- Proved: the law FnExactSubShares answers true for every input and leaves its arguments as they were. No condition. -/
import Derived.Test.YtokjdaknfkleeaaRows
import Derived.Test.YtokjdaknfkleeaaShares
import Derived.Test.YtokjdaknfkleeaaOpen
import Derived.ChangeOld
import Derived.Carry
namespace Go.Proofs.Ytokjdaknfkleeaa
open Go.ChangeShapes Go.WideShapes Go.ChangeAt Go.RowKit Go.Joins
set_option linter.unusedVariables false
theorem own : ownKnob Try.prog.godebug = none := by kernel_rfl
theorem laidOut : laidOutB Try.prog = true := by kernel_rfl

set_option maxHeartbeats 1000000 in
theorem walk_FnExactSubShares (x y u v : Int) (w : World) : Calls Try.prog 4 #[.agg #[.int .i64 x, .int .i64 y], .agg #[.int .i64 u, .int .i64 v]] w fun e w' => e = .returned (.bool true) ∧ Ext w w' := by
  go_enter Try.func4, Try.ntmps4
  go_wp2
  apply wp_region_zip [isv _, isv _, isv _, isv _, isv _, newb _ 24] _ (by kernel_rfl)
  case hA => intro V; simp [putAll, dstOf, Act.put]; exact rfl
  case hsl => intro V; exact rfl
  case step =>
    intro V lo up w' hr
    obtain ⟨hcr, hzr⟩ := hr.cells
    simp only [zipOk, depsImp, isv, newb, waits, Region.binds, List.map_nil, List.nil_append, List.filterMap_cons, List.filterMap_nil, ↓reduceIte, true_implies, List.getD_cons_zero, List.getD_cons_succ, and_true]
    refine ⟨?_, ?_, ?_, ?_, ?_, ?_⟩
    all_goals
      intros
      go_wp2_with (first | (go_at_call 16; (with_reducible refine (laws_toShared _ _ _).mono ?_); rintro e w1 ⟨rfl, hy⟩) | (go_at_call 19; (with_reducible refine (spec_SubShares _ _ _ _ _).mono ?_); rintro e w1 ⟨rfl, hy⟩))
      refine stepQ_mk rfl (by simp only [List.getElem?_toArray, List.getElem?_cons_succ, List.getElem?_cons_zero]; exact rfl) ?_
      first | exact ⟨hy, rfl⟩ | exact ⟨Ext.refl _, rfl⟩ | exact ⟨Ext.refl _, by assumption⟩ | exact ⟨(Ext.refl _).alloc _, rfl, by simp, Blk.new _ _ _⟩
  case hB => kernel_rfl
  case fin =>
    intro V lo up w' hr hf ha
    simp only [factsOk, isv, newb, List.map_nil, and_true, Nat.zero_add, Nat.reduceAdd] at hf
    simp only [List.length_cons, List.length_nil, Nat.zero_add, Nat.reduceAdd, List.drop_succ_cons, List.drop_zero]
    obtain ⟨⟨-, -, -, e0⟩, ⟨-, -, -, e1⟩, ⟨-, -, -, e2⟩, ⟨-, -, -, e3⟩, ⟨-, -, -, e4⟩, ⟨lp5, -, -, e5, -, kp5⟩⟩ := hf
    rw [e0, e1, e2, e3, e4, e5]
    clear e0 e1 e2 e3 e4 e5
    generalize lo 5 = bp5 at *
    clear ha V lo up
    have hx := hr
    clear hr
    try clear hc hz
    obtain ⟨hc, hz⟩ := hx.cells
    refine wpList_store_blk rfl rfl 24 (.tmp 5) (.tmp 11) rfl bp5 _ rfl rfl 24 _ kp5 (by kernel_rfl) rfl (by simp [Value.oneCell']) hx (lp5) ?_
    rintro W1 hy kp5' hoth hsz
    clear kp5
    have kp5 := kp5'
    clear kp5' hoth hx
    have hx := hy
    clear hy
    clear hc hz
    obtain ⟨hc, hz⟩ := hx.cells
    go_wp2
    apply wp_region_zip [isv _, isv _, isv _, isv _, isv _, newb _ 24] _ (by kernel_rfl)
    case hA => intro V; simp [putAll, dstOf, Act.put]; exact rfl
    case hsl => intro V; exact rfl
    case step =>
      intro V lo up w' hr
      have hxr := hx.trans hr
      obtain ⟨hcr, hzr⟩ := hxr.cells
      have kp5 := kp5.keep hr
      simp only [zipOk, depsImp, isv, newb, waits, Region.binds, List.map_nil, List.nil_append, List.filterMap_cons, List.filterMap_nil, ↓reduceIte, true_implies, List.getD_cons_zero, List.getD_cons_succ, and_true]
      refine ⟨?_, ?_, ?_, ?_, ?_, ?_⟩
      all_goals
        intros
        go_wp2_with (first | (go_at_call 16; (with_reducible refine (laws_toShared _ _ _).mono ?_); rintro e w1 ⟨rfl, hy⟩) | (go_at_call 20; (with_reducible refine (impl_SubShares _ _ _ _ _).mono ?_); rintro e w1 ⟨rfl, hy⟩))
        refine stepQ_mk rfl (by simp only [List.getElem?_toArray, List.getElem?_cons_succ, List.getElem?_cons_zero]; exact rfl) ?_
        first | exact ⟨hy, rfl⟩ | exact ⟨Ext.refl _, rfl⟩ | exact ⟨Ext.refl _, by assumption⟩ | exact ⟨(Ext.refl _).alloc _, rfl, by simp, Blk.new _ _ _⟩
    case hB => kernel_rfl
    case fin =>
      intro V lo up w' hr hf ha
      simp only [factsOk, isv, newb, List.map_nil, and_true, Nat.zero_add, Nat.reduceAdd] at hf
      simp only [List.length_cons, List.length_nil, Nat.zero_add, Nat.reduceAdd, List.drop_succ_cons, List.drop_zero]
      obtain ⟨⟨-, -, -, e0⟩, ⟨-, -, -, e1⟩, ⟨-, -, -, e2⟩, ⟨-, -, -, e3⟩, ⟨-, -, -, e4⟩, ⟨lq5, -, -, e5, -, kq5⟩⟩ := hf
      rw [e0, e1, e2, e3, e4, e5]
      clear e0 e1 e2 e3 e4 e5
      generalize lo 5 = bq5 at *
      clear ha V lo up
      have hs0 := hx.size
      replace hx := hx.trans hr
      have tkp5 := kp5.lt
      replace kp5 := kp5.keep hr
      clear hr
      try clear hc hz
      obtain ⟨hc, hz⟩ := hx.cells
      refine wpList_store_blk rfl rfl 24 (.tmp 6) (.tmp 16) rfl bq5 _ rfl rfl 24 _ kq5 (by kernel_rfl) rfl (by simp [Value.oneCell']) hx (by omega) ?_
      rintro W1 hy kq5' hoth hsz
      replace kp5 := kp5.keep' hoth (by omega)
      clear kq5
      have kq5 := kq5'
      clear kq5' hoth hx
      have hx := hy
      clear hy
      clear hc hz
      obtain ⟨hc, hz⟩ := hx.cells
      obtain ⟨c1, c2⟩ := kp5.two
      obtain ⟨c3, c4⟩ := kq5.two
      go_wp2_with (go_at_call 18; (with_reducible refine (laws_eqShared _ _ _ _ true (by simp) _).mono ?_); rintro e w1 ⟨rfl, hy⟩; (first | (replace hx := hx.trans hy; clear hc hz hy; obtain ⟨hc, hz⟩ := hx.cells) | (have hx := hy; clear hy; obtain ⟨hc, hz⟩ := hx.cells)))
      go_ret
      exact ⟨rfl, (by (repeat (first | refine Ext.setCell ?_ (by first | (simp; done) | (simp; omega) | omega) _ | refine Ext.alloc ?_ _ | refine Ext.drew ?_ | refine Ext.setRow ?_ (by omega) _)); first | exact Ext.refl _ | exact hx | (refine Ext.trans ?_ hx; (repeat (refine Ext.alloc ?_ _)); exact Ext.refl _))⟩
theorem cells_int : Try.prog.cellsOf 3 = 1 := by kernel_rfl
theorem cells_sh : Try.prog.cellsOf 23 = 2 := by kernel_rfl
theorem trod_sh {H : Type} {enc : TypeId × Value → H} {w : World} {base : Nat} {spare : Nat → Bool} {held : Bool} {n : Nat} {c0 c1 : Value} {x : DataW H × List MemPlace} (h : DataW.trod enc Try.prog w base spare held n 23 [c0, c1] = some x) :
    ∃ a b : Int, c0 = .int .i64 a ∧ c1 = .int .i64 b ∧ (-9223372036854775808 ≤ a ∧ a ≤ 9223372036854775807) ∧ (-9223372036854775808 ≤ b ∧ b ≤ 9223372036854775807) := by
  obtain ⟨_, hf⟩ := struct_field Try.underlying23 h
  obtain ⟨_, _, t0⟩ := hf 0 _ rfl
  obtain ⟨_, _, t1⟩ := hf 1 _ rfl
  simp [cells_int] at t0 t1
  obtain ⟨a, e0, b0⟩ := leaf_int Try.underlying3 t0
  obtain ⟨b, e1, b1⟩ := leaf_int Try.underlying3 t1
  simp at e0 e1
  exact ⟨a, b, e0, e1, b0, b1⟩

set_option maxRecDepth 100000 in
theorem lifted_FnExactSubShares (os : Os) (started : os.Started) (H : Type) (enc : TypeId × Value → H) :
    ReturnsInHanded {} Try.checked os 4 .any (Rows.fnExactSubSharesSpec.pre6 enc Try.prog Try.f4 Rows.fnExactSubSharesRow.domain false) (Rows.fnExactSubSharesSpec.post enc Try.prog Try.f4 false true false false) := by
  refine returnsInHanded_of_change (C := Try.checked) own started (by kernel_rfl) Try.func4
    (ChangeSpec.witness6 (enc := enc) (C := Try.checked) false ⟨#[], #[.agg #[.int .i64 0, .int .i64 0], .agg #[.int .i64 0, .int .i64 0]], []⟩ 8 (by kernel_rfl) (by kernel_rfl) (by kernel_rfl) (by kernel_rfl)) ?_
  intro W base args ds gs before hval0 hW hcnd _
  have hval : ∀ (j : Nat) t v, Try.f4.params[j]? = some t → args[j]? = some v → Value.okWide Try.prog W .any base t v := hval0
  have hW' := hW
  obtain ⟨p, q, hA0, hV, rfl, hfz, hnd⟩ := hW
  have hA : DataW.TrodAll enc Try.prog W 0 (fun _ => true) true Try.f4.params.toList args.toList ds p := hA0
  rw [Try.params4] at hA hval
  obtain ⟨v0, vs0, d0, ds0, p0, q0, hargs, rfl, rfl, h0, r0⟩ := trodAll_cons hA
  obtain ⟨v1, vs1, d1, ds1, p1, q1, rfl, rfl, rfl, h1, r1⟩ := trodAll_cons r0
  obtain ⟨rfl, rfl, rfl⟩ := trodAll_nil r1
  obtain rfl : args = #[v0, v1] := by cases args; simp_all
  obtain ⟨rfl, rfl⟩ := trodVars_none hV
  have k0 := h0
  have lt0 : ∀ x ∈ p0, x.block < W.heap.size := by obtain ⟨m, hm⟩ := k0; exact DataW.trod_lt m _ _ _ hm
  obtain ⟨cs0, rfl, hs0⟩ := okWide_struct Try.underlying23 (hval 0 23 v0 rfl rfl)
  rw [cells_sh] at hs0
  obtain ⟨c00, c01, rfl⟩ := array2 hs0
  obtain ⟨fu0, hf0⟩ := h0
  obtain ⟨a00, a01, rfl, rfl, _⟩ := trod_sh (by simpa [Value.cells] using hf0)
  have k1 := h1
  have lt1 : ∀ x ∈ p1, x.block < W.heap.size := by obtain ⟨m, hm⟩ := k1; exact DataW.trod_lt m _ _ _ hm
  obtain ⟨cs1, rfl, hs1⟩ := okWide_struct Try.underlying23 (hval 1 23 v1 rfl rfl)
  rw [cells_sh] at hs1
  obtain ⟨c10, c11, rfl⟩ := array2 hs1
  obtain ⟨fu1, hf1⟩ := h1
  obtain ⟨a10, a11, rfl, rfl, _⟩ := trod_sh (by simpa [Value.cells] using hf1)
  clear hA0 hval0
  refine (walk_FnExactSubShares a00 a01 a10 a11 W).mono fun e W' ⟨he, bel⟩ => ?_
  subst he
  exact ⟨_, rfl, _, _, _, [], _, [], hW', trodAll_mk1 (shut_bool Try.underlying4 _), (trodAll_cons_mk (Below.trod laidOut (by kernel_rfl) (of_decide_eq_true (by kernel_rfl)) k0 bel lt0) (trodAll_cons_mk (Below.trod laidOut (by kernel_rfl) (of_decide_eq_true (by kernel_rfl)) k1 bel lt1) trodAll_mk0)), rfl, Below.frame bel _, fun h => by cases h⟩
theorem proved_FnExactSubShares : Rows.FnExactSubSharesSaid :=
  OpenClaim.holds_of_wide 4 Try.f4 rfl rfl rfl rfl rfl rfl rfl ⟨rfl, rfl, rfl, rfl, rfl⟩ rfl rfl rfl rfl rfl (by kernel_rfl) Try.func4 (by kernel_rfl)
    (of_decide_eq_true (by kernel_rfl)) (by unfold Func.isWrapper; rw [if_neg (of_decide_eq_false (by kernel_rfl))]; exact ⟨rfl, rfl⟩)
    (fun os started H enc _ => lifted_FnExactSubShares os started H enc)
#print axioms proved_FnExactSubShares

end Go.Proofs.Ytokjdaknfkleeaa
