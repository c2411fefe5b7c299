/- Proved: the law FnExactFunctionValues answers true for every input and leaves its arguments as they were. No condition. -/
import Derived.Test.YtnblocljjljebaaFnVals
import Derived.Test.YtnblocljjljebaaOpen
import Derived.ChangeOld
import Derived.Carry
namespace Go.Proofs.Ytnblocljjljebaa
open Go.ChangeShapes Go.WideShapes Go.ChangeAt Go.RowKit Go.Joins
set_option linter.unusedVariables false
theorem own : ownKnob Try.prog.godebug = none := by kernel_rfl
theorem laidOut : laidOutB Try.prog = true := by kernel_rfl

theorem fVals_len (k : Int) : ((fVals k).length : Int) ≤ 4096 := by
  unfold fVals; split
  · rw [valsTo_len]; omega
  · simp
set_option maxHeartbeats 1000000 in
theorem walk_FnExactFunctionValues (k : Int) (w : World) : Calls Try.prog 6 #[.int .i64 k] w fun e w' => e = .returned (.bool true) ∧ Ext w w' := by
  have hn := fVals_len k
  go_enter Try.func6, Try.ntmps6
  go_wp2_with fail
  refine (spec_FunctionValues _ _).mono ?_
  rintro e w1 ⟨v1, rfl, o1, x1⟩
  go_wp2_with fail
  refine (impl_FunctionValues _ _).mono ?_
  rintro e w2 ⟨v2, rfl, o2, x2⟩
  have b1 := Lib.hid o1.block
  have b2 := Lib.hid o2.block
  have hd := Lib.hid (show ∀ q, v2.ownBlock = some q → v1.ownBlock ≠ some q from fun q h2 h1 => by have := (b2.out q h2).1; have := (b1.out q h1).2; omega)
  replace o1 := o1.keep x2
  generalize hxs : fVals k = xs at *
  have HX := Lib.hid hxs
  clear hxs
  go_wp2_with fail
  refine (laws_eqIntS _ _ _ _ o2.ints o1.ints).mono ?_
  rintro e w3 ⟨rfl, x3⟩
  replace o1 := o1.keep x3
  replace o2 := o2.keep x3
  have hx := (x1.trans x2).trans x3
  go_wp2_with fail
  refine (laws_markIntS _ _ _ 1 xs.length rfl _ o2 (by omega) (by omega)).mono ?_
  rintro e w4 ⟨rfl, m2, t4⟩
  replace o1 := t4.own o1 hd.out
  replace hx := t4.ext hx (fun q hq => by have := (b2.out q hq).1; have := x1.size; omega)
  clear t4 o2 x1 x2 x3
  go_wp2_with fail
  refine (laws_heldIntS _ 1 xs.length _ m2.ints (by omega) (by omega)).mono ?_
  rintro e w5 ⟨rfl, rfl⟩
  go_wp2_with fail
  refine (impl_FunctionValues _ _).mono ?_
  rintro e w5 ⟨v3, rfl, o3, x5⟩
  rw [HX.out] at o3
  replace o1 := o1.keep x5
  replace m2 := m2.keep x5
  replace hx := hx.trans x5
  clear x5
  go_wp2_with fail
  refine (laws_eqIntS _ _ _ _ o3.ints o1.ints).mono ?_
  rintro e w6 ⟨rfl, x6⟩
  replace m2 := m2.keep x6
  replace hx := hx.trans x6
  clear x6 o1 o3
  go_wp2_with fail
  refine (laws_heldIntS _ 1 xs.length _ m2.ints (by omega) (by omega)).mono ?_
  rintro e w7 ⟨rfl, rfl⟩
  go_wp2
  go_ret
  exact ⟨rfl, hx⟩
set_option maxRecDepth 100000 in
theorem lifted_FnExactFunctionValues (os : Os) (started : os.Started) (H : Type) (enc : TypeId × Value → H) :
    ReturnsInHanded {} Try.checked os 6 .any (Rows.fnExactFunctionValuesSpec.pre6 enc Try.prog Try.f6 Rows.fnExactFunctionValuesRow.domain false) (Rows.fnExactFunctionValuesSpec.post enc Try.prog Try.f6 false true false false) := by
  refine returnsInHanded_of_change (C := Try.checked) own started (by kernel_rfl) Try.func6
    (ChangeSpec.witness6 (enc := enc) (C := Try.checked) false ⟨#[], #[.int .i64 0], []⟩ 8 (by kernel_rfl) (by kernel_rfl) (by kernel_rfl) (by kernel_rfl)) ?_
  intro W base args ds gs before hval0 hW hcnd _
  have hval : ∀ (j : Nat) t v, Try.f6.params[j]? = some t → args[j]? = some v → Value.okWide Try.prog W .any base t v := hval0
  have hW' := hW
  obtain ⟨p, q, hA0, hV, rfl, hfz, hnd⟩ := hW
  have hA : DataW.TrodAll enc Try.prog W 0 (fun _ => true) true Try.f6.params.toList args.toList ds p := hA0
  rw [Try.params6] at hA hval
  obtain ⟨v0, vs0, d0, ds0, p0, q0, hargs, rfl, rfl, h0, r0⟩ := trodAll_cons hA
  obtain ⟨rfl, rfl, rfl⟩ := trodAll_nil r0
  obtain rfl : args = #[v0] := by cases args; simp_all
  obtain ⟨rfl, rfl⟩ := trodVars_none hV
  have k0 := h0
  have lt0 : ∀ x ∈ p0, x.block < W.heap.size := by obtain ⟨m, hm⟩ := k0; exact DataW.trod_lt m _ _ _ hm
  obtain ⟨a0, rfl, rfl, rfl, w0⟩ := open_int Try.underlying3 (hval 0 3 v0 rfl rfl) h0
  clear hA0 hval0
  refine (walk_FnExactFunctionValues a0 W).mono fun e W' ⟨he, bel⟩ => ?_
  subst he
  exact ⟨_, rfl, _, _, _, [], _, [], hW', trodAll_mk1 (shut_bool Try.underlying4 _), (trodAll_cons_mk (shut_int Try.underlying3 w0) trodAll_mk0), rfl, Below.frame bel _, fun h => by cases h⟩
theorem proved_FnExactFunctionValues : Rows.FnExactFunctionValuesSaid :=
  OpenClaim.holds_of_wide 6 Try.f6 rfl rfl rfl rfl rfl rfl rfl ⟨rfl, rfl, rfl, rfl, rfl⟩ rfl rfl rfl rfl rfl (by kernel_rfl) Try.func6 (by kernel_rfl)
    (of_decide_eq_true (by kernel_rfl)) (by unfold Func.isWrapper; rw [if_neg (of_decide_eq_false (by kernel_rfl))]; exact ⟨rfl, rfl⟩)
    (fun os started H enc _ => lifted_FnExactFunctionValues os started H enc)
#print axioms proved_FnExactFunctionValues

end Go.Proofs.Ytnblocljjljebaa
