/- Proved: the law FnExactMakeTriple answers true for every input and leaves its argument as it was. No condition. -/
import Derived.Test.YtnblocljjljebaaRows
import Derived.Test.YtnblocljjljebaaMkT
import Derived.Test.YtnblocljjljebaaOpen
import Derived.ChangeSlices
import Derived.Test.YtnblocljjljebaaOpen
import Derived.ChangeOld
import Derived.Carry
namespace Go.Proofs.Ytnblocljjljebaa
set_option linter.unusedSimpArgs false
set_option linter.unusedVariables false
open Go.ChangeShapes Go.WideShapes Go.ChangeAt Go.RowKit Go.Joins
set_option linter.unusedVariables false
theorem own : ownKnob Try.prog.godebug = none := by kernel_rfl
theorem laidOut : laidOutB Try.prog = true := by kernel_rfl

set_option maxHeartbeats 2000000 in
theorem walk_FnExactMakeTriple (s : Int) (w : World) : Calls Try.prog 11 #[.int .i64 s] w fun e w' => e = .returned (.bool true) ∧ Ext w w' := by
  go_enter Try.func11, Try.ntmps11
  go_wp2_with (fail)
  (with_reducible refine (spec_MakeTriple s _).mono ?_)
  rintro e w1 ⟨rfl, x1⟩
  go_wp2_with (fail)
  (with_reducible refine (impl_MakeTriple s _).mono ?_)
  rintro e w2 ⟨rfl, x2⟩
  have kA := (Blk.new w1 #[.int .i64 (tA s), .int .i64 (tB s), .int .i64 (tC s), .int .i64 (tD s), .int .i64 (tE s), .int .i64 (tF s)] 57).keep x2
  have hx := (x1.alloc (.cells #[.int .i64 (tA s), .int .i64 (tB s), .int .i64 (tC s), .int .i64 (tD s), .int .i64 (tE s), .int .i64 (tF s)] 57)).trans x2
  clear x1 x2
  have lA := kA.lt
  have kB := Blk.new w2 #[.int .i64 (tA s), .int .i64 (tB s), .int .i64 (tC s), .int .i64 (tD s), .int .i64 (tE s), .int .i64 (tF s)] 57
  replace kA := kA.old (.cells #[.int .i64 (tA s), .int .i64 (tB s), .int .i64 (tC s), .int .i64 (tD s), .int .i64 (tE s), .int .i64 (tF s)] 57)
  replace hx := hx.alloc (.cells #[.int .i64 (tA s), .int .i64 (tB s), .int .i64 (tC s), .int .i64 (tD s), .int .i64 (tE s), .int .i64 (tF s)] 57)
  obtain ⟨a0, a1, a2, a3, a4, a5⟩ := kA.six
  go_wp2_with (fail)
  (with_reducible refine (laws_eqTriple (tA s) (tB s) (tC s) (tD s) (tE s) (tF s) _).mono ?_)
  rintro e w3 ⟨rfl, x3⟩
  go_wp2
  go_ret
  exact ⟨rfl, hx.trans x3⟩

set_option maxRecDepth 100000 in
theorem lifted_FnExactMakeTriple (os : Os) (started : os.Started) (H : Type) (enc : TypeId × Value → H) :
    ReturnsInHanded {} Try.checked os 11 .any (Rows.fnExactMakeTripleSpec.pre6 enc Try.prog Try.f11 Rows.fnExactMakeTripleRow.domain false) (Rows.fnExactMakeTripleSpec.post enc Try.prog Try.f11 false true false false) := by
  refine returnsInHanded_of_change (C := Try.checked) own started (by kernel_rfl) Try.func11
    (ChangeSpec.witness6 (enc := enc) (C := Try.checked) false ⟨#[], #[.int .i64 0], []⟩ 8 (by kernel_rfl) (by kernel_rfl) (by kernel_rfl) (by kernel_rfl)) ?_
  intro W base args ds gs before hval0 hW hcnd _
  have hval : ∀ (j : Nat) t v, Try.f11.params[j]? = some t → args[j]? = some v → Value.okWide Try.prog W .any base t v := hval0
  have hW' := hW
  obtain ⟨p, q, hA0, hV, rfl, hfz, hnd⟩ := hW
  have hA : DataW.TrodAll enc Try.prog W 0 (fun _ => true) true Try.f11.params.toList args.toList ds p := hA0
  rw [Try.params11] at hA hval
  obtain ⟨v0, vs0, d0, ds0, p0, q0, hargs, rfl, rfl, h0, r0⟩ := trodAll_cons hA
  obtain ⟨rfl, rfl, rfl⟩ := trodAll_nil r0
  obtain rfl : args = #[v0] := by cases args; simp_all
  obtain ⟨rfl, rfl⟩ := trodVars_none hV
  have k0 := h0
  have lt0 : ∀ x ∈ p0, x.block < W.heap.size := by obtain ⟨m, hm⟩ := k0; exact DataW.trod_lt m _ _ _ hm
  obtain ⟨a0, rfl, rfl, rfl, w0⟩ := open_int Try.underlying3 (hval 0 3 v0 rfl rfl) h0
  clear hA0 hval0
  refine (walk_FnExactMakeTriple a0 W).mono fun e W' ⟨he, bel⟩ => ?_
  subst he
  exact ⟨_, rfl, _, _, _, [], _, [], hW', trodAll_mk1 (shut_bool Try.underlying4 _), (trodAll_cons_mk (shut_int Try.underlying3 w0) trodAll_mk0), rfl, Below.frame bel _, fun h => by cases h⟩
theorem proved_FnExactMakeTriple : Rows.FnExactMakeTripleSaid :=
  OpenClaim.holds_of_wide 11 Try.f11 rfl rfl rfl rfl rfl rfl rfl ⟨rfl, rfl, rfl, rfl, rfl⟩ rfl rfl rfl rfl rfl (by kernel_rfl) Try.func11 (by kernel_rfl)
    (of_decide_eq_true (by kernel_rfl)) (by unfold Func.isWrapper; rw [if_neg (of_decide_eq_false (by kernel_rfl))]; exact ⟨rfl, rfl⟩)
    (fun os started H enc _ => lifted_FnExactMakeTriple os started H enc)
#print axioms proved_FnExactMakeTriple

end Go.Proofs.Ytnblocljjljebaa
