/- Proved: the law FnExactTimesKnown answers true for every input and leaves its arguments as they were. No condition. -/
import Derived.Test.YtokjdaknfkleeaaRows
import Derived.Test.YtokjdaknfkleeaaShares2
import Derived.Test.YtokjdaknfkleeaaOpen
import Derived.ChangeOld
import Derived.Carry
namespace Go.Proofs.Ytokjdaknfkleeaa
open Go.ChangeShapes Go.WideShapes Go.ChangeAt Go.RowKit Go.Joins
set_option linter.unusedVariables false
theorem own : ownKnob Try.prog.godebug = none := by kernel_rfl
theorem laidOut : laidOutB Try.prog = true := by kernel_rfl

set_option maxHeartbeats 1000000 in
theorem walk_FnExactTimesKnown (x y k : Int) (w : World) : Calls Try.prog 5 #[.agg #[.int .i64 x, .int .i64 y], .int .i64 k] w fun e w' => e = .returned (.bool true) ∧ Ext w w' := by
  go_enter Try.func5, Try.ntmps5
  go_wp2_with fail
  (with_reducible refine (laws_toShared _ _ _).mono ?_)
  rintro e w1 ⟨rfl, hy⟩
  have hw' : Ext w w1 := Ext.trans (by (repeat (first | refine Ext.setCell ?_ (by first | (simp; done) | (simp; omega) | omega) _ | refine Ext.alloc ?_ _)); first | exact Ext.refl _ | exact hw) hy
  (try clear hw)
  have hw := hw'
  clear hw'
  obtain ⟨hcw1, hzw1⟩ := hy.cells
  have zw10 : w.heap.size < w1.heap.size := by have := hy.size; (try simp at this); omega
  have zzw1 := hy.size
  (try simp at zzw1)
  clear hy
  go_wp2_with fail
  (with_reducible refine (spec_TimesKnown _ _ _ _).mono ?_)
  rintro e w2 ⟨rfl, hy⟩
  have hw' : Ext w w2 := Ext.trans (by (repeat (first | refine Ext.setCell ?_ (by first | (simp; done) | (simp; omega) | omega) _ | refine Ext.alloc ?_ _)); first | exact Ext.refl _ | exact hw) hy
  (try clear hw)
  have hw := hw'
  clear hw'
  obtain ⟨hcw2, hzw2⟩ := hy.cells
  have zw20 : w.heap.size < w2.heap.size := by have := hy.size; (try simp at this); omega
  have zzw2 := hy.size
  (try simp at zzw2)
  clear hy
  go_wp2_with fail
  (with_reducible refine (laws_toShared _ _ _).mono ?_)
  rintro e w3 ⟨rfl, hy⟩
  have hw' : Ext w w3 := Ext.trans (by (repeat (first | refine Ext.setCell ?_ (by first | (simp; done) | (simp; omega) | omega) _ | refine Ext.alloc ?_ _)); first | exact Ext.refl _ | exact hw) hy
  (try clear hw)
  have hw := hw'
  clear hw'
  obtain ⟨hcw3, hzw3⟩ := hy.cells
  have zw30 : w.heap.size < w3.heap.size := by have := hy.size; (try simp at this); omega
  have zw31 : w2.heap.size < w3.heap.size := by have := hy.size; (try simp at this); omega
  have zzw3 := hy.size
  (try simp at zzw3)
  clear hy
  go_wp2_with fail
  (with_reducible refine (impl_TimesKnown _ _ _ _).mono ?_)
  rintro e w4 ⟨rfl, hy⟩
  have hw' : Ext w w4 := Ext.trans (by (repeat (first | refine Ext.setCell ?_ (by first | (simp; done) | (simp; omega) | omega) _ | refine Ext.alloc ?_ _)); first | exact Ext.refl _ | exact hw) hy
  (try clear hw)
  have hw := hw'
  clear hw'
  obtain ⟨hcw4, hzw4⟩ := hy.cells
  have zw40 : w.heap.size < w4.heap.size := by have := hy.size; (try simp at this); omega
  have zw41 : w2.heap.size < w4.heap.size := by have := hy.size; (try simp at this); omega
  have zzw4 := hy.size
  (try simp at zzw4)
  clear hy
  go_wp2_with fail
  (with_reducible refine (laws_eqShared _ _ _ _ true (by simp) _).mono ?_)
  rintro e w5 ⟨rfl, hy⟩
  have hw' : Ext w w5 := Ext.trans (by (repeat (first | refine Ext.setCell ?_ (by first | (simp; done) | (simp; omega) | omega) _ | refine Ext.alloc ?_ _)); first | exact Ext.refl _ | exact hw) hy
  (try clear hw)
  have hw := hw'
  clear hw'
  obtain ⟨hcw5, hzw5⟩ := hy.cells
  have zzw5 := hy.size
  (try simp at zzw5)
  clear hy
  go_wp2
  go_ret
  exact ⟨rfl, (by (repeat (first | refine Ext.setCell ?_ (by first | (simp; done) | (simp; omega) | omega) _ | refine Ext.alloc ?_ _)); first | exact Ext.refl _ | exact hw)⟩
theorem cells_int : Try.prog.cellsOf 3 = 1 := by kernel_rfl
theorem cells_sh : Try.prog.cellsOf 23 = 2 := by kernel_rfl
theorem trod_sh {H : Type} {enc : TypeId × Value → H} {w : World} {base : Nat} {spare : Nat → Bool} {held : Bool} {n : Nat} {c0 c1 : Value} {x : DataW H × List MemPlace} (h : DataW.trod enc Try.prog w base spare held n 23 [c0, c1] = some x) :
    ∃ a b : Int, c0 = .int .i64 a ∧ c1 = .int .i64 b ∧ (-9223372036854775808 ≤ a ∧ a ≤ 9223372036854775807) ∧ (-9223372036854775808 ≤ b ∧ b ≤ 9223372036854775807) := by
  obtain ⟨_, hf⟩ := struct_field Try.underlying23 h
  obtain ⟨_, _, t0⟩ := hf 0 _ rfl
  obtain ⟨_, _, t1⟩ := hf 1 _ rfl
  simp [cells_int] at t0 t1
  obtain ⟨a, e0, b0⟩ := leaf_int Try.underlying3 t0
  obtain ⟨b, e1, b1⟩ := leaf_int Try.underlying3 t1
  simp at e0 e1
  exact ⟨a, b, e0, e1, b0, b1⟩

set_option maxRecDepth 100000 in
theorem lifted_FnExactTimesKnown (os : Os) (started : os.Started) (H : Type) (enc : TypeId × Value → H) :
    ReturnsInHanded {} Try.checked os 5 .any (Rows.fnExactTimesKnownSpec.pre6 enc Try.prog Try.f5 Rows.fnExactTimesKnownRow.domain false) (Rows.fnExactTimesKnownSpec.post enc Try.prog Try.f5 false true false false) := by
  refine returnsInHanded_of_change (C := Try.checked) own started (by kernel_rfl) Try.func5
    (ChangeSpec.witness6 (enc := enc) (C := Try.checked) false ⟨#[], #[.agg #[.int .i64 0, .int .i64 0], .int .i64 0], []⟩ 8 (by kernel_rfl) (by kernel_rfl) (by kernel_rfl) (by kernel_rfl)) ?_
  intro W base args ds gs before hval0 hW hcnd _
  have hval : ∀ (j : Nat) t v, Try.f5.params[j]? = some t → args[j]? = some v → Value.okWide Try.prog W .any base t v := hval0
  have hW' := hW
  obtain ⟨p, q, hA0, hV, rfl, hfz, hnd⟩ := hW
  have hA : DataW.TrodAll enc Try.prog W 0 (fun _ => true) true Try.f5.params.toList args.toList ds p := hA0
  rw [Try.params5] at hA hval
  obtain ⟨v0, vs0, d0, ds0, p0, q0, hargs, rfl, rfl, h0, r0⟩ := trodAll_cons hA
  obtain ⟨v1, vs1, d1, ds1, p1, q1, rfl, rfl, rfl, h1, r1⟩ := trodAll_cons r0
  obtain ⟨rfl, rfl, rfl⟩ := trodAll_nil r1
  obtain rfl : args = #[v0, v1] := by cases args; simp_all
  obtain ⟨rfl, rfl⟩ := trodVars_none hV
  have k0 := h0
  have lt0 : ∀ x ∈ p0, x.block < W.heap.size := by obtain ⟨m, hm⟩ := k0; exact DataW.trod_lt m _ _ _ hm
  obtain ⟨cs0, rfl, hs0⟩ := okWide_struct Try.underlying23 (hval 0 23 v0 rfl rfl)
  rw [cells_sh] at hs0
  obtain ⟨c00, c01, rfl⟩ := array2 hs0
  obtain ⟨fu0, hf0⟩ := h0
  obtain ⟨a00, a01, rfl, rfl, _⟩ := trod_sh (by simpa [Value.cells] using hf0)
  have k1 := h1
  have lt1 : ∀ x ∈ p1, x.block < W.heap.size := by obtain ⟨m, hm⟩ := k1; exact DataW.trod_lt m _ _ _ hm
  obtain ⟨a1, rfl, rfl, rfl, w1⟩ := open_int Try.underlying3 (hval 1 3 v1 rfl rfl) h1
  clear hA0 hval0
  refine (walk_FnExactTimesKnown a00 a01 a1 W).mono fun e W' ⟨he, bel⟩ => ?_
  subst he
  exact ⟨_, rfl, _, _, _, [], _, [], hW', trodAll_mk1 (shut_bool Try.underlying4 _), (trodAll_cons_mk (Below.trod laidOut (by kernel_rfl) (of_decide_eq_true (by kernel_rfl)) k0 bel lt0) (trodAll_cons_mk (shut_int Try.underlying3 w1) trodAll_mk0)), rfl, Below.frame bel _, fun h => by cases h⟩
theorem proved_FnExactTimesKnown : Rows.FnExactTimesKnownSaid :=
  OpenClaim.holds_of_wide 5 Try.f5 rfl rfl rfl rfl rfl rfl rfl ⟨rfl, rfl, rfl, rfl, rfl⟩ rfl rfl rfl rfl rfl (by kernel_rfl) Try.func5 (by kernel_rfl)
    (of_decide_eq_true (by kernel_rfl)) (by unfold Func.isWrapper; rw [if_neg (of_decide_eq_false (by kernel_rfl))]; exact ⟨rfl, rfl⟩)
    (fun os started H enc _ => lifted_FnExactTimesKnown os started H enc)
#print axioms proved_FnExactTimesKnown

end Go.Proofs.Ytokjdaknfkleeaa
