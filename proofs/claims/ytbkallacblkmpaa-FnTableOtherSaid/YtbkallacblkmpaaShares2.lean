/- The contracts of a shared number with a known one, of triples: what each returns, for all whole numbers; nothing that was in memory turns. -/
import Derived.Test.YtbkallacblkmpaaShares
namespace Go.Proofs.Ytbkallacblkmpaa
set_option linter.unusedSimpArgs false
set_option linter.unusedVariables false
open Go.RowKit
def okT (a b c d e f : Int) : Bool := rv a && rv b && (rv c && rv d && (rv e && rv f))
/-- The product of what is shared. -/
def prodT (a b c d : Int) : Int := mulR (addR a b) (addR c d)
def triR (a b c d e f : Int) : Bool := okT a b c d e f && (addR e f == prodT a b c d)

set_option maxHeartbeats 1000000 in
theorem impl_product (a b c d e f : Int) (w : World) : Calls Try.prog 77 #[.agg #[.int .i64 a, .int .i64 b, .int .i64 c, .int .i64 d, .int .i64 e, .int .i64 f]] w fun e' w' => e' = .returned (.int .i64 (prodT a b c d)) ∧ Ext w w' := by
  go_enter Try.func77, Try.ntmps77
  go_wp2
  apply wp_region_zip [isv _, isv _, isv _, isv _, isv _, isv _, isv _, isv _] _ (by kernel_rfl)
  case hA => intro V; simp [putAll, dstOf, Act.put]; exact rfl
  case hsl => intro V; exact rfl
  case step =>
    intro V lo up w' hr
    obtain ⟨hcr, hzr⟩ := hr.cells
    simp only [zipOk, depsImp, isv, waits, Region.binds, List.map_nil, List.nil_append, List.filterMap_cons, List.filterMap_nil, ↓reduceIte, true_implies, List.getD_cons_zero, List.getD_cons_succ, and_true]
    refine ⟨?_, ?_, ?_, ?_, ?_, ?_, ?_, ?_⟩
    all_goals
      intros
      go_wp2_with (first | (go_at_call 21; (with_reducible refine (impl_JoinShares _ _ _).mono ?_); rintro e w1 ⟨rfl, hy⟩) | (go_at_call 84; (with_reducible refine (impl_MulRing _ _ _).mono ?_); rintro e w1 ⟨rfl, rfl⟩))
      refine stepQ_mk rfl (by simp only [List.getElem?_toArray, List.getElem?_cons_succ, List.getElem?_cons_zero]; exact rfl) ?_
      first | exact ⟨hy, rfl⟩ | exact ⟨Ext.refl _, rfl⟩ | exact ⟨Ext.refl _, by assumption⟩ | exact ⟨(Ext.refl _).alloc _, rfl, by simp, Blk.new _ _ _⟩
  case hB => kernel_rfl
  case fin =>
    intro V lo up w' hr hf ha
    simp only [factsOk, isv, List.map_nil, and_true, Nat.zero_add, Nat.reduceAdd] at hf
    simp only [List.length_cons, List.length_nil, Nat.zero_add, Nat.reduceAdd, List.drop_succ_cons, List.drop_zero]
    obtain ⟨⟨-, -, -, e0⟩, ⟨-, -, -, e1⟩, ⟨-, -, -, e2⟩, ⟨-, -, -, e3⟩, ⟨-, -, -, e4⟩, ⟨-, -, -, e5⟩, ⟨-, -, -, e6⟩, ⟨-, -, -, e7⟩⟩ := hf
    rw [e0, e1, e2, e3, e4, e5, e6, e7]
    clear e0 e1 e2 e3 e4 e5 e6 e7
    clear ha V lo up
    have hx := hr
    clear hr
    try clear hc hz
    obtain ⟨hc, hz⟩ := hx.cells
    go_wp2
    go_ret
    exact ⟨rfl, (by (repeat (first | refine Ext.setCell ?_ (by first | (simp; done) | (simp; omega) | omega) _ | refine Ext.alloc ?_ _ | refine Ext.drew ?_ | refine Ext.setRow ?_ (by omega) _)); first | exact Ext.refl _ | exact hx | (refine Ext.trans ?_ hx; (repeat (refine Ext.alloc ?_ _)); exact Ext.refl _))⟩
set_option maxHeartbeats 4000000 in
theorem impl_TripleRight (a b c d e f : Int) (w : World) : Calls Try.prog 78 #[.agg #[.int .i64 a, .int .i64 b, .int .i64 c, .int .i64 d, .int .i64 e, .int .i64 f]] w fun e' w' => e' = .returned (.bool (triR a b c d e f)) ∧ Ext w w' := by
  cases h1 : (rv a && rv b)
  · rw [show triR a b c d e f = false by simp [triR, okT, h1]]
    have H1 := Lib.hid h1; clear h1
    go_enter Try.func78, Try.ntmps78
    go_wp2_with (go_at_call 49; (with_reducible refine (impl_SharedValid a b false H1.out _).mono ?_); rintro e w1 ⟨rfl, hy⟩; (first | (replace hx := hx.trans hy; clear hc hz hy; obtain ⟨hc, hz⟩ := hx.cells) | (have hx := hy; clear hy; obtain ⟨hc, hz⟩ := hx.cells)))
    go_ret
    exact ⟨rfl, (by (repeat (first | refine Ext.setCell ?_ (by first | (simp; done) | (simp; omega) | omega) _ | refine Ext.alloc ?_ _ | refine Ext.drew ?_ | refine Ext.setRow ?_ (by omega) _)); first | exact Ext.refl _ | exact hx | (refine Ext.trans ?_ hx; (repeat (refine Ext.alloc ?_ _)); exact Ext.refl _))⟩
  · cases h2 : (rv c && rv d)
    · rw [show triR a b c d e f = false by simp [triR, okT, h1, h2]]
      have H1 := Lib.hid h1; clear h1
      have H2 := Lib.hid h2; clear h2
      go_enter Try.func78, Try.ntmps78
      go_wp2_with (first | (go_at_call 49; (with_reducible refine (impl_SharedValid a b true H1.out _).mono ?_); rintro e w1 ⟨rfl, hy⟩; (first | (replace hx := hx.trans hy; clear hc hz hy; obtain ⟨hc, hz⟩ := hx.cells) | (have hx := hy; clear hy; obtain ⟨hc, hz⟩ := hx.cells))) | (go_at_call 49; (with_reducible refine (impl_SharedValid c d false H2.out _).mono ?_); rintro e w1 ⟨rfl, hy⟩; (first | (replace hx := hx.trans hy; clear hc hz hy; obtain ⟨hc, hz⟩ := hx.cells) | (have hx := hy; clear hy; obtain ⟨hc, hz⟩ := hx.cells))))
      go_ret
      exact ⟨rfl, (by (repeat (first | refine Ext.setCell ?_ (by first | (simp; done) | (simp; omega) | omega) _ | refine Ext.alloc ?_ _ | refine Ext.drew ?_ | refine Ext.setRow ?_ (by omega) _)); first | exact Ext.refl _ | exact hx | (refine Ext.trans ?_ hx; (repeat (refine Ext.alloc ?_ _)); exact Ext.refl _))⟩
    · cases h3 : (rv e && rv f)
      · rw [show triR a b c d e f = false by simp [triR, okT, h1, h2, h3]]
        have H1 := Lib.hid h1; clear h1
        have H2 := Lib.hid h2; clear h2
        have H3 := Lib.hid h3; clear h3
        go_enter Try.func78, Try.ntmps78
        go_wp2_with (first | (go_at_call 49; (with_reducible refine (impl_SharedValid a b true H1.out _).mono ?_); rintro e w1 ⟨rfl, hy⟩; (first | (replace hx := hx.trans hy; clear hc hz hy; obtain ⟨hc, hz⟩ := hx.cells) | (have hx := hy; clear hy; obtain ⟨hc, hz⟩ := hx.cells))) | (go_at_call 49; (with_reducible refine (impl_SharedValid c d true H2.out _).mono ?_); rintro e w1 ⟨rfl, hy⟩; (first | (replace hx := hx.trans hy; clear hc hz hy; obtain ⟨hc, hz⟩ := hx.cells) | (have hx := hy; clear hy; obtain ⟨hc, hz⟩ := hx.cells))) | (go_at_call 49; (with_reducible refine (impl_SharedValid e f false H3.out _).mono ?_); rintro e w1 ⟨rfl, hy⟩; (first | (replace hx := hx.trans hy; clear hc hz hy; obtain ⟨hc, hz⟩ := hx.cells) | (have hx := hy; clear hy; obtain ⟨hc, hz⟩ := hx.cells))))
        go_ret
        exact ⟨rfl, (by (repeat (first | refine Ext.setCell ?_ (by first | (simp; done) | (simp; omega) | omega) _ | refine Ext.alloc ?_ _ | refine Ext.drew ?_ | refine Ext.setRow ?_ (by omega) _)); first | exact Ext.refl _ | exact hx | (refine Ext.trans ?_ hx; (repeat (refine Ext.alloc ?_ _)); exact Ext.refl _))⟩
      · rw [show triR a b c d e f = (addR e f == prodT a b c d) by simp [triR, okT, h1, h2, h3]]
        have H1 := Lib.hid h1; clear h1
        have H2 := Lib.hid h2; clear h2
        have H3 := Lib.hid h3; clear h3
        go_enter Try.func78, Try.ntmps78
        go_wp2_with (first | (go_at_call 49; (with_reducible refine (impl_SharedValid a b true H1.out _).mono ?_); rintro e w1 ⟨rfl, hy⟩; (first | (replace hx := hx.trans hy; clear hc hz hy; obtain ⟨hc, hz⟩ := hx.cells) | (have hx := hy; clear hy; obtain ⟨hc, hz⟩ := hx.cells))) | (go_at_call 49; (with_reducible refine (impl_SharedValid c d true H2.out _).mono ?_); rintro e w1 ⟨rfl, hy⟩; (first | (replace hx := hx.trans hy; clear hc hz hy; obtain ⟨hc, hz⟩ := hx.cells) | (have hx := hy; clear hy; obtain ⟨hc, hz⟩ := hx.cells))) | (go_at_call 49; (with_reducible refine (impl_SharedValid e f true H3.out _).mono ?_); rintro e w1 ⟨rfl, hy⟩; (first | (replace hx := hx.trans hy; clear hc hz hy; obtain ⟨hc, hz⟩ := hx.cells) | (have hx := hy; clear hy; obtain ⟨hc, hz⟩ := hx.cells))))
        apply wp_region_zip [isv _, isv _, isv _, isv _, isv _, isv _, isv _] _ (by kernel_rfl)
        case hA => intro V; simp [putAll, dstOf, Act.put]; exact rfl
        case hsl => intro V; exact rfl
        case step =>
          intro V lo up w' hr
          have hxr := hx.trans hr
          obtain ⟨hcr, hzr⟩ := hxr.cells
          simp only [zipOk, depsImp, isv, waits, Region.binds, List.map_nil, List.nil_append, List.filterMap_cons, List.filterMap_nil, ↓reduceIte, true_implies, List.getD_cons_zero, List.getD_cons_succ, and_true]
          refine ⟨?_, ?_, ?_, ?_, ?_, ?_, ?_⟩
          all_goals
            intros
            go_wp2_with (first | (go_at_call 21; (with_reducible refine (impl_JoinShares _ _ _).mono ?_); rintro e w1 ⟨rfl, hy⟩) | (go_at_call 77; (with_reducible refine (impl_product _ _ _ _ _ _ _).mono ?_); rintro e w1 ⟨rfl, hy⟩))
            refine stepQ_mk rfl (by simp only [List.getElem?_toArray, List.getElem?_cons_succ, List.getElem?_cons_zero]; exact rfl) ?_
            first | exact ⟨hy, rfl⟩ | exact ⟨Ext.refl _, rfl⟩ | exact ⟨Ext.refl _, by assumption⟩ | exact ⟨(Ext.refl _).alloc _, rfl, by simp, Blk.new _ _ _⟩
        case hB => kernel_rfl
        case fin =>
          intro V lo up w' hr hf ha
          simp only [factsOk, isv, List.map_nil, and_true, Nat.zero_add, Nat.reduceAdd] at hf
          simp only [List.length_cons, List.length_nil, Nat.zero_add, Nat.reduceAdd, List.drop_succ_cons, List.drop_zero]
          obtain ⟨⟨-, -, -, e0⟩, ⟨-, -, -, e1⟩, ⟨-, -, -, e2⟩, ⟨-, -, -, e3⟩, ⟨-, -, -, e4⟩, ⟨-, -, -, e5⟩, ⟨-, -, -, e6⟩⟩ := hf
          rw [e0, e1, e2, e3, e4, e5, e6]
          clear e0 e1 e2 e3 e4 e5 e6
          clear ha V lo up
          have hs0 := hx.size
          replace hx := hx.trans hr
          clear hr
          try clear hc hz
          obtain ⟨hc, hz⟩ := hx.cells
          go_wp2
          go_ret
          exact ⟨rfl, (by (repeat (first | refine Ext.setCell ?_ (by first | (simp; done) | (simp; omega) | omega) _ | refine Ext.alloc ?_ _ | refine Ext.drew ?_ | refine Ext.setRow ?_ (by omega) _)); first | exact Ext.refl _ | exact hx | (refine Ext.trans ?_ hx; (repeat (refine Ext.alloc ?_ _)); exact Ext.refl _))⟩
set_option maxHeartbeats 4000000 in
theorem spec_TripleRight (a b c d e f : Int) (w : World) : Calls Try.prog 75 #[.agg #[.int .i64 a, .int .i64 b, .int .i64 c, .int .i64 d, .int .i64 e, .int .i64 f]] w fun e' w' => e' = .returned (.bool (triR a b c d e f)) ∧ Ext w w' := by
  cases h1 : (rv a && rv b)
  · rw [show triR a b c d e f = false by simp [triR, okT, h1]]
    have H1 := Lib.hid h1; clear h1
    go_enter Try.func75, Try.ntmps75
    go_wp2
    apply wp_region_zip [isv _, isv _, isv _, isv _, isv _, isv _, isv _, isv _, isv _, isv _, isv _, isv _, isv _, isv _, isv _, isv _, isv _, isv _, isv _, isv _, isv _, isv _, isv _, isv _, isv _, isv _, isv _] _ (by kernel_rfl)
    case hA => intro V; simp [putAll, dstOf, Act.put]; exact rfl
    case hsl => intro V; exact rfl
    case step =>
      intro V lo up w' hr
      obtain ⟨hcr, hzr⟩ := hr.cells
      simp only [zipOk, depsImp, isv, waits, Region.binds, List.map_nil, List.nil_append, List.filterMap_cons, List.filterMap_nil, ↓reduceIte, true_implies, List.getD_cons_zero, List.getD_cons_succ, and_true]
      refine ⟨?_, ?_, ?_, ?_, ?_, ?_, ?_, ?_, ?_, ?_, ?_, ?_, ?_, ?_, ?_, ?_, ?_, ?_, ?_, ?_, ?_, ?_, ?_, ?_, ?_, ?_, ?_⟩
      all_goals
        intros
        go_wp2_with (go_at_call 44; (with_reducible refine (spec_SharedValid a b false H1.out _).mono ?_); rintro e w1 ⟨rfl, hy⟩)
        refine stepQ_mk rfl (by simp only [List.getElem?_toArray, List.getElem?_cons_succ, List.getElem?_cons_zero]; exact rfl) ?_
        first | exact ⟨hy, rfl⟩ | exact ⟨Ext.refl _, rfl⟩ | exact ⟨Ext.refl _, by assumption⟩ | exact ⟨(Ext.refl _).alloc _, rfl, by simp, Blk.new _ _ _⟩
    case hB => kernel_rfl
    case fin =>
      intro V lo up w' hr hf ha
      simp only [factsOk, isv, List.map_nil, and_true, Nat.zero_add, Nat.reduceAdd] at hf
      simp only [List.length_cons, List.length_nil, Nat.zero_add, Nat.reduceAdd, List.drop_succ_cons, List.drop_zero]
      obtain ⟨⟨-, -, -, e0⟩, ⟨-, -, -, e1⟩, ⟨-, -, -, e2⟩, ⟨-, -, -, e3⟩, ⟨-, -, -, e4⟩, ⟨-, -, -, e5⟩, ⟨-, -, -, e6⟩, ⟨-, -, -, e7⟩, ⟨-, -, -, e8⟩, ⟨-, -, -, e9⟩, ⟨-, -, -, e10⟩, ⟨-, -, -, e11⟩, ⟨-, -, -, e12⟩, ⟨-, -, -, e13⟩, ⟨-, -, -, e14⟩, ⟨-, -, -, e15⟩, ⟨-, -, -, e16⟩, ⟨-, -, -, e17⟩, ⟨-, -, -, e18⟩, ⟨-, -, -, e19⟩, ⟨-, -, -, e20⟩, ⟨-, -, -, e21⟩, ⟨-, -, -, e22⟩, ⟨-, -, -, e23⟩, ⟨-, -, -, e24⟩, ⟨-, -, -, e25⟩, ⟨-, -, -, e26⟩⟩ := hf
      rw [e0, e1, e2, e3, e4, e5, e6, e7, e8, e9, e10, e11, e12, e13, e14, e15, e16, e17, e18, e19, e20, e21, e22, e23, e24, e25, e26]
      clear e0 e1 e2 e3 e4 e5 e6 e7 e8 e9 e10 e11 e12 e13 e14 e15 e16 e17 e18 e19 e20 e21 e22 e23 e24 e25 e26
      clear ha V lo up
      have hx := hr
      clear hr
      try clear hc hz
      obtain ⟨hc, hz⟩ := hx.cells
      go_wp2
      go_ret
      exact ⟨rfl, (by (repeat (first | refine Ext.setCell ?_ (by first | (simp; done) | (simp; omega) | omega) _ | refine Ext.alloc ?_ _ | refine Ext.drew ?_ | refine Ext.setRow ?_ (by omega) _)); first | exact Ext.refl _ | exact hx | (refine Ext.trans ?_ hx; (repeat (refine Ext.alloc ?_ _)); exact Ext.refl _))⟩
  · cases h2 : (rv c && rv d)
    · rw [show triR a b c d e f = false by simp [triR, okT, h1, h2]]
      have H1 := Lib.hid h1; clear h1
      have H2 := Lib.hid h2; clear h2
      go_enter Try.func75, Try.ntmps75
      go_wp2
      apply wp_region_zip [isv _, isv _, isv _, isv _, isv _, isv _, isv _, isv _, isv _, isv _, isv _, isv _, isv _, isv _, isv _, isv _, isv _, isv _, isv _, isv _, isv _, isv _, isv _, isv _, isv _, isv _, isv _] _ (by kernel_rfl)
      case hA => intro V; simp [putAll, dstOf, Act.put]; exact rfl
      case hsl => intro V; exact rfl
      case step =>
        intro V lo up w' hr
        obtain ⟨hcr, hzr⟩ := hr.cells
        simp only [zipOk, depsImp, isv, waits, Region.binds, List.map_nil, List.nil_append, List.filterMap_cons, List.filterMap_nil, ↓reduceIte, true_implies, List.getD_cons_zero, List.getD_cons_succ, and_true]
        refine ⟨?_, ?_, ?_, ?_, ?_, ?_, ?_, ?_, ?_, ?_, ?_, ?_, ?_, ?_, ?_, ?_, ?_, ?_, ?_, ?_, ?_, ?_, ?_, ?_, ?_, ?_, ?_⟩
        all_goals
          intros
          go_wp2_with (first | (go_at_call 44; (with_reducible refine (spec_SharedValid a b true H1.out _).mono ?_); rintro e w1 ⟨rfl, hy⟩) | (go_at_call 44; (with_reducible refine (spec_SharedValid c d false H2.out _).mono ?_); rintro e w1 ⟨rfl, hy⟩))
          refine stepQ_mk rfl (by simp only [List.getElem?_toArray, List.getElem?_cons_succ, List.getElem?_cons_zero]; exact rfl) ?_
          first | exact ⟨hy, rfl⟩ | exact ⟨Ext.refl _, rfl⟩ | exact ⟨Ext.refl _, by assumption⟩ | exact ⟨(Ext.refl _).alloc _, rfl, by simp, Blk.new _ _ _⟩
      case hB => kernel_rfl
      case fin =>
        intro V lo up w' hr hf ha
        simp only [factsOk, isv, List.map_nil, and_true, Nat.zero_add, Nat.reduceAdd] at hf
        simp only [List.length_cons, List.length_nil, Nat.zero_add, Nat.reduceAdd, List.drop_succ_cons, List.drop_zero]
        obtain ⟨⟨-, -, -, e0⟩, ⟨-, -, -, e1⟩, ⟨-, -, -, e2⟩, ⟨-, -, -, e3⟩, ⟨-, -, -, e4⟩, ⟨-, -, -, e5⟩, ⟨-, -, -, e6⟩, ⟨-, -, -, e7⟩, ⟨-, -, -, e8⟩, ⟨-, -, -, e9⟩, ⟨-, -, -, e10⟩, ⟨-, -, -, e11⟩, ⟨-, -, -, e12⟩, ⟨-, -, -, e13⟩, ⟨-, -, -, e14⟩, ⟨-, -, -, e15⟩, ⟨-, -, -, e16⟩, ⟨-, -, -, e17⟩, ⟨-, -, -, e18⟩, ⟨-, -, -, e19⟩, ⟨-, -, -, e20⟩, ⟨-, -, -, e21⟩, ⟨-, -, -, e22⟩, ⟨-, -, -, e23⟩, ⟨-, -, -, e24⟩, ⟨-, -, -, e25⟩, ⟨-, -, -, e26⟩⟩ := hf
        rw [e0, e1, e2, e3, e4, e5, e6, e7, e8, e9, e10, e11, e12, e13, e14, e15, e16, e17, e18, e19, e20, e21, e22, e23, e24, e25, e26]
        clear e0 e1 e2 e3 e4 e5 e6 e7 e8 e9 e10 e11 e12 e13 e14 e15 e16 e17 e18 e19 e20 e21 e22 e23 e24 e25 e26
        clear ha V lo up
        have hx := hr
        clear hr
        try clear hc hz
        obtain ⟨hc, hz⟩ := hx.cells
        go_wp2
        go_ret
        exact ⟨rfl, (by (repeat (first | refine Ext.setCell ?_ (by first | (simp; done) | (simp; omega) | omega) _ | refine Ext.alloc ?_ _ | refine Ext.drew ?_ | refine Ext.setRow ?_ (by omega) _)); first | exact Ext.refl _ | exact hx | (refine Ext.trans ?_ hx; (repeat (refine Ext.alloc ?_ _)); exact Ext.refl _))⟩
    · cases h3 : (rv e && rv f)
      · rw [show triR a b c d e f = false by simp [triR, okT, h1, h2, h3]]
        have H1 := Lib.hid h1; clear h1
        have H2 := Lib.hid h2; clear h2
        have H3 := Lib.hid h3; clear h3
        go_enter Try.func75, Try.ntmps75
        go_wp2
        apply wp_region_zip [isv _, isv _, isv _, isv _, isv _, isv _, isv _, isv _, isv _, isv _, isv _, isv _, isv _, isv _, isv _, isv _, isv _, isv _, isv _, isv _, isv _, isv _, isv _, isv _, isv _, isv _, isv _] _ (by kernel_rfl)
        case hA => intro V; simp [putAll, dstOf, Act.put]; exact rfl
        case hsl => intro V; exact rfl
        case step =>
          intro V lo up w' hr
          obtain ⟨hcr, hzr⟩ := hr.cells
          simp only [zipOk, depsImp, isv, waits, Region.binds, List.map_nil, List.nil_append, List.filterMap_cons, List.filterMap_nil, ↓reduceIte, true_implies, List.getD_cons_zero, List.getD_cons_succ, and_true]
          refine ⟨?_, ?_, ?_, ?_, ?_, ?_, ?_, ?_, ?_, ?_, ?_, ?_, ?_, ?_, ?_, ?_, ?_, ?_, ?_, ?_, ?_, ?_, ?_, ?_, ?_, ?_, ?_⟩
          all_goals
            intros
            go_wp2_with (first | (go_at_call 44; (with_reducible refine (spec_SharedValid a b true H1.out _).mono ?_); rintro e w1 ⟨rfl, hy⟩) | (go_at_call 44; (with_reducible refine (spec_SharedValid c d true H2.out _).mono ?_); rintro e w1 ⟨rfl, hy⟩) | (go_at_call 44; (with_reducible refine (spec_SharedValid e f false H3.out _).mono ?_); rintro e w1 ⟨rfl, hy⟩))
            refine stepQ_mk rfl (by simp only [List.getElem?_toArray, List.getElem?_cons_succ, List.getElem?_cons_zero]; exact rfl) ?_
            first | exact ⟨hy, rfl⟩ | exact ⟨Ext.refl _, rfl⟩ | exact ⟨Ext.refl _, by assumption⟩ | exact ⟨(Ext.refl _).alloc _, rfl, by simp, Blk.new _ _ _⟩
        case hB => kernel_rfl
        case fin =>
          intro V lo up w' hr hf ha
          simp only [factsOk, isv, List.map_nil, and_true, Nat.zero_add, Nat.reduceAdd] at hf
          simp only [List.length_cons, List.length_nil, Nat.zero_add, Nat.reduceAdd, List.drop_succ_cons, List.drop_zero]
          obtain ⟨⟨-, -, -, e0⟩, ⟨-, -, -, e1⟩, ⟨-, -, -, e2⟩, ⟨-, -, -, e3⟩, ⟨-, -, -, e4⟩, ⟨-, -, -, e5⟩, ⟨-, -, -, e6⟩, ⟨-, -, -, e7⟩, ⟨-, -, -, e8⟩, ⟨-, -, -, e9⟩, ⟨-, -, -, e10⟩, ⟨-, -, -, e11⟩, ⟨-, -, -, e12⟩, ⟨-, -, -, e13⟩, ⟨-, -, -, e14⟩, ⟨-, -, -, e15⟩, ⟨-, -, -, e16⟩, ⟨-, -, -, e17⟩, ⟨-, -, -, e18⟩, ⟨-, -, -, e19⟩, ⟨-, -, -, e20⟩, ⟨-, -, -, e21⟩, ⟨-, -, -, e22⟩, ⟨-, -, -, e23⟩, ⟨-, -, -, e24⟩, ⟨-, -, -, e25⟩, ⟨-, -, -, e26⟩⟩ := hf
          rw [e0, e1, e2, e3, e4, e5, e6, e7, e8, e9, e10, e11, e12, e13, e14, e15, e16, e17, e18, e19, e20, e21, e22, e23, e24, e25, e26]
          clear e0 e1 e2 e3 e4 e5 e6 e7 e8 e9 e10 e11 e12 e13 e14 e15 e16 e17 e18 e19 e20 e21 e22 e23 e24 e25 e26
          clear ha V lo up
          have hx := hr
          clear hr
          try clear hc hz
          obtain ⟨hc, hz⟩ := hx.cells
          go_wp2
          go_ret
          exact ⟨rfl, (by (repeat (first | refine Ext.setCell ?_ (by first | (simp; done) | (simp; omega) | omega) _ | refine Ext.alloc ?_ _ | refine Ext.drew ?_ | refine Ext.setRow ?_ (by omega) _)); first | exact Ext.refl _ | exact hx | (refine Ext.trans ?_ hx; (repeat (refine Ext.alloc ?_ _)); exact Ext.refl _))⟩
      · rw [show triR a b c d e f = (addR e f == prodT a b c d) by simp [triR, okT, h1, h2, h3]]
        have H1 := Lib.hid h1; clear h1
        have H2 := Lib.hid h2; clear h2
        have H3 := Lib.hid h3; clear h3
        go_enter Try.func75, Try.ntmps75
        go_wp2
        apply wp_region_zip [isv _, isv _, isv _, isv _, isv _, isv _, isv _, isv _, isv _, isv _, isv _, isv _, isv _, isv _, isv _, isv _, isv _, isv _, isv _, isv _, isv _, isv _, isv _, isv _, isv _, isv _, isv _] _ (by kernel_rfl)
        case hA => intro V; simp [putAll, dstOf, Act.put]; exact rfl
        case hsl => intro V; exact rfl
        case step =>
          intro V lo up w' hr
          obtain ⟨hcr, hzr⟩ := hr.cells
          simp only [zipOk, depsImp, isv, waits, Region.binds, List.map_nil, List.nil_append, List.filterMap_cons, List.filterMap_nil, ↓reduceIte, true_implies, List.getD_cons_zero, List.getD_cons_succ, and_true]
          refine ⟨?_, ?_, ?_, ?_, ?_, ?_, ?_, ?_, ?_, ?_, ?_, ?_, ?_, ?_, ?_, ?_, ?_, ?_, ?_, ?_, ?_, ?_, ?_, ?_, ?_, ?_, ?_⟩
          all_goals
            intros
            go_wp2_with (first | (go_at_call 44; (with_reducible refine (spec_SharedValid a b true H1.out _).mono ?_); rintro e w1 ⟨rfl, hy⟩) | (go_at_call 44; (with_reducible refine (spec_SharedValid c d true H2.out _).mono ?_); rintro e w1 ⟨rfl, hy⟩) | (go_at_call 44; (with_reducible refine (spec_SharedValid e f true H3.out _).mono ?_); rintro e w1 ⟨rfl, hy⟩) | (go_at_call 39; (with_reducible refine (spec_JoinShares _ _ _).mono ?_); rintro e w1 ⟨rfl, hy⟩) | (go_at_call 74; (with_reducible refine (spec_MulRing _ _ _).mono ?_); rintro e w1 ⟨rfl, rfl⟩))
            refine stepQ_mk rfl (by simp only [List.getElem?_toArray, List.getElem?_cons_succ, List.getElem?_cons_zero]; exact rfl) ?_
            first | exact ⟨hy, rfl⟩ | exact ⟨Ext.refl _, rfl⟩ | exact ⟨Ext.refl _, by assumption⟩ | exact ⟨(Ext.refl _).alloc _, rfl, by simp, Blk.new _ _ _⟩
        case hB => kernel_rfl
        case fin =>
          intro V lo up w' hr hf ha
          simp only [factsOk, isv, List.map_nil, and_true, Nat.zero_add, Nat.reduceAdd] at hf
          simp only [List.length_cons, List.length_nil, Nat.zero_add, Nat.reduceAdd, List.drop_succ_cons, List.drop_zero]
          obtain ⟨⟨-, -, -, e0⟩, ⟨-, -, -, e1⟩, ⟨-, -, -, e2⟩, ⟨-, -, -, e3⟩, ⟨-, -, -, e4⟩, ⟨-, -, -, e5⟩, ⟨-, -, -, e6⟩, ⟨-, -, -, e7⟩, ⟨-, -, -, e8⟩, ⟨-, -, -, e9⟩, ⟨-, -, -, e10⟩, ⟨-, -, -, e11⟩, ⟨-, -, -, e12⟩, ⟨-, -, -, e13⟩, ⟨-, -, -, e14⟩, ⟨-, -, -, e15⟩, ⟨-, -, -, e16⟩, ⟨-, -, -, e17⟩, ⟨-, -, -, e18⟩, ⟨-, -, -, e19⟩, ⟨-, -, -, e20⟩, ⟨-, -, -, e21⟩, ⟨-, -, -, e22⟩, ⟨-, -, -, e23⟩, ⟨-, -, -, e24⟩, ⟨-, -, -, e25⟩, ⟨-, -, -, e26⟩⟩ := hf
          rw [e0, e1, e2, e3, e4, e5, e6, e7, e8, e9, e10, e11, e12, e13, e14, e15, e16, e17, e18, e19, e20, e21, e22, e23, e24, e25, e26]
          clear e0 e1 e2 e3 e4 e5 e6 e7 e8 e9 e10 e11 e12 e13 e14 e15 e16 e17 e18 e19 e20 e21 e22 e23 e24 e25 e26
          clear ha V lo up
          have hx := hr
          clear hr
          try clear hc hz
          obtain ⟨hc, hz⟩ := hx.cells
          go_wp2
          go_ret
          exact ⟨rfl, (by (repeat (first | refine Ext.setCell ?_ (by first | (simp; done) | (simp; omega) | omega) _ | refine Ext.alloc ?_ _ | refine Ext.drew ?_ | refine Ext.setRow ?_ (by omega) _)); first | exact Ext.refl _ | exact hx | (refine Ext.trans ?_ hx; (repeat (refine Ext.alloc ?_ _)); exact Ext.refl _))⟩
end Go.Proofs.Ytbkallacblkmpaa
