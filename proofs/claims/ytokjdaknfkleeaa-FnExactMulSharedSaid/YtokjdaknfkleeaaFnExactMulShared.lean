/- Proved: the law FnExactMulShared answers true for every input and leaves its arguments as they were. No condition. -/
import Derived.Test.YtokjdaknfkleeaaRows
import Derived.Test.YtokjdaknfkleeaaMul
import Derived.Test.YtokjdaknfkleeaaRgnS
import Derived.Test.YtokjdaknfkleeaaRgnM
import Derived.ChangeSlices
import Derived.Test.YtokjdaknfkleeaaOpen
import Derived.ChangeOld
import Derived.Carry
namespace Go.Proofs.Ytokjdaknfkleeaa
open Go.ChangeShapes Go.WideShapes Go.ChangeAt Go.RowKit Go.Joins
set_option linter.unusedVariables false
theorem own : ownKnob Try.prog.godebug = none := by kernel_rfl
theorem laidOut : laidOutB Try.prog = true := by kernel_rfl

/-- What MulShared leaves, its parts named. -/
def TriPost (F L : Int) (ok : Bool) (xs : List Int) (w : World) (e' : Ending) (w' : World) : Prop :=
  ∃ s, e' = .returned (.tuple #[.agg #[.int .i64 F, .int .i64 L], s, .bool ok]) ∧ Own w.heap.size w' s xs ∧ Ext w w'
/-- The lists' blocks are none of the structs'. -/
theorem Own.ne {B : Nat} {w : World} {v : Value} {xs : List Int} (h : Own B w v xs) {b : Nat} {cs : Array Value} {U : TypeId} (k : Blk w b cs U) (hU : U ≠ 3) : v.ownBlock ≠ some b := by
  obtain ⟨_, ⟨rfl, _⟩ | ⟨g, cap, cur, rfl, _, hh, _⟩⟩ := h
  · simp [Value.ownBlock]
  · intro e
    simp [Value.ownBlock] at e
    subst e
    rw [k] at hh
    simp at hh
    exact hU hh.2
theorem Own.keep' {B : Nat} {w w' : World} {v : Value} {xs : List Int} (h : Own B w v xs) {g : Nat} (hb : ∀ b, b ≠ g → w'.heap[b]? = w.heap[b]?) (hg : v.ownBlock ≠ some g) : Own B w' v xs := by
  obtain ⟨h1, h2⟩ := h
  refine ⟨h1, h2.imp id ?_⟩
  rintro ⟨k, cap, cur, rfl, hk, hh, r⟩
  exact ⟨k, cap, cur, rfl, hk, by rw [hb k (fun e => hg (by simp [Value.ownBlock, e]))]; exact hh, r⟩

set_option maxHeartbeats 4000000 in
set_option maxRecDepth 4000 in
theorem walk_FnExactMulShared (x y u v a b c d e f : Int) (w : World) : Calls Try.prog 12 #[.agg #[.int .i64 x, .int .i64 y], .agg #[.int .i64 u, .int .i64 v], .agg #[.int .i64 a, .int .i64 b, .int .i64 c, .int .i64 d, .int .i64 e, .int .i64 f]] w fun e w' => e = .returned (.bool true) ∧ Ext w w' := by
  have SP : Kept (∀ W, Calls Try.prog 39 #[.agg #[.int .i64 x, .int .i64 y], .agg #[.int .i64 u, .int .i64 v], .agg #[.int .i64 a, .int .i64 b, .int .i64 c, .int .i64 d, .int .i64 e, .int .i64 f]] W (TriPost (mulF x y u v a b c d e f) (mulL x y u v a b c d e f) (okM x y u v a b c d e f) (mulO x y u v a b c d e f) W)) := Kept.mk (spec_MulShared x y u v a b c d e f)
  have IP : Kept (∀ W, Calls Try.prog 40 #[.agg #[.int .i64 x, .int .i64 y], .agg #[.int .i64 u, .int .i64 v], .agg #[.int .i64 a, .int .i64 b, .int .i64 c, .int .i64 d, .int .i64 e, .int .i64 f]] W (TriPost (mulF x y u v a b c d e f) (mulL x y u v a b c d e f) (okM x y u v a b c d e f) (mulO x y u v a b c d e f) W)) := Kept.mk (impl_MulShared x y u v a b c d e f)
  have hn : (mulO x y u v a b c d e f).length ≤ 2 := by unfold mulO; split <;> simp
  generalize mulF x y u v a b c d e f = F at *
  generalize mulL x y u v a b c d e f = L at *
  generalize okM x y u v a b c d e f = ok at *
  generalize mulO x y u v a b c d e f = xs at *
  go_enter Try.func12, Try.ntmps12
  go_wp2
  apply wp_region_zipF 24 #[.int .i64 0, .int .i64 0] #[.int .i64 F, .int .i64 L] [isv _, isv _, isv _, isv _, isv _, isv _, tupF (by decide) (.agg #[.int .i64 F, .int .i64 L]) (.bool ok) xs, tupF (by decide) (.agg #[.int .i64 F, .int .i64 L]) (.bool ok) xs, isv _, ownF (by decide) xs, isv (.bool ok), newF _ _ _ 24, putF 11 _ _ _ 24, ownF (by decide) xs, isv (.bool ok)] _ (by kernel_rfl)
  case hA => intro V; simp [putAll, dstOf, Act.put]; exact rfl
  case hsl => intro V; exact rfl
  case step =>
    intro V lo up w' hr
    replace hr := hr.ext
    obtain ⟨hcr, hzr⟩ := hr.cells
    have hsr := hr.size
    simp only [zipOkS, depsImp, isv, tupF, ownF, modeNg, newF, putF, waits, Region.binds, List.map_nil, List.map_cons, List.headD_cons, List.nil_append, List.cons_append, List.filterMap_cons, List.filterMap_nil, ↓reduceIte, modeNe, Bool.false_eq_true, true_implies, List.getD_cons_zero, List.getD_cons_succ, and_true]
    refine ⟨?_, ?_, ?_, ?_, ?_, ?_, ?_, ?_, ?_, ?_, ?_, ?_, ?_, ?_, ?_⟩
    · intros
      go_wp2_with (first | (go_at_call 16; (with_reducible refine (laws_toShared _ _ _).mono ?_); rintro e w1 ⟨rfl, hy⟩) | (go_at_call 24; (with_reducible refine (laws_toTriple _ _ _ _ _ _ _).mono ?_); rintro e w1 ⟨rfl, hy⟩))
      refine stepS_mk rfl (by simp only [List.getElem?_toArray, List.getElem?_cons_succ, List.getElem?_cons_zero]; exact rfl) ?_
      first | exact ⟨Fill.of_ext hy, rfl⟩ | exact ⟨Fill.refl _, rfl⟩
    · intros
      go_wp2_with (first | (go_at_call 16; (with_reducible refine (laws_toShared _ _ _).mono ?_); rintro e w1 ⟨rfl, hy⟩) | (go_at_call 24; (with_reducible refine (laws_toTriple _ _ _ _ _ _ _).mono ?_); rintro e w1 ⟨rfl, hy⟩))
      refine stepS_mk rfl (by simp only [List.getElem?_toArray, List.getElem?_cons_succ, List.getElem?_cons_zero]; exact rfl) ?_
      first | exact ⟨Fill.of_ext hy, rfl⟩ | exact ⟨Fill.refl _, rfl⟩
    · intros
      go_wp2_with (first | (go_at_call 16; (with_reducible refine (laws_toShared _ _ _).mono ?_); rintro e w1 ⟨rfl, hy⟩) | (go_at_call 24; (with_reducible refine (laws_toTriple _ _ _ _ _ _ _).mono ?_); rintro e w1 ⟨rfl, hy⟩))
      refine stepS_mk rfl (by simp only [List.getElem?_toArray, List.getElem?_cons_succ, List.getElem?_cons_zero]; exact rfl) ?_
      first | exact ⟨Fill.of_ext hy, rfl⟩ | exact ⟨Fill.refl _, rfl⟩
    · intros
      go_wp2_with (first | (go_at_call 16; (with_reducible refine (laws_toShared _ _ _).mono ?_); rintro e w1 ⟨rfl, hy⟩) | (go_at_call 24; (with_reducible refine (laws_toTriple _ _ _ _ _ _ _).mono ?_); rintro e w1 ⟨rfl, hy⟩))
      refine stepS_mk rfl (by simp only [List.getElem?_toArray, List.getElem?_cons_succ, List.getElem?_cons_zero]; exact rfl) ?_
      first | exact ⟨Fill.of_ext hy, rfl⟩ | exact ⟨Fill.refl _, rfl⟩
    · intros
      go_wp2_with (first | (go_at_call 16; (with_reducible refine (laws_toShared _ _ _).mono ?_); rintro e w1 ⟨rfl, hy⟩) | (go_at_call 24; (with_reducible refine (laws_toTriple _ _ _ _ _ _ _).mono ?_); rintro e w1 ⟨rfl, hy⟩))
      refine stepS_mk rfl (by simp only [List.getElem?_toArray, List.getElem?_cons_succ, List.getElem?_cons_zero]; exact rfl) ?_
      first | exact ⟨Fill.of_ext hy, rfl⟩ | exact ⟨Fill.refl _, rfl⟩
    · intros
      go_wp2_with (first | (go_at_call 16; (with_reducible refine (laws_toShared _ _ _).mono ?_); rintro e w1 ⟨rfl, hy⟩) | (go_at_call 24; (with_reducible refine (laws_toTriple _ _ _ _ _ _ _).mono ?_); rintro e w1 ⟨rfl, hy⟩))
      refine stepS_mk rfl (by simp only [List.getElem?_toArray, List.getElem?_cons_succ, List.getElem?_cons_zero]; exact rfl) ?_
      first | exact ⟨Fill.of_ext hy, rfl⟩ | exact ⟨Fill.refl _, rfl⟩
    · intros
      go_wp2_with (fail)
      (with_reducible refine (SP.out _).mono ?_)
      rintro e w1 ⟨s, rfl, o, hy⟩
      go_wp2
      refine stepS_mk rfl (by simp only [List.getElem?_toArray, List.getElem?_cons_succ, List.getElem?_cons_zero]; exact rfl) ?_
      exact ⟨Fill.of_ext hy, s, rfl, o.mono hsr⟩
    · intro _ _ _ ⟨s, es, os⟩
      intros
      go_wp2
      refine stepS_mk rfl (by simp only [List.getElem?_toArray, List.getElem?_cons_succ, List.getElem?_cons_zero]; exact rfl) ?_
      first | exact ⟨Fill.refl _, s, es, os⟩ | exact ⟨Fill.refl _, s, rfl, os⟩
    · intro _ _ _ ⟨s, es, os⟩
      intros
      go_wp2
      refine stepS_mk rfl (by simp only [List.getElem?_toArray, List.getElem?_cons_succ, List.getElem?_cons_zero]; exact rfl) ?_
      exact ⟨Fill.refl _, rfl⟩
    · intro _ _ _ ⟨s, es, os⟩
      intros
      go_wp2
      refine stepS_mk rfl (by simp only [List.getElem?_toArray, List.getElem?_cons_succ, List.getElem?_cons_zero]; exact rfl) ?_
      exact ⟨Fill.refl _, os⟩
    · intro _ _ _ ⟨s, es, os⟩
      intros
      go_wp2
      refine stepS_mk rfl (by simp only [List.getElem?_toArray, List.getElem?_cons_succ, List.getElem?_cons_zero]; exact rfl) ?_
      exact ⟨Fill.refl _, rfl⟩
    · intros
      go_wp2
      refine stepS_mk rfl (by simp only [List.getElem?_toArray, List.getElem?_cons_succ, List.getElem?_cons_zero]; exact rfl) ?_
      exact ⟨Fill.of_ext ((Ext.refl _).alloc _), rfl, by simp, .inl (Blk.new _ _ _)⟩
    · intro hl _ _ ⟨e11, _, k11⟩ _ _ _ _ _ _ _ e8
      intros
      exact wpList_fill rfl rfl (.tmp 7) (.tmp 26) rfl (lo 11) e11 e8 k11 (by kernel_rfl) rfl (by simp [Value.oneCell']) hr hl hl fun w'' f k u => ⟨f, _, e11, k⟩
    · intros
      go_wp2
      refine stepS_mk rfl (by simp only [List.getElem?_toArray, List.getElem?_cons_succ, List.getElem?_cons_zero]; exact rfl) ?_
      exact ⟨Fill.refl _, by assumption⟩
    · intros
      go_wp2
      refine stepS_mk rfl (by simp only [List.getElem?_toArray, List.getElem?_cons_succ, List.getElem?_cons_zero]; exact rfl) ?_
      exact ⟨Fill.refl _, by first | rfl | assumption⟩
  case hB => kernel_rfl
  case fin =>
    intro V lo up w' hr hf ha
    simp only [factsOk, isv, tupF, ownF, modeNg, newF, putF, List.map_nil, List.map_cons, List.headD_cons, and_true, Nat.zero_add, Nat.reduceAdd] at hf
    simp only [List.length_cons, List.length_nil, Nat.zero_add, Nat.reduceAdd, List.drop_succ_cons, List.drop_zero]
    obtain ⟨-, -, -, -, -, -, -, -, ⟨-, -, -, e8⟩, -, -, ⟨lA, -, -, e11, -, -⟩, ⟨-, -, -, b, e12, kA⟩, ⟨-, -, -, oA⟩, ⟨-, -, -, e10⟩⟩ := hf
    clear ha
    obtain rfl : lo 11 = b := by rw [e11] at e12; simpa using e12
    clear e12
    have bA := Kept.mk oA.block
    obtain ⟨pA, nA, e9, -, -⟩ := id oA.ints
    rw [e9] at oA bA
    rw [e8, e9, e10, e11]
    clear e8 e9 e10 e11
    generalize lo 11 = gA at *
    have hx := hr
    clear hr
    try clear hc hz
    obtain ⟨hc, hz⟩ := hx.cells
    go_wp2_with (fail)
    apply wp_region_zipF 24 #[.int .i64 0, .int .i64 0] #[.int .i64 F, .int .i64 L] [isv _, isv _, isv _, isv _, isv _, isv _, tupF (by decide) (.agg #[.int .i64 F, .int .i64 L]) (.bool ok) xs, tupF (by decide) (.agg #[.int .i64 F, .int .i64 L]) (.bool ok) xs, isv _, ownF (by decide) xs, isv (.bool ok), newF _ _ _ 24, putF 11 _ _ _ 24, ownF (by decide) xs, isv (.bool ok)] _ (by kernel_rfl)
    case hA => intro V; simp [putAll, dstOf, Act.put]; exact rfl
    case hsl => intro V; exact rfl
    case step =>
      intro V lo up w' hr
      replace hr := hr.ext
      have hxr := hx.trans hr
      obtain ⟨hcr, hzr⟩ := hxr.cells
      have hsr := hr.size
      have kA := kA.keep hr
      have oA := oA.keep hr
      simp only [zipOkS, depsImp, isv, tupF, ownF, modeNg, newF, putF, waits, Region.binds, List.map_nil, List.map_cons, List.headD_cons, List.nil_append, List.cons_append, List.filterMap_cons, List.filterMap_nil, ↓reduceIte, modeNe, Bool.false_eq_true, true_implies, List.getD_cons_zero, List.getD_cons_succ, and_true]
      refine ⟨?_, ?_, ?_, ?_, ?_, ?_, ?_, ?_, ?_, ?_, ?_, ?_, ?_, ?_, ?_⟩
      · intros
        go_wp2_with (first | (go_at_call 16; (with_reducible refine (laws_toShared _ _ _).mono ?_); rintro e w1 ⟨rfl, hy⟩) | (go_at_call 24; (with_reducible refine (laws_toTriple _ _ _ _ _ _ _).mono ?_); rintro e w1 ⟨rfl, hy⟩))
        refine stepS_mk rfl (by simp only [List.getElem?_toArray, List.getElem?_cons_succ, List.getElem?_cons_zero]; exact rfl) ?_
        first | exact ⟨Fill.of_ext hy, rfl⟩ | exact ⟨Fill.refl _, rfl⟩
      · intros
        go_wp2_with (first | (go_at_call 16; (with_reducible refine (laws_toShared _ _ _).mono ?_); rintro e w1 ⟨rfl, hy⟩) | (go_at_call 24; (with_reducible refine (laws_toTriple _ _ _ _ _ _ _).mono ?_); rintro e w1 ⟨rfl, hy⟩))
        refine stepS_mk rfl (by simp only [List.getElem?_toArray, List.getElem?_cons_succ, List.getElem?_cons_zero]; exact rfl) ?_
        first | exact ⟨Fill.of_ext hy, rfl⟩ | exact ⟨Fill.refl _, rfl⟩
      · intros
        go_wp2_with (first | (go_at_call 16; (with_reducible refine (laws_toShared _ _ _).mono ?_); rintro e w1 ⟨rfl, hy⟩) | (go_at_call 24; (with_reducible refine (laws_toTriple _ _ _ _ _ _ _).mono ?_); rintro e w1 ⟨rfl, hy⟩))
        refine stepS_mk rfl (by simp only [List.getElem?_toArray, List.getElem?_cons_succ, List.getElem?_cons_zero]; exact rfl) ?_
        first | exact ⟨Fill.of_ext hy, rfl⟩ | exact ⟨Fill.refl _, rfl⟩
      · intros
        go_wp2_with (first | (go_at_call 16; (with_reducible refine (laws_toShared _ _ _).mono ?_); rintro e w1 ⟨rfl, hy⟩) | (go_at_call 24; (with_reducible refine (laws_toTriple _ _ _ _ _ _ _).mono ?_); rintro e w1 ⟨rfl, hy⟩))
        refine stepS_mk rfl (by simp only [List.getElem?_toArray, List.getElem?_cons_succ, List.getElem?_cons_zero]; exact rfl) ?_
        first | exact ⟨Fill.of_ext hy, rfl⟩ | exact ⟨Fill.refl _, rfl⟩
      · intros
        go_wp2_with (first | (go_at_call 16; (with_reducible refine (laws_toShared _ _ _).mono ?_); rintro e w1 ⟨rfl, hy⟩) | (go_at_call 24; (with_reducible refine (laws_toTriple _ _ _ _ _ _ _).mono ?_); rintro e w1 ⟨rfl, hy⟩))
        refine stepS_mk rfl (by simp only [List.getElem?_toArray, List.getElem?_cons_succ, List.getElem?_cons_zero]; exact rfl) ?_
        first | exact ⟨Fill.of_ext hy, rfl⟩ | exact ⟨Fill.refl _, rfl⟩
      · intros
        go_wp2_with (first | (go_at_call 16; (with_reducible refine (laws_toShared _ _ _).mono ?_); rintro e w1 ⟨rfl, hy⟩) | (go_at_call 24; (with_reducible refine (laws_toTriple _ _ _ _ _ _ _).mono ?_); rintro e w1 ⟨rfl, hy⟩))
        refine stepS_mk rfl (by simp only [List.getElem?_toArray, List.getElem?_cons_succ, List.getElem?_cons_zero]; exact rfl) ?_
        first | exact ⟨Fill.of_ext hy, rfl⟩ | exact ⟨Fill.refl _, rfl⟩
      · intros
        go_wp2_with (fail)
        (with_reducible refine (IP.out _).mono ?_)
        rintro e w1 ⟨s, rfl, o, hy⟩
        go_wp2
        refine stepS_mk rfl (by simp only [List.getElem?_toArray, List.getElem?_cons_succ, List.getElem?_cons_zero]; exact rfl) ?_
        exact ⟨Fill.of_ext hy, s, rfl, o.mono hsr⟩
      · intro _ _ _ ⟨s, es, os⟩
        intros
        go_wp2
        refine stepS_mk rfl (by simp only [List.getElem?_toArray, List.getElem?_cons_succ, List.getElem?_cons_zero]; exact rfl) ?_
        first | exact ⟨Fill.refl _, s, es, os⟩ | exact ⟨Fill.refl _, s, rfl, os⟩
      · intro _ _ _ ⟨s, es, os⟩
        intros
        go_wp2
        refine stepS_mk rfl (by simp only [List.getElem?_toArray, List.getElem?_cons_succ, List.getElem?_cons_zero]; exact rfl) ?_
        exact ⟨Fill.refl _, rfl⟩
      · intro _ _ _ ⟨s, es, os⟩
        intros
        go_wp2
        refine stepS_mk rfl (by simp only [List.getElem?_toArray, List.getElem?_cons_succ, List.getElem?_cons_zero]; exact rfl) ?_
        exact ⟨Fill.refl _, os⟩
      · intro _ _ _ ⟨s, es, os⟩
        intros
        go_wp2
        refine stepS_mk rfl (by simp only [List.getElem?_toArray, List.getElem?_cons_succ, List.getElem?_cons_zero]; exact rfl) ?_
        exact ⟨Fill.refl _, rfl⟩
      · intros
        go_wp2
        refine stepS_mk rfl (by simp only [List.getElem?_toArray, List.getElem?_cons_succ, List.getElem?_cons_zero]; exact rfl) ?_
        exact ⟨Fill.of_ext ((Ext.refl _).alloc _), rfl, by simp, .inl (Blk.new _ _ _)⟩
      · intro hl _ _ ⟨e11, _, k11⟩ _ _ _ _ _ _ _ e8
        intros
        exact wpList_fill rfl rfl (.tmp 10) (.tmp 37) rfl (lo 11) e11 e8 k11 (by kernel_rfl) rfl (by simp [Value.oneCell']) hr hl hl fun w'' f k u => ⟨f, _, e11, k⟩
      · intros
        go_wp2
        refine stepS_mk rfl (by simp only [List.getElem?_toArray, List.getElem?_cons_succ, List.getElem?_cons_zero]; exact rfl) ?_
        exact ⟨Fill.refl _, by assumption⟩
      · intros
        go_wp2
        refine stepS_mk rfl (by simp only [List.getElem?_toArray, List.getElem?_cons_succ, List.getElem?_cons_zero]; exact rfl) ?_
        exact ⟨Fill.refl _, by first | rfl | assumption⟩
    case hB => kernel_rfl
    case fin =>
      intro V lo up w' hr hf ha
      simp only [factsOk, isv, tupF, ownF, modeNg, newF, putF, List.map_nil, List.map_cons, List.headD_cons, and_true, Nat.zero_add, Nat.reduceAdd] at hf
      simp only [List.length_cons, List.length_nil, Nat.zero_add, Nat.reduceAdd, List.drop_succ_cons, List.drop_zero]
      obtain ⟨-, -, -, -, -, -, -, -, ⟨-, -, -, e8⟩, -, -, ⟨lB, -, -, e11, -, -⟩, ⟨-, -, -, b, e12, kB⟩, ⟨-, -, -, oB⟩, ⟨-, -, -, e10⟩⟩ := hf
      clear ha
      have hs0 := hx.size
      have hx' := hx.trans hr
      clear hx
      have hx := hx'
      clear hx'
      have tkA := kA.lt
      replace kA := kA.keep hr
      replace oA := oA.keep hr
      obtain rfl : lo 11 = b := by rw [e11] at e12; simpa using e12
      clear e12
      have bB := Kept.mk oB.block
      obtain ⟨pB, nB, e9, -, -⟩ := id oB.ints
      rw [e9] at oB bB
      rw [e8, e9, e10, e11]
      clear e8 e9 e10 e11
      generalize lo 11 = gB at *
      clear hr
      try clear hc hz
      obtain ⟨hc, hz⟩ := hx.cells
      obtain ⟨cA0, cA1⟩ := kA.two
      obtain ⟨cB0, cB1⟩ := kB.two
      go_wp2_with (fail)
      have hd := Kept.mk (show ∀ q, Value.ownBlock (.slice pB xs.length nB) = some q → Value.ownBlock (.slice pA xs.length nA) ≠ some q from fun q h2 h1 => by have := (bB.out q h2).1; have := (bA.out q h1).2; omega)
      (with_reducible refine (laws_eqShared F L F L true (by simp) _).mono ?_)
      rintro e w1 ⟨rfl, x1⟩
      replace oA := oA.keep x1
      replace oB := oB.keep x1
      replace kA := kA.keep x1
      replace hx := hx.trans x1
      clear x1
      clear cA0 cA1 cB0 cB1
      clear hc hz
      obtain ⟨hc, hz⟩ := hx.cells
      go_wp2_with (fail)
      (with_reducible refine (laws_eqIntS _ _ _ _ oB.ints oA.ints).mono ?_)
      rintro e w2 ⟨rfl, x2⟩
      replace oA := oA.keep x2
      replace oB := oB.keep x2
      replace kA := kA.keep x2
      replace hx := hx.trans x2
      clear x2
      clear hc hz
      obtain ⟨hc, hz⟩ := hx.cells
      go_wp2_with (fail)
      (with_reducible refine (laws_markIntS _ _ _ 1 xs.length rfl _ oB (by omega) (by omega)).mono ?_)
      rintro e w3 ⟨rfl, m4, t4⟩
      replace oA := t4.own oA hd.out
      replace kA := t4.blk kA (oB.ne kA (by decide))
      replace hx := t4.ext hx (fun q hq => by have := (bB.out q hq).1; omega)
      clear t4 oB hd bA bB
      have mB := m4
      clear m4
      clear hc hz
      obtain ⟨hc, hz⟩ := hx.cells
      go_wp2_with (fail)
      (with_reducible refine (laws_heldIntS _ 1 xs.length _ mB.ints (by omega) (by omega)).mono ?_)
      rintro e w9 ⟨rfl, rfl⟩
      go_wp2_with (fail)
      apply wp_region_zipF 24 #[.int .i64 0, .int .i64 0] #[.int .i64 F, .int .i64 L] [isv _, isv _, isv _, isv _, isv _, isv _, tupF (by decide) (.agg #[.int .i64 F, .int .i64 L]) (.bool ok) xs, tupF (by decide) (.agg #[.int .i64 F, .int .i64 L]) (.bool ok) xs, isv _, ownF (by decide) xs, isv (.bool ok), newF _ _ _ 24, putF 11 _ _ _ 24, ownF (by decide) xs, isv (.bool ok)] _ (by kernel_rfl)
      case hA => intro V; simp [putAll, dstOf, Act.put]; exact rfl
      case hsl => intro V; exact rfl
      case step =>
        intro V lo up w' hr
        replace hr := hr.ext
        have hxr := hx.trans hr
        obtain ⟨hcr, hzr⟩ := hxr.cells
        have hsr := hr.size
        have kA := kA.keep hr
        have oA := oA.keep hr
        have mB := mB.keep hr
        simp only [zipOkS, depsImp, isv, tupF, ownF, modeNg, newF, putF, waits, Region.binds, List.map_nil, List.map_cons, List.headD_cons, List.nil_append, List.cons_append, List.filterMap_cons, List.filterMap_nil, ↓reduceIte, modeNe, Bool.false_eq_true, true_implies, List.getD_cons_zero, List.getD_cons_succ, and_true]
        refine ⟨?_, ?_, ?_, ?_, ?_, ?_, ?_, ?_, ?_, ?_, ?_, ?_, ?_, ?_, ?_⟩
        · intros
          go_wp2_with (first | (go_at_call 16; (with_reducible refine (laws_toShared _ _ _).mono ?_); rintro e w1 ⟨rfl, hy⟩) | (go_at_call 24; (with_reducible refine (laws_toTriple _ _ _ _ _ _ _).mono ?_); rintro e w1 ⟨rfl, hy⟩))
          refine stepS_mk rfl (by simp only [List.getElem?_toArray, List.getElem?_cons_succ, List.getElem?_cons_zero]; exact rfl) ?_
          first | exact ⟨Fill.of_ext hy, rfl⟩ | exact ⟨Fill.refl _, rfl⟩
        · intros
          go_wp2_with (first | (go_at_call 16; (with_reducible refine (laws_toShared _ _ _).mono ?_); rintro e w1 ⟨rfl, hy⟩) | (go_at_call 24; (with_reducible refine (laws_toTriple _ _ _ _ _ _ _).mono ?_); rintro e w1 ⟨rfl, hy⟩))
          refine stepS_mk rfl (by simp only [List.getElem?_toArray, List.getElem?_cons_succ, List.getElem?_cons_zero]; exact rfl) ?_
          first | exact ⟨Fill.of_ext hy, rfl⟩ | exact ⟨Fill.refl _, rfl⟩
        · intros
          go_wp2_with (first | (go_at_call 16; (with_reducible refine (laws_toShared _ _ _).mono ?_); rintro e w1 ⟨rfl, hy⟩) | (go_at_call 24; (with_reducible refine (laws_toTriple _ _ _ _ _ _ _).mono ?_); rintro e w1 ⟨rfl, hy⟩))
          refine stepS_mk rfl (by simp only [List.getElem?_toArray, List.getElem?_cons_succ, List.getElem?_cons_zero]; exact rfl) ?_
          first | exact ⟨Fill.of_ext hy, rfl⟩ | exact ⟨Fill.refl _, rfl⟩
        · intros
          go_wp2_with (first | (go_at_call 16; (with_reducible refine (laws_toShared _ _ _).mono ?_); rintro e w1 ⟨rfl, hy⟩) | (go_at_call 24; (with_reducible refine (laws_toTriple _ _ _ _ _ _ _).mono ?_); rintro e w1 ⟨rfl, hy⟩))
          refine stepS_mk rfl (by simp only [List.getElem?_toArray, List.getElem?_cons_succ, List.getElem?_cons_zero]; exact rfl) ?_
          first | exact ⟨Fill.of_ext hy, rfl⟩ | exact ⟨Fill.refl _, rfl⟩
        · intros
          go_wp2_with (first | (go_at_call 16; (with_reducible refine (laws_toShared _ _ _).mono ?_); rintro e w1 ⟨rfl, hy⟩) | (go_at_call 24; (with_reducible refine (laws_toTriple _ _ _ _ _ _ _).mono ?_); rintro e w1 ⟨rfl, hy⟩))
          refine stepS_mk rfl (by simp only [List.getElem?_toArray, List.getElem?_cons_succ, List.getElem?_cons_zero]; exact rfl) ?_
          first | exact ⟨Fill.of_ext hy, rfl⟩ | exact ⟨Fill.refl _, rfl⟩
        · intros
          go_wp2_with (first | (go_at_call 16; (with_reducible refine (laws_toShared _ _ _).mono ?_); rintro e w1 ⟨rfl, hy⟩) | (go_at_call 24; (with_reducible refine (laws_toTriple _ _ _ _ _ _ _).mono ?_); rintro e w1 ⟨rfl, hy⟩))
          refine stepS_mk rfl (by simp only [List.getElem?_toArray, List.getElem?_cons_succ, List.getElem?_cons_zero]; exact rfl) ?_
          first | exact ⟨Fill.of_ext hy, rfl⟩ | exact ⟨Fill.refl _, rfl⟩
        · intros
          go_wp2_with (fail)
          (with_reducible refine (IP.out _).mono ?_)
          rintro e w1 ⟨s, rfl, o, hy⟩
          go_wp2
          refine stepS_mk rfl (by simp only [List.getElem?_toArray, List.getElem?_cons_succ, List.getElem?_cons_zero]; exact rfl) ?_
          exact ⟨Fill.of_ext hy, s, rfl, o.mono hsr⟩
        · intro _ _ _ ⟨s, es, os⟩
          intros
          go_wp2
          refine stepS_mk rfl (by simp only [List.getElem?_toArray, List.getElem?_cons_succ, List.getElem?_cons_zero]; exact rfl) ?_
          first | exact ⟨Fill.refl _, s, es, os⟩ | exact ⟨Fill.refl _, s, rfl, os⟩
        · intro _ _ _ ⟨s, es, os⟩
          intros
          go_wp2
          refine stepS_mk rfl (by simp only [List.getElem?_toArray, List.getElem?_cons_succ, List.getElem?_cons_zero]; exact rfl) ?_
          exact ⟨Fill.refl _, rfl⟩
        · intro _ _ _ ⟨s, es, os⟩
          intros
          go_wp2
          refine stepS_mk rfl (by simp only [List.getElem?_toArray, List.getElem?_cons_succ, List.getElem?_cons_zero]; exact rfl) ?_
          exact ⟨Fill.refl _, os⟩
        · intro _ _ _ ⟨s, es, os⟩
          intros
          go_wp2
          refine stepS_mk rfl (by simp only [List.getElem?_toArray, List.getElem?_cons_succ, List.getElem?_cons_zero]; exact rfl) ?_
          exact ⟨Fill.refl _, rfl⟩
        · intros
          go_wp2
          refine stepS_mk rfl (by simp only [List.getElem?_toArray, List.getElem?_cons_succ, List.getElem?_cons_zero]; exact rfl) ?_
          exact ⟨Fill.of_ext ((Ext.refl _).alloc _), rfl, by simp, .inl (Blk.new _ _ _)⟩
        · intro hl _ _ ⟨e11, _, k11⟩ _ _ _ _ _ _ _ e8
          intros
          exact wpList_fill rfl rfl (.tmp 15) (.tmp 74) rfl (lo 11) e11 e8 k11 (by kernel_rfl) rfl (by simp [Value.oneCell']) hr hl hl fun w'' f k u => ⟨f, _, e11, k⟩
        · intros
          go_wp2
          refine stepS_mk rfl (by simp only [List.getElem?_toArray, List.getElem?_cons_succ, List.getElem?_cons_zero]; exact rfl) ?_
          exact ⟨Fill.refl _, by assumption⟩
        · intros
          go_wp2
          refine stepS_mk rfl (by simp only [List.getElem?_toArray, List.getElem?_cons_succ, List.getElem?_cons_zero]; exact rfl) ?_
          exact ⟨Fill.refl _, by first | rfl | assumption⟩
      case hB => kernel_rfl
      case fin =>
        intro V lo up w' hr hf ha
        simp only [factsOk, isv, tupF, ownF, modeNg, newF, putF, List.map_nil, List.map_cons, List.headD_cons, and_true, Nat.zero_add, Nat.reduceAdd] at hf
        simp only [List.length_cons, List.length_nil, Nat.zero_add, Nat.reduceAdd, List.drop_succ_cons, List.drop_zero]
        obtain ⟨-, -, -, -, -, -, -, -, ⟨-, -, -, e8⟩, -, -, ⟨lC, -, -, e11, -, -⟩, ⟨-, -, -, b, e12, kC⟩, ⟨-, -, -, oC⟩, ⟨-, -, -, e10⟩⟩ := hf
        clear ha
        have hs0 := hx.size
        have hx' := hx.trans hr
        clear hx
        have hx := hx'
        clear hx'
        have tkA := kA.lt
        replace kA := kA.keep hr
        replace oA := oA.keep hr
        replace mB := mB.keep hr
        obtain rfl : lo 11 = b := by rw [e11] at e12; simpa using e12
        clear e12
        have bC := Kept.mk oC.block
        obtain ⟨pC, nC, e9, -, -⟩ := id oC.ints
        rw [e9] at oC bC
        rw [e8, e9, e10, e11]
        clear e8 e9 e10 e11
        generalize lo 11 = gC at *
        clear hr
        try clear hc hz
        obtain ⟨hc, hz⟩ := hx.cells
        obtain ⟨cA0, cA1⟩ := kA.two
        obtain ⟨cC0, cC1⟩ := kC.two
        go_wp2_with (fail)
        (with_reducible refine (laws_eqShared F L F L true (by simp) _).mono ?_)
        rintro e w1 ⟨rfl, x1⟩
        replace oA := oA.keep x1
        replace oC := oC.keep x1
        replace kA := kA.keep x1
        replace mB := mB.keep x1
        replace hx := hx.trans x1
        clear x1
        clear cA0 cA1 cC0 cC1
        clear hc hz
        obtain ⟨hc, hz⟩ := hx.cells
        go_wp2_with (fail)
        (with_reducible refine (laws_eqIntS _ _ _ _ oC.ints oA.ints).mono ?_)
        rintro e w2 ⟨rfl, x2⟩
        replace oA := oA.keep x2
        replace oC := oC.keep x2
        replace kA := kA.keep x2
        replace mB := mB.keep x2
        replace hx := hx.trans x2
        clear x2
        clear hc hz
        obtain ⟨hc, hz⟩ := hx.cells
        go_wp2_with (fail)
        (with_reducible refine (laws_heldIntS _ 1 xs.length _ mB.ints (by omega) (by omega)).mono ?_)
        rintro e w9 ⟨rfl, rfl⟩
        go_wp2
        go_ret
        exact ⟨rfl, (Ext.trans ((((Ext.refl w).alloc _).alloc _).alloc _) hx)⟩
theorem cells_int : Try.prog.cellsOf 3 = 1 := by kernel_rfl
theorem cells_sh : Try.prog.cellsOf 23 = 2 := by kernel_rfl
theorem trod_sh {H : Type} {enc : TypeId × Value → H} {w : World} {base : Nat} {spare : Nat → Bool} {held : Bool} {n : Nat} {c0 c1 : Value} {x : DataW H × List MemPlace} (h : DataW.trod enc Try.prog w base spare held n 23 [c0, c1] = some x) :
    ∃ a b : Int, c0 = .int .i64 a ∧ c1 = .int .i64 b ∧ (-9223372036854775808 ≤ a ∧ a ≤ 9223372036854775807) ∧ (-9223372036854775808 ≤ b ∧ b ≤ 9223372036854775807) := by
  obtain ⟨_, hf⟩ := struct_field Try.underlying23 h
  obtain ⟨_, _, t0⟩ := hf 0 _ rfl
  obtain ⟨_, _, t1⟩ := hf 1 _ rfl
  simp [cells_int] at t0 t1
  obtain ⟨a, e0, b0⟩ := leaf_int Try.underlying3 t0
  obtain ⟨b, e1, b1⟩ := leaf_int Try.underlying3 t1
  simp at e0 e1
  exact ⟨a, b, e0, e1, b0, b1⟩
theorem cells_triple : Try.prog.cellsOf 32 = 6 := by kernel_rfl
theorem trod_triple {H : Type} {enc : TypeId × Value → H} {w : World} {base : Nat} {spare : Nat → Bool} {held : Bool} {n : Nat} {c0 c1 c2 c3 c4 c5 : Value} {x : DataW H × List MemPlace} (h : DataW.trod enc Try.prog w base spare held n 32 [c0, c1, c2, c3, c4, c5] = some x) :
    ∃ a b c d e f : Int, c0 = .int .i64 a ∧ c1 = .int .i64 b ∧ c2 = .int .i64 c ∧ c3 = .int .i64 d ∧ c4 = .int .i64 e ∧ c5 = .int .i64 f := by
  obtain ⟨_, hf⟩ := struct_field Try.underlying32 h
  obtain ⟨_, _, t0⟩ := hf 0 _ rfl
  obtain ⟨_, _, t1⟩ := hf 1 _ rfl
  obtain ⟨_, _, t2⟩ := hf 2 _ rfl
  simp [cells_sh] at t0 t1 t2
  obtain ⟨a, b, e0, e1, _⟩ := trod_sh t0
  obtain ⟨c, d, e2, e3, _⟩ := trod_sh t1
  obtain ⟨e, f, e4, e5, _⟩ := trod_sh t2
  exact ⟨a, b, c, d, e, f, e0, e1, e2, e3, e4, e5⟩

set_option maxRecDepth 100000 in
theorem lifted_FnExactMulShared (os : Os) (started : os.Started) (H : Type) (enc : TypeId × Value → H) :
    ReturnsInHanded {} Try.checked os 12 .any (Rows.fnExactMulSharedSpec.pre6 enc Try.prog Try.f12 Rows.fnExactMulSharedRow.domain false) (Rows.fnExactMulSharedSpec.post enc Try.prog Try.f12 false true false false) := by
  refine returnsInHanded_of_change (C := Try.checked) own started (by kernel_rfl) Try.func12
    (ChangeSpec.witness6 (enc := enc) (C := Try.checked) false ⟨#[], #[.agg #[.int .i64 0, .int .i64 0], .agg #[.int .i64 0, .int .i64 0], .agg #[.int .i64 0, .int .i64 0, .int .i64 0, .int .i64 0, .int .i64 0, .int .i64 0]], []⟩ 8 (by kernel_rfl) (by kernel_rfl) (by kernel_rfl) (by kernel_rfl)) ?_
  intro W base args ds gs before hval0 hW hcnd _
  have hval : ∀ (j : Nat) t v, Try.f12.params[j]? = some t → args[j]? = some v → Value.okWide Try.prog W .any base t v := hval0
  have hW' := hW
  obtain ⟨p, q, hA0, hV, rfl, hfz, hnd⟩ := hW
  have hA : DataW.TrodAll enc Try.prog W 0 (fun _ => true) true Try.f12.params.toList args.toList ds p := hA0
  rw [Try.params12] at hA hval
  obtain ⟨v0, vs0, d0, ds0, p0, q0, hargs, rfl, rfl, h0, r0⟩ := trodAll_cons hA
  obtain ⟨v1, vs1, d1, ds1, p1, q1, rfl, rfl, rfl, h1, r1⟩ := trodAll_cons r0
  obtain ⟨v2, vs2, d2, ds2, p2, q2, rfl, rfl, rfl, h2, r2⟩ := trodAll_cons r1
  obtain ⟨rfl, rfl, rfl⟩ := trodAll_nil r2
  obtain rfl : args = #[v0, v1, v2] := by cases args; simp_all
  obtain ⟨rfl, rfl⟩ := trodVars_none hV
  have k0 := h0
  have lt0 : ∀ x ∈ p0, x.block < W.heap.size := by obtain ⟨m, hm⟩ := k0; exact DataW.trod_lt m _ _ _ hm
  obtain ⟨cs0, rfl, hs0⟩ := okWide_struct Try.underlying23 (hval 0 23 v0 rfl rfl)
  rw [cells_sh] at hs0
  obtain ⟨c00, c01, rfl⟩ := array2 hs0
  obtain ⟨fu0, hf0⟩ := h0
  obtain ⟨a00, a01, rfl, rfl, _⟩ := trod_sh (by simpa [Value.cells] using hf0)
  have k1 := h1
  have lt1 : ∀ x ∈ p1, x.block < W.heap.size := by obtain ⟨m, hm⟩ := k1; exact DataW.trod_lt m _ _ _ hm
  obtain ⟨cs1, rfl, hs1⟩ := okWide_struct Try.underlying23 (hval 1 23 v1 rfl rfl)
  rw [cells_sh] at hs1
  obtain ⟨c10, c11, rfl⟩ := array2 hs1
  obtain ⟨fu1, hf1⟩ := h1
  obtain ⟨a10, a11, rfl, rfl, _⟩ := trod_sh (by simpa [Value.cells] using hf1)
  have k2 := h2
  have lt2 : ∀ x ∈ p2, x.block < W.heap.size := by obtain ⟨m, hm⟩ := k2; exact DataW.trod_lt m _ _ _ hm
  obtain ⟨cs2, rfl, hs2⟩ := okWide_struct Try.underlying32 (hval 2 32 v2 rfl rfl)
  rw [cells_triple] at hs2
  obtain ⟨cs2⟩ := cs2
  obtain ⟨c20, c21, c22, c23, c24, c25, rfl⟩ := list6 (l := cs2) (by simpa using hs2)
  obtain ⟨fu2, hf2⟩ := h2
  obtain ⟨a20, a21, a22, a23, a24, a25, rfl, rfl, rfl, rfl, rfl, rfl⟩ := trod_triple (by simpa [Value.cells] using hf2)
  clear hA0 hval0
  refine (walk_FnExactMulShared a00 a01 a10 a11 a20 a21 a22 a23 a24 a25 W).mono fun e W' ⟨he, bel⟩ => ?_
  subst he
  exact ⟨_, rfl, _, _, _, [], _, [], hW', trodAll_mk1 (shut_bool Try.underlying4 _), (trodAll_cons_mk (Below.trod laidOut (by kernel_rfl) (of_decide_eq_true (by kernel_rfl)) k0 bel lt0) (trodAll_cons_mk (Below.trod laidOut (by kernel_rfl) (of_decide_eq_true (by kernel_rfl)) k1 bel lt1) (trodAll_cons_mk (Below.trod laidOut (by kernel_rfl) (of_decide_eq_true (by kernel_rfl)) k2 bel lt2) trodAll_mk0))), rfl, Below.frame bel _, fun h => by cases h⟩
theorem proved_FnExactMulShared : Rows.FnExactMulSharedSaid :=
  OpenClaim.holds_of_wide 12 Try.f12 rfl rfl rfl rfl rfl rfl rfl ⟨rfl, rfl, rfl, rfl, rfl⟩ rfl rfl rfl rfl rfl (by kernel_rfl) Try.func12 (by kernel_rfl)
    (of_decide_eq_true (by kernel_rfl)) (by unfold Func.isWrapper; rw [if_neg (of_decide_eq_false (by kernel_rfl))]; exact ⟨rfl, rfl⟩)
    (fun os started H enc _ => lifted_FnExactMulShared os started H enc)
#print axioms proved_FnExactMulShared

end Go.Proofs.Ytokjdaknfkleeaa
