/- Proved: the law FnMulOrder answers true for every input. No condition. -/
import Derived.Test.YtokjdaknfkleeaaRows
import Derived.Test.YtokjdaknfkleeaaDrawMul
import Derived.Test.YtokjdaknfkleeaaMulP
import Derived.ChangeSlices
import Derived.Test.YtokjdaknfkleeaaOpen
import Derived.ChangeOld
import Derived.Carry
namespace Go.Proofs.Ytokjdaknfkleeaa
set_option linter.unusedSimpArgs false
set_option linter.unusedVariables false
open Go.ChangeShapes Go.WideShapes Go.ChangeAt Go.RowKit Go.Joins
set_option linter.unusedVariables false
theorem own : ownKnob Try.prog.godebug = none := by kernel_rfl
theorem laidOut : laidOutB Try.prog = true := by kernel_rfl

theorem laws_alive (w : World) : Calls Try.prog 30 #[] w fun e w' => e = .returned (.bool true) ∧ w = w' := by
  go_enter Try.func30, Try.ntmps30
  go_wp2_with (go_at_call 52; (with_reducible refine (impl_RingValid 5 true (by decide) _).mono ?_); rintro e w1 ⟨rfl, rfl⟩)
  go_ret
  exact ⟨rfl, rfl⟩
/-- What MulShared leaves, its parts named. -/
def TriPost (F L : Int) (ok : Bool) (xs : List Int) (w : World) (e' : Ending) (w' : World) : Prop :=
  ∃ s, e' = .returned (.tuple #[.agg #[.int .i64 F, .int .i64 L], s, .bool ok]) ∧ Own w.heap.size w' s xs ∧ Ext w w'
/-- Block g begins with p and q. -/
structure Two (g : Nat) (p q : Int) (w : World) : Prop where
  lt : g < w.heap.size
  c0 : w.cell? ⟨g, 0, none⟩ = some (.int .i64 p)
  c1 : w.cell? ⟨g, 1, none⟩ = some (.int .i64 q)
theorem Two.keep {g : Nat} {p q : Int} {w w' : World} (h : Two g p q w) (hx : Ext w w') : Two g p q w' :=
  ⟨hx.lt h.lt, (hx.cells.1 g 0 h.lt).trans h.c0, (hx.cells.1 g 1 h.lt).trans h.c1⟩
theorem Own.twoCells {B : Nat} {w : World} {v : Value} {p q : Int} (h : Own B w v [p, q]) : ∃ g cap, v = .slice (some ⟨g, 0, none⟩) 2 cap ∧ B ≤ g ∧ Two g p q w := by
  obtain ⟨g, cap, e, hB, hg, hc⟩ := h.form (by simp)
  exact ⟨g, cap, e, hB, hg, hc 0 (by simp), hc 1 (by simp)⟩

set_option maxHeartbeats 8000000 in
set_option maxRecDepth 4000 in
theorem walk_FnMulOrder (v : Value) (w : World) (hb : Bytes w v) : Calls Try.prog 14 #[v] w fun e w' => e = .returned (.bool true) ∧ Ext w w' := by
  obtain ⟨a, n, cap, rfl, hn, hm, hc⟩ := id hb
  clear hc
  have HB := Kept.mk hb; clear hb
  by_cases hl : (n : Int) ≤ 1048576
  · go_enter Try.func14, Try.ntmps14
    go_wp2_with (fail)
    (with_reducible refine (spec_DrawMulShared _ _ HB.out).mono ?_)
    rintro e w1 ⟨x, y, u, v, a, b, c, d, e, f, rfl, hx1⟩
    clear hl
    replace hx1 := Kept.mk hx1
    have kX := ((Blk.new w1 #[.int .i64 x, .int .i64 y] 24).old (.cells #[.int .i64 u, .int .i64 v] 24)).old (.cells #[.int .i64 a, .int .i64 b, .int .i64 c, .int .i64 d, .int .i64 e, .int .i64 f] 35)
    have kY := (Blk.new (w1.alloc (.cells #[.int .i64 x, .int .i64 y] 24)) #[.int .i64 u, .int .i64 v] 24).old (.cells #[.int .i64 a, .int .i64 b, .int .i64 c, .int .i64 d, .int .i64 e, .int .i64 f] 35)
    have kT := Blk.new ((w1.alloc (.cells #[.int .i64 x, .int .i64 y] 24)).alloc (.cells #[.int .i64 u, .int .i64 v] 24)) #[.int .i64 a, .int .i64 b, .int .i64 c, .int .i64 d, .int .i64 e, .int .i64 f] 35
    simp only [World.size_alloc] at kY kT
    have hx := hx1.out.trans ((((Ext.refl w1).alloc (.cells #[.int .i64 x, .int .i64 y] 24)).alloc (.cells #[.int .i64 u, .int .i64 v] 24)).alloc (.cells #[.int .i64 a, .int .i64 b, .int .i64 c, .int .i64 d, .int .i64 e, .int .i64 f] 35))
    clear hx1
    cases ho : okM x y u v a b c d e f
    · have XS : mulO x y u v a b c d e f = [] := by simp [mulO, ho]
      have FS : mulF x y u v a b c d e f = -1 := by simp [mulF, ho]
      have LS : mulL x y u v a b c d e f = -1 := by simp [mulL, ho]
      have Mimpl : Kept (∀ w, Calls Try.prog 40 #[.agg #[.int .i64 x, .int .i64 y], .agg #[.int .i64 u, .int .i64 v], .agg #[.int .i64 a, .int .i64 b, .int .i64 c, .int .i64 d, .int .i64 e, .int .i64 f]] w (TriPost (-1) (-1) false [] w)) := ⟨fun w => by
        have : Calls Try.prog 40 #[.agg #[.int .i64 x, .int .i64 y], .agg #[.int .i64 u, .int .i64 v], .agg #[.int .i64 a, .int .i64 b, .int .i64 c, .int .i64 d, .int .i64 e, .int .i64 f]] w (TriPost (mulF x y u v a b c d e f) (mulL x y u v a b c d e f) (okM x y u v a b c d e f) (mulO x y u v a b c d e f) w) := impl_MulShared x y u v a b c d e f w
        rw [ho, XS, FS, LS] at this; exact this⟩
      have Mspec : Kept (∀ w, Calls Try.prog 39 #[.agg #[.int .i64 x, .int .i64 y], .agg #[.int .i64 u, .int .i64 v], .agg #[.int .i64 a, .int .i64 b, .int .i64 c, .int .i64 d, .int .i64 e, .int .i64 f]] w (TriPost (-1) (-1) false [] w)) := ⟨fun w => by
        have : Calls Try.prog 39 #[.agg #[.int .i64 x, .int .i64 y], .agg #[.int .i64 u, .int .i64 v], .agg #[.int .i64 a, .int .i64 b, .int .i64 c, .int .i64 d, .int .i64 e, .int .i64 f]] w (TriPost (mulF x y u v a b c d e f) (mulL x y u v a b c d e f) (okM x y u v a b c d e f) (mulO x y u v a b c d e f) w) := spec_MulShared x y u v a b c d e f w
        rw [ho, XS, FS, LS] at this; exact this⟩
      clear XS ho FS LS
      obtain ⟨x0, x1⟩ := kX.two
      obtain ⟨y0, y1⟩ := kY.two
      obtain ⟨t0, t1, t2, t3, t4, t5⟩ := kT.six
      go_wp2_with (fail)
      (with_reducible refine (Mimpl.out _).mono ?_)
      rintro e w2 ⟨s1, rfl, o1, x2⟩
      clear x0 x1 y0 y1 t0 t1 t2 t3 t4 t5
      replace kX := kX.keep x2
      replace kY := kY.keep x2
      replace kT := kT.keep x2
      replace hx := hx.trans x2
      clear x2
      obtain ⟨p1, m1, hs, -, -⟩ := id o1.ints
      simp only [List.length_cons, List.length_nil, Nat.zero_add, Nat.reduceAdd] at hs
      subst hs
      have kS := Blk.new w2 #[.int .i64 (-1), .int .i64 (-1)] 24
      replace kX := kX.old (.cells #[.int .i64 (-1), .int .i64 (-1)] 24)
      replace kY := kY.old (.cells #[.int .i64 (-1), .int .i64 (-1)] 24)
      replace kT := kT.old (.cells #[.int .i64 (-1), .int .i64 (-1)] 24)
      replace o1 := o1.keep ((Ext.refl w2).alloc (.cells #[.int .i64 (-1), .int .i64 (-1)] 24))
      replace hx := hx.alloc (.cells #[.int .i64 (-1), .int .i64 (-1)] 24)
      obtain ⟨x0, x1⟩ := kX.two
      obtain ⟨y0, y1⟩ := kY.two
      obtain ⟨t0, t1, t2, t3, t4, t5⟩ := kT.six
      go_wp2_with (fail)
      (with_reducible refine (Mspec.out _).mono ?_)
      rintro e w3 ⟨s2, rfl, o2, x3⟩
      clear x0 x1 y0 y1 t0 t1 t2 t3 t4 t5
      have lS := kS.lt
      replace kX := kX.keep x3
      replace kY := kY.keep x3
      replace kT := kT.keep x3
      replace kS := kS.keep x3
      replace o1 := o1.keep x3
      replace hx := hx.trans x3
      clear x3
      obtain ⟨p2, m2, hs, -, -⟩ := id o2.ints
      simp only [List.length_cons, List.length_nil, Nat.zero_add, Nat.reduceAdd] at hs
      subst hs
      have kZ := Blk.new w3 #[.int .i64 (-1), .int .i64 (-1)] 24
      replace kX := kX.old (.cells #[.int .i64 (-1), .int .i64 (-1)] 24)
      replace kY := kY.old (.cells #[.int .i64 (-1), .int .i64 (-1)] 24)
      replace kT := kT.old (.cells #[.int .i64 (-1), .int .i64 (-1)] 24)
      replace kS := kS.old (.cells #[.int .i64 (-1), .int .i64 (-1)] 24)
      have xa := (Ext.refl w3).alloc (.cells #[.int .i64 (-1), .int .i64 (-1)] 24)
      replace o1 := o1.keep xa
      replace o2 := o2.keep xa
      replace hx := hx.trans xa
      clear xa
      obtain ⟨s0, s1'⟩ := kS.two
      obtain ⟨z0, z1⟩ := kZ.two
      go_wp2_with (fail)
      (with_reducible refine (laws_sameInts _ _ [] _ o1.ints o2.ints).mono ?_)
      rintro e w4 ⟨rfl, x4⟩
      clear s0 s1' z0 z1 kZ o1 o2
      replace kX := kX.keep x4
      replace kY := kY.keep x4
      replace kT := kT.keep x4
      replace kS := kS.keep x4
      replace hx := hx.trans x4
      clear x4
      go_wp2_with (go_at_call 30; (with_reducible refine (laws_alive _).mono ?_); rintro e w1 ⟨rfl, rfl⟩)
      go_ret
      exact ⟨rfl, hx⟩
    · have JN := join_mul ho
      have XS : mulO x y u v a b c d e f = [subR (addR x y) (addR a b), subR (addR u v) (addR c d)] := by simp [mulO, ho, opX]
      have JS := join_swap ho
      have HO := okM_swap x y u v a b c d e f
      rw [ho] at HO
      have Mimpl : Kept (∀ w, Calls Try.prog 40 #[.agg #[.int .i64 x, .int .i64 y], .agg #[.int .i64 u, .int .i64 v], .agg #[.int .i64 a, .int .i64 b, .int .i64 c, .int .i64 d, .int .i64 e, .int .i64 f]] w (TriPost (mulF x y u v a b c d e f) (mulL x y u v a b c d e f) true [subR (addR x y) (addR a b), subR (addR u v) (addR c d)] w)) := ⟨fun w => by
        have : Calls Try.prog 40 #[.agg #[.int .i64 x, .int .i64 y], .agg #[.int .i64 u, .int .i64 v], .agg #[.int .i64 a, .int .i64 b, .int .i64 c, .int .i64 d, .int .i64 e, .int .i64 f]] w (TriPost (mulF x y u v a b c d e f) (mulL x y u v a b c d e f) (okM x y u v a b c d e f) (mulO x y u v a b c d e f) w) := impl_MulShared x y u v a b c d e f w
        rw [ho, XS] at this; exact this⟩
      have Mspec : Kept (∀ w, Calls Try.prog 39 #[.agg #[.int .i64 x, .int .i64 y], .agg #[.int .i64 u, .int .i64 v], .agg #[.int .i64 a, .int .i64 b, .int .i64 c, .int .i64 d, .int .i64 e, .int .i64 f]] w (TriPost (mulF x y u v a b c d e f) (mulL x y u v a b c d e f) true [subR (addR x y) (addR a b), subR (addR u v) (addR c d)] w)) := ⟨fun w => by
        have : Calls Try.prog 39 #[.agg #[.int .i64 x, .int .i64 y], .agg #[.int .i64 u, .int .i64 v], .agg #[.int .i64 a, .int .i64 b, .int .i64 c, .int .i64 d, .int .i64 e, .int .i64 f]] w (TriPost (mulF x y u v a b c d e f) (mulL x y u v a b c d e f) (okM x y u v a b c d e f) (mulO x y u v a b c d e f) w) := spec_MulShared x y u v a b c d e f w
        rw [ho, XS] at this; exact this⟩
      have Mswap : Kept (∀ w, Calls Try.prog 40 #[.agg #[.int .i64 u, .int .i64 v], .agg #[.int .i64 x, .int .i64 y], .agg #[.int .i64 a, .int .i64 b, .int .i64 c, .int .i64 d, .int .i64 e, .int .i64 f]] w (TriPost (mulF u v x y a b c d e f) (mulL u v x y a b c d e f) true (mulO u v x y a b c d e f) w)) := ⟨fun w => by
        have : Calls Try.prog 40 #[.agg #[.int .i64 u, .int .i64 v], .agg #[.int .i64 x, .int .i64 y], .agg #[.int .i64 a, .int .i64 b, .int .i64 c, .int .i64 d, .int .i64 e, .int .i64 f]] w (TriPost (mulF u v x y a b c d e f) (mulL u v x y a b c d e f) (okM u v x y a b c d e f) (mulO u v x y a b c d e f) w) := impl_MulShared u v x y a b c d e f w
        rw [HO] at this; exact this⟩
      have JK' : Kept (∀ w, Calls Try.prog 31 #[.agg #[.int .i64 (mulF u v x y a b c d e f), .int .i64 (mulL u v x y a b c d e f)]] w fun e w' => e = .returned (.int .i64 (mulR (addR x y) (addR u v))) ∧ Ext w w') := ⟨fun w => (JS.trans JN) ▸ impl_JoinShares _ _ w⟩
      clear JS HO
      have JK : Kept (∀ w, Calls Try.prog 31 #[.agg #[.int .i64 (mulF x y u v a b c d e f), .int .i64 (mulL x y u v a b c d e f)]] w fun e w' => e = .returned (.int .i64 (mulR (addR x y) (addR u v))) ∧ Ext w w') := ⟨fun w => JN ▸ impl_JoinShares _ _ w⟩
      clear JN
      clear XS ho
      generalize mulF x y u v a b c d e f = F at *
      generalize mulL x y u v a b c d e f = L at *
      generalize mulF u v x y a b c d e f = F' at *
      generalize mulL u v x y a b c d e f = L' at *
      obtain ⟨x0, x1⟩ := kX.two
      obtain ⟨y0, y1⟩ := kY.two
      obtain ⟨t0, t1, t2, t3, t4, t5⟩ := kT.six
      go_wp2_with (fail)
      (with_reducible refine (Mimpl.out _).mono ?_)
      rintro e w2 ⟨s1, rfl, o1, x2⟩
      clear x0 x1 y0 y1 t0 t1 t2 t3 t4 t5
      replace kX := kX.keep x2
      replace kY := kY.keep x2
      replace kT := kT.keep x2
      replace hx := hx.trans x2
      clear x2
      obtain ⟨g1, m1, rfl, lg1, T1⟩ := o1.twoCells
      have kS := Blk.new w2 #[.int .i64 F, .int .i64 L] 24
      replace kX := kX.old (.cells #[.int .i64 F, .int .i64 L] 24)
      replace kY := kY.old (.cells #[.int .i64 F, .int .i64 L] 24)
      replace kT := kT.old (.cells #[.int .i64 F, .int .i64 L] 24)
      replace o1 := o1.keep ((Ext.refl w2).alloc (.cells #[.int .i64 F, .int .i64 L] 24))
      replace T1 := T1.keep ((Ext.refl w2).alloc (.cells #[.int .i64 F, .int .i64 L] 24))
      replace hx := hx.alloc (.cells #[.int .i64 F, .int .i64 L] 24)
      obtain ⟨x0, x1⟩ := kX.two
      obtain ⟨y0, y1⟩ := kY.two
      obtain ⟨t0, t1, t2, t3, t4, t5⟩ := kT.six
      go_wp2_with (fail)
      (with_reducible refine (Mspec.out _).mono ?_)
      rintro e w3 ⟨s2, rfl, o2, x3⟩
      clear x0 x1 y0 y1 t0 t1 t2 t3 t4 t5
      have lS := kS.lt
      replace kX := kX.keep x3
      replace kY := kY.keep x3
      replace kT := kT.keep x3
      replace kS := kS.keep x3
      replace o1 := o1.keep x3
      replace T1 := T1.keep x3
      replace hx := hx.trans x3
      clear x3
      obtain ⟨p2, m2, hs, -, -⟩ := id o2.ints
      simp only [List.length_cons, List.length_nil, Nat.zero_add, Nat.reduceAdd] at hs
      subst hs
      have kZ := Blk.new w3 #[.int .i64 F, .int .i64 L] 24
      replace kX := kX.old (.cells #[.int .i64 F, .int .i64 L] 24)
      replace kY := kY.old (.cells #[.int .i64 F, .int .i64 L] 24)
      replace kT := kT.old (.cells #[.int .i64 F, .int .i64 L] 24)
      replace kS := kS.old (.cells #[.int .i64 F, .int .i64 L] 24)
      have xa := (Ext.refl w3).alloc (.cells #[.int .i64 F, .int .i64 L] 24)
      replace o1 := o1.keep xa
      replace o2 := o2.keep xa
      replace T1 := T1.keep xa
      replace hx := hx.trans xa
      clear xa
      obtain ⟨s0, s1'⟩ := kS.two
      obtain ⟨z0, z1⟩ := kZ.two
      go_wp2_with (fail)
      (with_reducible refine (laws_sameInts _ _ [subR (addR x y) (addR a b), subR (addR u v) (addR c d)] _ o1.ints o2.ints).mono ?_)
      rintro e w4 ⟨rfl, x4⟩
      clear s0 s1' z0 z1 kZ o1 o2
      replace kX := kX.keep x4
      replace kY := kY.keep x4
      replace kT := kT.keep x4
      replace kS := kS.keep x4
      replace T1 := T1.keep x4
      replace hx := hx.trans x4
      clear x4
      obtain ⟨x0, x1⟩ := kX.two
      obtain ⟨y0, y1⟩ := kY.two
      obtain ⟨t0, t1, t2, t3, t4, t5⟩ := kT.six
      go_wp2_with (fail)
      (with_reducible refine (Mswap.out _).mono ?_)
      rintro e w5 ⟨s5, rfl, o5, x5⟩
      clear x0 x1 y0 y1 t0 t1 t2 t3 t4 t5 o5 kX kY kT T1
      replace kS := kS.keep x5
      replace hx := hx.trans x5
      clear x5
      have kU := Blk.new w5 #[.int .i64 F', .int .i64 L'] 24
      replace kS := kS.old (.cells #[.int .i64 F', .int .i64 L'] 24)
      replace hx := hx.alloc (.cells #[.int .i64 F', .int .i64 L'] 24)
      go_wp2_with (fail)
      apply wp_region_zip [isv _, isv _, isv _, isv _, isv _, isv _, isv _, isv _] _ (by kernel_rfl)
      case hA => intro V; simp [putAll, dstOf, Act.put]; exact rfl
      case hsl => intro V; exact rfl
      case step =>
        intro V lo up w' hr
        have hxr := hx.trans hr
        obtain ⟨hcr, hzr⟩ := hxr.cells
        have kS := kS.keep hr
        have kU := kU.keep hr
        obtain ⟨s0, s1'⟩ := kS.two
        obtain ⟨u0, u1⟩ := kU.two
        simp only [zipOk, depsImp, isv, waits, Region.binds, List.map_nil, List.nil_append, List.filterMap_cons, List.filterMap_nil, ↓reduceIte, true_implies, List.getD_cons_zero, List.getD_cons_succ, and_true]
        refine ⟨?_, ?_, ?_, ?_, ?_, ?_, ?_, ?_⟩
        all_goals
          intros
          go_wp2_with (first | (go_at_call 31; (with_reducible refine (JK.out _).mono ?_); rintro e w1 ⟨rfl, hy⟩) | (go_at_call 31; (with_reducible refine (JK'.out _).mono ?_); rintro e w1 ⟨rfl, hy⟩))
          refine stepQ_mk rfl (by simp only [List.getElem?_toArray, List.getElem?_cons_succ, List.getElem?_cons_zero]; exact rfl) ?_
          first | exact ⟨hy, rfl⟩ | exact ⟨Ext.refl _, rfl⟩ | exact ⟨Ext.refl _, by assumption⟩ | exact ⟨(Ext.refl _).alloc _, rfl, by simp, Blk.new _ _ _⟩
      case hB => kernel_rfl
      case fin =>
        intro V lo up w' hr hf ha
        simp only [factsOk, isv, List.map_nil, and_true, Nat.zero_add, Nat.reduceAdd] at hf
        simp only [List.length_cons, List.length_nil, Nat.zero_add, Nat.reduceAdd, List.drop_succ_cons, List.drop_zero]
        obtain ⟨⟨-, -, -, e0⟩, ⟨-, -, -, e1⟩, ⟨-, -, -, e2⟩, ⟨-, -, -, e3⟩, ⟨-, -, -, e4⟩, ⟨-, -, -, e5⟩, ⟨-, -, -, e6⟩, ⟨-, -, -, e7⟩⟩ := hf
        rw [e0, e1, e2, e3, e4, e5, e6, e7]
        clear e0 e1 e2 e3 e4 e5 e6 e7
        clear ha V lo up
        have hs0 := hx.size
        replace hx := hx.trans hr
        have tkS := kS.lt
        replace kS := kS.keep hr
        have tkU := kU.lt
        replace kU := kU.keep hr
        clear hr
        try clear hc hz
        obtain ⟨hc, hz⟩ := hx.cells
        go_wp2
        go_ret
        exact ⟨rfl, hx⟩
  · have hl' : ¬ (n : Int) ≤ 1048576 := hl
    have hg : (1048576 : Int) < n := by omega
    clear hl
    go_enter Try.func14, Try.ntmps14
    go_wp2_with (fail)
    go_ret
    exact ⟨rfl, Ext.refl _⟩
theorem add_at (b o i : Nat) : (⟨b, o, none⟩ : Addr).add i = ⟨b, o + i, none⟩ := by
  unfold Addr.add; by_cases h : i = 0
  · subst h; rfl
  · rw [if_neg h]
theorem cell_lt {w : World} {b o : Nat} {v : Value} (h : w.cell? ⟨b, o, none⟩ = some v) : b < w.heap.size := by
  apply Classical.byContradiction
  intro hn
  have : w.heap[b]? = none := by simp; omega
  simp [World.cell?, this] at h
theorem bytes_of {H : Type} {enc : TypeId × Value → H} {w : World} {base : Nat} {held : Bool} {t e : TypeId} {fuel : Nat} {a : Option Addr} {len cap : Nat} {x : DataW H × List MemPlace} (ht : Try.prog.underlying t = some (.slice e)) (he : Try.prog.underlying e = some (.int .u8)) (hc : Try.prog.cellsOf e = 1)
    (h : DataW.trod enc Try.prog w base (fun _ => true) held fuel t (Value.slice a len cap).cells.toList = some x) : Bytes w (.slice a len cap) := by
  rcases open_ints ht he hc h with ⟨hcs, _⟩ | ⟨x, l, c, zs, hcs, _, hl, hm, hz, _, hcell, hwz⟩
  · simp [Value.cells] at hcs
    obtain ⟨rfl, rfl, rfl⟩ := hcs
    exact ⟨none, 0, 0, rfl, Nat.le_refl _, by omega, fun i hi => absurd hi (Nat.not_lt_zero _)⟩
  · simp [Value.cells] at hcs
    obtain ⟨rfl, rfl, rfl⟩ := hcs
    have hz' : zs.length = cap := by simpa using hz
    refine ⟨some x, len, cap, rfl, hl, by unfold maxLen at hm; omega, fun i hi => ?_⟩
    have hci := hcell i (by omega)
    obtain ⟨b, off, spot⟩ := x
    have hspot : spot = none := by
      have h0 := hcell 0 (by omega)
      simpa [Addr.add] using World.cell?_spot h0
    subst hspot
    rw [add_at] at hci
    have hwf := hwz (zs.getD i 0) (by
      have : i < zs.length := by omega
      simp [this])
    refine ⟨b, off, rfl, cell_lt hci, _, hci, ?_⟩
    have := bounds_u8 hwf
    omega

set_option maxRecDepth 100000 in
theorem lifted_FnMulOrder (os : Os) (started : os.Started) (H : Type) (enc : TypeId × Value → H) :
    ReturnsInHanded {} Try.checked os 14 .any (Rows.fnMulOrderSpec.pre6 enc Try.prog Try.f14 Rows.fnMulOrderRow.domain false) (Rows.fnMulOrderSpec.post enc Try.prog Try.f14 false true false false) := by
  refine returnsInHanded_of_change (C := Try.checked) own started (by kernel_rfl) Try.func14
    (ChangeSpec.witness6 (enc := enc) (C := Try.checked) false ⟨#[], #[.slice none 0 0], []⟩ 8 (by kernel_rfl) (by kernel_rfl) (by kernel_rfl) (by kernel_rfl)) ?_
  intro W base args ds gs before hval0 hW hcnd _
  have hval : ∀ (j : Nat) t v, Try.f14.params[j]? = some t → args[j]? = some v → Value.okWide Try.prog W .any base t v := hval0
  have hW' := hW
  obtain ⟨p, q, hA0, hV, rfl, hfz, hnd⟩ := hW
  have hA : DataW.TrodAll enc Try.prog W 0 (fun _ => true) true Try.f14.params.toList args.toList ds p := hA0
  rw [Try.params14] at hA hval
  obtain ⟨v0, vs0, d0, ds0, p0, q0, hargs, rfl, rfl, h0, r0⟩ := trodAll_cons hA
  obtain ⟨rfl, rfl, rfl⟩ := trodAll_nil r0
  obtain rfl : args = #[v0] := by cases args; simp_all
  obtain ⟨rfl, rfl⟩ := trodVars_none hV
  have k0 := h0
  have lt0 : ∀ x ∈ p0, x.block < W.heap.size := by obtain ⟨m, hm⟩ := k0; exact DataW.trod_lt m _ _ _ hm
  obtain ⟨sa0, sl0, sc0, rfl⟩ := okWide_slice Try.underlying38 (hval 0 38 v0 rfl rfl)
  have by0 : Bytes W (.slice sa0 sl0 sc0) := by
    obtain ⟨fu, hf⟩ := h0
    exact bytes_of Try.underlying38 Try.underlying5 (by kernel_rfl) hf
  clear hA0 hval0
  refine (walk_FnMulOrder (.slice sa0 sl0 sc0) W by0).mono fun e W' ⟨he, bel⟩ => ?_
  subst he
  exact ⟨_, rfl, _, _, _, [], _, [], hW', trodAll_mk1 (shut_bool Try.underlying4 _), (trodAll_cons_mk (Below.trod laidOut (by kernel_rfl) (of_decide_eq_true (by kernel_rfl)) k0 bel lt0) trodAll_mk0), rfl, Below.frame bel _, fun h => by cases h⟩
theorem proved_FnMulOrder : Rows.FnMulOrderSaid :=
  OpenClaim.holds_of_wide 14 Try.f14 rfl rfl rfl rfl rfl rfl rfl ⟨rfl, rfl, rfl, rfl, rfl⟩ rfl rfl rfl rfl rfl (by kernel_rfl) Try.func14 (by kernel_rfl)
    (of_decide_eq_true (by kernel_rfl)) (by unfold Func.isWrapper; rw [if_neg (of_decide_eq_false (by kernel_rfl))]; exact ⟨rfl, rfl⟩)
    (fun os started H enc _ => lifted_FnMulOrder os started H enc)
#print axioms proved_FnMulOrder

end Go.Proofs.Ytokjdaknfkleeaa
