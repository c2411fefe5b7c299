/- The contracts of MulShared: the product by a triple, what is opened, whether it may be. -/
import Derived.Test.YtbkallacblkmpaaShares2
import Derived.Test.YtbkallacblkmpaaDraw
namespace Go.Proofs.Ytbkallacblkmpaa
set_option linter.unusedSimpArgs false
set_option linter.unusedVariables false
open Go.RowKit
def okM (x y u v a b c d e f : Int) : Bool := rv x && rv y && (rv u && rv v && triR a b c d e f)
/-- What is opened. -/
def opX (x y a b : Int) : Int := subR (addR x y) (addR a b)
def mulF (x y u v a b c d e f : Int) : Int := if okM x y u v a b c d e f = true then ring (e + opX x y a b * c + opX u v c d * a + opX x y a b * opX u v c d) else -1
def mulL (x y u v a b c d e f : Int) : Int := if okM x y u v a b c d e f = true then ring (f + opX x y a b * d + opX u v c d * b) else -1
def mulO (x y u v a b c d e f : Int) : List Int := if okM x y u v a b c d e f = true then [opX x y a b, opX u v c d] else []
theorem triR_ok {a b c d e f : Int} (h : triR a b c d e f = true) : (rv a && rv b) = true ∧ (rv c && rv d) = true ∧ (rv e && rv f) = true := by
  simp only [triR, okT, Bool.and_eq_true] at h
  simp only [Bool.and_eq_true]
  exact ⟨h.1.1, h.1.2.1, h.1.2.2⟩
theorem opX_join {x y a b : Int} (h1 : (rv x && rv y) = true) (h2 : (rv a && rv b) = true) : addR (subF x y a b) (subL x y a b) = opX x y a b := by
  have h : okS x y a b = true := by simp [okS, h1, h2]
  simp only [okS, Bool.and_eq_true] at h
  obtain ⟨⟨h1, h2⟩, h3, h4⟩ := h
  simp only [opX, subF, subL, okS, h1, h2, h3, h4, Bool.and_self, if_true, addR_ok, subR_ok, rv_ring]
  unfold ring; omega
theorem opX_rv {x y a b : Int} (h1 : (rv x && rv y) = true) (h2 : (rv a && rv b) = true) : rv (opX x y a b) = true := by
  simp only [Bool.and_eq_true] at h1 h2
  simp only [opX, h1.1, h1.2, h2.1, h2.2, addR_ok, subR_ok, rv_ring]
theorem prod_bd {p q : Int} (h1 : rv p = true) (h2 : rv q = true) : 0 ≤ p * q ∧ p * q ≤ 16769025 := by
  rw [rv_iff] at h1 h2
  refine ⟨Int.mul_nonneg h1.1 h2.1, ?_⟩
  have := Int.mul_le_mul (show p ≤ 4095 by omega) (show q ≤ 4095 by omega) h2.1 (by omega)
  omega
/-- What MulShared leaves. -/
def MulPost (x y u v a b c d e f : Int) (w : World) (e' : Ending) (w' : World) : Prop :=
  ∃ s, e' = .returned (.tuple #[.agg #[.int .i64 (mulF x y u v a b c d e f), .int .i64 (mulL x y u v a b c d e f)], s, .bool (okM x y u v a b c d e f)]) ∧ Own w.heap.size w' s (mulO x y u v a b c d e f) ∧ Ext w w'
theorem Own.two {B : Nat} {w : World} {g : Nat} (p q : Int) (hB : B ≤ g) (hg : w.heap[g]? = some (.cells #[.int .i64 p, .int .i64 q] 3 (0, 0))) : Own B w (.slice (some ⟨g, 0, none⟩) 2 2) [p, q] :=
  Own.lit [p, q] hB hg (by show 2 ≤ maxLen; unfold maxLen; omega)

set_option maxHeartbeats 4000000 in
set_option maxRecDepth 4000 in
theorem impl_MulShared (x y u v a b c d e f : Int) (w : World) : Calls Try.prog 62 #[.agg #[.int .i64 x, .int .i64 y], .agg #[.int .i64 u, .int .i64 v], .agg #[.int .i64 a, .int .i64 b, .int .i64 c, .int .i64 d, .int .i64 e, .int .i64 f]] w (MulPost x y u v a b c d e f w) := by
  cases h1 : (rv x && rv y)
  · unfold MulPost
    have hk : okM x y u v a b c d e f = false := by simp [okM, h1]
    rw [show mulF x y u v a b c d e f = -1 by simp [mulF, hk], show mulL x y u v a b c d e f = -1 by simp [mulL, hk], show mulO x y u v a b c d e f = [] by simp [mulO, hk], hk]
    clear hk
    have H1 := Kept.mk h1; clear h1
    go_enter Try.func62, Try.ntmps62
    go_wp2_with (first | (go_at_call 49; (with_reducible refine (impl_SharedValid x y false H1.out _).mono ?_); rintro e w1 ⟨rfl, hy⟩; (first | (replace hx := hx.trans hy; clear hc hz hy; obtain ⟨hc, hz⟩ := hx.cells) | (have hx := hy; clear hy; obtain ⟨hc, hz⟩ := hx.cells))) | (go_at_call 50; (with_reducible refine (impl_noShares _).mono ?_); rintro e w1 ⟨rfl, hy⟩; (first | (replace hx := hx.trans hy; clear hc hz hy; obtain ⟨hc, hz⟩ := hx.cells) | (have hx := hy; clear hy; obtain ⟨hc, hz⟩ := hx.cells))))
    exact bodyPost_ret (v := .tuple #[.agg #[.int .i64 (-1), .int .i64 (-1)], .slice none 0 0, .bool false]) (by first | (simp [results, Try.results62, go_sem, hc]; done) | (simp [results, Try.results62, go_sem, *]; done)) rfl ⟨_, rfl, Own.nil _ _, (by (repeat (first | refine Ext.setCell ?_ (by first | (simp; done) | (simp; omega) | omega) _ | refine Ext.alloc ?_ _ | refine Ext.drew ?_ | refine Ext.setRow ?_ (by omega) _)); first | exact Ext.refl _ | exact hx | (refine Ext.trans ?_ hx; (repeat (refine Ext.alloc ?_ _)); exact Ext.refl _))⟩
  · cases h2 : (rv u && rv v)
    · unfold MulPost
      have hk : okM x y u v a b c d e f = false := by simp [okM, h1, h2]
      rw [show mulF x y u v a b c d e f = -1 by simp [mulF, hk], show mulL x y u v a b c d e f = -1 by simp [mulL, hk], show mulO x y u v a b c d e f = [] by simp [mulO, hk], hk]
      clear hk
      have H1 := Kept.mk h1; clear h1
      have H2 := Kept.mk h2; clear h2
      go_enter Try.func62, Try.ntmps62
      go_wp2_with (first | (go_at_call 49; (with_reducible refine (impl_SharedValid x y true H1.out _).mono ?_); rintro e w1 ⟨rfl, hy⟩; (first | (replace hx := hx.trans hy; clear hc hz hy; obtain ⟨hc, hz⟩ := hx.cells) | (have hx := hy; clear hy; obtain ⟨hc, hz⟩ := hx.cells))) | (go_at_call 49; (with_reducible refine (impl_SharedValid u v false H2.out _).mono ?_); rintro e w1 ⟨rfl, hy⟩; (first | (replace hx := hx.trans hy; clear hc hz hy; obtain ⟨hc, hz⟩ := hx.cells) | (have hx := hy; clear hy; obtain ⟨hc, hz⟩ := hx.cells))) | (go_at_call 50; (with_reducible refine (impl_noShares _).mono ?_); rintro e w1 ⟨rfl, hy⟩; (first | (replace hx := hx.trans hy; clear hc hz hy; obtain ⟨hc, hz⟩ := hx.cells) | (have hx := hy; clear hy; obtain ⟨hc, hz⟩ := hx.cells))))
      exact bodyPost_ret (v := .tuple #[.agg #[.int .i64 (-1), .int .i64 (-1)], .slice none 0 0, .bool false]) (by first | (simp [results, Try.results62, go_sem, hc]; done) | (simp [results, Try.results62, go_sem, *]; done)) rfl ⟨_, rfl, Own.nil _ _, (by (repeat (first | refine Ext.setCell ?_ (by first | (simp; done) | (simp; omega) | omega) _ | refine Ext.alloc ?_ _ | refine Ext.drew ?_ | refine Ext.setRow ?_ (by omega) _)); first | exact Ext.refl _ | exact hx | (refine Ext.trans ?_ hx; (repeat (refine Ext.alloc ?_ _)); exact Ext.refl _))⟩
    · cases h3 : triR a b c d e f
      · unfold MulPost
        have hk : okM x y u v a b c d e f = false := by simp [okM, h1, h2, h3]
        rw [show mulF x y u v a b c d e f = -1 by simp [mulF, hk], show mulL x y u v a b c d e f = -1 by simp [mulL, hk], show mulO x y u v a b c d e f = [] by simp [mulO, hk], hk]
        clear hk
        have H3 := Kept.mk (fun w => (h3 ▸ impl_TripleRight a b c d e f w : Calls Try.prog 78 #[.agg #[.int .i64 a, .int .i64 b, .int .i64 c, .int .i64 d, .int .i64 e, .int .i64 f]] w fun e' w' => e' = .returned (.bool false) ∧ Ext w w'))
        have H1 := Kept.mk h1; clear h1
        have H2 := Kept.mk h2; clear h2
        clear h3
        go_enter Try.func62, Try.ntmps62
        go_wp2_with (first | (go_at_call 49; (with_reducible refine (impl_SharedValid x y true H1.out _).mono ?_); rintro e w1 ⟨rfl, hy⟩; (first | (replace hx := hx.trans hy; clear hc hz hy; obtain ⟨hc, hz⟩ := hx.cells) | (have hx := hy; clear hy; obtain ⟨hc, hz⟩ := hx.cells))) | (go_at_call 49; (with_reducible refine (impl_SharedValid u v true H2.out _).mono ?_); rintro e w1 ⟨rfl, hy⟩; (first | (replace hx := hx.trans hy; clear hc hz hy; obtain ⟨hc, hz⟩ := hx.cells) | (have hx := hy; clear hy; obtain ⟨hc, hz⟩ := hx.cells))) | (go_at_call 78; (with_reducible refine (H3.out _).mono ?_); rintro e w1 ⟨rfl, hy⟩; (first | (replace hx := hx.trans hy; clear hc hz hy; obtain ⟨hc, hz⟩ := hx.cells) | (have hx := hy; clear hy; obtain ⟨hc, hz⟩ := hx.cells))) | (go_at_call 50; (with_reducible refine (impl_noShares _).mono ?_); rintro e w1 ⟨rfl, hy⟩; (first | (replace hx := hx.trans hy; clear hc hz hy; obtain ⟨hc, hz⟩ := hx.cells) | (have hx := hy; clear hy; obtain ⟨hc, hz⟩ := hx.cells))))
        exact bodyPost_ret (v := .tuple #[.agg #[.int .i64 (-1), .int .i64 (-1)], .slice none 0 0, .bool false]) (by first | (simp [results, Try.results62, go_sem, hc]; done) | (simp [results, Try.results62, go_sem, *]; done)) rfl ⟨_, rfl, Own.nil _ _, (by (repeat (first | refine Ext.setCell ?_ (by first | (simp; done) | (simp; omega) | omega) _ | refine Ext.alloc ?_ _ | refine Ext.drew ?_ | refine Ext.setRow ?_ (by omega) _)); first | exact Ext.refl _ | exact hx | (refine Ext.trans ?_ hx; (repeat (refine Ext.alloc ?_ _)); exact Ext.refl _))⟩
      · unfold MulPost
        have H3 := Kept.mk (fun w => (h3 ▸ impl_TripleRight a b c d e f w : Calls Try.prog 78 #[.agg #[.int .i64 a, .int .i64 b, .int .i64 c, .int .i64 d, .int .i64 e, .int .i64 f]] w fun e' w' => e' = .returned (.bool true) ∧ Ext w w'))
        have hk : okM x y u v a b c d e f = true := by simp [okM, h1, h2, h3]
        obtain ⟨ha, hb, hc⟩ := triR_ok h3
        rw [show mulF x y u v a b c d e f = ring (e + opX x y a b * c + opX u v c d * a + opX x y a b * opX u v c d) by simp [mulF, hk], show mulL x y u v a b c d e f = ring (f + opX x y a b * d + opX u v c d * b) by simp [mulL, hk], show mulO x y u v a b c d e f = [opX x y a b, opX u v c d] by simp [mulO, hk], hk]
        clear hk
        have j1 := opX_join h1 ha
        have j2 := opX_join h2 hb
        have r1 := opX_rv h1 ha
        have r2 := opX_rv h2 hb
        replace j1 : subR (addR x y) (addR a b) = opX x y a b := rfl
        replace j2 : subR (addR u v) (addR c d) = opX u v c d := rfl
        generalize opX x y a b = D at *
        generalize opX u v c d = E at *
        simp only [Bool.and_eq_true] at ha hb hc
        obtain ⟨p0, q0⟩ := prod_bd (p := D) (q := c) r1 hb.1
        obtain ⟨p1, q1⟩ := prod_bd (p := E) (q := a) r2 ha.1
        obtain ⟨p2, q2⟩ := prod_bd (p := D) (q := E) r1 r2
        obtain ⟨p3, q3⟩ := prod_bd (p := D) (q := d) r1 hb.2
        obtain ⟨p4, q4⟩ := prod_bd (p := E) (q := b) r2 ha.2
        obtain ⟨⟨l0, u0⟩, l1, u1⟩ := And.intro (rv_iff.1 hc.1) (rv_iff.1 hc.2)
        clear ha hb hc r1 r2
        have BD := Kept.mk (And.intro (And.intro p0 q0) (And.intro (And.intro p1 q1) (And.intro (And.intro p2 q2) (And.intro (And.intro p3 q3) (And.intro (And.intro p4 q4) (And.intro (And.intro l0 u0) (And.intro l1 u1)))))))
        clear p0 q0 p1 q1 p2 q2 p3 q3 p4 q4 l0 u0 l1 u1
        have H1 := Kept.mk h1; clear h1
        have H2 := Kept.mk h2; clear h2
        clear h3
        go_enter Try.func62, Try.ntmps62
        go_wp2_with (first | (go_at_call 49; (with_reducible refine (impl_SharedValid x y true H1.out _).mono ?_); rintro e w1 ⟨rfl, hy⟩; (first | (replace hx := hx.trans hy; clear hc hz hy; obtain ⟨hc, hz⟩ := hx.cells) | (have hx := hy; clear hy; obtain ⟨hc, hz⟩ := hx.cells))) | (go_at_call 49; (with_reducible refine (impl_SharedValid u v true H2.out _).mono ?_); rintro e w1 ⟨rfl, hy⟩; (first | (replace hx := hx.trans hy; clear hc hz hy; obtain ⟨hc, hz⟩ := hx.cells) | (have hx := hy; clear hy; obtain ⟨hc, hz⟩ := hx.cells))) | (go_at_call 78; (with_reducible refine (H3.out _).mono ?_); rintro e w1 ⟨rfl, hy⟩; (first | (replace hx := hx.trans hy; clear hc hz hy; obtain ⟨hc, hz⟩ := hx.cells) | (have hx := hy; clear hy; obtain ⟨hc, hz⟩ := hx.cells))))
        apply wp_region_zip [isv _, isv _, isv _, isv _, isv _, isv _, isv _] _ (by kernel_rfl)
        case hA => intro V; simp [putAll, dstOf, Act.put]; exact rfl
        case hsl => intro V; exact rfl
        case step =>
          intro V lo up w' hr
          have hxr := hx.trans hr
          obtain ⟨hcr, hzr⟩ := hxr.cells
          simp only [zipOk, depsImp, isv, waits, Region.binds, List.map_nil, List.nil_append, List.filterMap_cons, List.filterMap_nil, ↓reduceIte, true_implies, List.getD_cons_zero, List.getD_cons_succ, and_true]
          refine ⟨?_, ?_, ?_, ?_, ?_, ?_, ?_⟩
          all_goals
            intros
            go_wp2_with (first | (go_at_call 21; (with_reducible refine (impl_JoinShares _ _ _).mono ?_); rintro e w1 ⟨rfl, hy⟩) | (go_at_call 34; (with_reducible refine (impl_SubRing _ _ _).mono ?_); rintro e w1 ⟨rfl, rfl⟩))
            refine stepQ_mk rfl (by simp only [List.getElem?_toArray, List.getElem?_cons_succ, List.getElem?_cons_zero]; exact rfl) ?_
            first | exact ⟨hy, rfl⟩ | exact ⟨Ext.refl _, rfl⟩ | exact ⟨Ext.refl _, by assumption⟩ | exact ⟨(Ext.refl _).alloc _, rfl, by simp, Blk.new _ _ _⟩
        case hB => kernel_rfl
        case fin =>
          intro V lo up w' hr hf ha
          simp only [factsOk, isv, List.map_nil, and_true, Nat.zero_add, Nat.reduceAdd] at hf
          simp only [List.length_cons, List.length_nil, Nat.zero_add, Nat.reduceAdd, List.drop_succ_cons, List.drop_zero]
          obtain ⟨⟨-, -, -, e0⟩, ⟨-, -, -, e1⟩, ⟨-, -, -, e2⟩, ⟨-, -, -, e3⟩, ⟨-, -, -, e4⟩, ⟨-, -, -, e5⟩, ⟨-, -, -, e6⟩⟩ := hf
          rw [e0, e1, e2, e3, e4, e5, e6]
          clear e0 e1 e2 e3 e4 e5 e6
          clear ha V lo up
          have hs0 := hx.size
          replace hx := hx.trans hr
          clear hr
          try clear hc hz
          obtain ⟨hc, hz⟩ := hx.cells
          (try rw [j1])
          clear j1
          go_wp2_with (fail)
          apply wp_region_zip [isv _, isv _, isv _, isv _, isv _, isv _, isv _] _ (by kernel_rfl)
          case hA => intro V; simp [putAll, dstOf, Act.put]; exact rfl
          case hsl => intro V; exact rfl
          case step =>
            intro V lo up w' hr
            have hxr := hx.trans hr
            obtain ⟨hcr, hzr⟩ := hxr.cells
            simp only [zipOk, depsImp, isv, waits, Region.binds, List.map_nil, List.nil_append, List.filterMap_cons, List.filterMap_nil, ↓reduceIte, true_implies, List.getD_cons_zero, List.getD_cons_succ, and_true]
            refine ⟨?_, ?_, ?_, ?_, ?_, ?_, ?_⟩
            all_goals
              intros
              go_wp2_with (first | (go_at_call 21; (with_reducible refine (impl_JoinShares _ _ _).mono ?_); rintro e w1 ⟨rfl, hy⟩) | (go_at_call 34; (with_reducible refine (impl_SubRing _ _ _).mono ?_); rintro e w1 ⟨rfl, rfl⟩))
              refine stepQ_mk rfl (by simp only [List.getElem?_toArray, List.getElem?_cons_succ, List.getElem?_cons_zero]; exact rfl) ?_
              first | exact ⟨hy, rfl⟩ | exact ⟨Ext.refl _, rfl⟩ | exact ⟨Ext.refl _, by assumption⟩ | exact ⟨(Ext.refl _).alloc _, rfl, by simp, Blk.new _ _ _⟩
          case hB => kernel_rfl
          case fin =>
            intro V lo up w' hr hf ha
            simp only [factsOk, isv, List.map_nil, and_true, Nat.zero_add, Nat.reduceAdd] at hf
            simp only [List.length_cons, List.length_nil, Nat.zero_add, Nat.reduceAdd, List.drop_succ_cons, List.drop_zero]
            obtain ⟨⟨-, -, -, e0⟩, ⟨-, -, -, e1⟩, ⟨-, -, -, e2⟩, ⟨-, -, -, e3⟩, ⟨-, -, -, e4⟩, ⟨-, -, -, e5⟩, ⟨-, -, -, e6⟩⟩ := hf
            rw [e0, e1, e2, e3, e4, e5, e6]
            clear e0 e1 e2 e3 e4 e5 e6
            clear ha V lo up
            have hs0 := hx.size
            replace hx := hx.trans hr
            clear hr
            try clear hc hz
            obtain ⟨hc, hz⟩ := hx.cells
            (try rw [j2])
            clear j2
            go_wp2_with (fail)
            obtain ⟨⟨p0, q0⟩, ⟨p1, q1⟩, ⟨p2, q2⟩, ⟨p3, q3⟩, ⟨p4, q4⟩, ⟨l0, u0⟩, l1, u1⟩ := BD.out
            clear BD H1 H2 H3
            apply wp_region_zip [isv _, isv _, isv _, isv _, isv _, isv _, isv _, isv _, isv _, isv _, isv _, isv _, isv _, isv _, isv _, isv _, isv _, isv _, isv _, isv _, isv _, isv _, isv _, isv _, isv _, isv _, isv _, isv _, isv _, isv _, isv _, isv _, isv _, isv _, isv _, isv _, isv _, newb _ 27] _ (by kernel_rfl)
            case hA => intro V; simp [putAll, dstOf, Act.put]; exact rfl
            case hsl => intro V; exact rfl
            case step =>
              intro V lo up w' hr
              have hxr := hx.trans hr
              obtain ⟨hcr, hzr⟩ := hxr.cells
              simp only [zipOk, depsImp, isv, newb, waits, Region.binds, List.map_nil, List.nil_append, List.filterMap_cons, List.filterMap_nil, ↓reduceIte, true_implies, List.getD_cons_zero, List.getD_cons_succ, and_true]
              refine ⟨?_, ?_, ?_, ?_, ?_, ?_, ?_, ?_, ?_, ?_, ?_, ?_, ?_, ?_, ?_, ?_, ?_, ?_, ?_, ?_, ?_, ?_, ?_, ?_, ?_, ?_, ?_, ?_, ?_, ?_, ?_, ?_, ?_, ?_, ?_, ?_, ?_, ?_⟩
              all_goals
                intros
                go_wp2_with (go_at_call 35; (with_reducible refine (impl_RingOf _ _).mono ?_); rintro e w1 ⟨rfl, rfl⟩)
                refine stepQ_mk rfl (by simp only [List.getElem?_toArray, List.getElem?_cons_succ, List.getElem?_cons_zero]; exact rfl) ?_
                first | exact ⟨hy, rfl⟩ | exact ⟨Ext.refl _, rfl⟩ | exact ⟨Ext.refl _, by assumption⟩ | exact ⟨(Ext.refl _).alloc _, rfl, by simp, Blk.new _ _ _⟩
            case hB => kernel_rfl
            case fin =>
              intro V lo up w' hr hf ha
              simp only [factsOk, isv, newb, List.map_nil, and_true, Nat.zero_add, Nat.reduceAdd] at hf
              simp only [List.length_cons, List.length_nil, Nat.zero_add, Nat.reduceAdd, List.drop_succ_cons, List.drop_zero]
              obtain ⟨⟨-, -, -, e0⟩, ⟨-, -, -, e1⟩, ⟨-, -, -, e2⟩, ⟨-, -, -, e3⟩, ⟨-, -, -, e4⟩, ⟨-, -, -, e5⟩, ⟨-, -, -, e6⟩, ⟨-, -, -, e7⟩, ⟨-, -, -, e8⟩, ⟨-, -, -, e9⟩, ⟨-, -, -, e10⟩, ⟨-, -, -, e11⟩, ⟨-, -, -, e12⟩, ⟨-, -, -, e13⟩, ⟨-, -, -, e14⟩, ⟨-, -, -, e15⟩, ⟨-, -, -, e16⟩, ⟨-, -, -, e17⟩, ⟨-, -, -, e18⟩, ⟨-, -, -, e19⟩, ⟨-, -, -, e20⟩, ⟨-, -, -, e21⟩, ⟨-, -, -, e22⟩, ⟨-, -, -, e23⟩, ⟨-, -, -, e24⟩, ⟨-, -, -, e25⟩, ⟨-, -, -, e26⟩, ⟨-, -, -, e27⟩, ⟨-, -, -, e28⟩, ⟨-, -, -, e29⟩, ⟨-, -, -, e30⟩, ⟨-, -, -, e31⟩, ⟨-, -, -, e32⟩, ⟨-, -, -, e33⟩, ⟨-, -, -, e34⟩, ⟨-, -, -, e35⟩, ⟨-, -, -, e36⟩, ⟨lm37, -, -, e37, -, km37⟩⟩ := hf
              rw [e0, e1, e2, e3, e4, e5, e6, e7, e8, e9, e10, e11, e12, e13, e14, e15, e16, e17, e18, e19, e20, e21, e22, e23, e24, e25, e26, e27, e28, e29, e30, e31, e32, e33, e34, e35, e36, e37]
              clear e0 e1 e2 e3 e4 e5 e6 e7 e8 e9 e10 e11 e12 e13 e14 e15 e16 e17 e18 e19 e20 e21 e22 e23 e24 e25 e26 e27 e28 e29 e30 e31 e32 e33 e34 e35 e36 e37
              generalize lo 37 = bm37 at *
              clear ha V lo up
              have hs0 := hx.size
              replace hx := hx.trans hr
              clear hr
              try clear hc hz
              obtain ⟨hc, hz⟩ := hx.cells
              refine wpList_store_blk rfl rfl 27 (.tmp 11) (.tmp 74) rfl bm37 _ rfl rfl 27 _ km37 (by kernel_rfl) rfl (by simp [Value.oneCell']) hx (by omega) ?_
              rintro W1 hy km37' hoth hsz
              clear km37
              have km37 := km37'
              clear km37' hoth hx
              have hx := hy
              clear hy
              clear hc hz
              obtain ⟨hc, hz⟩ := hx.cells
              obtain ⟨cm0, cm1⟩ := km37.two
              have HP := Kept.mk hx
              have zz := hx.size
              simp at zz
              have al := ((Ext.refl W1).alloc (.cells #[.int .i64 D, .int .i64 E] 3)).cells
              have q0 := (al.1 (w.heap.size + 1 + 1 + 1) 0 (by omega)).trans (hc _ 0 (by simp))
              have q1 := (al.1 (w.heap.size + 1 + 1 + 1) 1 (by omega)).trans (hc _ 1 (by simp))
              have g0 := (al.2 (w.heap.size + 1 + 1 + 1) 0 (by omega)).trans (hz _ 0 (by simp))
              have g1 := (al.2 (w.heap.size + 1 + 1 + 1) 1 (by omega)).trans (hz _ 1 (by simp))
              try simp at q0 q1 g0 g1
              clear al
              go_wp2
              exact bodyPost_ret (v := .tuple #[.agg #[.int .i64 (ring (e + D * c + E * a + D * E)), .int .i64 (ring (f + D * d + E * b))], .slice (some ⟨W1.heap.size, 0, none⟩) 2 2, .bool true]) (by simp [results, Try.results62, go_sem, *]) rfl ⟨_, rfl, Own.setOther (Own.setOther (Own.two D E (by omega) (Blk.new W1 _ _)) _ (by simp [Value.ownBlock]; omega) _ _) _ (by simp [Value.ownBlock]; omega) _ _, Ext.setCell (Ext.setCell (Ext.alloc (((((Ext.refl w).alloc _).alloc _).alloc _).alloc _ |>.trans HP.out) _) (by show w.heap.size ≤ w.heap.size + 1 + 1 + 1; omega) _) (by show w.heap.size ≤ w.heap.size + 1 + 1 + 1; omega) _⟩
set_option maxHeartbeats 4000000 in
set_option maxRecDepth 4000 in
theorem spec_MulShared (x y u v a b c d e f : Int) (w : World) : Calls Try.prog 59 #[.agg #[.int .i64 x, .int .i64 y], .agg #[.int .i64 u, .int .i64 v], .agg #[.int .i64 a, .int .i64 b, .int .i64 c, .int .i64 d, .int .i64 e, .int .i64 f]] w (MulPost x y u v a b c d e f w) := by
  cases h1 : (rv x && rv y)
  · unfold MulPost
    have hk : okM x y u v a b c d e f = false := by simp [okM, h1]
    rw [show mulF x y u v a b c d e f = -1 by simp [mulF, hk], show mulL x y u v a b c d e f = -1 by simp [mulL, hk], show mulO x y u v a b c d e f = [] by simp [mulO, hk], hk]
    clear hk
    have H1 := Kept.mk h1; clear h1
    go_enter Try.func59, Try.ntmps59
    go_wp2_with (go_at_call 44; (with_reducible refine (spec_SharedValid x y false H1.out _).mono ?_); rintro e w1 ⟨rfl, hy⟩; (first | (replace hx := hx.trans hy; clear hc hz hy; obtain ⟨hc, hz⟩ := hx.cells) | (have hx := hy; clear hy; obtain ⟨hc, hz⟩ := hx.cells)))
    (with_reducible refine (spec_l6Bad _).mono ?_)
    rintro e W1 ⟨rfl, hy⟩
    replace hx := hx.trans hy
    clear hy hc hz
    obtain ⟨hc, hz⟩ := hx.cells
    have zz := hx.size
    simp at zz
    have al := ((Ext.refl W1).alloc (.cells #[] 3)).cells
    have q0 := (al.1 (w.heap.size + 1 + 1 + 1) 0 (by omega)).trans (hc _ 0 (by simp))
    have q1 := (al.1 (w.heap.size + 1 + 1 + 1) 1 (by omega)).trans (hc _ 1 (by simp))
    have g0 := (al.2 (w.heap.size + 1 + 1 + 1) 0 (by omega)).trans (hz _ 0 (by simp))
    have g1 := (al.2 (w.heap.size + 1 + 1 + 1) 1 (by omega)).trans (hz _ 1 (by simp))
    try simp at q0 q1 g0 g1
    clear al
    have HP := Kept.mk hx
    go_wp2
    exact bodyPost_ret (v := .tuple #[.agg #[.int .i64 (-1), .int .i64 (-1)], .slice (some ⟨W1.heap.size, 0, none⟩) 0 0, .bool false]) (by simp [results, Try.results59, go_sem, *]) rfl ⟨_, rfl, Own.setOther (Own.setOther (Own.empty (by omega) (Blk.new W1 #[] _) (Nat.zero_le _) rfl) _ (by simp [Value.ownBlock]; omega) _ _) _ (by simp [Value.ownBlock]; omega) _ _, Ext.setCell (Ext.setCell (Ext.alloc (((((Ext.refl w).alloc _).alloc _).alloc _).alloc _ |>.trans HP.out) _) (by show w.heap.size ≤ w.heap.size + 1 + 1 + 1; omega) _) (by show w.heap.size ≤ w.heap.size + 1 + 1 + 1; omega) _⟩
  · cases h2 : (rv u && rv v)
    · unfold MulPost
      have hk : okM x y u v a b c d e f = false := by simp [okM, h1, h2]
      rw [show mulF x y u v a b c d e f = -1 by simp [mulF, hk], show mulL x y u v a b c d e f = -1 by simp [mulL, hk], show mulO x y u v a b c d e f = [] by simp [mulO, hk], hk]
      clear hk
      have H1 := Kept.mk h1; clear h1
      have H2 := Kept.mk h2; clear h2
      go_enter Try.func59, Try.ntmps59
      go_wp2_with (first | (go_at_call 44; (with_reducible refine (spec_SharedValid x y true H1.out _).mono ?_); rintro e w1 ⟨rfl, hy⟩; (first | (replace hx := hx.trans hy; clear hc hz hy; obtain ⟨hc, hz⟩ := hx.cells) | (have hx := hy; clear hy; obtain ⟨hc, hz⟩ := hx.cells))) | (go_at_call 44; (with_reducible refine (spec_SharedValid u v false H2.out _).mono ?_); rintro e w1 ⟨rfl, hy⟩; (first | (replace hx := hx.trans hy; clear hc hz hy; obtain ⟨hc, hz⟩ := hx.cells) | (have hx := hy; clear hy; obtain ⟨hc, hz⟩ := hx.cells))))
      (with_reducible refine (spec_l6Bad _).mono ?_)
      rintro e W1 ⟨rfl, hy⟩
      replace hx := hx.trans hy
      clear hy hc hz
      obtain ⟨hc, hz⟩ := hx.cells
      have zz := hx.size
      simp at zz
      have al := ((Ext.refl W1).alloc (.cells #[] 3)).cells
      have q0 := (al.1 (w.heap.size + 1 + 1 + 1) 0 (by omega)).trans (hc _ 0 (by simp))
      have q1 := (al.1 (w.heap.size + 1 + 1 + 1) 1 (by omega)).trans (hc _ 1 (by simp))
      have g0 := (al.2 (w.heap.size + 1 + 1 + 1) 0 (by omega)).trans (hz _ 0 (by simp))
      have g1 := (al.2 (w.heap.size + 1 + 1 + 1) 1 (by omega)).trans (hz _ 1 (by simp))
      try simp at q0 q1 g0 g1
      clear al
      have HP := Kept.mk hx
      go_wp2
      exact bodyPost_ret (v := .tuple #[.agg #[.int .i64 (-1), .int .i64 (-1)], .slice (some ⟨W1.heap.size, 0, none⟩) 0 0, .bool false]) (by simp [results, Try.results59, go_sem, *]) rfl ⟨_, rfl, Own.setOther (Own.setOther (Own.empty (by omega) (Blk.new W1 #[] _) (Nat.zero_le _) rfl) _ (by simp [Value.ownBlock]; omega) _ _) _ (by simp [Value.ownBlock]; omega) _ _, Ext.setCell (Ext.setCell (Ext.alloc (((((Ext.refl w).alloc _).alloc _).alloc _).alloc _ |>.trans HP.out) _) (by show w.heap.size ≤ w.heap.size + 1 + 1 + 1; omega) _) (by show w.heap.size ≤ w.heap.size + 1 + 1 + 1; omega) _⟩
    · cases h3 : triR a b c d e f
      · unfold MulPost
        have hk : okM x y u v a b c d e f = false := by simp [okM, h1, h2, h3]
        rw [show mulF x y u v a b c d e f = -1 by simp [mulF, hk], show mulL x y u v a b c d e f = -1 by simp [mulL, hk], show mulO x y u v a b c d e f = [] by simp [mulO, hk], hk]
        clear hk
        have H3 := Kept.mk (fun w => (h3 ▸ spec_TripleRight a b c d e f w : Calls Try.prog 75 #[.agg #[.int .i64 a, .int .i64 b, .int .i64 c, .int .i64 d, .int .i64 e, .int .i64 f]] w fun e' w' => e' = .returned (.bool false) ∧ Ext w w'))
        have H1 := Kept.mk h1; clear h1
        have H2 := Kept.mk h2; clear h2
        clear h3
        go_enter Try.func59, Try.ntmps59
        go_wp2_with (first | (go_at_call 44; (with_reducible refine (spec_SharedValid x y true H1.out _).mono ?_); rintro e w1 ⟨rfl, hy⟩; (first | (replace hx := hx.trans hy; clear hc hz hy; obtain ⟨hc, hz⟩ := hx.cells) | (have hx := hy; clear hy; obtain ⟨hc, hz⟩ := hx.cells))) | (go_at_call 44; (with_reducible refine (spec_SharedValid u v true H2.out _).mono ?_); rintro e w1 ⟨rfl, hy⟩; (first | (replace hx := hx.trans hy; clear hc hz hy; obtain ⟨hc, hz⟩ := hx.cells) | (have hx := hy; clear hy; obtain ⟨hc, hz⟩ := hx.cells))) | (go_at_call 75; (with_reducible refine (H3.out _).mono ?_); rintro e w1 ⟨rfl, hy⟩; (first | (replace hx := hx.trans hy; clear hc hz hy; obtain ⟨hc, hz⟩ := hx.cells) | (have hx := hy; clear hy; obtain ⟨hc, hz⟩ := hx.cells))))
        (with_reducible refine (spec_l6Bad _).mono ?_)
        rintro e W1 ⟨rfl, hy⟩
        replace hx := hx.trans hy
        clear hy hc hz
        obtain ⟨hc, hz⟩ := hx.cells
        have zz := hx.size
        simp at zz
        have al := ((Ext.refl W1).alloc (.cells #[] 3)).cells
        have q0 := (al.1 (w.heap.size + 1 + 1 + 1) 0 (by omega)).trans (hc _ 0 (by simp))
        have q1 := (al.1 (w.heap.size + 1 + 1 + 1) 1 (by omega)).trans (hc _ 1 (by simp))
        have g0 := (al.2 (w.heap.size + 1 + 1 + 1) 0 (by omega)).trans (hz _ 0 (by simp))
        have g1 := (al.2 (w.heap.size + 1 + 1 + 1) 1 (by omega)).trans (hz _ 1 (by simp))
        try simp at q0 q1 g0 g1
        clear al
        have HP := Kept.mk hx
        go_wp2
        exact bodyPost_ret (v := .tuple #[.agg #[.int .i64 (-1), .int .i64 (-1)], .slice (some ⟨W1.heap.size, 0, none⟩) 0 0, .bool false]) (by simp [results, Try.results59, go_sem, *]) rfl ⟨_, rfl, Own.setOther (Own.setOther (Own.empty (by omega) (Blk.new W1 #[] _) (Nat.zero_le _) rfl) _ (by simp [Value.ownBlock]; omega) _ _) _ (by simp [Value.ownBlock]; omega) _ _, Ext.setCell (Ext.setCell (Ext.alloc (((((Ext.refl w).alloc _).alloc _).alloc _).alloc _ |>.trans HP.out) _) (by show w.heap.size ≤ w.heap.size + 1 + 1 + 1; omega) _) (by show w.heap.size ≤ w.heap.size + 1 + 1 + 1; omega) _⟩
      · unfold MulPost
        have H3 := Kept.mk (fun w => (h3 ▸ spec_TripleRight a b c d e f w : Calls Try.prog 75 #[.agg #[.int .i64 a, .int .i64 b, .int .i64 c, .int .i64 d, .int .i64 e, .int .i64 f]] w fun e' w' => e' = .returned (.bool true) ∧ Ext w w'))
        have hk : okM x y u v a b c d e f = true := by simp [okM, h1, h2, h3]
        obtain ⟨ha, hb, hc⟩ := triR_ok h3
        rw [show mulF x y u v a b c d e f = ring (e + opX x y a b * c + opX u v c d * a + opX x y a b * opX u v c d) by simp [mulF, hk], show mulL x y u v a b c d e f = ring (f + opX x y a b * d + opX u v c d * b) by simp [mulL, hk], show mulO x y u v a b c d e f = [opX x y a b, opX u v c d] by simp [mulO, hk], hk]
        clear hk
        have j1 := opX_join h1 ha
        have j2 := opX_join h2 hb
        have r1 := opX_rv h1 ha
        have r2 := opX_rv h2 hb
        generalize opX x y a b = D at *
        generalize opX u v c d = E at *
        simp only [Bool.and_eq_true] at ha hb hc
        obtain ⟨p0, q0⟩ := prod_bd (p := D) (q := c) r1 hb.1
        obtain ⟨p1, q1⟩ := prod_bd (p := E) (q := a) r2 ha.1
        obtain ⟨p2, q2⟩ := prod_bd (p := D) (q := E) r1 r2
        obtain ⟨p3, q3⟩ := prod_bd (p := D) (q := d) r1 hb.2
        obtain ⟨p4, q4⟩ := prod_bd (p := E) (q := b) r2 ha.2
        obtain ⟨⟨l0, u0⟩, l1, u1⟩ := And.intro (rv_iff.1 hc.1) (rv_iff.1 hc.2)
        clear ha hb hc r1 r2
        have BD := Kept.mk (And.intro (And.intro p0 q0) (And.intro (And.intro p1 q1) (And.intro (And.intro p2 q2) (And.intro (And.intro p3 q3) (And.intro (And.intro p4 q4) (And.intro (And.intro l0 u0) (And.intro l1 u1)))))))
        clear p0 q0 p1 q1 p2 q2 p3 q3 p4 q4 l0 u0 l1 u1
        have H1 := Kept.mk h1; clear h1
        have H2 := Kept.mk h2; clear h2
        clear h3
        go_enter Try.func59, Try.ntmps59
        go_wp2_with (first | (go_at_call 44; (with_reducible refine (spec_SharedValid x y true H1.out _).mono ?_); rintro e w1 ⟨rfl, hy⟩; (first | (replace hx := hx.trans hy; clear hc hz hy; obtain ⟨hc, hz⟩ := hx.cells) | (have hx := hy; clear hy; obtain ⟨hc, hz⟩ := hx.cells))) | (go_at_call 44; (with_reducible refine (spec_SharedValid u v true H2.out _).mono ?_); rintro e w1 ⟨rfl, hy⟩; (first | (replace hx := hx.trans hy; clear hc hz hy; obtain ⟨hc, hz⟩ := hx.cells) | (have hx := hy; clear hy; obtain ⟨hc, hz⟩ := hx.cells))) | (go_at_call 75; (with_reducible refine (H3.out _).mono ?_); rintro e w1 ⟨rfl, hy⟩; (first | (replace hx := hx.trans hy; clear hc hz hy; obtain ⟨hc, hz⟩ := hx.cells) | (have hx := hy; clear hy; obtain ⟨hc, hz⟩ := hx.cells))) | (go_at_call 48; (with_reducible refine (spec_SubShares _ _ _ _ _).mono ?_); rintro e w1 ⟨rfl, hy⟩; (first | (replace hx := hx.trans hy; clear hc hz hy; obtain ⟨hc, hz⟩ := hx.cells) | (have hx := hy; clear hy; obtain ⟨hc, hz⟩ := hx.cells))) | (go_at_call 39; (with_reducible refine (spec_JoinShares _ _ _).mono ?_); rintro e w1 ⟨rfl, hy⟩; (first | (replace hx := hx.trans hy; clear hc hz hy; obtain ⟨hc, hz⟩ := hx.cells) | (have hx := hy; clear hy; obtain ⟨hc, hz⟩ := hx.cells))))
        (try rw [j1])
        (try rw [j2])
        clear j1 j2
        obtain ⟨⟨p0, q0⟩, ⟨p1, q1⟩, ⟨p2, q2⟩, ⟨p3, q3⟩, ⟨p4, q4⟩, ⟨l0, u0⟩, l1, u1⟩ := BD.out
        clear BD H1 H2 H3
        apply wp_region_zip [isv _, isv _, isv _, isv _, isv _, isv _, isv _, isv _, isv _, isv _, isv _, isv _, isv _, isv _, isv _, isv _, isv _, isv _, isv _, isv _, isv _, isv _, isv _, isv _, isv _, isv _, isv _, isv _, isv _, isv _, isv _, isv _, isv _, isv _, isv _, isv _, isv _, newb _ 27] _ (by kernel_rfl)
        case hA => intro V; simp [putAll, dstOf, Act.put]; exact rfl
        case hsl => intro V; exact rfl
        case step =>
          intro V lo up w' hr
          have hxr := hx.trans hr
          obtain ⟨hcr, hzr⟩ := hxr.cells
          simp only [zipOk, depsImp, isv, newb, waits, Region.binds, List.map_nil, List.nil_append, List.filterMap_cons, List.filterMap_nil, ↓reduceIte, true_implies, List.getD_cons_zero, List.getD_cons_succ, and_true]
          refine ⟨?_, ?_, ?_, ?_, ?_, ?_, ?_, ?_, ?_, ?_, ?_, ?_, ?_, ?_, ?_, ?_, ?_, ?_, ?_, ?_, ?_, ?_, ?_, ?_, ?_, ?_, ?_, ?_, ?_, ?_, ?_, ?_, ?_, ?_, ?_, ?_, ?_, ?_⟩
          all_goals
            intros
            go_wp2_with (go_at_call 40; (with_reducible refine (spec_l1Ring _ _).mono ?_); rintro e w1 ⟨rfl, rfl⟩)
            refine stepQ_mk rfl (by simp only [List.getElem?_toArray, List.getElem?_cons_succ, List.getElem?_cons_zero]; exact rfl) ?_
            first | exact ⟨hy, rfl⟩ | exact ⟨Ext.refl _, rfl⟩ | exact ⟨Ext.refl _, by assumption⟩ | exact ⟨(Ext.refl _).alloc _, rfl, by simp, Blk.new _ _ _⟩
        case hB => kernel_rfl
        case fin =>
          intro V lo up w' hr hf ha
          simp only [factsOk, isv, newb, List.map_nil, and_true, Nat.zero_add, Nat.reduceAdd] at hf
          simp only [List.length_cons, List.length_nil, Nat.zero_add, Nat.reduceAdd, List.drop_succ_cons, List.drop_zero]
          obtain ⟨⟨-, -, -, e0⟩, ⟨-, -, -, e1⟩, ⟨-, -, -, e2⟩, ⟨-, -, -, e3⟩, ⟨-, -, -, e4⟩, ⟨-, -, -, e5⟩, ⟨-, -, -, e6⟩, ⟨-, -, -, e7⟩, ⟨-, -, -, e8⟩, ⟨-, -, -, e9⟩, ⟨-, -, -, e10⟩, ⟨-, -, -, e11⟩, ⟨-, -, -, e12⟩, ⟨-, -, -, e13⟩, ⟨-, -, -, e14⟩, ⟨-, -, -, e15⟩, ⟨-, -, -, e16⟩, ⟨-, -, -, e17⟩, ⟨-, -, -, e18⟩, ⟨-, -, -, e19⟩, ⟨-, -, -, e20⟩, ⟨-, -, -, e21⟩, ⟨-, -, -, e22⟩, ⟨-, -, -, e23⟩, ⟨-, -, -, e24⟩, ⟨-, -, -, e25⟩, ⟨-, -, -, e26⟩, ⟨-, -, -, e27⟩, ⟨-, -, -, e28⟩, ⟨-, -, -, e29⟩, ⟨-, -, -, e30⟩, ⟨-, -, -, e31⟩, ⟨-, -, -, e32⟩, ⟨-, -, -, e33⟩, ⟨-, -, -, e34⟩, ⟨-, -, -, e35⟩, ⟨-, -, -, e36⟩, ⟨lm37, -, -, e37, -, km37⟩⟩ := hf
          rw [e0, e1, e2, e3, e4, e5, e6, e7, e8, e9, e10, e11, e12, e13, e14, e15, e16, e17, e18, e19, e20, e21, e22, e23, e24, e25, e26, e27, e28, e29, e30, e31, e32, e33, e34, e35, e36, e37]
          clear e0 e1 e2 e3 e4 e5 e6 e7 e8 e9 e10 e11 e12 e13 e14 e15 e16 e17 e18 e19 e20 e21 e22 e23 e24 e25 e26 e27 e28 e29 e30 e31 e32 e33 e34 e35 e36 e37
          generalize lo 37 = bm37 at *
          clear ha V lo up
          have hs0 := hx.size
          replace hx := hx.trans hr
          clear hr
          try clear hc hz
          obtain ⟨hc, hz⟩ := hx.cells
          refine wpList_store_blk rfl rfl 27 (.tmp 11) (.tmp 73) rfl bm37 _ rfl rfl 27 _ km37 (by kernel_rfl) rfl (by simp [Value.oneCell']) hx (by omega) ?_
          rintro W1 hy km37' hoth hsz
          clear km37
          have km37 := km37'
          clear km37' hoth hx
          have hx := hy
          clear hy
          clear hc hz
          obtain ⟨hc, hz⟩ := hx.cells
          obtain ⟨cm0, cm1⟩ := km37.two
          have HP := Kept.mk hx
          have zz := hx.size
          simp at zz
          have al := ((Ext.refl W1).alloc (.cells #[.int .i64 D, .int .i64 E] 3)).cells
          have q0 := (al.1 (w.heap.size + 1 + 1 + 1) 0 (by omega)).trans (hc _ 0 (by simp))
          have q1 := (al.1 (w.heap.size + 1 + 1 + 1) 1 (by omega)).trans (hc _ 1 (by simp))
          have g0 := (al.2 (w.heap.size + 1 + 1 + 1) 0 (by omega)).trans (hz _ 0 (by simp))
          have g1 := (al.2 (w.heap.size + 1 + 1 + 1) 1 (by omega)).trans (hz _ 1 (by simp))
          try simp at q0 q1 g0 g1
          clear al
          go_wp2
          exact bodyPost_ret (v := .tuple #[.agg #[.int .i64 (ring (e + D * c + E * a + D * E)), .int .i64 (ring (f + D * d + E * b))], .slice (some ⟨W1.heap.size, 0, none⟩) 2 2, .bool true]) (by simp [results, Try.results59, go_sem, *]) rfl ⟨_, rfl, Own.setOther (Own.setOther (Own.two D E (by omega) (Blk.new W1 _ _)) _ (by simp [Value.ownBlock]; omega) _ _) _ (by simp [Value.ownBlock]; omega) _ _, Ext.setCell (Ext.setCell (Ext.alloc (((((Ext.refl w).alloc _).alloc _).alloc _).alloc _ |>.trans HP.out) _) (by show w.heap.size ≤ w.heap.size + 1 + 1 + 1; omega) _) (by show w.heap.size ≤ w.heap.size + 1 + 1 + 1; omega) _⟩
end Go.Proofs.Ytbkallacblkmpaa
