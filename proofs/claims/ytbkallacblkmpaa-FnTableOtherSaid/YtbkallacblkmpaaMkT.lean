/- The program's MakeTriple; the law's own comparison of triples; the seed that is drawn for it. -/
import Derived.Test.YtbkallacblkmpaaRList
import Derived.Test.YtbkallacblkmpaaDraw5
namespace Go.Proofs.Ytbkallacblkmpaa
set_option linter.unusedSimpArgs false
set_option linter.unusedVariables false
open Go.RowKit

set_option maxHeartbeats 4000000 in
set_option maxRecDepth 4000 in
theorem impl_MakeTriple (s : Int) (w : World) : Calls Try.prog 61 #[.int .i64 s] w fun e w' => e = .returned (.tuple #[.agg #[.int .i64 (tA s), .int .i64 (tB s), .int .i64 (tC s), .int .i64 (tD s), .int .i64 (tE s), .int .i64 (tF s)], .int .i64 (tN s)]) ∧ Ext w w' := by
  cases hk : seedOk s
  · rw [show tA s = 0 by simp [tA, hk], show tB s = 0 by simp [tB, hk], show tC s = 0 by simp [tC, hk], show tD s = 0 by simp [tD, hk], show tE s = 0 by simp [tE, hk], show tF s = 0 by simp [tF, hk], show tN s = 0 by simp [tN, hk]]
    have HK := Kept.mk (show (decide (1 ≤ s) && decide (s ≤ 2147483646)) = false from hk); clear hk
    go_enter Try.func61, Try.ntmps61
    go_wp2_with (go_at_call 32; (with_reducible refine (impl_seedValid s false HK.out _).mono ?_); rintro e w1 ⟨rfl, rfl⟩)
    exact bodyPost_ret (v := .tuple #[.agg #[.int .i64 0, .int .i64 0, .int .i64 0, .int .i64 0, .int .i64 0, .int .i64 0], .int .i64 0]) (by first | (simp [results, Try.results61, go_sem]; done) | (simp [results, Try.results61, go_sem, *]; done)) rfl ⟨rfl, (by (repeat (first | refine Ext.setCell ?_ (by first | (simp; done) | (simp; omega) | omega) _ | refine Ext.alloc ?_ _ | refine Ext.drew ?_ | refine Ext.setRow ?_ (by omega) _)); first | exact Ext.refl _ | exact hx | (refine Ext.trans ?_ hx; (repeat (refine Ext.alloc ?_ _)); exact Ext.refl _))⟩
  · rw [show tA s = rnd s 0 by simp [tA, hk], show tB s = rnd s 1 by simp [tB, hk], show tC s = rnd s 2 by simp [tC, hk], show tD s = rnd s 3 by simp [tD, hk], show tE s = splF (prodT (rnd s 0) (rnd s 1) (rnd s 2) (rnd s 3)) (rnd s 4) by simp [tE, hk, prodT], show tF s = splL (prodT (rnd s 0) (rnd s 1) (rnd s 2) (rnd s 3)) (rnd s 4) by simp [tF, hk, prodT], show tN s = strm s 5 by simp [tN, hk]]
    have HS := Kept.mk (seed_of hk)
    have HK := Kept.mk (show (decide (1 ≤ s) && decide (s ≤ 2147483646)) = true from hk); clear hk
    have L5 : Kept (∀ w, Calls Try.prog 33 #[.int .i64 s, .int .i64 5] w (ListPost s 5 w)) := Kept.mk (fun w => impl_RandomList s 5 HS.out (by decide) w)
    go_enter Try.func61, Try.ntmps61
    go_wp2_with (go_at_call 32; (with_reducible refine (impl_seedValid s true HK.out _).mono ?_); rintro e w1 ⟨rfl, rfl⟩)
    (with_reducible refine (L5.out _).mono ?_)
    rintro e w1 ⟨v, rfl, o, hx⟩
    obtain ⟨g, cap, rfl, hg, R⟩ := o.row (by omega)
    clear o
    obtain ⟨hc, hz⟩ := hx.cells
    go_wp2
    apply wp_region_zip [isv _, isv _, isv _, isv _, isv _, isv _, isv _, isv _, isv _, isv _, isv _, isv _, isv _, isv _, isv _, newb _ 67] _ (by kernel_rfl)
    case hA => intro V; simp [putAll, dstOf, Act.put]; exact rfl
    case hsl => intro V; exact rfl
    case step =>
      intro V lo up w' hr
      have hxr := hx.trans hr
      obtain ⟨hcr, hzr⟩ := hxr.cells
      have R := R.keep hr
      obtain ⟨r0, r1, r2, r3, r4⟩ := R.five
      simp only [zipOk, depsImp, isv, newb, waits, Region.binds, List.map_nil, List.nil_append, List.filterMap_cons, List.filterMap_nil, ↓reduceIte, true_implies, List.getD_cons_zero, List.getD_cons_succ, and_true]
      refine ⟨?_, ?_, ?_, ?_, ?_, ?_, ?_, ?_, ?_, ?_, ?_, ?_, ?_, ?_, ?_, ?_⟩
      all_goals
        intros
        go_wp2
        refine stepQ_mk rfl (by simp only [List.getElem?_toArray, List.getElem?_cons_succ, List.getElem?_cons_zero]; exact rfl) ?_
        first | exact ⟨hy, rfl⟩ | exact ⟨Ext.refl _, rfl⟩ | exact ⟨Ext.refl _, by assumption⟩ | exact ⟨(Ext.refl _).alloc _, rfl, by simp, Blk.new _ _ _⟩
    case hB => kernel_rfl
    case fin =>
      intro V lo up w' hr hf ha
      simp only [factsOk, isv, newb, List.map_nil, and_true, Nat.zero_add, Nat.reduceAdd] at hf
      simp only [List.length_cons, List.length_nil, Nat.zero_add, Nat.reduceAdd, List.drop_succ_cons, List.drop_zero]
      obtain ⟨⟨-, -, -, e0⟩, ⟨-, -, -, e1⟩, ⟨-, -, -, e2⟩, ⟨-, -, -, e3⟩, ⟨-, -, -, e4⟩, ⟨-, -, -, e5⟩, ⟨-, -, -, e6⟩, ⟨-, -, -, e7⟩, ⟨-, -, -, e8⟩, ⟨-, -, -, e9⟩, ⟨-, -, -, e10⟩, ⟨-, -, -, e11⟩, ⟨-, -, -, e12⟩, ⟨-, -, -, e13⟩, ⟨-, -, -, e14⟩, ⟨lp15, -, -, e15, -, kp15⟩⟩ := hf
      rw [e0, e1, e2, e3, e4, e5, e6, e7, e8, e9, e10, e11, e12, e13, e14, e15]
      clear e0 e1 e2 e3 e4 e5 e6 e7 e8 e9 e10 e11 e12 e13 e14 e15
      generalize lo 15 = bp15 at *
      clear ha V lo up
      have hs0 := hx.size
      replace hx := hx.trans hr
      have tR := R.lt
      replace R := R.keep hr
      clear hr
      try clear hc hz
      obtain ⟨hc, hz⟩ := hx.cells
      have neR : g ≠ bp15 := by omega
      refine wpList_store_blk rfl rfl 67 (.tmp 6) (.tmp 30) rfl bp15 _ rfl rfl 67 _ kp15 (by kernel_rfl) rfl (by simp [Value.oneCell']) hx (by omega) ?_
      rintro W1 hy kp15' hoth hsz
      replace R : Row g (rnd s) 5 W1 := ⟨by have := R.lt; omega, fun i hi => by rw [World.cell?_of_block (a := ⟨g, i, none⟩) (hoth g neR)]; exact R.2 i hi⟩
      clear kp15
      have kp15 := kp15'
      clear kp15' hoth hx
      have hx := hy
      clear hy
      clear hc hz
      obtain ⟨hc, hz⟩ := hx.cells
      go_wp2
      apply wp_region_zip [isv _, isv _, isv _, isv _, isv _, isv _, isv _] _ (by kernel_rfl)
      case hA => intro V; simp [putAll, dstOf, Act.put]; exact rfl
      case hsl => intro V; exact rfl
      case step =>
        intro V lo up w' hr
        have hxr := hx.trans hr
        obtain ⟨hcr, hzr⟩ := hxr.cells
        have R := R.keep hr
        have kp15 := kp15.keep hr
        obtain ⟨r0, r1, r2, r3, r4⟩ := R.five
        obtain ⟨k0, k1, k2, k3, k4, k5⟩ := kp15.six
        have kl := kp15.lt
        simp only [zipOk, depsImp, isv, waits, Region.binds, List.map_nil, List.nil_append, List.filterMap_cons, List.filterMap_nil, ↓reduceIte, true_implies, List.getD_cons_zero, List.getD_cons_succ, and_true]
        refine ⟨?_, ?_, ?_, ?_, ?_, ?_, ?_⟩
        all_goals
          intros
          go_wp2_with (first | (go_at_call 77; (with_reducible refine (impl_product _ _ _ _ _ _ _).mono ?_); rintro e w1 ⟨rfl, hy⟩) | (go_at_call 76; (with_reducible refine (impl_SplitNumber _ _ _).mono ?_); rintro e w1 ⟨rfl, hy⟩))
          refine stepQ_mk rfl (by simp only [List.getElem?_toArray, List.getElem?_cons_succ, List.getElem?_cons_zero]; exact rfl) ?_
          first | exact ⟨hy, rfl⟩ | exact ⟨Ext.refl _, rfl⟩ | exact ⟨Ext.refl _, by assumption⟩ | exact ⟨(Ext.refl _).alloc _, rfl, by simp, Blk.new _ _ _⟩
      case hB => kernel_rfl
      case fin =>
        intro V lo up w' hr hf ha
        simp only [factsOk, isv, List.map_nil, and_true, Nat.zero_add, Nat.reduceAdd] at hf
        simp only [List.length_cons, List.length_nil, Nat.zero_add, Nat.reduceAdd, List.drop_succ_cons, List.drop_zero]
        obtain ⟨⟨-, -, -, e0⟩, ⟨-, -, -, e1⟩, ⟨-, -, -, e2⟩, ⟨-, -, -, e3⟩, ⟨-, -, -, e4⟩, ⟨-, -, -, e5⟩, ⟨-, -, -, e6⟩⟩ := hf
        rw [e0, e1, e2, e3, e4, e5, e6]
        clear e0 e1 e2 e3 e4 e5 e6
        clear ha V lo up
        have hs0 := hx.size
        replace hx := hx.trans hr
        have tR := R.lt
        replace R := R.keep hr
        have tkp15 := kp15.lt
        replace kp15 := kp15.keep hr
        clear hr
        try clear hc hz
        obtain ⟨hc, hz⟩ := hx.cells
        obtain ⟨k0, k1, k2, k3, k4, k5⟩ := kp15.six
        have kl := kp15.lt
        have kf4 := kp15.free 4
        have kf5 := kp15.free 5
        have zz := hx.size
        (try simp at zz)
        simp only [World.size_alloc] at hg hs0
        have n1 : w.heap.size ≠ bp15 := by omega
        have n2 : bp15 ≠ w.heap.size := by omega
        have n3 : w.heap.size ≤ bp15 := by omega
        have c0 := hc w.heap.size 0 (by simp)
        have c1 := hc w.heap.size 1 (by simp)
        have c2 := hc w.heap.size 2 (by simp)
        have c3 := hc w.heap.size 3 (by simp)
        have c4 := hc w.heap.size 4 (by simp)
        have c5 := hc w.heap.size 5 (by simp)
        have f0 := hz w.heap.size 0 (by simp)
        have f1 := hz w.heap.size 1 (by simp)
        have f2 := hz w.heap.size 2 (by simp)
        have f3 := hz w.heap.size 3 (by simp)
        have f4 := hz w.heap.size 4 (by simp)
        have f5 := hz w.heap.size 5 (by simp)
        simp at c0 c1 c2 c3 c4 c5 f0 f1 f2 f3 f4 f5
        have HX := Kept.mk hx
        clear hx hc hz R kp15 tkp15 tR hs0 hsz lp15 neR hg L5 HS
        generalize hE : splF (prodT (rnd s 0) (rnd s 1) (rnd s 2) (rnd s 3)) (rnd s 4) = E at *
        have HE := Kept.mk hE; clear hE
        generalize hF : splL (prodT (rnd s 0) (rnd s 1) (rnd s 2) (rnd s 3)) (rnd s 4) = E' at *
        have HF := Kept.mk hF; clear hF
        generalize h0 : rnd s 0 = r0 at *
        have H0 := Kept.mk h0; clear h0
        generalize h1 : rnd s 1 = r1 at *
        have H1 := Kept.mk h1; clear h1
        generalize h2 : rnd s 2 = r2 at *
        have H2 := Kept.mk h2; clear h2
        generalize h3 : rnd s 3 = r3 at *
        have H3 := Kept.mk h3; clear h3
        go_wp2
        obtain rfl := HE.out
        obtain rfl := HF.out
        obtain rfl := H0.out
        obtain rfl := H1.out
        obtain rfl := H2.out
        obtain rfl := H3.out
        have hx := HX.out
        exact bodyPost_ret (v := .tuple #[.agg #[.int .i64 (rnd s 0), .int .i64 (rnd s 1), .int .i64 (rnd s 2), .int .i64 (rnd s 3), .int .i64 (splF (prodT (rnd s 0) (rnd s 1) (rnd s 2) (rnd s 3)) (rnd s 4)), .int .i64 (splL (prodT (rnd s 0) (rnd s 1) (rnd s 2) (rnd s 3)) (rnd s 4))], .int .i64 (strm s 5)]) (by simp [results, Try.results61, go_sem, *]) rfl ⟨rfl, (by (repeat (first | refine Ext.setCell ?_ (by first | (simp; done) | (simp; omega) | omega) _ | refine Ext.alloc ?_ _ | refine Ext.drew ?_ | refine Ext.setRow ?_ (by omega) _)); first | exact Ext.refl _ | exact hx | (refine Ext.trans ?_ hx; (repeat (refine Ext.alloc ?_ _)); exact Ext.refl _))⟩
end Go.Proofs.Ytbkallacblkmpaa
