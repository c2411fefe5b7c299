/- The laws' own functions on triples of shared matrices: their size, a copy. -/
import Derived.Test.YtkkdikoknegpjaaKF
import Derived.Test.YtkkdikoknegpjaaKW
import Derived.Test.YtkkdikoknegpjaaKT
namespace Go.Proofs.Ytkkdikoknegpjaa
set_option linter.unusedSimpArgs false
set_option linter.unusedVariables false
open Go.RowKit
def TrGrp (r0 c0 r1 c1 r2 c2 r3 c3 r4 c4 r5 c5 : Int) (x0 x1 x2 x3 x4 x5 : List Int) (w : World) (e : Ending) (w' : World) : Prop :=
  ∃ v0 v1 v2 v3 v4 v5, e = .returned (.agg #[.int .i64 r0, .int .i64 c0, v0, .int .i64 r1, .int .i64 c1, v1, .int .i64 r2, .int .i64 c2, v2, .int .i64 r3, .int .i64 c3, v3, .int .i64 r4, .int .i64 c4, v4, .int .i64 r5, .int .i64 c5, v5]) ∧ Grp w.heap.size w' [v0, v1, v2, v3, v4, v5] [x0, x1, x2, x3, x4, x5] ∧ Ext w w'
theorem St.start6 (w : World) : St none w w [] [] [] := St.start w

set_option maxHeartbeats 2000000 in
set_option maxRecDepth 4000 in
theorem laws_szMatrixTriple (r0 c0 r1 c1 r2 c2 r3 c3 r4 c4 r5 c5 : Int) (v0 v1 v2 v3 v4 v5 : Value) (x0 x1 x2 x3 x4 x5 : List Int) (left : Int) (w : World) (h0 : Ints w v0 x0) (h1 : Ints w v1 x1) (h2 : Ints w v2 x2) (h3 : Ints w v3 x3) (h4 : Ints w v4 x4) (h5 : Ints w v5 x5) (l0 : 0 ≤ left) (l1 : left ≤ 1048576) : Calls Try.prog 11 #[.agg #[.int .i64 r0, .int .i64 c0, v0, .int .i64 r1, .int .i64 c1, v1, .int .i64 r2, .int .i64 c2, v2, .int .i64 r3, .int .i64 c3, v3, .int .i64 r4, .int .i64 c4, v4, .int .i64 r5, .int .i64 c5, v5], .int .i64 left] w fun e w' => e = .returned (.int .i64 (leftL left (x0.length + x1.length + x2.length + x3.length + x4.length + x5.length))) ∧ Ext w w' := by
  obtain ⟨s0, n0, rfl, hm9, hc9⟩ := id h0
  clear hm9 hc9
  have H0 := Kept.mk h0
  clear h0
  obtain ⟨s1, n1, rfl, hm9, hc9⟩ := id h1
  clear hm9 hc9
  have H1 := Kept.mk h1
  clear h1
  obtain ⟨s2, n2, rfl, hm9, hc9⟩ := id h2
  clear hm9 hc9
  have H2 := Kept.mk h2
  clear h2
  obtain ⟨s3, n3, rfl, hm9, hc9⟩ := id h3
  clear hm9 hc9
  have H3 := Kept.mk h3
  clear h3
  obtain ⟨s4, n4, rfl, hm9, hc9⟩ := id h4
  clear hm9 hc9
  have H4 := Kept.mk h4
  clear h4
  obtain ⟨s5, n5, rfl, hm9, hc9⟩ := id h5
  clear hm9 hc9
  have H5 := Kept.mk h5
  clear h5
  obtain ⟨T0, hT0⟩ : ∃ T : Nat, T = (x0.length + x1.length) := ⟨_, rfl⟩
  obtain ⟨T1, hT1⟩ : ∃ T : Nat, T = (x2.length + x3.length) := ⟨_, rfl⟩
  obtain ⟨T2, hT2⟩ : ∃ T : Nat, T = (x4.length + x5.length) := ⟨_, rfl⟩
  by_cases d0 : left - (T0 : Int) < 0
  · have Z0 : Kept (∀ w', Ext w w' → Calls Try.prog 10 #[.agg #[.int .i64 r0, .int .i64 c0, .slice s0 x0.length n0, .int .i64 r1, .int .i64 c1, .slice s1 x1.length n1], .int .i64 (left)] w' fun e w'' => e = .returned (.int .i64 (-1)) ∧ Ext w' w'') := by
      refine ⟨fun w' hx => ?_⟩
      have h := laws_szSharedMatrix r0 c0 r1 c1 _ _ x0 x1 (left) w' (H0.out.keep hx) (H1.out.keep hx) (by omega) (by omega)
      rw [show leftL (left) (x0.length + x1.length) = -1 by rw [← hT0]; unfold leftL; rw [if_pos d0]] at h
      exact h
    rw [show leftL left (x0.length + x1.length + x2.length + x3.length + x4.length + x5.length) = -1 by unfold leftL; rw [if_pos (by omega)]; try omega]
    clear hT0 hT1 hT2 d0
    have S := Kept.mk (St.start w)
    go_enter Try.func11, Try.ntmps11
    go_wp2_with (first | (refine ldlS S.out ?_) | (refine ldiT S.out ?_) | (refine ldlT S.out ?_) | (refine stiS S.out ?_; clear S; intro w9 S) | (refine stiT S.out ?_; clear S; intro w9 S) | (refine aliT S.out ?_; clear S; intro b9 w9 S) | (refine bxlT S.out ?_; clear S; intro b9 w9 S) | (refine wpList_want rfl rfl ?_; dsimp only) | fail)
    (with_reducible refine (Z0.out _ S.out.ext).mono ?_)
    rintro e u9 ⟨rfl, x9⟩
    replace S := Kept.mk (S.out.quiet x9)
    clear x9
    go_wp2_with (first | (refine ldlS S.out ?_) | (refine ldiT S.out ?_) | (refine ldlT S.out ?_) | (refine stiS S.out ?_; clear S; intro w9 S) | (refine stiT S.out ?_; clear S; intro w9 S) | (refine aliT S.out ?_; clear S; intro b9 w9 S) | (refine bxlT S.out ?_; clear S; intro b9 w9 S) | (refine wpList_want rfl rfl ?_; dsimp only) | fail)
    go_ret
    exact ⟨rfl, S.out.ext⟩
  · by_cases d1 : left - (T0 : Int) - (T1 : Int) < 0
    · have Z0 : Kept (∀ w', Ext w w' → Calls Try.prog 10 #[.agg #[.int .i64 r0, .int .i64 c0, .slice s0 x0.length n0, .int .i64 r1, .int .i64 c1, .slice s1 x1.length n1], .int .i64 (left)] w' fun e w'' => e = .returned (.int .i64 (left - (T0 : Nat))) ∧ Ext w' w'') := by
        refine ⟨fun w' hx => ?_⟩
        have h := laws_szSharedMatrix r0 c0 r1 c1 _ _ x0 x1 (left) w' (H0.out.keep hx) (H1.out.keep hx) (by omega) (by omega)
        rw [show leftL (left) (x0.length + x1.length) = left - (T0 : Nat) by rw [← hT0]; unfold leftL; rw [if_neg d0]] at h
        exact h
      have g0 : decide (left - (T0 : Nat) < 0) = false := by simpa using d0
      have Z1 : Kept (∀ w', Ext w w' → Calls Try.prog 10 #[.agg #[.int .i64 r2, .int .i64 c2, .slice s2 x2.length n2, .int .i64 r3, .int .i64 c3, .slice s3 x3.length n3], .int .i64 (left - (T0 : Nat))] w' fun e w'' => e = .returned (.int .i64 (-1)) ∧ Ext w' w'') := by
        refine ⟨fun w' hx => ?_⟩
        have h := laws_szSharedMatrix r2 c2 r3 c3 _ _ x2 x3 (left - (T0 : Nat)) w' (H2.out.keep hx) (H3.out.keep hx) (by omega) (by omega)
        rw [show leftL (left - (T0 : Nat)) (x2.length + x3.length) = -1 by rw [← hT1]; unfold leftL; rw [if_pos d1]] at h
        exact h
      rw [show leftL left (x0.length + x1.length + x2.length + x3.length + x4.length + x5.length) = -1 by unfold leftL; rw [if_pos (by omega)]; try omega]
      clear hT0 hT1 hT2 d0 d1
      have S := Kept.mk (St.start w)
      go_enter Try.func11, Try.ntmps11
      go_wp2_with (first | (refine ldlS S.out ?_) | (refine ldiT S.out ?_) | (refine ldlT S.out ?_) | (refine stiS S.out ?_; clear S; intro w9 S) | (refine stiT S.out ?_; clear S; intro w9 S) | (refine aliT S.out ?_; clear S; intro b9 w9 S) | (refine bxlT S.out ?_; clear S; intro b9 w9 S) | (refine wpList_want rfl rfl ?_; dsimp only) | fail)
      (with_reducible refine (Z0.out _ S.out.ext).mono ?_)
      rintro e u9 ⟨rfl, x9⟩
      replace S := Kept.mk (S.out.quiet x9)
      clear x9
      go_wp2_with (first | (refine ldlS S.out ?_) | (refine ldiT S.out ?_) | (refine ldlT S.out ?_) | (refine stiS S.out ?_; clear S; intro w9 S) | (refine stiT S.out ?_; clear S; intro w9 S) | (refine aliT S.out ?_; clear S; intro b9 w9 S) | (refine bxlT S.out ?_; clear S; intro b9 w9 S) | (refine wpList_want rfl rfl ?_; dsimp only) | fail)
      (with_reducible refine (Z1.out _ S.out.ext).mono ?_)
      rintro e u9 ⟨rfl, x9⟩
      replace S := Kept.mk (S.out.quiet x9)
      clear x9
      go_wp2_with (first | (refine ldlS S.out ?_) | (refine ldiT S.out ?_) | (refine ldlT S.out ?_) | (refine stiS S.out ?_; clear S; intro w9 S) | (refine stiT S.out ?_; clear S; intro w9 S) | (refine aliT S.out ?_; clear S; intro b9 w9 S) | (refine bxlT S.out ?_; clear S; intro b9 w9 S) | (refine wpList_want rfl rfl ?_; dsimp only) | fail)
      go_ret
      exact ⟨rfl, S.out.ext⟩
    · by_cases d2 : left - (T0 : Int) - (T1 : Int) - (T2 : Int) < 0
      · have Z0 : Kept (∀ w', Ext w w' → Calls Try.prog 10 #[.agg #[.int .i64 r0, .int .i64 c0, .slice s0 x0.length n0, .int .i64 r1, .int .i64 c1, .slice s1 x1.length n1], .int .i64 (left)] w' fun e w'' => e = .returned (.int .i64 (left - (T0 : Nat))) ∧ Ext w' w'') := by
          refine ⟨fun w' hx => ?_⟩
          have h := laws_szSharedMatrix r0 c0 r1 c1 _ _ x0 x1 (left) w' (H0.out.keep hx) (H1.out.keep hx) (by omega) (by omega)
          rw [show leftL (left) (x0.length + x1.length) = left - (T0 : Nat) by rw [← hT0]; unfold leftL; rw [if_neg d0]] at h
          exact h
        have g0 : decide (left - (T0 : Nat) < 0) = false := by simpa using d0
        have Z1 : Kept (∀ w', Ext w w' → Calls Try.prog 10 #[.agg #[.int .i64 r2, .int .i64 c2, .slice s2 x2.length n2, .int .i64 r3, .int .i64 c3, .slice s3 x3.length n3], .int .i64 (left - (T0 : Nat))] w' fun e w'' => e = .returned (.int .i64 (left - (T0 : Nat) - (T1 : Nat))) ∧ Ext w' w'') := by
          refine ⟨fun w' hx => ?_⟩
          have h := laws_szSharedMatrix r2 c2 r3 c3 _ _ x2 x3 (left - (T0 : Nat)) w' (H2.out.keep hx) (H3.out.keep hx) (by omega) (by omega)
          rw [show leftL (left - (T0 : Nat)) (x2.length + x3.length) = left - (T0 : Nat) - (T1 : Nat) by rw [← hT1]; unfold leftL; rw [if_neg d1]] at h
          exact h
        have g1 : decide (left - (T0 : Nat) - (T1 : Nat) < 0) = false := by simpa using d1
        have Z2 : Kept (∀ w', Ext w w' → Calls Try.prog 10 #[.agg #[.int .i64 r4, .int .i64 c4, .slice s4 x4.length n4, .int .i64 r5, .int .i64 c5, .slice s5 x5.length n5], .int .i64 (left - (T0 : Nat) - (T1 : Nat))] w' fun e w'' => e = .returned (.int .i64 (-1)) ∧ Ext w' w'') := by
          refine ⟨fun w' hx => ?_⟩
          have h := laws_szSharedMatrix r4 c4 r5 c5 _ _ x4 x5 (left - (T0 : Nat) - (T1 : Nat)) w' (H4.out.keep hx) (H5.out.keep hx) (by omega) (by omega)
          rw [show leftL (left - (T0 : Nat) - (T1 : Nat)) (x4.length + x5.length) = -1 by rw [← hT2]; unfold leftL; rw [if_pos d2]] at h
          exact h
        rw [show leftL left (x0.length + x1.length + x2.length + x3.length + x4.length + x5.length) = -1 by unfold leftL; rw [if_pos (by omega)]; try omega]
        clear hT0 hT1 hT2 d0 d1 d2
        have S := Kept.mk (St.start w)
        go_enter Try.func11, Try.ntmps11
        go_wp2_with (first | (refine ldlS S.out ?_) | (refine ldiT S.out ?_) | (refine ldlT S.out ?_) | (refine stiS S.out ?_; clear S; intro w9 S) | (refine stiT S.out ?_; clear S; intro w9 S) | (refine aliT S.out ?_; clear S; intro b9 w9 S) | (refine bxlT S.out ?_; clear S; intro b9 w9 S) | (refine wpList_want rfl rfl ?_; dsimp only) | fail)
        (with_reducible refine (Z0.out _ S.out.ext).mono ?_)
        rintro e u9 ⟨rfl, x9⟩
        replace S := Kept.mk (S.out.quiet x9)
        clear x9
        go_wp2_with (first | (refine ldlS S.out ?_) | (refine ldiT S.out ?_) | (refine ldlT S.out ?_) | (refine stiS S.out ?_; clear S; intro w9 S) | (refine stiT S.out ?_; clear S; intro w9 S) | (refine aliT S.out ?_; clear S; intro b9 w9 S) | (refine bxlT S.out ?_; clear S; intro b9 w9 S) | (refine wpList_want rfl rfl ?_; dsimp only) | fail)
        (with_reducible refine (Z1.out _ S.out.ext).mono ?_)
        rintro e u9 ⟨rfl, x9⟩
        replace S := Kept.mk (S.out.quiet x9)
        clear x9
        go_wp2_with (first | (refine ldlS S.out ?_) | (refine ldiT S.out ?_) | (refine ldlT S.out ?_) | (refine stiS S.out ?_; clear S; intro w9 S) | (refine stiT S.out ?_; clear S; intro w9 S) | (refine aliT S.out ?_; clear S; intro b9 w9 S) | (refine bxlT S.out ?_; clear S; intro b9 w9 S) | (refine wpList_want rfl rfl ?_; dsimp only) | fail)
        (with_reducible refine (Z2.out _ S.out.ext).mono ?_)
        rintro e u9 ⟨rfl, x9⟩
        replace S := Kept.mk (S.out.quiet x9)
        clear x9
        go_wp2_with (first | (refine ldlS S.out ?_) | (refine ldiT S.out ?_) | (refine ldlT S.out ?_) | (refine stiS S.out ?_; clear S; intro w9 S) | (refine stiT S.out ?_; clear S; intro w9 S) | (refine aliT S.out ?_; clear S; intro b9 w9 S) | (refine bxlT S.out ?_; clear S; intro b9 w9 S) | (refine wpList_want rfl rfl ?_; dsimp only) | fail)
        go_ret
        exact ⟨rfl, S.out.ext⟩
      · have Z0 : Kept (∀ w', Ext w w' → Calls Try.prog 10 #[.agg #[.int .i64 r0, .int .i64 c0, .slice s0 x0.length n0, .int .i64 r1, .int .i64 c1, .slice s1 x1.length n1], .int .i64 (left)] w' fun e w'' => e = .returned (.int .i64 (left - (T0 : Nat))) ∧ Ext w' w'') := by
          refine ⟨fun w' hx => ?_⟩
          have h := laws_szSharedMatrix r0 c0 r1 c1 _ _ x0 x1 (left) w' (H0.out.keep hx) (H1.out.keep hx) (by omega) (by omega)
          rw [show leftL (left) (x0.length + x1.length) = left - (T0 : Nat) by rw [← hT0]; unfold leftL; rw [if_neg d0]] at h
          exact h
        have g0 : decide (left - (T0 : Nat) < 0) = false := by simpa using d0
        have Z1 : Kept (∀ w', Ext w w' → Calls Try.prog 10 #[.agg #[.int .i64 r2, .int .i64 c2, .slice s2 x2.length n2, .int .i64 r3, .int .i64 c3, .slice s3 x3.length n3], .int .i64 (left - (T0 : Nat))] w' fun e w'' => e = .returned (.int .i64 (left - (T0 : Nat) - (T1 : Nat))) ∧ Ext w' w'') := by
          refine ⟨fun w' hx => ?_⟩
          have h := laws_szSharedMatrix r2 c2 r3 c3 _ _ x2 x3 (left - (T0 : Nat)) w' (H2.out.keep hx) (H3.out.keep hx) (by omega) (by omega)
          rw [show leftL (left - (T0 : Nat)) (x2.length + x3.length) = left - (T0 : Nat) - (T1 : Nat) by rw [← hT1]; unfold leftL; rw [if_neg d1]] at h
          exact h
        have g1 : decide (left - (T0 : Nat) - (T1 : Nat) < 0) = false := by simpa using d1
        have Z2 : Kept (∀ w', Ext w w' → Calls Try.prog 10 #[.agg #[.int .i64 r4, .int .i64 c4, .slice s4 x4.length n4, .int .i64 r5, .int .i64 c5, .slice s5 x5.length n5], .int .i64 (left - (T0 : Nat) - (T1 : Nat))] w' fun e w'' => e = .returned (.int .i64 (left - (T0 : Nat) - (T1 : Nat) - (T2 : Nat))) ∧ Ext w' w'') := by
          refine ⟨fun w' hx => ?_⟩
          have h := laws_szSharedMatrix r4 c4 r5 c5 _ _ x4 x5 (left - (T0 : Nat) - (T1 : Nat)) w' (H4.out.keep hx) (H5.out.keep hx) (by omega) (by omega)
          rw [show leftL (left - (T0 : Nat) - (T1 : Nat)) (x4.length + x5.length) = left - (T0 : Nat) - (T1 : Nat) - (T2 : Nat) by rw [← hT2]; unfold leftL; rw [if_neg d2]] at h
          exact h
        have g2 : decide (left - (T0 : Nat) - (T1 : Nat) - (T2 : Nat) < 0) = false := by simpa using d2
        rw [show leftL left (x0.length + x1.length + x2.length + x3.length + x4.length + x5.length) = left - (T0 : Nat) - (T1 : Nat) - (T2 : Nat) by unfold leftL; rw [if_neg (by omega)]; try omega]
        clear hT0 hT1 hT2 d0 d1 d2
        have S := Kept.mk (St.start w)
        go_enter Try.func11, Try.ntmps11
        go_wp2_with (first | (refine ldlS S.out ?_) | (refine ldiT S.out ?_) | (refine ldlT S.out ?_) | (refine stiS S.out ?_; clear S; intro w9 S) | (refine stiT S.out ?_; clear S; intro w9 S) | (refine aliT S.out ?_; clear S; intro b9 w9 S) | (refine bxlT S.out ?_; clear S; intro b9 w9 S) | (refine wpList_want rfl rfl ?_; dsimp only) | fail)
        (with_reducible refine (Z0.out _ S.out.ext).mono ?_)
        rintro e u9 ⟨rfl, x9⟩
        replace S := Kept.mk (S.out.quiet x9)
        clear x9
        go_wp2_with (first | (refine ldlS S.out ?_) | (refine ldiT S.out ?_) | (refine ldlT S.out ?_) | (refine stiS S.out ?_; clear S; intro w9 S) | (refine stiT S.out ?_; clear S; intro w9 S) | (refine aliT S.out ?_; clear S; intro b9 w9 S) | (refine bxlT S.out ?_; clear S; intro b9 w9 S) | (refine wpList_want rfl rfl ?_; dsimp only) | fail)
        (with_reducible refine (Z1.out _ S.out.ext).mono ?_)
        rintro e u9 ⟨rfl, x9⟩
        replace S := Kept.mk (S.out.quiet x9)
        clear x9
        go_wp2_with (first | (refine ldlS S.out ?_) | (refine ldiT S.out ?_) | (refine ldlT S.out ?_) | (refine stiS S.out ?_; clear S; intro w9 S) | (refine stiT S.out ?_; clear S; intro w9 S) | (refine aliT S.out ?_; clear S; intro b9 w9 S) | (refine bxlT S.out ?_; clear S; intro b9 w9 S) | (refine wpList_want rfl rfl ?_; dsimp only) | fail)
        (with_reducible refine (Z2.out _ S.out.ext).mono ?_)
        rintro e u9 ⟨rfl, x9⟩
        replace S := Kept.mk (S.out.quiet x9)
        clear x9
        go_wp2_with (first | (refine ldlS S.out ?_) | (refine ldiT S.out ?_) | (refine ldlT S.out ?_) | (refine stiS S.out ?_; clear S; intro w9 S) | (refine stiT S.out ?_; clear S; intro w9 S) | (refine aliT S.out ?_; clear S; intro b9 w9 S) | (refine bxlT S.out ?_; clear S; intro b9 w9 S) | (refine wpList_want rfl rfl ?_; dsimp only) | fail)
        go_ret
        exact ⟨rfl, S.out.ext⟩
theorem Grp.swap6 {B : Nat} {w : World} {v0 v1 v2 v3 v4 v5 : Value} {x0 x1 x2 x3 x4 x5 : List Int} (h : Grp B w [v4, v5, v2, v3, v0, v1] [x4, x5, x2, x3, x0, x1]) : Grp B w [v0, v1, v2, v3, v4, v5] [x0, x1, x2, x3, x4, x5] := by
  obtain ⟨⟨a4, a5, a2, a3, a0, a1, -⟩, ap⟩ := h
  simp only [List.pairwise_cons, List.mem_cons, List.not_mem_nil, or_false, forall_eq_or_imp, forall_eq, List.Pairwise.nil, and_true, false_imp_iff, implies_true] at ap
  obtain ⟨⟨b45, b42, b43, b40, b41⟩, ⟨b52, b53, b50, b51⟩, ⟨b23, b20, b21⟩, ⟨b30, b31⟩, b01⟩ := ap
  refine ⟨⟨a0, a1, a2, a3, a4, a5, trivial⟩, ?_⟩
  simp only [List.pairwise_cons, List.mem_cons, List.not_mem_nil, or_false, forall_eq_or_imp, forall_eq, List.Pairwise.nil, and_true, false_imp_iff, implies_true]
  exact ⟨⟨b01, b20.symm, b30.symm, b40.symm, b50.symm⟩, ⟨b21.symm, b31.symm, b41.symm, b51.symm⟩, ⟨b23, b42.symm, b52.symm⟩, ⟨b43.symm, b53.symm⟩, b45⟩
set_option maxHeartbeats 2000000 in
set_option maxRecDepth 4000 in
theorem laws_toMatrixTriple (r0 c0 r1 c1 r2 c2 r3 c3 r4 c4 r5 c5 : Int) (v0 v1 v2 v3 v4 v5 : Value) (x0 x1 x2 x3 x4 x5 : List Int) (w : World) (h0 : Ints w v0 x0) (h1 : Ints w v1 x1) (h2 : Ints w v2 x2) (h3 : Ints w v3 x3) (h4 : Ints w v4 x4) (h5 : Ints w v5 x5) (l0 : x0.length ≤ 1048576) (l1 : x1.length ≤ 1048576) (l2 : x2.length ≤ 1048576) (l3 : x3.length ≤ 1048576) (l4 : x4.length ≤ 1048576) (l5 : x5.length ≤ 1048576) : Calls Try.prog 14 #[.agg #[.int .i64 r0, .int .i64 c0, v0, .int .i64 r1, .int .i64 c1, v1, .int .i64 r2, .int .i64 c2, v2, .int .i64 r3, .int .i64 c3, v3, .int .i64 r4, .int .i64 c4, v4, .int .i64 r5, .int .i64 c5, v5]] w (TrGrp r0 c0 r1 c1 r2 c2 r3 c3 r4 c4 r5 c5 x0 x1 x2 x3 x4 x5 w) := by
  obtain ⟨s0, n0, rfl, hm9, hc9⟩ := id h0
  clear hm9 hc9
  have H0 := Kept.mk h0
  clear h0
  obtain ⟨s1, n1, rfl, hm9, hc9⟩ := id h1
  clear hm9 hc9
  have H1 := Kept.mk h1
  clear h1
  obtain ⟨s2, n2, rfl, hm9, hc9⟩ := id h2
  clear hm9 hc9
  have H2 := Kept.mk h2
  clear h2
  obtain ⟨s3, n3, rfl, hm9, hc9⟩ := id h3
  clear hm9 hc9
  have H3 := Kept.mk h3
  clear h3
  obtain ⟨s4, n4, rfl, hm9, hc9⟩ := id h4
  clear hm9 hc9
  have H4 := Kept.mk h4
  clear h4
  obtain ⟨s5, n5, rfl, hm9, hc9⟩ := id h5
  clear hm9 hc9
  have H5 := Kept.mk h5
  clear h5
  have O0 := Kept.mk (fun (w' : World) (hx : Ext w w') => laws_toSharedMatrix r0 c0 r1 c1 _ _ x0 x1 w' (H0.out.keep hx) (H1.out.keep hx) l0 l1)
  have O1 := Kept.mk (fun (w' : World) (hx : Ext w w') => laws_toSharedMatrix r2 c2 r3 c3 _ _ x2 x3 w' (H2.out.keep hx) (H3.out.keep hx) l2 l3)
  have O2 := Kept.mk (fun (w' : World) (hx : Ext w w') => laws_toSharedMatrix r4 c4 r5 c5 _ _ x4 x5 w' (H4.out.keep hx) (H5.out.keep hx) l4 l5)
  have S := Kept.mk (St.start w)
  go_enter Try.func14, Try.ntmps14
  go_wp2_with (first | (refine ldlS S.out ?_) | (refine ldiT S.out ?_) | (refine ldlT S.out ?_) | (refine stiS S.out ?_; clear S; intro w9 S) | (refine stiT S.out ?_; clear S; intro w9 S) | (refine aliT S.out ?_; clear S; intro b9 w9 S) | (refine bxlT S.out ?_; clear S; intro b9 w9 S) | (refine wpList_want rfl rfl ?_; dsimp only) | fail)
  have o := fun w' hx => (O0.out w' hx).mono fun e w'' h => ShPost.grp (m := ⟨⟨r0, c0, x0⟩, ⟨r1, c1, x1⟩⟩) h
  unfold ShGrp at o
  have o := Kept.mk o
  (with_reducible refine (o.out _ S.out.ext).mono ?_)
  rintro e u9 ⟨u0, u1, rfl, gg, x9⟩
  clear o
  obtain ⟨p0, m0, hu9, -, -⟩ := id gg.o0.ints
  try simp only at hu9
  subst hu9
  obtain ⟨p1, m1, hu9, -, -⟩ := id gg.o1.ints
  try simp only at hu9
  subst hu9
  replace S := Kept.mk (S.out.made2 gg x9)
  clear gg x9
  go_wp2_with (first | (refine ldlS S.out ?_) | (refine ldiT S.out ?_) | (refine ldlT S.out ?_) | (refine stiS S.out ?_; clear S; intro w9 S) | (refine stiT S.out ?_; clear S; intro w9 S) | (refine aliT S.out ?_; clear S; intro b9 w9 S) | (refine bxlT S.out ?_; clear S; intro b9 w9 S) | (refine wpList_want rfl rfl ?_; dsimp only) | fail)
  have o := fun w' hx => (O1.out w' hx).mono fun e w'' h => ShPost.grp (m := ⟨⟨r2, c2, x2⟩, ⟨r3, c3, x3⟩⟩) h
  unfold ShGrp at o
  have o := Kept.mk o
  (with_reducible refine (o.out _ S.out.ext).mono ?_)
  rintro e u9 ⟨u2, u3, rfl, gg, x9⟩
  clear o
  obtain ⟨p2, m2, hu9, -, -⟩ := id gg.o0.ints
  try simp only at hu9
  subst hu9
  obtain ⟨p3, m3, hu9, -, -⟩ := id gg.o1.ints
  try simp only at hu9
  subst hu9
  replace S := Kept.mk (S.out.made2 gg x9)
  clear gg x9
  go_wp2_with (first | (refine ldlS S.out ?_) | (refine ldiT S.out ?_) | (refine ldlT S.out ?_) | (refine stiS S.out ?_; clear S; intro w9 S) | (refine stiT S.out ?_; clear S; intro w9 S) | (refine aliT S.out ?_; clear S; intro b9 w9 S) | (refine bxlT S.out ?_; clear S; intro b9 w9 S) | (refine wpList_want rfl rfl ?_; dsimp only) | fail)
  have o := fun w' hx => (O2.out w' hx).mono fun e w'' h => ShPost.grp (m := ⟨⟨r4, c4, x4⟩, ⟨r5, c5, x5⟩⟩) h
  unfold ShGrp at o
  have o := Kept.mk o
  (with_reducible refine (o.out _ S.out.ext).mono ?_)
  rintro e u9 ⟨u4, u5, rfl, gg, x9⟩
  clear o
  obtain ⟨p4, m4, hu9, -, -⟩ := id gg.o0.ints
  try simp only at hu9
  subst hu9
  obtain ⟨p5, m5, hu9, -, -⟩ := id gg.o1.ints
  try simp only at hu9
  subst hu9
  replace S := Kept.mk (S.out.made2 gg x9)
  clear gg x9
  go_wp2_with (first | (refine ldlS S.out ?_) | (refine ldiT S.out ?_) | (refine ldlT S.out ?_) | (refine stiS S.out ?_; clear S; intro w9 S) | (refine stiT S.out ?_; clear S; intro w9 S) | (refine aliT S.out ?_; clear S; intro b9 w9 S) | (refine bxlT S.out ?_; clear S; intro b9 w9 S) | (refine wpList_want rfl rfl ?_; dsimp only) | fail)
  have G : Grp w.heap.size _ [.slice p0 x0.length m0, .slice p1 x1.length m1, .slice p2 x2.length m2, .slice p3 x3.length m3, .slice p4 x4.length m4, .slice p5 x5.length m5] [x0, x1, x2, x3, x4, x5] := S.out.grp.swap6
  exact bodyPost_ret (v := .agg #[.int .i64 r0, .int .i64 c0, .slice p0 x0.length m0, .int .i64 r1, .int .i64 c1, .slice p1 x1.length m1, .int .i64 r2, .int .i64 c2, .slice p2 x2.length m2, .int .i64 r3, .int .i64 c3, .slice p3 x3.length m3, .int .i64 r4, .int .i64 c4, .slice p4 x4.length m4, .int .i64 r5, .int .i64 c5, .slice p5 x5.length m5]) (by exact res1 rfl (by exact (rsiT S.out))) rfl ⟨_, _, _, _, _, _, rfl, G, S.out.ext⟩
end Go.Proofs.Ytkkdikoknegpjaa
