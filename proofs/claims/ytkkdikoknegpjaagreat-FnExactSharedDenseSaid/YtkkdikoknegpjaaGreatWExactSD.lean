/- The walk through FnExactSharedDense. -/
import Derived.Test.YtkkdikoknegpjaaGreatKG
import Derived.Test.YtkkdikoknegpjaaGreatSdI
import Derived.Test.YtkkdikoknegpjaaGreatSdS
import Derived.Test.YtkkdikoknegpjaaGreatKW
import Derived.Test.YtkkdikoknegpjaaGreatQF
namespace Go.Proofs.YtkkdikoknegpjaaGreat
set_option linter.unusedSimpArgs false
set_option linter.unusedVariables false
open Go.RowKit
theorem pairM_25 (f : Int → Int → Int) (a b : Mat) : (pairM f a b).xs.length ≤ 25 := by
  unfold pairM
  split
  · rename_i h
    simp only [Bool.and_eq_true] at h
    obtain ⟨R, C, _, _, _, _, _, _, hl, l25, _⟩ := mOk_nat h.1.1
    simp only [mapTo_len]
    omega
  exact Nat.zero_le _
theorem pd_25 (x y : ShM) (s : Int) : (pdL x y s).length ≤ 50 := by
  cases h : pdOk x y s
  · obtain ⟨_, b, _⟩ := pdSh_bad h
    rw [b]; exact Nat.zero_le _
  obtain ⟨_, b, _⟩ := pdSh_ok h
  rw [b, List.length_append]
  have l1 : (mulShD x y (pdT x y s)).xs.length ≤ 25 := by
    unfold mulShD opD
    split
    · exact pairM_25 _ _ _
    exact Nat.zero_le _
  have l2 : (mulShE x y (pdT x y s)).xs.length ≤ 25 := by
    unfold mulShE opD
    split
    · exact pairM_25 _ _ _
    exact Nat.zero_le _
  omega
theorem sd_25 (w b x : ShM) (s : Int) : (sdL w b x s).length ≤ 1048576 := by
  cases h : sdOk w b x s
  · obtain ⟨_, b, _⟩ := sdSh_bad h
    rw [b]; exact Nat.zero_le _
  obtain ⟨_, b, _⟩ := sdSh_ok h
  rw [b, List.length_append]
  have l1 := pd_25 w x s
  have l2 := (mp_lens 1 (pdSh w x s) (pdS w x s)).2.2
  omega
/-- The results of the law's call, in a region. -/
def resV_FnExactSharedDense {n0 m : Nat} {rs : List Nat} {Ts : List TypeId} (hT : 3 ∉ Ts) (fr fc sr sc N : Int) (fs ss ls : List Int) : OpSpec (XS n0 rs Ts) m :=
  ⟨[], fun _ u _ _ w => ∃ v0 v1 v2, u = .tuple #[.agg #[.int .i64 fr, .int .i64 fc, v0, .int .i64 sr, .int .i64 sc, v1], v2, .int .i64 N] ∧ Grp n0 w [v0, v1, v2] [fs, ss, ls], fun _ _ _ _ _ _ _ _ _ hx ⟨v0, v1, v2, h1, h2⟩ => ⟨v0, v1, v2, h1, h2.xs hx (Nat.le_refl _) hT⟩⟩
def argV_FnExactSharedDense2 {n0 m : Nat} {rs : List Nat} {Ts : List TypeId} (hT : 3 ∉ Ts) (r0 c0 : Int) (x0 : List Int) (r1 c1 : Int) (x1 : List Int) : OpSpec (XS n0 rs Ts) m :=
  ⟨[], fun _ u _ _ w => ∃ v0 v1, u = .agg #[.int .i64 r0, .int .i64 c0, v0, .int .i64 r1, .int .i64 c1, v1] ∧ Grp n0 w [v0, v1] [x0, x1], fun _ _ _ _ _ _ _ _ _ hx ⟨v0, v1, h1, h2⟩ => ⟨v0, v1, h1, h2.xs hx (Nat.le_refl _) hT⟩⟩
def grpX2 {n0 : Nat} (r0 c0 r1 c1 : Int) (x0 x1 : List Int) : OpSpec Ext n0 :=
  ⟨[], fun _ u lo up w => ∃ v0 v1, u = .agg #[.int .i64 r0, .int .i64 c0, v0, .int .i64 r1, .int .i64 c1, v1] ∧ Grp lo w [v0, v1] [x0, x1], fun _ _ _ _ _ _ _ _ _ hx ⟨v0, v1, h1, h2⟩ => ⟨v0, v1, h1, h2.keep hx⟩⟩
set_option maxHeartbeats 8000000 in
set_option maxRecDepth 4000 in
theorem walk_FnExactSharedDense (r0 c0 : Int) (v0 : Value) (x0 : List Int) (r1 c1 : Int) (v1 : Value) (x1 : List Int) (r2 c2 : Int) (v2 : Value) (x2 : List Int) (r3 c3 : Int) (v3 : Value) (x3 : List Int) (r4 c4 : Int) (v4 : Value) (x4 : List Int) (r5 c5 : Int) (v5 : Value) (x5 : List Int) (s : Int) (w : World) (h0 : Ints w v0 x0) (h1 : Ints w v1 x1) (h2 : Ints w v2 x2) (h3 : Ints w v3 x3) (h4 : Ints w v4 x4) (h5 : Ints w v5 x5) : Calls Tryz.prog 3 #[.agg #[.int .i64 r0, .int .i64 c0, v0, .int .i64 r1, .int .i64 c1, v1], .agg #[.int .i64 r2, .int .i64 c2, v2, .int .i64 r3, .int .i64 c3, v3], .agg #[.int .i64 r4, .int .i64 c4, v4, .int .i64 r5, .int .i64 c5, v5], .int .i64 s] w fun e w' => e = .returned (.bool true) ∧ Ext w w' := by
  obtain ⟨s0, n0, rfl, hm9, hc9⟩ := id h0
  clear hm9 hc9
  have H0 := kp h0
  clear h0
  obtain ⟨s1, n1, rfl, hm9, hc9⟩ := id h1
  clear hm9 hc9
  have H1 := kp h1
  clear h1
  obtain ⟨s2, n2, rfl, hm9, hc9⟩ := id h2
  clear hm9 hc9
  have H2 := kp h2
  clear h2
  obtain ⟨s3, n3, rfl, hm9, hc9⟩ := id h3
  clear hm9 hc9
  have H3 := kp h3
  clear h3
  obtain ⟨s4, n4, rfl, hm9, hc9⟩ := id h4
  clear hm9 hc9
  have H4 := kp h4
  clear h4
  obtain ⟨s5, n5, rfl, hm9, hc9⟩ := id h5
  clear hm9 hc9
  have H5 := kp h5
  clear h5
  obtain ⟨T0, hT0⟩ : ∃ T : Nat, T = (x0.length + x1.length) := ⟨_, rfl⟩
  obtain ⟨T1, hT1⟩ : ∃ T : Nat, T = (x2.length + x3.length) := ⟨_, rfl⟩
  obtain ⟨T2, hT2⟩ : ∃ T : Nat, T = (x4.length + x5.length) := ⟨_, rfl⟩
  by_cases d0 : (1048576 : Int) - (T0 : Nat) < 0
  · have Z0 : Kept (∀ w', Ext w w' → Calls Tryz.prog 5 #[.agg #[.int .i64 r0, .int .i64 c0, .slice s0 x0.length n0, .int .i64 r1, .int .i64 c1, .slice s1 x1.length n1], .int .i64 ((1048576 : Int))] w' fun e w'' => e = .returned (.int .i64 (-1)) ∧ Ext w' w'') := by
      refine ⟨fun w' hx => ?_⟩
      have h := laws_szSharedMatrix r0 c0 r1 c1 _ _ x0 x1 ((1048576 : Int)) w' (H0.out.keep hx) (H1.out.keep hx) (by omega) (by omega)
      rw [← hT0] at h
      unfold leftL at h
      rw [if_pos d0] at h
      exact h
    clear d0 hT0 hT1 hT2
    have S := kp (St.start w)
    go_enter Tryz.func3, Tryz.ntmps3
    go_wp2_with (first | (refine ldiS S.o ?_) | (refine ldlS S.o ?_) | (refine stiS S.o ?_; clear S; intro w9 S) | (refine aliS S.o ?_; clear S; intro b9 w9 S) | (refine bxlS S.o ?_; clear S; intro b9 w9 S) | (refine wW ?_; dsimp only) | fail)
    (with_reducible refine (Z0.out _ S.o.ext).mono ?_)
    rintro e u9 ⟨rfl, x9⟩
    replace S := kp (S.o.quiet x9)
    clear x9
    go_wp2_with (first | (refine ldiS S.o ?_) | (refine ldlS S.o ?_) | (refine stiS S.o ?_; clear S; intro w9 S) | (refine aliS S.o ?_; clear S; intro b9 w9 S) | (refine bxlS S.o ?_; clear S; intro b9 w9 S) | (refine wW ?_; dsimp only) | fail)
    go_ret
    exact ⟨rfl, S.o.ext⟩
  by_cases d1 : (1048576 : Int) - (T0 : Nat) - (T1 : Nat) < 0
  · have Z0 : Kept (∀ w', Ext w w' → Calls Tryz.prog 5 #[.agg #[.int .i64 r0, .int .i64 c0, .slice s0 x0.length n0, .int .i64 r1, .int .i64 c1, .slice s1 x1.length n1], .int .i64 ((1048576 : Int))] w' fun e w'' => e = .returned (.int .i64 ((1048576 : Int) - (T0 : Nat))) ∧ Ext w' w'') := by
      refine ⟨fun w' hx => ?_⟩
      have h := laws_szSharedMatrix r0 c0 r1 c1 _ _ x0 x1 ((1048576 : Int)) w' (H0.out.keep hx) (H1.out.keep hx) (by omega) (by omega)
      rw [← hT0] at h
      unfold leftL at h
      rw [if_neg d0] at h
      exact h
    have g0 : decide ((1048576 : Int) - (T0 : Nat) < 0) = false := by simpa using d0
    have Z1 : Kept (∀ w', Ext w w' → Calls Tryz.prog 5 #[.agg #[.int .i64 r2, .int .i64 c2, .slice s2 x2.length n2, .int .i64 r3, .int .i64 c3, .slice s3 x3.length n3], .int .i64 ((1048576 : Int) - (T0 : Nat))] w' fun e w'' => e = .returned (.int .i64 (-1)) ∧ Ext w' w'') := by
      refine ⟨fun w' hx => ?_⟩
      have h := laws_szSharedMatrix r2 c2 r3 c3 _ _ x2 x3 ((1048576 : Int) - (T0 : Nat)) w' (H2.out.keep hx) (H3.out.keep hx) (by omega) (by omega)
      rw [← hT1] at h
      unfold leftL at h
      rw [if_pos d1] at h
      exact h
    clear d0 d1 hT0 hT1 hT2
    have S := kp (St.start w)
    go_enter Tryz.func3, Tryz.ntmps3
    go_wp2_with (first | (refine ldiS S.o ?_) | (refine ldlS S.o ?_) | (refine stiS S.o ?_; clear S; intro w9 S) | (refine aliS S.o ?_; clear S; intro b9 w9 S) | (refine bxlS S.o ?_; clear S; intro b9 w9 S) | (refine wW ?_; dsimp only) | fail)
    (with_reducible refine (Z0.out _ S.o.ext).mono ?_)
    rintro e u9 ⟨rfl, x9⟩
    replace S := kp (S.o.quiet x9)
    clear x9
    go_wp2_with (first | (refine ldiS S.o ?_) | (refine ldlS S.o ?_) | (refine stiS S.o ?_; clear S; intro w9 S) | (refine aliS S.o ?_; clear S; intro b9 w9 S) | (refine bxlS S.o ?_; clear S; intro b9 w9 S) | (refine wW ?_; dsimp only) | fail)
    (with_reducible refine (Z1.out _ S.o.ext).mono ?_)
    rintro e u9 ⟨rfl, x9⟩
    replace S := kp (S.o.quiet x9)
    clear x9
    go_wp2_with (first | (refine ldiS S.o ?_) | (refine ldlS S.o ?_) | (refine stiS S.o ?_; clear S; intro w9 S) | (refine aliS S.o ?_; clear S; intro b9 w9 S) | (refine bxlS S.o ?_; clear S; intro b9 w9 S) | (refine wW ?_; dsimp only) | fail)
    go_ret
    exact ⟨rfl, S.o.ext⟩
  by_cases d2 : (1048576 : Int) - (T0 : Nat) - (T1 : Nat) - (T2 : Nat) < 0
  · have Z0 : Kept (∀ w', Ext w w' → Calls Tryz.prog 5 #[.agg #[.int .i64 r0, .int .i64 c0, .slice s0 x0.length n0, .int .i64 r1, .int .i64 c1, .slice s1 x1.length n1], .int .i64 ((1048576 : Int))] w' fun e w'' => e = .returned (.int .i64 ((1048576 : Int) - (T0 : Nat))) ∧ Ext w' w'') := by
      refine ⟨fun w' hx => ?_⟩
      have h := laws_szSharedMatrix r0 c0 r1 c1 _ _ x0 x1 ((1048576 : Int)) w' (H0.out.keep hx) (H1.out.keep hx) (by omega) (by omega)
      rw [← hT0] at h
      unfold leftL at h
      rw [if_neg d0] at h
      exact h
    have g0 : decide ((1048576 : Int) - (T0 : Nat) < 0) = false := by simpa using d0
    have Z1 : Kept (∀ w', Ext w w' → Calls Tryz.prog 5 #[.agg #[.int .i64 r2, .int .i64 c2, .slice s2 x2.length n2, .int .i64 r3, .int .i64 c3, .slice s3 x3.length n3], .int .i64 ((1048576 : Int) - (T0 : Nat))] w' fun e w'' => e = .returned (.int .i64 ((1048576 : Int) - (T0 : Nat) - (T1 : Nat))) ∧ Ext w' w'') := by
      refine ⟨fun w' hx => ?_⟩
      have h := laws_szSharedMatrix r2 c2 r3 c3 _ _ x2 x3 ((1048576 : Int) - (T0 : Nat)) w' (H2.out.keep hx) (H3.out.keep hx) (by omega) (by omega)
      rw [← hT1] at h
      unfold leftL at h
      rw [if_neg d1] at h
      exact h
    have g1 : decide ((1048576 : Int) - (T0 : Nat) - (T1 : Nat) < 0) = false := by simpa using d1
    have Z2 : Kept (∀ w', Ext w w' → Calls Tryz.prog 5 #[.agg #[.int .i64 r4, .int .i64 c4, .slice s4 x4.length n4, .int .i64 r5, .int .i64 c5, .slice s5 x5.length n5], .int .i64 ((1048576 : Int) - (T0 : Nat) - (T1 : Nat))] w' fun e w'' => e = .returned (.int .i64 (-1)) ∧ Ext w' w'') := by
      refine ⟨fun w' hx => ?_⟩
      have h := laws_szSharedMatrix r4 c4 r5 c5 _ _ x4 x5 ((1048576 : Int) - (T0 : Nat) - (T1 : Nat)) w' (H4.out.keep hx) (H5.out.keep hx) (by omega) (by omega)
      rw [← hT2] at h
      unfold leftL at h
      rw [if_pos d2] at h
      exact h
    clear d0 d1 d2 hT0 hT1 hT2
    have S := kp (St.start w)
    go_enter Tryz.func3, Tryz.ntmps3
    go_wp2_with (first | (refine ldiS S.o ?_) | (refine ldlS S.o ?_) | (refine stiS S.o ?_; clear S; intro w9 S) | (refine aliS S.o ?_; clear S; intro b9 w9 S) | (refine bxlS S.o ?_; clear S; intro b9 w9 S) | (refine wW ?_; dsimp only) | fail)
    (with_reducible refine (Z0.out _ S.o.ext).mono ?_)
    rintro e u9 ⟨rfl, x9⟩
    replace S := kp (S.o.quiet x9)
    clear x9
    go_wp2_with (first | (refine ldiS S.o ?_) | (refine ldlS S.o ?_) | (refine stiS S.o ?_; clear S; intro w9 S) | (refine aliS S.o ?_; clear S; intro b9 w9 S) | (refine bxlS S.o ?_; clear S; intro b9 w9 S) | (refine wW ?_; dsimp only) | fail)
    (with_reducible refine (Z1.out _ S.o.ext).mono ?_)
    rintro e u9 ⟨rfl, x9⟩
    replace S := kp (S.o.quiet x9)
    clear x9
    go_wp2_with (first | (refine ldiS S.o ?_) | (refine ldlS S.o ?_) | (refine stiS S.o ?_; clear S; intro w9 S) | (refine aliS S.o ?_; clear S; intro b9 w9 S) | (refine bxlS S.o ?_; clear S; intro b9 w9 S) | (refine wW ?_; dsimp only) | fail)
    (with_reducible refine (Z2.out _ S.o.ext).mono ?_)
    rintro e u9 ⟨rfl, x9⟩
    replace S := kp (S.o.quiet x9)
    clear x9
    go_wp2_with (first | (refine ldiS S.o ?_) | (refine ldlS S.o ?_) | (refine stiS S.o ?_; clear S; intro w9 S) | (refine aliS S.o ?_; clear S; intro b9 w9 S) | (refine bxlS S.o ?_; clear S; intro b9 w9 S) | (refine wW ?_; dsimp only) | fail)
    go_ret
    exact ⟨rfl, S.o.ext⟩
  have Z0 : Kept (∀ w', Ext w w' → Calls Tryz.prog 5 #[.agg #[.int .i64 r0, .int .i64 c0, .slice s0 x0.length n0, .int .i64 r1, .int .i64 c1, .slice s1 x1.length n1], .int .i64 ((1048576 : Int))] w' fun e w'' => e = .returned (.int .i64 ((1048576 : Int) - (T0 : Nat))) ∧ Ext w' w'') := by
    refine ⟨fun w' hx => ?_⟩
    have h := laws_szSharedMatrix r0 c0 r1 c1 _ _ x0 x1 ((1048576 : Int)) w' (H0.out.keep hx) (H1.out.keep hx) (by omega) (by omega)
    rw [← hT0] at h
    unfold leftL at h
    rw [if_neg d0] at h
    exact h
  have g0 : decide ((1048576 : Int) - (T0 : Nat) < 0) = false := by simpa using d0
  have Z1 : Kept (∀ w', Ext w w' → Calls Tryz.prog 5 #[.agg #[.int .i64 r2, .int .i64 c2, .slice s2 x2.length n2, .int .i64 r3, .int .i64 c3, .slice s3 x3.length n3], .int .i64 ((1048576 : Int) - (T0 : Nat))] w' fun e w'' => e = .returned (.int .i64 ((1048576 : Int) - (T0 : Nat) - (T1 : Nat))) ∧ Ext w' w'') := by
    refine ⟨fun w' hx => ?_⟩
    have h := laws_szSharedMatrix r2 c2 r3 c3 _ _ x2 x3 ((1048576 : Int) - (T0 : Nat)) w' (H2.out.keep hx) (H3.out.keep hx) (by omega) (by omega)
    rw [← hT1] at h
    unfold leftL at h
    rw [if_neg d1] at h
    exact h
  have g1 : decide ((1048576 : Int) - (T0 : Nat) - (T1 : Nat) < 0) = false := by simpa using d1
  have Z2 : Kept (∀ w', Ext w w' → Calls Tryz.prog 5 #[.agg #[.int .i64 r4, .int .i64 c4, .slice s4 x4.length n4, .int .i64 r5, .int .i64 c5, .slice s5 x5.length n5], .int .i64 ((1048576 : Int) - (T0 : Nat) - (T1 : Nat))] w' fun e w'' => e = .returned (.int .i64 ((1048576 : Int) - (T0 : Nat) - (T1 : Nat) - (T2 : Nat))) ∧ Ext w' w'') := by
    refine ⟨fun w' hx => ?_⟩
    have h := laws_szSharedMatrix r4 c4 r5 c5 _ _ x4 x5 ((1048576 : Int) - (T0 : Nat) - (T1 : Nat)) w' (H4.out.keep hx) (H5.out.keep hx) (by omega) (by omega)
    rw [← hT2] at h
    unfold leftL at h
    rw [if_neg d2] at h
    exact h
  have g2 : decide ((1048576 : Int) - (T0 : Nat) - (T1 : Nat) - (T2 : Nat) < 0) = false := by simpa using d2
  have L0 : Kept (x0.length ≤ 1048576) := ⟨by omega⟩
  have L1 : Kept (x1.length ≤ 1048576) := ⟨by omega⟩
  have L2 : Kept (x2.length ≤ 1048576) := ⟨by omega⟩
  have L3 : Kept (x3.length ≤ 1048576) := ⟨by omega⟩
  have L4 : Kept (x4.length ≤ 1048576) := ⟨by omega⟩
  have L5 : Kept (x5.length ≤ 1048576) := ⟨by omega⟩
  have TO0 := kp (fun (w' : World) (hx : Ext w w') => (laws_toSharedMatrix r0 c0 r1 c1 _ _ x0 x1 w' (H0.out.keep hx) (H1.out.keep hx) L0.out L1.out).mono fun e w'' h => ShPost.grp (m := ⟨⟨r0, c0, x0⟩, ⟨r1, c1, x1⟩⟩) h)
  unfold ShGrp at TO0
  simp only at TO0
  have TO1 := kp (fun (w' : World) (hx : Ext w w') => (laws_toSharedMatrix r2 c2 r3 c3 _ _ x2 x3 w' (H2.out.keep hx) (H3.out.keep hx) L2.out L3.out).mono fun e w'' h => ShPost.grp (m := ⟨⟨r2, c2, x2⟩, ⟨r3, c3, x3⟩⟩) h)
  unfold ShGrp at TO1
  simp only at TO1
  have TO2 := kp (fun (w' : World) (hx : Ext w w') => (laws_toSharedMatrix r4 c4 r5 c5 _ _ x4 x5 w' (H4.out.keep hx) (H5.out.keep hx) L4.out L5.out).mono fun e w'' h => ShPost.grp (m := ⟨⟨r4, c4, x4⟩, ⟨r5, c5, x5⟩⟩) h)
  unfold ShGrp at TO2
  simp only at TO2
  clear d0 d1 d2 hT0 hT1 hT2
  have SP := kp (fun (v0 v1 v2 v3 v4 v5 : Value) (w' : World) (h0 : Arg w' v0 x0) (h1 : Arg w' v1 x1) (h2 : Arg w' v2 x2) (h3 : Arg w' v3 x3) (h4 : Arg w' v4 x4) (h5 : Arg w' v5 x5) => spec_SharedDense r0 c0 r1 c1 r2 c2 r3 c3 r4 c4 r5 c5 v0 v1 v2 v3 v4 v5 x0 x1 x2 x3 x4 x5 s w' h0 h1 h2 h3 h4 h5)
  have IP := kp (fun (v0 v1 v2 v3 v4 v5 : Value) (w' : World) (h0 : Ints w' v0 x0) (h1 : Ints w' v1 x1) (h2 : Ints w' v2 x2) (h3 : Ints w' v3 x3) (h4 : Ints w' v4 x4) (h5 : Ints w' v5 x5) => impl_SharedDense r0 c0 r1 c1 r2 c2 r3 c3 r4 c4 r5 c5 v0 v1 v2 v3 v4 v5 x0 x1 x2 x3 x4 x5 s w' h0 h1 h2 h3 h4 h5)
  have LF := kp (sd_lens ⟨⟨r0, c0, x0⟩, ⟨r1, c1, x1⟩⟩ ⟨⟨r2, c2, x2⟩, ⟨r3, c3, x3⟩⟩ ⟨⟨r4, c4, x4⟩, ⟨r5, c5, x5⟩⟩ s).1
  have LS := kp (sd_lens ⟨⟨r0, c0, x0⟩, ⟨r1, c1, x1⟩⟩ ⟨⟨r2, c2, x2⟩, ⟨r3, c3, x3⟩⟩ ⟨⟨r4, c4, x4⟩, ⟨r5, c5, x5⟩⟩ s).2.1
  have LL := kp (sd_25 ⟨⟨r0, c0, x0⟩, ⟨r1, c1, x1⟩⟩ ⟨⟨r2, c2, x2⟩, ⟨r3, c3, x3⟩⟩ ⟨⟨r4, c4, x4⟩, ⟨r5, c5, x5⟩⟩ s)
  unfold ShLN at SP IP
  generalize sdSh ⟨⟨r0, c0, x0⟩, ⟨r1, c1, x1⟩⟩ ⟨⟨r2, c2, x2⟩, ⟨r3, c3, x3⟩⟩ ⟨⟨r4, c4, x4⟩, ⟨r5, c5, x5⟩⟩ s = DM at *
  generalize sdL ⟨⟨r0, c0, x0⟩, ⟨r1, c1, x1⟩⟩ ⟨⟨r2, c2, x2⟩, ⟨r3, c3, x3⟩⟩ ⟨⟨r4, c4, x4⟩, ⟨r5, c5, x5⟩⟩ s = ls at *
  generalize sdS ⟨⟨r0, c0, x0⟩, ⟨r1, c1, x1⟩⟩ ⟨⟨r2, c2, x2⟩, ⟨r3, c3, x3⟩⟩ ⟨⟨r4, c4, x4⟩, ⟨r5, c5, x5⟩⟩ s = N at *
  obtain ⟨⟨fr, fc, fs⟩, ⟨sr, sc, ss⟩⟩ := DM
  simp only at SP IP LF LS LL
  have hNN : (N != N) = false := by simp
  have S := kp (St.start w)
  go_enter Tryz.func3, Tryz.ntmps3
  go_wp2_with (first | (refine ldiS S.o ?_) | (refine ldlS S.o ?_) | (refine stiS S.o ?_; clear S; intro w9 S) | (refine aliS S.o ?_; clear S; intro b9 w9 S) | (refine bxlS S.o ?_; clear S; intro b9 w9 S) | (refine wW ?_; dsimp only) | fail)
  (with_reducible refine (Z0.out _ S.o.ext).mono ?_)
  rintro e u9 ⟨rfl, x9⟩
  replace S := kp (S.o.quiet x9)
  clear x9
  go_wp2_with (first | (refine ldiS S.o ?_) | (refine ldlS S.o ?_) | (refine stiS S.o ?_; clear S; intro w9 S) | (refine aliS S.o ?_; clear S; intro b9 w9 S) | (refine bxlS S.o ?_; clear S; intro b9 w9 S) | (refine wW ?_; dsimp only) | fail)
  (with_reducible refine (Z1.out _ S.o.ext).mono ?_)
  rintro e u9 ⟨rfl, x9⟩
  replace S := kp (S.o.quiet x9)
  clear x9
  go_wp2_with (first | (refine ldiS S.o ?_) | (refine ldlS S.o ?_) | (refine stiS S.o ?_; clear S; intro w9 S) | (refine aliS S.o ?_; clear S; intro b9 w9 S) | (refine bxlS S.o ?_; clear S; intro b9 w9 S) | (refine wW ?_; dsimp only) | fail)
  (with_reducible refine (Z2.out _ S.o.ext).mono ?_)
  rintro e u9 ⟨rfl, x9⟩
  replace S := kp (S.o.quiet x9)
  clear x9
  go_wp2_with (first | (refine ldiS S.o ?_) | (refine ldlS S.o ?_) | (refine stiS S.o ?_; clear S; intro w9 S) | (refine aliS S.o ?_; clear S; intro b9 w9 S) | (refine bxlS S.o ?_; clear S; intro b9 w9 S) | (refine wW ?_; dsimp only) | fail)
  apply wp_region_zipV (XS.rel _ [] [30]) (fun L V w' => Bs u9.heap.size [⟨12, 13, 9, 30, #[.int .i64 0, .int .i64 0, .slice none 0 0, .int .i64 0, .int .i64 0, .slice none 0 0]⟩] L V w') [isv _, argV_FnExactSharedDense2 (by decide) r0 c0 x0 r1 c1 x1, isv _, argV_FnExactSharedDense2 (by decide) r2 c2 x2 r3 c3 x3, isv _, argV_FnExactSharedDense2 (by decide) r4 c4 x4 r5 c5 x5, isv _, resV_FnExactSharedDense (by decide) fr fc sr sc N fs ss ls, resV_FnExactSharedDense (by decide) fr fc sr sc N fs ss ls, tgetV 8 0, tgetV 8 1, tgetV 8 2, anyV, anyV, sameV 10, sameV 11] _ ?hJ (by kernel_rfl)
  case hJ => exact Bs.start _ _ _ _
  case hA => intro V; simp [putAll, dstOf, Act.put]; exact rfl
  case hsl => intro V; exact rfl
  case step =>
    intro V lo up w' hr L hj
    have S := kp (S.o.quiet hr.ext)
    simp only [zipOkV, depsImp, isv, resV_FnExactSharedDense, argV_FnExactSharedDense2, tgetV, sameV, anyV, modeNg, newb, waits, Region.binds, List.map_nil, List.map_cons, List.headD_cons, List.nil_append, List.cons_append, List.filterMap_cons, List.filterMap_nil, ↓reduceIte, modeNe, Bool.false_eq_true, true_implies, List.getD_cons_zero, List.getD_cons_succ, and_true, Nat.zero_add, Nat.reduceAdd]
    refine ⟨?_, ?_, ?_, ?_, ?_, ?_, ?_, ?_, ?_, ?_, ?_, ?_, ?_, ?_, ?_, ?_⟩
    · intro hl hw hd
      intros
      (try simp only [*])
      go_wp2_with (first | (refine ldiS S.o ?_) | (refine ldlS S.o ?_) | (refine wW ?_; dsimp only) | fail)
      refine sS ?_
      exact ⟨XS.refl _, rfl, hj.other (Ext.refl _) hl (by intro it hit; simp only [List.mem_cons, List.not_mem_nil, or_false] at hit; subst hit; exact ⟨by decide, by decide⟩)⟩
    · intro hl hw hd
      intros
      (try simp only [*])
      go_wp2_with (fail)
      (with_reducible refine (TO0.out _ S.o.ext).mono ?_)
      rintro e w9 ⟨u0, u1, rfl, gg, x9⟩
      go_wp2
      refine sS ?_
      exact ⟨XS.of_ext x9, ⟨u0, u1, rfl, gg.mono hr.size⟩, hj.other x9 hl (by intro it hit; simp only [List.mem_cons, List.not_mem_nil, or_false] at hit; subst hit; exact ⟨by decide, by decide⟩)⟩
    · intro hl hw hd
      intros
      (try simp only [*])
      go_wp2_with (first | (refine ldiS S.o ?_) | (refine ldlS S.o ?_) | (refine wW ?_; dsimp only) | fail)
      refine sS ?_
      exact ⟨XS.refl _, rfl, hj.other (Ext.refl _) hl (by intro it hit; simp only [List.mem_cons, List.not_mem_nil, or_false] at hit; subst hit; exact ⟨by decide, by decide⟩)⟩
    · intro hl hw hd
      intros
      (try simp only [*])
      go_wp2_with (fail)
      (with_reducible refine (TO1.out _ S.o.ext).mono ?_)
      rintro e w9 ⟨u2, u3, rfl, gg, x9⟩
      go_wp2
      refine sS ?_
      exact ⟨XS.of_ext x9, ⟨u2, u3, rfl, gg.mono hr.size⟩, hj.other x9 hl (by intro it hit; simp only [List.mem_cons, List.not_mem_nil, or_false] at hit; subst hit; exact ⟨by decide, by decide⟩)⟩
    · intro hl hw hd
      intros
      (try simp only [*])
      go_wp2_with (first | (refine ldiS S.o ?_) | (refine ldlS S.o ?_) | (refine wW ?_; dsimp only) | fail)
      refine sS ?_
      exact ⟨XS.refl _, rfl, hj.other (Ext.refl _) hl (by intro it hit; simp only [List.mem_cons, List.not_mem_nil, or_false] at hit; subst hit; exact ⟨by decide, by decide⟩)⟩
    · intro hl hw hd
      intros
      (try simp only [*])
      go_wp2_with (fail)
      (with_reducible refine (TO2.out _ S.o.ext).mono ?_)
      rintro e w9 ⟨u4, u5, rfl, gg, x9⟩
      go_wp2
      refine sS ?_
      exact ⟨XS.of_ext x9, ⟨u4, u5, rfl, gg.mono hr.size⟩, hj.other x9 hl (by intro it hit; simp only [List.mem_cons, List.not_mem_nil, or_false] at hit; subst hit; exact ⟨by decide, by decide⟩)⟩
    · intro hl hw hd
      intros
      (try simp only [*])
      go_wp2_with (first | (refine ldiS S.o ?_) | (refine ldlS S.o ?_) | (refine wW ?_; dsimp only) | fail)
      refine sS ?_
      exact ⟨XS.refl _, rfl, hj.other (Ext.refl _) hl (by intro it hit; simp only [List.mem_cons, List.not_mem_nil, or_false] at hit; subst hit; exact ⟨by decide, by decide⟩)⟩
    · intro hl hw hd
      intros
      obtain ⟨u0, u1, ea0, ga0⟩ := ‹∃ z0 z1, V 1 = _ ∧ Grp _ _ _ [x0, x1]›
      obtain ⟨u2, u3, ea1, ga1⟩ := ‹∃ z0 z1, V 3 = _ ∧ Grp _ _ _ [x2, x3]›
      obtain ⟨u4, u5, ea2, ga2⟩ := ‹∃ z0 z1, V 5 = _ ∧ Grp _ _ _ [x4, x5]›
      (try simp only [*])
      go_wp2_with (fail)
      (with_reducible refine (SP.out _ _ _ _ _ _ _ (ga0.o0.arg L0.out) (ga0.o1.arg L1.out) (ga1.o0.arg L2.out) (ga1.o1.arg L3.out) (ga2.o0.arg L4.out) (ga2.o1.arg L5.out)).mono ?_)
      rintro e w9 ⟨v0, v1, v2, rfl, gg, x9⟩
      go_wp2
      refine sS ?_
      exact ⟨XS.of_ext x9, ⟨v0, v1, v2, rfl, gg.mono hr.size⟩, hj.other x9 hl (by intro it hit; simp only [List.mem_cons, List.not_mem_nil, or_false] at hit; subst hit; exact ⟨by decide, by decide⟩)⟩
    · intro hl hw hd
      intros
      obtain ⟨v0, v1, v2, e_r, g_r⟩ := ‹∃ z0 z1 z2, V 7 = _ ∧ Grp _ _ _ [fs, ss, ls]›
      (try simp only [*])
      go_wp2_with (first | (refine ldiS S.o ?_) | (refine ldlS S.o ?_) | (refine wW ?_; dsimp only) | fail)
      refine sS ?_
      exact ⟨XS.refl _, ⟨v0, v1, v2, rfl, g_r⟩, hj.other (Ext.refl _) hl (by intro it hit; simp only [List.mem_cons, List.not_mem_nil, or_false] at hit; subst hit; exact ⟨by decide, by decide⟩)⟩
    · intro hl hw hd
      intros
      obtain ⟨v0, v1, v2, e_r, g_r⟩ := ‹∃ z0 z1 z2, V 8 = _ ∧ Grp _ _ _ [fs, ss, ls]›
      (try simp only [*])
      go_wp2_with (first | (refine ldiS S.o ?_) | (refine ldlS S.o ?_) | (refine wW ?_; dsimp only) | fail)
      refine sS ?_
      exact ⟨XS.refl _, by (try rw [e_r]); rfl, hj.other (Ext.refl _) hl (by intro it hit; simp only [List.mem_cons, List.not_mem_nil, or_false] at hit; subst hit; exact ⟨by decide, by decide⟩)⟩
    · intro hl hw hd
      intros
      obtain ⟨v0, v1, v2, e_r, g_r⟩ := ‹∃ z0 z1 z2, V 8 = _ ∧ Grp _ _ _ [fs, ss, ls]›
      (try simp only [*])
      go_wp2_with (first | (refine ldiS S.o ?_) | (refine ldlS S.o ?_) | (refine wW ?_; dsimp only) | fail)
      refine sS ?_
      exact ⟨XS.refl _, by (try rw [e_r]); rfl, hj.other (Ext.refl _) hl (by intro it hit; simp only [List.mem_cons, List.not_mem_nil, or_false] at hit; subst hit; exact ⟨by decide, by decide⟩)⟩
    · intro hl hw hd
      intros
      obtain ⟨v0, v1, v2, e_r, g_r⟩ := ‹∃ z0 z1 z2, V 8 = _ ∧ Grp _ _ _ [fs, ss, ls]›
      (try simp only [*])
      go_wp2_with (first | (refine ldiS S.o ?_) | (refine ldlS S.o ?_) | (refine wW ?_; dsimp only) | fail)
      refine sS ?_
      exact ⟨XS.refl _, by (try rw [e_r]); rfl, hj.other (Ext.refl _) hl (by intro it hit; simp only [List.mem_cons, List.not_mem_nil, or_false] at hit; subst hit; exact ⟨by decide, by decide⟩)⟩
    · intro hl hw hd
      intros
      go_wp2
      refine sS ?_
      exact ⟨XS.of_ext ((Ext.refl _).alloc _), trivial, hj.alloc (it0 := ⟨12, 13, 9, 30, #[.int .i64 0, .int .i64 0, .slice none 0 0, .int .i64 0, .int .i64 0, .slice none 0 0]⟩) (by simp) hl (by intro jt hjt h; simp only [List.mem_cons, List.not_mem_nil, or_false] at hjt; subst hjt; first | rfl | exact absurd h (by decide)) (by intro it hit; simp only [List.mem_cons, List.not_mem_nil, or_false] at hit; subst hit; exact ⟨by decide, by decide⟩) (b := w'.heap.size) (Nat.le_refl _) hr.size ((Ext.refl _).alloc _) (Blk.new _ _ _)⟩
    · intro hl hw hd
      obtain ⟨b_, eb, lb, -, k0, -⟩ := hj.box ⟨12, 13, 9, 30, #[.int .i64 0, .int .i64 0, .slice none 0 0, .int .i64 0, .int .i64 0, .slice none 0 0]⟩ (by simp) (hd 12 (by simp))
      have kz := k0 hl
      intros
      obtain ⟨v0, v1, v2, e_r, g_r⟩ := ‹∃ z0 z1 z2, V 8 = _ ∧ Grp _ _ _ [fs, ss, ls]›
      obtain ⟨pv0, mv0, hu9, -, -⟩ := id (g_r.get 0 rfl rfl).ints
      try simp only at hu9
      subst hu9
      obtain ⟨pv1, mv1, hu9, -, -⟩ := id (g_r.get 1 rfl rfl).ints
      try simp only at hu9
      subst hu9
      have e_ : V 9 = .agg #[.int .i64 fr, .int .i64 fc, .slice pv0 fs.length mv0, .int .i64 sr, .int .i64 sc, .slice pv1 ss.length mv1] := by
        have a := ‹V 9 = tget (V 8) 0›
        rw [e_r] at a
        exact a
      refine wpList_putX (by rfl) (by rfl) _ _ (by rfl) b_ _ _ (by exact eb) (by exact e_) kz (by kernel_rfl) (by rfl) (by simp [Value.oneCell']) (.inr ⟨lb, by simp⟩) (fun w'' f k hoth hsz u => ⟨f, trivial, hj.store (it0 := ⟨12, 13, 9, 30, #[.int .i64 0, .int .i64 0, .slice none 0 0, .int .i64 0, .int .i64 0, .slice none 0 0]⟩) (by simp) (hd 12 (by simp)) (hd 9 (by simp)) (by intro jt hjt h; simp only [List.mem_cons, List.not_mem_nil, or_false] at hjt; subst hjt; first | rfl | exact absurd h (by decide)) (by intro jt hjt h; simp only [List.mem_cons, List.not_mem_nil, or_false] at hjt; subst hjt; first | rfl | exact absurd h (by decide)) (by intro it hit; simp only [List.mem_cons, List.not_mem_nil, or_false] at hit; subst hit; exact ⟨by decide, by decide⟩) eb e_ k hoth hsz⟩)
    · intro hl hw hd
      intros
      (try simp only [*])
      go_wp2_with (first | (refine ldiS S.o ?_) | (refine ldlS S.o ?_) | (refine wW ?_; dsimp only) | fail)
      refine sS ?_
      exact ⟨XS.refl _, rfl, hj.other (Ext.refl _) hl (by intro it hit; simp only [List.mem_cons, List.not_mem_nil, or_false] at hit; subst hit; exact ⟨by decide, by decide⟩)⟩
    intro hl hw hd
    intros
    (try simp only [*])
    go_wp2_with (first | (refine ldiS S.o ?_) | (refine ldlS S.o ?_) | (refine wW ?_; dsimp only) | fail)
    refine sS ?_
    exact ⟨XS.refl _, rfl, hj.other (Ext.refl _) hl (by intro it hit; simp only [List.mem_cons, List.not_mem_nil, or_false] at hit; subst hit; exact ⟨by decide, by decide⟩)⟩
  case hB => kernel_rfl
  intro V lo up w' hr L hj hL hf ha
  simp only [factsOk, isv, resV_FnExactSharedDense, argV_FnExactSharedDense2, tgetV, sameV, anyV, modeNg, newb, List.map_nil, List.map_cons, List.headD_cons, and_true, Nat.zero_add, Nat.reduceAdd] at hf
  simp only [List.length_cons, List.length_nil, Nat.zero_add, Nat.reduceAdd, List.drop_succ_cons, List.drop_zero]
  obtain ⟨-, -, -, -, -, -, -, -, ⟨-, -, -, v0, v1, v2, eM, gM⟩, ⟨-, -, -, eX0⟩, ⟨-, -, -, eX1⟩, ⟨-, -, -, eX2⟩, -, -, ⟨-, -, -, eA1⟩, ⟨-, -, -, eA2⟩⟩ := hf
  clear ha
  obtain ⟨pW0, mW0, hu9, -, -⟩ := id (gM.get 0 rfl rfl).ints
  try simp only at hu9
  subst hu9
  obtain ⟨pW1, mW1, hu9, -, -⟩ := id (gM.get 1 rfl rfl).ints
  try simp only at hu9
  subst hu9
  obtain ⟨pW2, mW2, hu9, -, -⟩ := id (gM.get 2 rfl rfl).ints
  try simp only at hu9
  subst hu9
  have eY0 : V 9 = .agg #[.int .i64 fr, .int .i64 fc, .slice pW0 fs.length mW0, .int .i64 sr, .int .i64 sc, .slice pW1 ss.length mW1] := by
    have a := eX0
    rw [eM] at a
    exact a
  have eY1 : V 10 = .slice pW2 ls.length mW2 := by
    have a := eX1
    rw [eM] at a
    exact a
  have eY2 : V 11 = .int .i64 N := by
    have a := eX2
    rw [eM] at a
    exact a
  have eB1 := eA1.trans eY1
  rw [eB1]
  have eB2 := eA2.trans eY2
  rw [eB2]
  obtain ⟨bW0, eb0, lb0, -, -, kk⟩ := hj.box ⟨12, 13, 9, 30, #[.int .i64 0, .int .i64 0, .slice none 0 0, .int .i64 0, .int .i64 0, .slice none 0 0]⟩ (by simp) (hL 12 (by simp))
  obtain ⟨cs, es, k0⟩ := kk (hL 13 (by simp))
  rw [eY0] at es
  injection es with es
  subst es
  rw [eb0]
  have S9 := S.o.grow (S.o.quiet hr.ext) [⟨bW0, 30, [.int .i64 fr, .int .i64 fc, .slice pW0 fs.length mW0, .int .i64 sr, .int .i64 sc, .slice pW1 ss.length mW1]⟩] (by intro p hp; simp only [List.mem_cons, List.not_mem_nil, or_false] at hp; rcases hp with rfl <;> first | exact ⟨k0, lb0⟩) (by simp) gM (by intro p hp v hv; simp only [List.mem_cons, List.not_mem_nil, or_false] at hp; rcases hp with rfl <;> first | exact gM.ne k0 (by decide) v hv)
  simp only [List.cons_append, List.nil_append] at S9
  replace S := kp S9
  clear S9 hr hj gM
  go_wp2_with (first | (refine ldiS S.o ?_) | (refine ldlS S.o ?_) | (refine stiS S.o ?_; clear S; intro w9 S) | (refine aliS S.o ?_; clear S; intro b9 w9 S) | (refine bxlS S.o ?_; clear S; intro b9 w9 S) | (refine wW ?_; dsimp only) | fail)
  (with_reducible refine (TO0.out _ S.o.ext).mono ?_)
  rintro e u9 ⟨vX0_0, vX0_1, rfl, gg, x9⟩
  obtain ⟨pX0_0, mX0_0, hu9, -, -⟩ := id gg.o0.ints
  try simp only at hu9
  subst hu9
  obtain ⟨pX0_1, mX0_1, hu9, -, -⟩ := id gg.o1.ints
  try simp only at hu9
  subst hu9
  have S9 := S.o.madeG gg x9
  simp only [List.cons_append, List.nil_append] at S9
  replace S := kp S9
  clear S9 gg x9
  go_wp2_with (first | (refine ldiS S.o ?_) | (refine ldlS S.o ?_) | (refine stiS S.o ?_; clear S; intro w9 S) | (refine aliS S.o ?_; clear S; intro b9 w9 S) | (refine bxlS S.o ?_; clear S; intro b9 w9 S) | (refine wW ?_; dsimp only) | fail)
  (with_reducible refine (TO1.out _ S.o.ext).mono ?_)
  rintro e u9 ⟨vX1_0, vX1_1, rfl, gg, x9⟩
  obtain ⟨pX1_0, mX1_0, hu9, -, -⟩ := id gg.o0.ints
  try simp only at hu9
  subst hu9
  obtain ⟨pX1_1, mX1_1, hu9, -, -⟩ := id gg.o1.ints
  try simp only at hu9
  subst hu9
  have S9 := S.o.madeG gg x9
  simp only [List.cons_append, List.nil_append] at S9
  replace S := kp S9
  clear S9 gg x9
  go_wp2_with (first | (refine ldiS S.o ?_) | (refine ldlS S.o ?_) | (refine stiS S.o ?_; clear S; intro w9 S) | (refine aliS S.o ?_; clear S; intro b9 w9 S) | (refine bxlS S.o ?_; clear S; intro b9 w9 S) | (refine wW ?_; dsimp only) | fail)
  (with_reducible refine (TO2.out _ S.o.ext).mono ?_)
  rintro e u9 ⟨vX2_0, vX2_1, rfl, gg, x9⟩
  obtain ⟨pX2_0, mX2_0, hu9, -, -⟩ := id gg.o0.ints
  try simp only at hu9
  subst hu9
  obtain ⟨pX2_1, mX2_1, hu9, -, -⟩ := id gg.o1.ints
  try simp only at hu9
  subst hu9
  have S9 := S.o.madeG gg x9
  simp only [List.cons_append, List.nil_append] at S9
  replace S := kp S9
  clear S9 gg x9
  go_wp2_with (first | (refine ldiS S.o ?_) | (refine ldlS S.o ?_) | (refine stiS S.o ?_; clear S; intro w9 S) | (refine aliS S.o ?_; clear S; intro b9 w9 S) | (refine bxlS S.o ?_; clear S; intro b9 w9 S) | (refine wW ?_; dsimp only) | fail)
  (with_reducible refine (IP.out _ _ _ _ _ _ _ (S.o.grp.get 4 rfl rfl).ints (S.o.grp.get 5 rfl rfl).ints (S.o.grp.get 2 rfl rfl).ints (S.o.grp.get 3 rfl rfl).ints (S.o.grp.get 0 rfl rfl).ints (S.o.grp.get 1 rfl rfl).ints).mono ?_)
  rintro e u9 ⟨vG0, vG1, vG2, rfl, gg, x9⟩
  obtain ⟨pG0, mG0, hu9, -, -⟩ := id gg.o0.ints
  try simp only at hu9
  subst hu9
  obtain ⟨pG1, mG1, hu9, -, -⟩ := id gg.o1.ints
  try simp only at hu9
  subst hu9
  obtain ⟨pG2, mG2, hu9, -, -⟩ := id gg.o2.ints
  try simp only at hu9
  subst hu9
  have S9 := S.o.madeG gg x9
  simp only [List.cons_append, List.nil_append] at S9
  replace S := kp S9
  clear S9 gg x9
  go_wp2_with (first | (refine ldiS S.o ?_) | (refine ldlS S.o ?_) | (refine stiS S.o ?_; clear S; intro w9 S) | (refine aliS S.o ?_; clear S; intro b9 w9 S) | (refine bxlS S.o ?_; clear S; intro b9 w9 S) | (refine wW ?_; dsimp only) | fail)
  (with_reducible refine (laws_eqSharedMatrix fr fc sr sc _ _ _ _ fs ss _ (S.o.grp.get 0 rfl rfl).ints (S.o.grp.get 1 rfl rfl).ints (S.o.grp.get 9 rfl rfl).ints (S.o.grp.get 10 rfl rfl).ints).mono ?_)
  rintro e u9 ⟨rfl, x9⟩
  replace S := kp (S.o.quiet x9)
  clear x9
  go_wp2_with (first | (refine ldiS S.o ?_) | (refine ldlS S.o ?_) | (refine stiS S.o ?_; clear S; intro w9 S) | (refine aliS S.o ?_; clear S; intro b9 w9 S) | (refine bxlS S.o ?_; clear S; intro b9 w9 S) | (refine wW ?_; dsimp only) | fail)
  (with_reducible refine (laws_eqIntS _ _ ls _ (S.o.grp.get 2 rfl rfl).ints (S.o.grp.get 11 rfl rfl).ints).mono ?_)
  rintro e u9 ⟨rfl, x9⟩
  replace S := kp (S.o.quiet x9)
  clear x9
  go_wp2_with (first | (refine ldiS S.o ?_) | (refine ldlS S.o ?_) | (refine stiS S.o ?_; clear S; intro w9 S) | (refine aliS S.o ?_; clear S; intro b9 w9 S) | (refine bxlS S.o ?_; clear S; intro b9 w9 S) | (refine wW ?_; dsimp only) | fail)
  apply wp_region_zip [isv _, isv _, grpX2 r0 c0 r1 c1 x0 x1, isv _, isv _] _ (by kernel_rfl)
  case hA => intro V; simp [putAll, dstOf, Act.put]; exact rfl
  case hsl => intro V; exact rfl
  case step =>
    intro V lo up w' hr
    have S := kp (S.o.quiet hr)
    simp only [zipOk, depsImp, isv, grpX2, modeNg, newb, waits, Region.binds, List.map_nil, List.map_cons, List.headD_cons, List.nil_append, List.cons_append, List.filterMap_cons, List.filterMap_nil, ↓reduceIte, modeNe, Bool.false_eq_true, true_implies, List.getD_cons_zero, List.getD_cons_succ, and_true]
    refine ⟨?_, ?_, ?_, ?_, ?_⟩
    · intros
      (try simp only [*])
      go_wp2_with (first | (refine ldiS S.o ?_) | (refine ldlS S.o ?_) | (refine wW ?_; dsimp only) | fail)
      refine sQ ?_
      exact ⟨Ext.refl _, rfl⟩
    · intros
      (try simp only [*])
      go_wp2_with (first | (refine ldiS S.o ?_) | (refine ldlS S.o ?_) | (refine wW ?_; dsimp only) | fail)
      refine sQ ?_
      exact ⟨Ext.refl _, rfl⟩
    · intros
      (try simp only [*])
      go_wp2_with (fail)
      (with_reducible refine (TO0.out _ S.o.ext).mono ?_)
      rintro e w9 ⟨u0, u1, rfl, g9, x9⟩
      go_wp2
      refine sQ ?_
      exact ⟨x9, u0, u1, rfl, g9⟩
    · intros
      obtain ⟨u0, u1, e2, g2⟩ := ‹∃ z0 z1, V 2 = _ ∧ Grp _ _ _ _›
      (try simp only [*])
      go_wp2_with (fail)
      (with_reducible refine (laws_eqSharedMatrix r0 c0 r1 c1 _ _ _ _ x0 x1 _ (S.o.grp.get 7 rfl rfl).ints (S.o.grp.get 8 rfl rfl).ints g2.o0.ints g2.o1.ints).mono ?_)
      rintro e w9 ⟨rfl, x9⟩
      go_wp2
      refine sQ ?_
      exact ⟨x9, rfl⟩
    intros
    (try simp only [*])
    go_wp2_with (first | (refine ldiS S.o ?_) | (refine ldlS S.o ?_) | (refine wW ?_; dsimp only) | fail)
    refine sQ ?_
    exact ⟨Ext.refl _, rfl⟩
  case hB => kernel_rfl
  intro V lo up w' hr hf ha
  simp only [factsOk, isv, grpX2, modeNg, newb, List.map_nil, List.map_cons, List.headD_cons, and_true, Nat.zero_add, Nat.reduceAdd] at hf
  simp only [List.length_cons, List.length_nil, Nat.zero_add, Nat.reduceAdd, List.drop_succ_cons, List.drop_zero]
  obtain ⟨-, -, -, -, ⟨-, -, -, e4⟩⟩ := hf
  clear ha
  rw [e4]
  clear e4
  replace S := kp (S.o.quiet hr)
  clear hr
  go_wp2_with (first | (refine ldiS S.o ?_) | (refine ldlS S.o ?_) | (refine stiS S.o ?_; clear S; intro w9 S) | (refine aliS S.o ?_; clear S; intro b9 w9 S) | (refine bxlS S.o ?_; clear S; intro b9 w9 S) | (refine wW ?_; dsimp only) | fail)
  apply wp_region_zip [isv _, isv _, grpX2 r2 c2 r3 c3 x2 x3, isv _, isv _] _ (by kernel_rfl)
  case hA => intro V; simp [putAll, dstOf, Act.put]; exact rfl
  case hsl => intro V; exact rfl
  case step =>
    intro V lo up w' hr
    have S := kp (S.o.quiet hr)
    simp only [zipOk, depsImp, isv, grpX2, modeNg, newb, waits, Region.binds, List.map_nil, List.map_cons, List.headD_cons, List.nil_append, List.cons_append, List.filterMap_cons, List.filterMap_nil, ↓reduceIte, modeNe, Bool.false_eq_true, true_implies, List.getD_cons_zero, List.getD_cons_succ, and_true]
    refine ⟨?_, ?_, ?_, ?_, ?_⟩
    · intros
      (try simp only [*])
      go_wp2_with (first | (refine ldiS S.o ?_) | (refine ldlS S.o ?_) | (refine wW ?_; dsimp only) | fail)
      refine sQ ?_
      exact ⟨Ext.refl _, rfl⟩
    · intros
      (try simp only [*])
      go_wp2_with (first | (refine ldiS S.o ?_) | (refine ldlS S.o ?_) | (refine wW ?_; dsimp only) | fail)
      refine sQ ?_
      exact ⟨Ext.refl _, rfl⟩
    · intros
      (try simp only [*])
      go_wp2_with (fail)
      (with_reducible refine (TO1.out _ S.o.ext).mono ?_)
      rintro e w9 ⟨u0, u1, rfl, g9, x9⟩
      go_wp2
      refine sQ ?_
      exact ⟨x9, u0, u1, rfl, g9⟩
    · intros
      obtain ⟨u0, u1, e2, g2⟩ := ‹∃ z0 z1, V 2 = _ ∧ Grp _ _ _ _›
      (try simp only [*])
      go_wp2_with (fail)
      (with_reducible refine (laws_eqSharedMatrix r2 c2 r3 c3 _ _ _ _ x2 x3 _ (S.o.grp.get 5 rfl rfl).ints (S.o.grp.get 6 rfl rfl).ints g2.o0.ints g2.o1.ints).mono ?_)
      rintro e w9 ⟨rfl, x9⟩
      go_wp2
      refine sQ ?_
      exact ⟨x9, rfl⟩
    intros
    (try simp only [*])
    go_wp2_with (first | (refine ldiS S.o ?_) | (refine ldlS S.o ?_) | (refine wW ?_; dsimp only) | fail)
    refine sQ ?_
    exact ⟨Ext.refl _, rfl⟩
  case hB => kernel_rfl
  intro V lo up w' hr hf ha
  simp only [factsOk, isv, grpX2, modeNg, newb, List.map_nil, List.map_cons, List.headD_cons, and_true, Nat.zero_add, Nat.reduceAdd] at hf
  simp only [List.length_cons, List.length_nil, Nat.zero_add, Nat.reduceAdd, List.drop_succ_cons, List.drop_zero]
  obtain ⟨-, -, -, -, ⟨-, -, -, e4⟩⟩ := hf
  clear ha
  rw [e4]
  clear e4
  replace S := kp (S.o.quiet hr)
  clear hr
  go_wp2_with (first | (refine ldiS S.o ?_) | (refine ldlS S.o ?_) | (refine stiS S.o ?_; clear S; intro w9 S) | (refine aliS S.o ?_; clear S; intro b9 w9 S) | (refine bxlS S.o ?_; clear S; intro b9 w9 S) | (refine wW ?_; dsimp only) | fail)
  apply wp_region_zip [isv _, isv _, grpX2 r4 c4 r5 c5 x4 x5, isv _, isv _] _ (by kernel_rfl)
  case hA => intro V; simp [putAll, dstOf, Act.put]; exact rfl
  case hsl => intro V; exact rfl
  case step =>
    intro V lo up w' hr
    have S := kp (S.o.quiet hr)
    simp only [zipOk, depsImp, isv, grpX2, modeNg, newb, waits, Region.binds, List.map_nil, List.map_cons, List.headD_cons, List.nil_append, List.cons_append, List.filterMap_cons, List.filterMap_nil, ↓reduceIte, modeNe, Bool.false_eq_true, true_implies, List.getD_cons_zero, List.getD_cons_succ, and_true]
    refine ⟨?_, ?_, ?_, ?_, ?_⟩
    · intros
      (try simp only [*])
      go_wp2_with (first | (refine ldiS S.o ?_) | (refine ldlS S.o ?_) | (refine wW ?_; dsimp only) | fail)
      refine sQ ?_
      exact ⟨Ext.refl _, rfl⟩
    · intros
      (try simp only [*])
      go_wp2_with (first | (refine ldiS S.o ?_) | (refine ldlS S.o ?_) | (refine wW ?_; dsimp only) | fail)
      refine sQ ?_
      exact ⟨Ext.refl _, rfl⟩
    · intros
      (try simp only [*])
      go_wp2_with (fail)
      (with_reducible refine (TO2.out _ S.o.ext).mono ?_)
      rintro e w9 ⟨u0, u1, rfl, g9, x9⟩
      go_wp2
      refine sQ ?_
      exact ⟨x9, u0, u1, rfl, g9⟩
    · intros
      obtain ⟨u0, u1, e2, g2⟩ := ‹∃ z0 z1, V 2 = _ ∧ Grp _ _ _ _›
      (try simp only [*])
      go_wp2_with (fail)
      (with_reducible refine (laws_eqSharedMatrix r4 c4 r5 c5 _ _ _ _ x4 x5 _ (S.o.grp.get 3 rfl rfl).ints (S.o.grp.get 4 rfl rfl).ints g2.o0.ints g2.o1.ints).mono ?_)
      rintro e w9 ⟨rfl, x9⟩
      go_wp2
      refine sQ ?_
      exact ⟨x9, rfl⟩
    intros
    (try simp only [*])
    go_wp2_with (first | (refine ldiS S.o ?_) | (refine ldlS S.o ?_) | (refine wW ?_; dsimp only) | fail)
    refine sQ ?_
    exact ⟨Ext.refl _, rfl⟩
  case hB => kernel_rfl
  intro V lo up w' hr hf ha
  simp only [factsOk, isv, grpX2, modeNg, newb, List.map_nil, List.map_cons, List.headD_cons, and_true, Nat.zero_add, Nat.reduceAdd] at hf
  simp only [List.length_cons, List.length_nil, Nat.zero_add, Nat.reduceAdd, List.drop_succ_cons, List.drop_zero]
  obtain ⟨-, -, -, -, ⟨-, -, -, e4⟩⟩ := hf
  clear ha
  rw [e4]
  clear e4
  replace S := kp (S.o.quiet hr)
  clear hr
  go_wp2_with (first | (refine ldiS S.o ?_) | (refine ldlS S.o ?_) | (refine stiS S.o ?_; clear S; intro w9 S) | (refine aliS S.o ?_; clear S; intro b9 w9 S) | (refine bxlS S.o ?_; clear S; intro b9 w9 S) | (refine wW ?_; dsimp only) | fail)
  obtain ⟨K0, hK0⟩ : ∃ K : Int, K = 1 + (totL [x0.length, x1.length] : Nat) := ⟨_, rfl⟩
  have bK0 : 1 ≤ K0 ∧ K0 ≤ 6291457 := by rw [hK0]; simp only [totL]; have := L0.out; have := L1.out; have := L2.out; have := L3.out; have := L4.out; have := L5.out; omega
  have HK0 := kp hK0
  clear hK0
  (with_reducible refine (laws_markSharedMatrix _ r0 c0 r1 c1 _ _ x0 x1 1 _ _ rfl rfl _ (Grp.mid (hs_ := [(.slice pG0 fs.length mG0), (.slice pG1 ss.length mG1), (.slice pG2 ls.length mG2), (.slice pX2_0 x4.length mX2_0), (.slice pX2_1 x5.length mX2_1), (.slice pX1_0 x2.length mX1_0), (.slice pX1_1 x3.length mX1_1)]) (us := [(.slice pX0_0 x0.length mX0_0), (.slice pX0_1 x1.length mX0_1)]) (bs := [(.slice pW0 fs.length mW0), (.slice pW1 ss.length mW1), (.slice pW2 ls.length mW2)]) (xs := [fs, ss, ls, x4, x5, x2, x3]) (ys := [x0, x1]) (zs := [fs, ss, ls]) S.o.grp rfl rfl) (by omega) (by have := L0.out; have := L1.out; have := L2.out; have := L3.out; have := L4.out; have := L5.out; omega)).mono ?_)
  rintro e u9 ⟨e9, mk9, t9⟩
  rw [← HK0.out] at e9
  subst e9
  have S9 := St.marked (hs_ := [(.slice pG0 fs.length mG0), (.slice pG1 ss.length mG1), (.slice pG2 ls.length mG2), (.slice pX2_0 x4.length mX2_0), (.slice pX2_1 x5.length mX2_1), (.slice pX1_0 x2.length mX1_0), (.slice pX1_1 x3.length mX1_1)]) (us := [(.slice pX0_0 x0.length mX0_0), (.slice pX0_1 x1.length mX0_1)]) (bs := [(.slice pW0 fs.length mW0), (.slice pW1 ss.length mW1), (.slice pW2 ls.length mW2)]) (xs := [fs, ss, ls, x4, x5, x2, x3]) (ys := [x0, x1]) (zs := [fs, ss, ls]) S.o rfl rfl rfl t9 mk9
  simp only [marksL, List.cons_append, List.nil_append] at S9
  replace S := kp S9
  clear S9 t9 mk9
  go_wp2_with (first | (refine ldiS S.o ?_) | (refine ldlS S.o ?_) | (refine stiS S.o ?_; clear S; intro w9 S) | (refine aliS S.o ?_; clear S; intro b9 w9 S) | (refine bxlS S.o ?_; clear S; intro b9 w9 S) | (refine wW ?_; dsimp only) | fail)
  obtain ⟨K1, hK1⟩ : ∃ K : Int, K = K0 + (totL [x2.length, x3.length] : Nat) := ⟨_, rfl⟩
  have bK1 : 1 ≤ K1 ∧ K1 ≤ 12582913 := by rw [hK1]; simp only [totL]; have := L0.out; have := L1.out; have := L2.out; have := L3.out; have := L4.out; have := L5.out; have := bK0; omega
  have HK1 := kp hK1
  clear hK1
  (with_reducible refine (laws_markSharedMatrix _ r2 c2 r3 c3 _ _ x2 x3 K0 _ _ rfl rfl _ (Grp.mid (hs_ := [(.slice pG0 fs.length mG0), (.slice pG1 ss.length mG1), (.slice pG2 ls.length mG2), (.slice pX2_0 x4.length mX2_0), (.slice pX2_1 x5.length mX2_1)]) (us := [(.slice pX1_0 x2.length mX1_0), (.slice pX1_1 x3.length mX1_1)]) (bs := [(.slice pX0_0 x0.length mX0_0), (.slice pX0_1 x1.length mX0_1), (.slice pW0 fs.length mW0), (.slice pW1 ss.length mW1), (.slice pW2 ls.length mW2)]) (xs := [fs, ss, ls, x4, x5]) (ys := [x2, x3]) (zs := [(marks 1 x0.length), (marks (1 + (x0.length : Nat)) x1.length), fs, ss, ls]) S.o.grp rfl rfl) (by omega) (by have := L0.out; have := L1.out; have := L2.out; have := L3.out; have := L4.out; have := L5.out; omega)).mono ?_)
  rintro e u9 ⟨e9, mk9, t9⟩
  rw [← HK1.out] at e9
  subst e9
  have S9 := St.marked (hs_ := [(.slice pG0 fs.length mG0), (.slice pG1 ss.length mG1), (.slice pG2 ls.length mG2), (.slice pX2_0 x4.length mX2_0), (.slice pX2_1 x5.length mX2_1)]) (us := [(.slice pX1_0 x2.length mX1_0), (.slice pX1_1 x3.length mX1_1)]) (bs := [(.slice pX0_0 x0.length mX0_0), (.slice pX0_1 x1.length mX0_1), (.slice pW0 fs.length mW0), (.slice pW1 ss.length mW1), (.slice pW2 ls.length mW2)]) (xs := [fs, ss, ls, x4, x5]) (ys := [x2, x3]) (zs := [(marks 1 x0.length), (marks (1 + (x0.length : Nat)) x1.length), fs, ss, ls]) S.o rfl rfl rfl t9 mk9
  simp only [marksL, List.cons_append, List.nil_append] at S9
  replace S := kp S9
  clear S9 t9 mk9
  go_wp2_with (first | (refine ldiS S.o ?_) | (refine ldlS S.o ?_) | (refine stiS S.o ?_; clear S; intro w9 S) | (refine aliS S.o ?_; clear S; intro b9 w9 S) | (refine bxlS S.o ?_; clear S; intro b9 w9 S) | (refine wW ?_; dsimp only) | fail)
  obtain ⟨K2, hK2⟩ : ∃ K : Int, K = K1 + (totL [x4.length, x5.length] : Nat) := ⟨_, rfl⟩
  have bK2 : 1 ≤ K2 ∧ K2 ≤ 18874369 := by rw [hK2]; simp only [totL]; have := L0.out; have := L1.out; have := L2.out; have := L3.out; have := L4.out; have := L5.out; have := bK1; omega
  have HK2 := kp hK2
  clear hK2
  (with_reducible refine (laws_markSharedMatrix _ r4 c4 r5 c5 _ _ x4 x5 K1 _ _ rfl rfl _ (Grp.mid (hs_ := [(.slice pG0 fs.length mG0), (.slice pG1 ss.length mG1), (.slice pG2 ls.length mG2)]) (us := [(.slice pX2_0 x4.length mX2_0), (.slice pX2_1 x5.length mX2_1)]) (bs := [(.slice pX1_0 x2.length mX1_0), (.slice pX1_1 x3.length mX1_1), (.slice pX0_0 x0.length mX0_0), (.slice pX0_1 x1.length mX0_1), (.slice pW0 fs.length mW0), (.slice pW1 ss.length mW1), (.slice pW2 ls.length mW2)]) (xs := [fs, ss, ls]) (ys := [x4, x5]) (zs := [(marks K0 x2.length), (marks (K0 + (x2.length : Nat)) x3.length), (marks 1 x0.length), (marks (1 + (x0.length : Nat)) x1.length), fs, ss, ls]) S.o.grp rfl rfl) (by omega) (by have := L0.out; have := L1.out; have := L2.out; have := L3.out; have := L4.out; have := L5.out; omega)).mono ?_)
  rintro e u9 ⟨e9, mk9, t9⟩
  rw [← HK2.out] at e9
  subst e9
  have S9 := St.marked (hs_ := [(.slice pG0 fs.length mG0), (.slice pG1 ss.length mG1), (.slice pG2 ls.length mG2)]) (us := [(.slice pX2_0 x4.length mX2_0), (.slice pX2_1 x5.length mX2_1)]) (bs := [(.slice pX1_0 x2.length mX1_0), (.slice pX1_1 x3.length mX1_1), (.slice pX0_0 x0.length mX0_0), (.slice pX0_1 x1.length mX0_1), (.slice pW0 fs.length mW0), (.slice pW1 ss.length mW1), (.slice pW2 ls.length mW2)]) (xs := [fs, ss, ls]) (ys := [x4, x5]) (zs := [(marks K0 x2.length), (marks (K0 + (x2.length : Nat)) x3.length), (marks 1 x0.length), (marks (1 + (x0.length : Nat)) x1.length), fs, ss, ls]) S.o rfl rfl rfl t9 mk9
  simp only [marksL, List.cons_append, List.nil_append] at S9
  replace S := kp S9
  clear S9 t9 mk9
  have hk0 : decide (K2 < 0) = false := by simp; omega
  go_wp2_with (first | (refine ldiS S.o ?_) | (refine ldlS S.o ?_) | (refine stiS S.o ?_; clear S; intro w9 S) | (refine aliS S.o ?_; clear S; intro b9 w9 S) | (refine bxlS S.o ?_; clear S; intro b9 w9 S) | (refine wW ?_; dsimp only) | fail)
  (with_reducible refine (laws_eqSharedMatrix fr fc sr sc _ _ _ _ fs ss _ (S.o.grp.get 0 rfl rfl).ints (S.o.grp.get 1 rfl rfl).ints (S.o.grp.get 9 rfl rfl).ints (S.o.grp.get 10 rfl rfl).ints).mono ?_)
  rintro e u9 ⟨rfl, x9⟩
  replace S := kp (S.o.quiet x9)
  clear x9
  go_wp2_with (first | (refine ldiS S.o ?_) | (refine ldlS S.o ?_) | (refine stiS S.o ?_; clear S; intro w9 S) | (refine aliS S.o ?_; clear S; intro b9 w9 S) | (refine bxlS S.o ?_; clear S; intro b9 w9 S) | (refine wW ?_; dsimp only) | fail)
  (with_reducible refine (laws_eqIntS _ _ ls _ (S.o.grp.get 2 rfl rfl).ints (S.o.grp.get 11 rfl rfl).ints).mono ?_)
  rintro e u9 ⟨rfl, x9⟩
  replace S := kp (S.o.quiet x9)
  clear x9
  go_wp2_with (first | (refine ldiS S.o ?_) | (refine ldlS S.o ?_) | (refine stiS S.o ?_; clear S; intro w9 S) | (refine aliS S.o ?_; clear S; intro b9 w9 S) | (refine bxlS S.o ?_; clear S; intro b9 w9 S) | (refine wW ?_; dsimp only) | fail)
  obtain ⟨Q0, hQ0⟩ : ∃ K : Int, K = 1 + (totL [fs.length, ss.length] : Nat) := ⟨_, rfl⟩
  have bQ0 : 1 ≤ Q0 ∧ Q0 ≤ 2097153 := by rw [hQ0]; simp only [totL]; have := LF.out; have := LS.out; have := LL.out; omega
  have HQ0 := kp hQ0
  clear hQ0
  have dQ0 : decide (Q0 < 0) = false := by simp; omega
  (with_reducible refine (laws_markSharedMatrix _ fr fc sr sc _ _ fs ss 1 _ _ rfl rfl _ (Grp.mid (hs_ := []) (us := [(.slice pG0 fs.length mG0), (.slice pG1 ss.length mG1)]) (bs := [(.slice pG2 ls.length mG2), (.slice pX2_0 x4.length mX2_0), (.slice pX2_1 x5.length mX2_1), (.slice pX1_0 x2.length mX1_0), (.slice pX1_1 x3.length mX1_1), (.slice pX0_0 x0.length mX0_0), (.slice pX0_1 x1.length mX0_1), (.slice pW0 fs.length mW0), (.slice pW1 ss.length mW1), (.slice pW2 ls.length mW2)]) (xs := []) (ys := [fs, ss]) (zs := [ls, (marks K1 x4.length), (marks (K1 + (x4.length : Nat)) x5.length), (marks K0 x2.length), (marks (K0 + (x2.length : Nat)) x3.length), (marks 1 x0.length), (marks (1 + (x0.length : Nat)) x1.length), fs, ss, ls]) S.o.grp rfl rfl) (by omega) (by have := LF.out; have := LS.out; have := LL.out; omega)).mono ?_)
  rintro e u9 ⟨e9, mk9, t9⟩
  rw [← HQ0.out] at e9
  subst e9
  have S9 := St.marked (hs_ := []) (us := [(.slice pG0 fs.length mG0), (.slice pG1 ss.length mG1)]) (bs := [(.slice pG2 ls.length mG2), (.slice pX2_0 x4.length mX2_0), (.slice pX2_1 x5.length mX2_1), (.slice pX1_0 x2.length mX1_0), (.slice pX1_1 x3.length mX1_1), (.slice pX0_0 x0.length mX0_0), (.slice pX0_1 x1.length mX0_1), (.slice pW0 fs.length mW0), (.slice pW1 ss.length mW1), (.slice pW2 ls.length mW2)]) (xs := []) (ys := [fs, ss]) (zs := [ls, (marks K1 x4.length), (marks (K1 + (x4.length : Nat)) x5.length), (marks K0 x2.length), (marks (K0 + (x2.length : Nat)) x3.length), (marks 1 x0.length), (marks (1 + (x0.length : Nat)) x1.length), fs, ss, ls]) S.o rfl rfl rfl t9 mk9
  simp only [marksL, List.cons_append, List.nil_append] at S9
  replace S := kp S9
  clear S9 t9 mk9
  go_wp2_with (first | (refine ldiS S.o ?_) | (refine ldlS S.o ?_) | (refine stiS S.o ?_; clear S; intro w9 S) | (refine aliS S.o ?_; clear S; intro b9 w9 S) | (refine bxlS S.o ?_; clear S; intro b9 w9 S) | (refine wW ?_; dsimp only) | fail)
  obtain ⟨Q1, hQ1⟩ : ∃ K : Int, K = Q0 + (totL [ls.length] : Nat) := ⟨_, rfl⟩
  have bQ1 : 1 ≤ Q1 ∧ Q1 ≤ 4194305 := by rw [hQ1]; simp only [totL]; have := LF.out; have := LS.out; have := LL.out; have := bQ0; omega
  have HQ1 := kp hQ1
  clear hQ1
  have dQ1 : decide (Q1 < 0) = false := by simp; omega
  (with_reducible refine (laws_markIntSG _ _ ls Q0 _ rfl _ (Grp.mid (hs_ := [(.slice pG0 fs.length mG0), (.slice pG1 ss.length mG1)]) (us := [(.slice pG2 ls.length mG2)]) (bs := [(.slice pX2_0 x4.length mX2_0), (.slice pX2_1 x5.length mX2_1), (.slice pX1_0 x2.length mX1_0), (.slice pX1_1 x3.length mX1_1), (.slice pX0_0 x0.length mX0_0), (.slice pX0_1 x1.length mX0_1), (.slice pW0 fs.length mW0), (.slice pW1 ss.length mW1), (.slice pW2 ls.length mW2)]) (xs := [(marks 1 fs.length), (marks (1 + (fs.length : Nat)) ss.length)]) (ys := [ls]) (zs := [(marks K1 x4.length), (marks (K1 + (x4.length : Nat)) x5.length), (marks K0 x2.length), (marks (K0 + (x2.length : Nat)) x3.length), (marks 1 x0.length), (marks (1 + (x0.length : Nat)) x1.length), fs, ss, ls]) S.o.grp rfl rfl) (by omega) (by have := LF.out; have := LS.out; have := LL.out; omega)).mono ?_)
  rintro e u9 ⟨e9, mk9, t9⟩
  rw [← HQ1.out] at e9
  subst e9
  have S9 := St.marked (hs_ := [(.slice pG0 fs.length mG0), (.slice pG1 ss.length mG1)]) (us := [(.slice pG2 ls.length mG2)]) (bs := [(.slice pX2_0 x4.length mX2_0), (.slice pX2_1 x5.length mX2_1), (.slice pX1_0 x2.length mX1_0), (.slice pX1_1 x3.length mX1_1), (.slice pX0_0 x0.length mX0_0), (.slice pX0_1 x1.length mX0_1), (.slice pW0 fs.length mW0), (.slice pW1 ss.length mW1), (.slice pW2 ls.length mW2)]) (xs := [(marks 1 fs.length), (marks (1 + (fs.length : Nat)) ss.length)]) (ys := [ls]) (zs := [(marks K1 x4.length), (marks (K1 + (x4.length : Nat)) x5.length), (marks K0 x2.length), (marks (K0 + (x2.length : Nat)) x3.length), (marks 1 x0.length), (marks (1 + (x0.length : Nat)) x1.length), fs, ss, ls]) S.o rfl rfl rfl t9 mk9
  simp only [marksL, List.cons_append, List.nil_append] at S9
  replace S := kp S9
  clear S9 t9 mk9
  go_wp2_with (first | (refine ldiS S.o ?_) | (refine ldlS S.o ?_) | (refine stiS S.o ?_; clear S; intro w9 S) | (refine aliS S.o ?_; clear S; intro b9 w9 S) | (refine bxlS S.o ?_; clear S; intro b9 w9 S) | (refine wW ?_; dsimp only) | fail)
  (with_reducible refine (laws_heldSharedMatrix fr fc sr sc _ _ 1 fs.length ss.length _ (show IntsL _ _ (marksL 1 [fs.length, ss.length]) from (Grp.mid (hs_ := []) (us := [(.slice pG0 fs.length mG0), (.slice pG1 ss.length mG1)]) (bs := [(.slice pG2 ls.length mG2), (.slice pX2_0 x4.length mX2_0), (.slice pX2_1 x5.length mX2_1), (.slice pX1_0 x2.length mX1_0), (.slice pX1_1 x3.length mX1_1), (.slice pX0_0 x0.length mX0_0), (.slice pX0_1 x1.length mX0_1), (.slice pW0 fs.length mW0), (.slice pW1 ss.length mW1), (.slice pW2 ls.length mW2)]) (xs := []) (ys := [(marks 1 fs.length), (marks (1 + (fs.length : Nat)) ss.length)]) (zs := [(marks Q0 ls.length), (marks K1 x4.length), (marks (K1 + (x4.length : Nat)) x5.length), (marks K0 x2.length), (marks (K0 + (x2.length : Nat)) x3.length), (marks 1 x0.length), (marks (1 + (x0.length : Nat)) x1.length), fs, ss, ls]) S.o.grp rfl rfl).own.ints) (by omega) (by have := LF.out; have := LS.out; have := LL.out; omega)).mono ?_)
  rintro e u9 ⟨e9, x9⟩
  rw [← HQ0.out] at e9
  subst e9
  replace S := kp (S.o.quiet x9)
  clear x9
  go_wp2_with (first | (refine ldiS S.o ?_) | (refine ldlS S.o ?_) | (refine stiS S.o ?_; clear S; intro w9 S) | (refine aliS S.o ?_; clear S; intro b9 w9 S) | (refine bxlS S.o ?_; clear S; intro b9 w9 S) | (refine wW ?_; dsimp only) | fail)
  (with_reducible refine (laws_heldIntSG _ Q0 ls.length _ (show IntsL _ _ (marksL Q0 [ls.length]) from (Grp.mid (hs_ := [(.slice pG0 fs.length mG0), (.slice pG1 ss.length mG1)]) (us := [(.slice pG2 ls.length mG2)]) (bs := [(.slice pX2_0 x4.length mX2_0), (.slice pX2_1 x5.length mX2_1), (.slice pX1_0 x2.length mX1_0), (.slice pX1_1 x3.length mX1_1), (.slice pX0_0 x0.length mX0_0), (.slice pX0_1 x1.length mX0_1), (.slice pW0 fs.length mW0), (.slice pW1 ss.length mW1), (.slice pW2 ls.length mW2)]) (xs := [(marks 1 fs.length), (marks (1 + (fs.length : Nat)) ss.length)]) (ys := [(marks Q0 ls.length)]) (zs := [(marks K1 x4.length), (marks (K1 + (x4.length : Nat)) x5.length), (marks K0 x2.length), (marks (K0 + (x2.length : Nat)) x3.length), (marks 1 x0.length), (marks (1 + (x0.length : Nat)) x1.length), fs, ss, ls]) S.o.grp rfl rfl).own.ints) (by omega) (by have := LF.out; have := LS.out; have := LL.out; omega)).mono ?_)
  rintro e u9 ⟨e9, x9⟩
  rw [← HQ1.out] at e9
  subst e9
  replace S := kp (S.o.quiet x9)
  clear x9
  go_wp2_with (first | (refine ldiS S.o ?_) | (refine ldlS S.o ?_) | (refine stiS S.o ?_; clear S; intro w9 S) | (refine aliS S.o ?_; clear S; intro b9 w9 S) | (refine bxlS S.o ?_; clear S; intro b9 w9 S) | (refine wW ?_; dsimp only) | fail)
  apply wp_region_zipV (XS.rel _ [] [30]) (fun L V w' => Bs u9.heap.size [⟨12, 13, 9, 30, #[.int .i64 0, .int .i64 0, .slice none 0 0, .int .i64 0, .int .i64 0, .slice none 0 0]⟩] L V w') [isv _, argV_FnExactSharedDense2 (by decide) r0 c0 x0 r1 c1 x1, isv _, argV_FnExactSharedDense2 (by decide) r2 c2 x2 r3 c3 x3, isv _, argV_FnExactSharedDense2 (by decide) r4 c4 x4 r5 c5 x5, isv _, resV_FnExactSharedDense (by decide) fr fc sr sc N fs ss ls, resV_FnExactSharedDense (by decide) fr fc sr sc N fs ss ls, tgetV 8 0, tgetV 8 1, tgetV 8 2, anyV, anyV, sameV 10, sameV 11] _ ?hJ (by kernel_rfl)
  case hJ => exact Bs.start _ _ _ _
  case hA => intro V; simp [putAll, dstOf, Act.put]; exact rfl
  case hsl => intro V; exact rfl
  case step =>
    intro V lo up w' hr L hj
    have S := kp (S.o.quiet hr.ext)
    simp only [zipOkV, depsImp, isv, resV_FnExactSharedDense, argV_FnExactSharedDense2, tgetV, sameV, anyV, modeNg, newb, waits, Region.binds, List.map_nil, List.map_cons, List.headD_cons, List.nil_append, List.cons_append, List.filterMap_cons, List.filterMap_nil, ↓reduceIte, modeNe, Bool.false_eq_true, true_implies, List.getD_cons_zero, List.getD_cons_succ, and_true, Nat.zero_add, Nat.reduceAdd]
    refine ⟨?_, ?_, ?_, ?_, ?_, ?_, ?_, ?_, ?_, ?_, ?_, ?_, ?_, ?_, ?_, ?_⟩
    · intro hl hw hd
      intros
      (try simp only [*])
      go_wp2_with (first | (refine ldiS S.o ?_) | (refine ldlS S.o ?_) | (refine wW ?_; dsimp only) | fail)
      refine sS ?_
      exact ⟨XS.refl _, rfl, hj.other (Ext.refl _) hl (by intro it hit; simp only [List.mem_cons, List.not_mem_nil, or_false] at hit; subst hit; exact ⟨by decide, by decide⟩)⟩
    · intro hl hw hd
      intros
      (try simp only [*])
      go_wp2_with (fail)
      (with_reducible refine (TO0.out _ S.o.ext).mono ?_)
      rintro e w9 ⟨u0, u1, rfl, gg, x9⟩
      go_wp2
      refine sS ?_
      exact ⟨XS.of_ext x9, ⟨u0, u1, rfl, gg.mono hr.size⟩, hj.other x9 hl (by intro it hit; simp only [List.mem_cons, List.not_mem_nil, or_false] at hit; subst hit; exact ⟨by decide, by decide⟩)⟩
    · intro hl hw hd
      intros
      (try simp only [*])
      go_wp2_with (first | (refine ldiS S.o ?_) | (refine ldlS S.o ?_) | (refine wW ?_; dsimp only) | fail)
      refine sS ?_
      exact ⟨XS.refl _, rfl, hj.other (Ext.refl _) hl (by intro it hit; simp only [List.mem_cons, List.not_mem_nil, or_false] at hit; subst hit; exact ⟨by decide, by decide⟩)⟩
    · intro hl hw hd
      intros
      (try simp only [*])
      go_wp2_with (fail)
      (with_reducible refine (TO1.out _ S.o.ext).mono ?_)
      rintro e w9 ⟨u2, u3, rfl, gg, x9⟩
      go_wp2
      refine sS ?_
      exact ⟨XS.of_ext x9, ⟨u2, u3, rfl, gg.mono hr.size⟩, hj.other x9 hl (by intro it hit; simp only [List.mem_cons, List.not_mem_nil, or_false] at hit; subst hit; exact ⟨by decide, by decide⟩)⟩
    · intro hl hw hd
      intros
      (try simp only [*])
      go_wp2_with (first | (refine ldiS S.o ?_) | (refine ldlS S.o ?_) | (refine wW ?_; dsimp only) | fail)
      refine sS ?_
      exact ⟨XS.refl _, rfl, hj.other (Ext.refl _) hl (by intro it hit; simp only [List.mem_cons, List.not_mem_nil, or_false] at hit; subst hit; exact ⟨by decide, by decide⟩)⟩
    · intro hl hw hd
      intros
      (try simp only [*])
      go_wp2_with (fail)
      (with_reducible refine (TO2.out _ S.o.ext).mono ?_)
      rintro e w9 ⟨u4, u5, rfl, gg, x9⟩
      go_wp2
      refine sS ?_
      exact ⟨XS.of_ext x9, ⟨u4, u5, rfl, gg.mono hr.size⟩, hj.other x9 hl (by intro it hit; simp only [List.mem_cons, List.not_mem_nil, or_false] at hit; subst hit; exact ⟨by decide, by decide⟩)⟩
    · intro hl hw hd
      intros
      (try simp only [*])
      go_wp2_with (first | (refine ldiS S.o ?_) | (refine ldlS S.o ?_) | (refine wW ?_; dsimp only) | fail)
      refine sS ?_
      exact ⟨XS.refl _, rfl, hj.other (Ext.refl _) hl (by intro it hit; simp only [List.mem_cons, List.not_mem_nil, or_false] at hit; subst hit; exact ⟨by decide, by decide⟩)⟩
    · intro hl hw hd
      intros
      obtain ⟨u0, u1, ea0, ga0⟩ := ‹∃ z0 z1, V 1 = _ ∧ Grp _ _ _ [x0, x1]›
      obtain ⟨u2, u3, ea1, ga1⟩ := ‹∃ z0 z1, V 3 = _ ∧ Grp _ _ _ [x2, x3]›
      obtain ⟨u4, u5, ea2, ga2⟩ := ‹∃ z0 z1, V 5 = _ ∧ Grp _ _ _ [x4, x5]›
      (try simp only [*])
      go_wp2_with (fail)
      (with_reducible refine (IP.out _ _ _ _ _ _ _ ga0.o0.ints ga0.o1.ints ga1.o0.ints ga1.o1.ints ga2.o0.ints ga2.o1.ints).mono ?_)
      rintro e w9 ⟨v0, v1, v2, rfl, gg, x9⟩
      go_wp2
      refine sS ?_
      exact ⟨XS.of_ext x9, ⟨v0, v1, v2, rfl, gg.mono hr.size⟩, hj.other x9 hl (by intro it hit; simp only [List.mem_cons, List.not_mem_nil, or_false] at hit; subst hit; exact ⟨by decide, by decide⟩)⟩
    · intro hl hw hd
      intros
      obtain ⟨v0, v1, v2, e_r, g_r⟩ := ‹∃ z0 z1 z2, V 7 = _ ∧ Grp _ _ _ [fs, ss, ls]›
      (try simp only [*])
      go_wp2_with (first | (refine ldiS S.o ?_) | (refine ldlS S.o ?_) | (refine wW ?_; dsimp only) | fail)
      refine sS ?_
      exact ⟨XS.refl _, ⟨v0, v1, v2, rfl, g_r⟩, hj.other (Ext.refl _) hl (by intro it hit; simp only [List.mem_cons, List.not_mem_nil, or_false] at hit; subst hit; exact ⟨by decide, by decide⟩)⟩
    · intro hl hw hd
      intros
      obtain ⟨v0, v1, v2, e_r, g_r⟩ := ‹∃ z0 z1 z2, V 8 = _ ∧ Grp _ _ _ [fs, ss, ls]›
      (try simp only [*])
      go_wp2_with (first | (refine ldiS S.o ?_) | (refine ldlS S.o ?_) | (refine wW ?_; dsimp only) | fail)
      refine sS ?_
      exact ⟨XS.refl _, by (try rw [e_r]); rfl, hj.other (Ext.refl _) hl (by intro it hit; simp only [List.mem_cons, List.not_mem_nil, or_false] at hit; subst hit; exact ⟨by decide, by decide⟩)⟩
    · intro hl hw hd
      intros
      obtain ⟨v0, v1, v2, e_r, g_r⟩ := ‹∃ z0 z1 z2, V 8 = _ ∧ Grp _ _ _ [fs, ss, ls]›
      (try simp only [*])
      go_wp2_with (first | (refine ldiS S.o ?_) | (refine ldlS S.o ?_) | (refine wW ?_; dsimp only) | fail)
      refine sS ?_
      exact ⟨XS.refl _, by (try rw [e_r]); rfl, hj.other (Ext.refl _) hl (by intro it hit; simp only [List.mem_cons, List.not_mem_nil, or_false] at hit; subst hit; exact ⟨by decide, by decide⟩)⟩
    · intro hl hw hd
      intros
      obtain ⟨v0, v1, v2, e_r, g_r⟩ := ‹∃ z0 z1 z2, V 8 = _ ∧ Grp _ _ _ [fs, ss, ls]›
      (try simp only [*])
      go_wp2_with (first | (refine ldiS S.o ?_) | (refine ldlS S.o ?_) | (refine wW ?_; dsimp only) | fail)
      refine sS ?_
      exact ⟨XS.refl _, by (try rw [e_r]); rfl, hj.other (Ext.refl _) hl (by intro it hit; simp only [List.mem_cons, List.not_mem_nil, or_false] at hit; subst hit; exact ⟨by decide, by decide⟩)⟩
    · intro hl hw hd
      intros
      go_wp2
      refine sS ?_
      exact ⟨XS.of_ext ((Ext.refl _).alloc _), trivial, hj.alloc (it0 := ⟨12, 13, 9, 30, #[.int .i64 0, .int .i64 0, .slice none 0 0, .int .i64 0, .int .i64 0, .slice none 0 0]⟩) (by simp) hl (by intro jt hjt h; simp only [List.mem_cons, List.not_mem_nil, or_false] at hjt; subst hjt; first | rfl | exact absurd h (by decide)) (by intro it hit; simp only [List.mem_cons, List.not_mem_nil, or_false] at hit; subst hit; exact ⟨by decide, by decide⟩) (b := w'.heap.size) (Nat.le_refl _) hr.size ((Ext.refl _).alloc _) (Blk.new _ _ _)⟩
    · intro hl hw hd
      obtain ⟨b_, eb, lb, -, k0, -⟩ := hj.box ⟨12, 13, 9, 30, #[.int .i64 0, .int .i64 0, .slice none 0 0, .int .i64 0, .int .i64 0, .slice none 0 0]⟩ (by simp) (hd 12 (by simp))
      have kz := k0 hl
      intros
      obtain ⟨v0, v1, v2, e_r, g_r⟩ := ‹∃ z0 z1 z2, V 8 = _ ∧ Grp _ _ _ [fs, ss, ls]›
      obtain ⟨pv0, mv0, hu9, -, -⟩ := id (g_r.get 0 rfl rfl).ints
      try simp only at hu9
      subst hu9
      obtain ⟨pv1, mv1, hu9, -, -⟩ := id (g_r.get 1 rfl rfl).ints
      try simp only at hu9
      subst hu9
      have e_ : V 9 = .agg #[.int .i64 fr, .int .i64 fc, .slice pv0 fs.length mv0, .int .i64 sr, .int .i64 sc, .slice pv1 ss.length mv1] := by
        have a := ‹V 9 = tget (V 8) 0›
        rw [e_r] at a
        exact a
      refine wpList_putX (by rfl) (by rfl) _ _ (by rfl) b_ _ _ (by exact eb) (by exact e_) kz (by kernel_rfl) (by rfl) (by simp [Value.oneCell']) (.inr ⟨lb, by simp⟩) (fun w'' f k hoth hsz u => ⟨f, trivial, hj.store (it0 := ⟨12, 13, 9, 30, #[.int .i64 0, .int .i64 0, .slice none 0 0, .int .i64 0, .int .i64 0, .slice none 0 0]⟩) (by simp) (hd 12 (by simp)) (hd 9 (by simp)) (by intro jt hjt h; simp only [List.mem_cons, List.not_mem_nil, or_false] at hjt; subst hjt; first | rfl | exact absurd h (by decide)) (by intro jt hjt h; simp only [List.mem_cons, List.not_mem_nil, or_false] at hjt; subst hjt; first | rfl | exact absurd h (by decide)) (by intro it hit; simp only [List.mem_cons, List.not_mem_nil, or_false] at hit; subst hit; exact ⟨by decide, by decide⟩) eb e_ k hoth hsz⟩)
    · intro hl hw hd
      intros
      (try simp only [*])
      go_wp2_with (first | (refine ldiS S.o ?_) | (refine ldlS S.o ?_) | (refine wW ?_; dsimp only) | fail)
      refine sS ?_
      exact ⟨XS.refl _, rfl, hj.other (Ext.refl _) hl (by intro it hit; simp only [List.mem_cons, List.not_mem_nil, or_false] at hit; subst hit; exact ⟨by decide, by decide⟩)⟩
    intro hl hw hd
    intros
    (try simp only [*])
    go_wp2_with (first | (refine ldiS S.o ?_) | (refine ldlS S.o ?_) | (refine wW ?_; dsimp only) | fail)
    refine sS ?_
    exact ⟨XS.refl _, rfl, hj.other (Ext.refl _) hl (by intro it hit; simp only [List.mem_cons, List.not_mem_nil, or_false] at hit; subst hit; exact ⟨by decide, by decide⟩)⟩
  case hB => kernel_rfl
  intro V lo up w' hr L hj hL hf ha
  simp only [factsOk, isv, resV_FnExactSharedDense, argV_FnExactSharedDense2, tgetV, sameV, anyV, modeNg, newb, List.map_nil, List.map_cons, List.headD_cons, and_true, Nat.zero_add, Nat.reduceAdd] at hf
  simp only [List.length_cons, List.length_nil, Nat.zero_add, Nat.reduceAdd, List.drop_succ_cons, List.drop_zero]
  obtain ⟨-, -, -, -, -, -, -, -, ⟨-, -, -, v0, v1, v2, eM, gM⟩, ⟨-, -, -, eX0⟩, ⟨-, -, -, eX1⟩, ⟨-, -, -, eX2⟩, -, -, ⟨-, -, -, eA1⟩, ⟨-, -, -, eA2⟩⟩ := hf
  clear ha
  obtain ⟨pH0, mH0, hu9, -, -⟩ := id (gM.get 0 rfl rfl).ints
  try simp only at hu9
  subst hu9
  obtain ⟨pH1, mH1, hu9, -, -⟩ := id (gM.get 1 rfl rfl).ints
  try simp only at hu9
  subst hu9
  obtain ⟨pH2, mH2, hu9, -, -⟩ := id (gM.get 2 rfl rfl).ints
  try simp only at hu9
  subst hu9
  have eY0 : V 9 = .agg #[.int .i64 fr, .int .i64 fc, .slice pH0 fs.length mH0, .int .i64 sr, .int .i64 sc, .slice pH1 ss.length mH1] := by
    have a := eX0
    rw [eM] at a
    exact a
  have eY1 : V 10 = .slice pH2 ls.length mH2 := by
    have a := eX1
    rw [eM] at a
    exact a
  have eY2 : V 11 = .int .i64 N := by
    have a := eX2
    rw [eM] at a
    exact a
  have eB1 := eA1.trans eY1
  rw [eB1]
  have eB2 := eA2.trans eY2
  rw [eB2]
  obtain ⟨bH0, eb0, lb0, -, -, kk⟩ := hj.box ⟨12, 13, 9, 30, #[.int .i64 0, .int .i64 0, .slice none 0 0, .int .i64 0, .int .i64 0, .slice none 0 0]⟩ (by simp) (hL 12 (by simp))
  obtain ⟨cs, es, k0⟩ := kk (hL 13 (by simp))
  rw [eY0] at es
  injection es with es
  subst es
  rw [eb0]
  have S9 := S.o.grow (S.o.quiet hr.ext) [⟨bH0, 30, [.int .i64 fr, .int .i64 fc, .slice pH0 fs.length mH0, .int .i64 sr, .int .i64 sc, .slice pH1 ss.length mH1]⟩] (by intro p hp; simp only [List.mem_cons, List.not_mem_nil, or_false] at hp; rcases hp with rfl <;> first | exact ⟨k0, lb0⟩) (by simp) gM (by intro p hp v hv; simp only [List.mem_cons, List.not_mem_nil, or_false] at hp; rcases hp with rfl <;> first | exact gM.ne k0 (by decide) v hv)
  simp only [List.cons_append, List.nil_append] at S9
  replace S := kp S9
  clear S9 hr hj gM
  go_wp2_with (first | (refine ldiS S.o ?_) | (refine ldlS S.o ?_) | (refine stiS S.o ?_; clear S; intro w9 S) | (refine aliS S.o ?_; clear S; intro b9 w9 S) | (refine bxlS S.o ?_; clear S; intro b9 w9 S) | (refine wW ?_; dsimp only) | fail)
  (with_reducible refine (laws_eqSharedMatrix fr fc sr sc _ _ _ _ fs ss _ (S.o.grp.get 0 rfl rfl).ints (S.o.grp.get 1 rfl rfl).ints (S.o.grp.get 12 rfl rfl).ints (S.o.grp.get 13 rfl rfl).ints).mono ?_)
  rintro e u9 ⟨rfl, x9⟩
  replace S := kp (S.o.quiet x9)
  clear x9
  go_wp2_with (first | (refine ldiS S.o ?_) | (refine ldlS S.o ?_) | (refine stiS S.o ?_; clear S; intro w9 S) | (refine aliS S.o ?_; clear S; intro b9 w9 S) | (refine bxlS S.o ?_; clear S; intro b9 w9 S) | (refine wW ?_; dsimp only) | fail)
  (with_reducible refine (laws_eqIntS _ _ ls _ (S.o.grp.get 2 rfl rfl).ints (S.o.grp.get 14 rfl rfl).ints).mono ?_)
  rintro e u9 ⟨rfl, x9⟩
  replace S := kp (S.o.quiet x9)
  clear x9
  go_wp2_with (first | (refine ldiS S.o ?_) | (refine ldlS S.o ?_) | (refine stiS S.o ?_; clear S; intro w9 S) | (refine aliS S.o ?_; clear S; intro b9 w9 S) | (refine bxlS S.o ?_; clear S; intro b9 w9 S) | (refine wW ?_; dsimp only) | fail)
  (with_reducible refine (laws_heldSharedMatrix fr fc sr sc _ _ 1 fs.length ss.length _ (show IntsL _ _ (marksL 1 [fs.length, ss.length]) from (Grp.mid (hs_ := [(.slice pH0 fs.length mH0), (.slice pH1 ss.length mH1), (.slice pH2 ls.length mH2)]) (us := [(.slice pG0 fs.length mG0), (.slice pG1 ss.length mG1)]) (bs := [(.slice pG2 ls.length mG2), (.slice pX2_0 x4.length mX2_0), (.slice pX2_1 x5.length mX2_1), (.slice pX1_0 x2.length mX1_0), (.slice pX1_1 x3.length mX1_1), (.slice pX0_0 x0.length mX0_0), (.slice pX0_1 x1.length mX0_1), (.slice pW0 fs.length mW0), (.slice pW1 ss.length mW1), (.slice pW2 ls.length mW2)]) (xs := [fs, ss, ls]) (ys := [(marks 1 fs.length), (marks (1 + (fs.length : Nat)) ss.length)]) (zs := [(marks Q0 ls.length), (marks K1 x4.length), (marks (K1 + (x4.length : Nat)) x5.length), (marks K0 x2.length), (marks (K0 + (x2.length : Nat)) x3.length), (marks 1 x0.length), (marks (1 + (x0.length : Nat)) x1.length), fs, ss, ls]) S.o.grp rfl rfl).own.ints) (by omega) (by have := LF.out; have := LS.out; have := LL.out; omega)).mono ?_)
  rintro e u9 ⟨e9, x9⟩
  rw [← HQ0.out] at e9
  subst e9
  replace S := kp (S.o.quiet x9)
  clear x9
  go_wp2_with (first | (refine ldiS S.o ?_) | (refine ldlS S.o ?_) | (refine stiS S.o ?_; clear S; intro w9 S) | (refine aliS S.o ?_; clear S; intro b9 w9 S) | (refine bxlS S.o ?_; clear S; intro b9 w9 S) | (refine wW ?_; dsimp only) | fail)
  (with_reducible refine (laws_heldIntSG _ Q0 ls.length _ (show IntsL _ _ (marksL Q0 [ls.length]) from (Grp.mid (hs_ := [(.slice pH0 fs.length mH0), (.slice pH1 ss.length mH1), (.slice pH2 ls.length mH2), (.slice pG0 fs.length mG0), (.slice pG1 ss.length mG1)]) (us := [(.slice pG2 ls.length mG2)]) (bs := [(.slice pX2_0 x4.length mX2_0), (.slice pX2_1 x5.length mX2_1), (.slice pX1_0 x2.length mX1_0), (.slice pX1_1 x3.length mX1_1), (.slice pX0_0 x0.length mX0_0), (.slice pX0_1 x1.length mX0_1), (.slice pW0 fs.length mW0), (.slice pW1 ss.length mW1), (.slice pW2 ls.length mW2)]) (xs := [fs, ss, ls, (marks 1 fs.length), (marks (1 + (fs.length : Nat)) ss.length)]) (ys := [(marks Q0 ls.length)]) (zs := [(marks K1 x4.length), (marks (K1 + (x4.length : Nat)) x5.length), (marks K0 x2.length), (marks (K0 + (x2.length : Nat)) x3.length), (marks 1 x0.length), (marks (1 + (x0.length : Nat)) x1.length), fs, ss, ls]) S.o.grp rfl rfl).own.ints) (by omega) (by have := LF.out; have := LS.out; have := LL.out; omega)).mono ?_)
  rintro e u9 ⟨e9, x9⟩
  rw [← HQ1.out] at e9
  subst e9
  replace S := kp (S.o.quiet x9)
  clear x9
  go_wp2_with (first | (refine ldiS S.o ?_) | (refine ldlS S.o ?_) | (refine stiS S.o ?_; clear S; intro w9 S) | (refine aliS S.o ?_; clear S; intro b9 w9 S) | (refine bxlS S.o ?_; clear S; intro b9 w9 S) | (refine wW ?_; dsimp only) | fail)
  go_ret
  exact ⟨rfl, S.o.ext⟩
end Go.Proofs.YtkkdikoknegpjaaGreat
