import Derived.Test.YtkkdikoknegpjaaGreatKX
namespace Go.Proofs.YtkkdikoknegpjaaGreat
set_option linter.unusedSimpArgs false
set_option linter.unusedVariables false
open Go.RowKit
set_option maxHeartbeats 8000000 in
set_option maxRecDepth 4000 in
theorem impl_MulSharedMatrices (r0 c0 r1 c1 r2 c2 r3 c3 r4 c4 r5 c5 r6 c6 r7 c7 r8 c8 r9 c9 : Int) (v0 v1 v2 v3 v4 v5 v6 v7 v8 v9 : Value) (x0 x1 x2 x3 x4 x5 x6 x7 x8 x9 : List Int) (w : World) (h0 : Ints w v0 x0) (h1 : Ints w v1 x1) (h2 : Ints w v2 x2) (h3 : Ints w v3 x3) (h4 : Ints w v4 x4) (h5 : Ints w v5 x5) (h6 : Ints w v6 x6) (h7 : Ints w v7 x7) (h8 : Ints w v8 x8) (h9 : Ints w v9 x9) (f4 : Fit v4) (f5 : Fit v5) : Calls Tryz.prog 93 #[.agg #[.int .i64 r0, .int .i64 c0, v0, .int .i64 r1, .int .i64 c1, v1], .agg #[.int .i64 r2, .int .i64 c2, v2, .int .i64 r3, .int .i64 c3, v3], .agg #[.int .i64 r4, .int .i64 c4, v4, .int .i64 r5, .int .i64 c5, v5, .int .i64 r6, .int .i64 c6, v6, .int .i64 r7, .int .i64 c7, v7, .int .i64 r8, .int .i64 c8, v8, .int .i64 r9, .int .i64 c9, v9]] w (MulPost ⟨⟨r0, c0, x0⟩, ⟨r1, c1, x1⟩⟩ ⟨⟨r2, c2, x2⟩, ⟨r3, c3, x3⟩⟩ ⟨⟨⟨r4, c4, x4⟩, ⟨r5, c5, x5⟩⟩, ⟨⟨r6, c6, x6⟩, ⟨r7, c7, x7⟩⟩, ⟨⟨r8, c8, x8⟩, ⟨r9, c9, x9⟩⟩⟩ w) := by
 cases g1 : ShM.ok ⟨⟨r0, c0, x0⟩, ⟨r1, c1, x1⟩⟩
 ·have hz : mulShOk ⟨⟨r0, c0, x0⟩, ⟨r1, c1, x1⟩⟩ ⟨⟨r2, c2, x2⟩, ⟨r3, c3, x3⟩⟩ ⟨⟨⟨r4, c4, x4⟩, ⟨r5, c5, x5⟩⟩, ⟨⟨r6, c6, x6⟩, ⟨r7, c7, x7⟩⟩, ⟨⟨r8, c8, x8⟩, ⟨r9, c9, x9⟩⟩⟩ = false := by unfold mulShOk; simp only; simp only [g1, Bool.and_false, Bool.false_and]
  rw [MulPost_bad hz]
  clear hz
  unfold MulP4 matZ
  simp only
  have VX := kp (fun (v u : Value) (w' : World) (h : Ints w' v x0) (k : Ints w' u x1) => impl_SharedMatrixValid r0 c0 r1 c1 v u x0 x1 false g1 w' h k)
  clear g1
  obtain ⟨s0, n0, rfl, hm9, hc9⟩ := id h0
  clear hm9 hc9
  have H0 := kp h0
  clear h0
  obtain ⟨s1, n1, rfl, hm9, hc9⟩ := id h1
  clear hm9 hc9
  have H1 := kp h1
  clear h1
  obtain ⟨s2, n2, rfl, hm9, hc9⟩ := id h2
  clear hm9 hc9
  have H2 := kp h2
  clear h2
  obtain ⟨s3, n3, rfl, hm9, hc9⟩ := id h3
  clear hm9 hc9
  have H3 := kp h3
  clear h3
  obtain ⟨s4, n4, rfl, hm9, hc9⟩ := id h4
  clear hm9 hc9
  have H4 := kp h4
  clear h4
  obtain ⟨s5, n5, rfl, hm9, hc9⟩ := id h5
  clear hm9 hc9
  have H5 := kp h5
  clear h5
  obtain ⟨s6, n6, rfl, hm9, hc9⟩ := id h6
  clear hm9 hc9
  have H6 := kp h6
  clear h6
  obtain ⟨s7, n7, rfl, hm9, hc9⟩ := id h7
  clear hm9 hc9
  have H7 := kp h7
  clear h7
  obtain ⟨s8, n8, rfl, hm9, hc9⟩ := id h8
  clear hm9 hc9
  have H8 := kp h8
  clear h8
  obtain ⟨s9, n9, rfl, hm9, hc9⟩ := id h9
  clear hm9 hc9
  have H9 := kp h9
  clear h9
  have S := kp (St.start w)
  go_enter Tryz.func93, Tryz.ntmps93
  go_wp2_with (first | (refine bxiS (L := []) S.o ?_; clear S; intro b3 w9 S) | (refine bxiS (L := [_]) S.o ?_; clear S; intro b4 w9 S) | (refine bxiT (L := [_, _]) S.o ?_; clear S; intro b5 w9 S) | (refine aliS (L := [_, _, _]) S.o ?_; clear S; intro b6 w9 S) | (refine aliM (L := [_, _, _, _]) S.o ?_; clear S; intro b7 w9 S) | (refine aliM (L := [_, _, _, _, _]) S.o ?_; clear S; intro b8 w9 S) | (refine ldiM S.o ?_) | (refine ldiS S.o ?_) | (refine ldiT S.o ?_) | (refine stiM S.o ?_; clear S; intro w9 S) | (refine stiS S.o ?_; clear S; intro w9 S) | (refine wW ?_; dsimp only) | fail)
  (with_reducible refine (VX.out _ _ _ (H0.out.keep S.o.ext) (H1.out.keep S.o.ext)).mono ?_)
  rintro e u9 ⟨rfl, x9⟩
  replace S := kp (S.o.quiet x9)
  clear x9
  go_upto_if 44 with (fail)
  go_wp2_with (first | (refine ldiM S.o ?_) | (refine ldiS S.o ?_) | (refine ldiT S.o ?_) | (refine stiM S.o ?_; clear S; intro w9 S) | (refine stiS S.o ?_; clear S; intro w9 S) | (refine wW ?_; dsimp only) | fail)
  exact bodyPost_ret (v := zzB) (by exact res4 rfl (by exact (rsiS S.o)) (by exact (rsiM S.o)) (by exact (rsiM S.o)) rfl) rfl ⟨_, _, _, _, rfl, Grp.zero4 _ _, S.o.ext⟩
 cases g2 : ShM.ok ⟨⟨r2, c2, x2⟩, ⟨r3, c3, x3⟩⟩
 ·have hz : mulShOk ⟨⟨r0, c0, x0⟩, ⟨r1, c1, x1⟩⟩ ⟨⟨r2, c2, x2⟩, ⟨r3, c3, x3⟩⟩ ⟨⟨⟨r4, c4, x4⟩, ⟨r5, c5, x5⟩⟩, ⟨⟨r6, c6, x6⟩, ⟨r7, c7, x7⟩⟩, ⟨⟨r8, c8, x8⟩, ⟨r9, c9, x9⟩⟩⟩ = false := by unfold mulShOk; simp only; simp only [g1, g2, Bool.and_false, Bool.false_and]
  rw [MulPost_bad hz]
  clear hz
  unfold MulP4 matZ
  simp only
  have VX := kp (fun (v u : Value) (w' : World) (h : Ints w' v x0) (k : Ints w' u x1) => impl_SharedMatrixValid r0 c0 r1 c1 v u x0 x1 true g1 w' h k)
  have VY := kp (fun (v u : Value) (w' : World) (h : Ints w' v x2) (k : Ints w' u x3) => impl_SharedMatrixValid r2 c2 r3 c3 v u x2 x3 false g2 w' h k)
  clear g1 g2
  obtain ⟨s0, n0, rfl, hm9, hc9⟩ := id h0
  clear hm9 hc9
  have H0 := kp h0
  clear h0
  obtain ⟨s1, n1, rfl, hm9, hc9⟩ := id h1
  clear hm9 hc9
  have H1 := kp h1
  clear h1
  obtain ⟨s2, n2, rfl, hm9, hc9⟩ := id h2
  clear hm9 hc9
  have H2 := kp h2
  clear h2
  obtain ⟨s3, n3, rfl, hm9, hc9⟩ := id h3
  clear hm9 hc9
  have H3 := kp h3
  clear h3
  obtain ⟨s4, n4, rfl, hm9, hc9⟩ := id h4
  clear hm9 hc9
  have H4 := kp h4
  clear h4
  obtain ⟨s5, n5, rfl, hm9, hc9⟩ := id h5
  clear hm9 hc9
  have H5 := kp h5
  clear h5
  obtain ⟨s6, n6, rfl, hm9, hc9⟩ := id h6
  clear hm9 hc9
  have H6 := kp h6
  clear h6
  obtain ⟨s7, n7, rfl, hm9, hc9⟩ := id h7
  clear hm9 hc9
  have H7 := kp h7
  clear h7
  obtain ⟨s8, n8, rfl, hm9, hc9⟩ := id h8
  clear hm9 hc9
  have H8 := kp h8
  clear h8
  obtain ⟨s9, n9, rfl, hm9, hc9⟩ := id h9
  clear hm9 hc9
  have H9 := kp h9
  clear h9
  have S := kp (St.start w)
  go_enter Tryz.func93, Tryz.ntmps93
  go_wp2_with (first | (refine bxiS (L := []) S.o ?_; clear S; intro b3 w9 S) | (refine bxiS (L := [_]) S.o ?_; clear S; intro b4 w9 S) | (refine bxiT (L := [_, _]) S.o ?_; clear S; intro b5 w9 S) | (refine aliS (L := [_, _, _]) S.o ?_; clear S; intro b6 w9 S) | (refine aliM (L := [_, _, _, _]) S.o ?_; clear S; intro b7 w9 S) | (refine aliM (L := [_, _, _, _, _]) S.o ?_; clear S; intro b8 w9 S) | (refine ldiM S.o ?_) | (refine ldiS S.o ?_) | (refine ldiT S.o ?_) | (refine stiM S.o ?_; clear S; intro w9 S) | (refine stiS S.o ?_; clear S; intro w9 S) | (refine wW ?_; dsimp only) | fail)
  (with_reducible refine (VX.out _ _ _ (H0.out.keep S.o.ext) (H1.out.keep S.o.ext)).mono ?_)
  rintro e u9 ⟨rfl, x9⟩
  replace S := kp (S.o.quiet x9)
  clear x9
  go_wp2_with (first | (refine ldiM S.o ?_) | (refine ldiS S.o ?_) | (refine ldiT S.o ?_) | (refine stiM S.o ?_; clear S; intro w9 S) | (refine stiS S.o ?_; clear S; intro w9 S) | (refine wW ?_; dsimp only) | fail)
  (with_reducible refine (VY.out _ _ _ (H2.out.keep S.o.ext) (H3.out.keep S.o.ext)).mono ?_)
  rintro e u9 ⟨rfl, x9⟩
  replace S := kp (S.o.quiet x9)
  clear x9
  go_upto_if 44 with (fail)
  go_wp2_with (first | (refine ldiM S.o ?_) | (refine ldiS S.o ?_) | (refine ldiT S.o ?_) | (refine stiM S.o ?_; clear S; intro w9 S) | (refine stiS S.o ?_; clear S; intro w9 S) | (refine wW ?_; dsimp only) | fail)
  exact bodyPost_ret (v := zzB) (by exact res4 rfl (by exact (rsiS S.o)) (by exact (rsiM S.o)) (by exact (rsiM S.o)) rfl) rfl ⟨_, _, _, _, rfl, Grp.zero4 _ _, S.o.ext⟩
 cases g3 : TrM.ok ⟨⟨⟨r4, c4, x4⟩, ⟨r5, c5, x5⟩⟩, ⟨⟨r6, c6, x6⟩, ⟨r7, c7, x7⟩⟩, ⟨⟨r8, c8, x8⟩, ⟨r9, c9, x9⟩⟩⟩
 ·have hz : mulShOk ⟨⟨r0, c0, x0⟩, ⟨r1, c1, x1⟩⟩ ⟨⟨r2, c2, x2⟩, ⟨r3, c3, x3⟩⟩ ⟨⟨⟨r4, c4, x4⟩, ⟨r5, c5, x5⟩⟩, ⟨⟨r6, c6, x6⟩, ⟨r7, c7, x7⟩⟩, ⟨⟨r8, c8, x8⟩, ⟨r9, c9, x9⟩⟩⟩ = false := by unfold mulShOk; simp only; simp only [g1, g2, g3, Bool.and_false, Bool.false_and]
  rw [MulPost_bad hz]
  clear hz
  unfold MulP4 matZ
  simp only
  have VX := kp (fun (v u : Value) (w' : World) (h : Ints w' v x0) (k : Ints w' u x1) => impl_SharedMatrixValid r0 c0 r1 c1 v u x0 x1 true g1 w' h k)
  have VY := kp (fun (v u : Value) (w' : World) (h : Ints w' v x2) (k : Ints w' u x3) => impl_SharedMatrixValid r2 c2 r3 c3 v u x2 x3 true g2 w' h k)
  have VT := kp (fun (v4 v5 v6 v7 v8 v9 : Value) (w' : World) (h4 : Ints w' v4 x4) (h5 : Ints w' v5 x5) (h6 : Ints w' v6 x6) (h7 : Ints w' v7 x7) (h8 : Ints w' v8 x8) (h9 : Ints w' v9 x9) => impl_MatrixTripleRight r4 c4 r5 c5 r6 c6 r7 c7 r8 c8 r9 c9 v4 v5 v6 v7 v8 v9 x4 x5 x6 x7 x8 x9 w' h4 h5 h6 h7 h8 h9 false g3)
  clear g1 g2 g3
  obtain ⟨s0, n0, rfl, hm9, hc9⟩ := id h0
  clear hm9 hc9
  have H0 := kp h0
  clear h0
  obtain ⟨s1, n1, rfl, hm9, hc9⟩ := id h1
  clear hm9 hc9
  have H1 := kp h1
  clear h1
  obtain ⟨s2, n2, rfl, hm9, hc9⟩ := id h2
  clear hm9 hc9
  have H2 := kp h2
  clear h2
  obtain ⟨s3, n3, rfl, hm9, hc9⟩ := id h3
  clear hm9 hc9
  have H3 := kp h3
  clear h3
  obtain ⟨s4, n4, rfl, hm9, hc9⟩ := id h4
  clear hm9 hc9
  have H4 := kp h4
  clear h4
  obtain ⟨s5, n5, rfl, hm9, hc9⟩ := id h5
  clear hm9 hc9
  have H5 := kp h5
  clear h5
  obtain ⟨s6, n6, rfl, hm9, hc9⟩ := id h6
  clear hm9 hc9
  have H6 := kp h6
  clear h6
  obtain ⟨s7, n7, rfl, hm9, hc9⟩ := id h7
  clear hm9 hc9
  have H7 := kp h7
  clear h7
  obtain ⟨s8, n8, rfl, hm9, hc9⟩ := id h8
  clear hm9 hc9
  have H8 := kp h8
  clear h8
  obtain ⟨s9, n9, rfl, hm9, hc9⟩ := id h9
  clear hm9 hc9
  have H9 := kp h9
  clear h9
  have S := kp (St.start w)
  go_enter Tryz.func93, Tryz.ntmps93
  go_wp2_with (first | (refine bxiS (L := []) S.o ?_; clear S; intro b3 w9 S) | (refine bxiS (L := [_]) S.o ?_; clear S; intro b4 w9 S) | (refine bxiT (L := [_, _]) S.o ?_; clear S; intro b5 w9 S) | (refine aliS (L := [_, _, _]) S.o ?_; clear S; intro b6 w9 S) | (refine aliM (L := [_, _, _, _]) S.o ?_; clear S; intro b7 w9 S) | (refine aliM (L := [_, _, _, _, _]) S.o ?_; clear S; intro b8 w9 S) | (refine ldiM S.o ?_) | (refine ldiS S.o ?_) | (refine ldiT S.o ?_) | (refine stiM S.o ?_; clear S; intro w9 S) | (refine stiS S.o ?_; clear S; intro w9 S) | (refine wW ?_; dsimp only) | fail)
  (with_reducible refine (VX.out _ _ _ (H0.out.keep S.o.ext) (H1.out.keep S.o.ext)).mono ?_)
  rintro e u9 ⟨rfl, x9⟩
  replace S := kp (S.o.quiet x9)
  clear x9
  go_wp2_with (first | (refine ldiM S.o ?_) | (refine ldiS S.o ?_) | (refine ldiT S.o ?_) | (refine stiM S.o ?_; clear S; intro w9 S) | (refine stiS S.o ?_; clear S; intro w9 S) | (refine wW ?_; dsimp only) | fail)
  (with_reducible refine (VY.out _ _ _ (H2.out.keep S.o.ext) (H3.out.keep S.o.ext)).mono ?_)
  rintro e u9 ⟨rfl, x9⟩
  replace S := kp (S.o.quiet x9)
  clear x9
  go_wp2_with (first | (refine ldiM S.o ?_) | (refine ldiS S.o ?_) | (refine ldiT S.o ?_) | (refine stiM S.o ?_; clear S; intro w9 S) | (refine stiS S.o ?_; clear S; intro w9 S) | (refine wW ?_; dsimp only) | fail)
  (with_reducible refine (VT.out _ _ _ _ _ _ _ (H4.out.keep S.o.ext) (H5.out.keep S.o.ext) (H6.out.keep S.o.ext) (H7.out.keep S.o.ext) (H8.out.keep S.o.ext) (H9.out.keep S.o.ext)).mono ?_)
  rintro e u9 ⟨rfl, x9⟩
  replace S := kp (S.o.quiet x9)
  clear x9
  go_upto_if 44 with (fail)
  go_wp2_with (first | (refine ldiM S.o ?_) | (refine ldiS S.o ?_) | (refine ldiT S.o ?_) | (refine stiM S.o ?_; clear S; intro w9 S) | (refine stiS S.o ?_; clear S; intro w9 S) | (refine wW ?_; dsimp only) | fail)
  exact bodyPost_ret (v := zzB) (by exact res4 rfl (by exact (rsiS S.o)) (by exact (rsiM S.o)) (by exact (rsiM S.o)) rfl) rfl ⟨_, _, _, _, rfl, Grp.zero4 _ _, S.o.ext⟩
 cases g4 : sameS ⟨r0, c0, x0⟩ ⟨r4, c4, x4⟩
 ·have hz : mulShOk ⟨⟨r0, c0, x0⟩, ⟨r1, c1, x1⟩⟩ ⟨⟨r2, c2, x2⟩, ⟨r3, c3, x3⟩⟩ ⟨⟨⟨r4, c4, x4⟩, ⟨r5, c5, x5⟩⟩, ⟨⟨r6, c6, x6⟩, ⟨r7, c7, x7⟩⟩, ⟨⟨r8, c8, x8⟩, ⟨r9, c9, x9⟩⟩⟩ = false := by unfold mulShOk; simp only; simp only [g1, g2, g3, g4, Bool.and_false, Bool.false_and]
  rw [MulPost_bad hz]
  clear hz
  unfold MulP4 matZ
  simp only
  have VX := kp (fun (v u : Value) (w' : World) (h : Ints w' v x0) (k : Ints w' u x1) => impl_SharedMatrixValid r0 c0 r1 c1 v u x0 x1 true g1 w' h k)
  have VY := kp (fun (v u : Value) (w' : World) (h : Ints w' v x2) (k : Ints w' u x3) => impl_SharedMatrixValid r2 c2 r3 c3 v u x2 x3 true g2 w' h k)
  have VT := kp (fun (v4 v5 v6 v7 v8 v9 : Value) (w' : World) (h4 : Ints w' v4 x4) (h5 : Ints w' v5 x5) (h6 : Ints w' v6 x6) (h7 : Ints w' v7 x7) (h8 : Ints w' v8 x8) (h9 : Ints w' v9 x9) => impl_MatrixTripleRight r4 c4 r5 c5 r6 c6 r7 c7 r8 c8 r9 c9 v4 v5 v6 v7 v8 v9 x4 x5 x6 x7 x8 x9 w' h4 h5 h6 h7 h8 h9 true g3)
  have V4 := kp (fun (v u : Value) (w' : World) => impl_sameSides r0 c0 r4 c4 v u false g4 w')
  clear g1 g2 g3 g4
  obtain ⟨s0, n0, rfl, hm9, hc9⟩ := id h0
  clear hm9 hc9
  have H0 := kp h0
  clear h0
  obtain ⟨s1, n1, rfl, hm9, hc9⟩ := id h1
  clear hm9 hc9
  have H1 := kp h1
  clear h1
  obtain ⟨s2, n2, rfl, hm9, hc9⟩ := id h2
  clear hm9 hc9
  have H2 := kp h2
  clear h2
  obtain ⟨s3, n3, rfl, hm9, hc9⟩ := id h3
  clear hm9 hc9
  have H3 := kp h3
  clear h3
  obtain ⟨s4, n4, rfl, hm9, hc9⟩ := id h4
  clear hm9 hc9
  have H4 := kp h4
  clear h4
  obtain ⟨s5, n5, rfl, hm9, hc9⟩ := id h5
  clear hm9 hc9
  have H5 := kp h5
  clear h5
  obtain ⟨s6, n6, rfl, hm9, hc9⟩ := id h6
  clear hm9 hc9
  have H6 := kp h6
  clear h6
  obtain ⟨s7, n7, rfl, hm9, hc9⟩ := id h7
  clear hm9 hc9
  have H7 := kp h7
  clear h7
  obtain ⟨s8, n8, rfl, hm9, hc9⟩ := id h8
  clear hm9 hc9
  have H8 := kp h8
  clear h8
  obtain ⟨s9, n9, rfl, hm9, hc9⟩ := id h9
  clear hm9 hc9
  have H9 := kp h9
  clear h9
  have S := kp (St.start w)
  go_enter Tryz.func93, Tryz.ntmps93
  go_wp2_with (first | (refine bxiS (L := []) S.o ?_; clear S; intro b3 w9 S) | (refine bxiS (L := [_]) S.o ?_; clear S; intro b4 w9 S) | (refine bxiT (L := [_, _]) S.o ?_; clear S; intro b5 w9 S) | (refine aliS (L := [_, _, _]) S.o ?_; clear S; intro b6 w9 S) | (refine aliM (L := [_, _, _, _]) S.o ?_; clear S; intro b7 w9 S) | (refine aliM (L := [_, _, _, _, _]) S.o ?_; clear S; intro b8 w9 S) | (refine ldiM S.o ?_) | (refine ldiS S.o ?_) | (refine ldiT S.o ?_) | (refine stiM S.o ?_; clear S; intro w9 S) | (refine stiS S.o ?_; clear S; intro w9 S) | (refine wW ?_; dsimp only) | fail)
  (with_reducible refine (VX.out _ _ _ (H0.out.keep S.o.ext) (H1.out.keep S.o.ext)).mono ?_)
  rintro e u9 ⟨rfl, x9⟩
  replace S := kp (S.o.quiet x9)
  clear x9
  go_wp2_with (first | (refine ldiM S.o ?_) | (refine ldiS S.o ?_) | (refine ldiT S.o ?_) | (refine stiM S.o ?_; clear S; intro w9 S) | (refine stiS S.o ?_; clear S; intro w9 S) | (refine wW ?_; dsimp only) | fail)
  (with_reducible refine (VY.out _ _ _ (H2.out.keep S.o.ext) (H3.out.keep S.o.ext)).mono ?_)
  rintro e u9 ⟨rfl, x9⟩
  replace S := kp (S.o.quiet x9)
  clear x9
  go_wp2_with (first | (refine ldiM S.o ?_) | (refine ldiS S.o ?_) | (refine ldiT S.o ?_) | (refine stiM S.o ?_; clear S; intro w9 S) | (refine stiS S.o ?_; clear S; intro w9 S) | (refine wW ?_; dsimp only) | fail)
  (with_reducible refine (VT.out _ _ _ _ _ _ _ (H4.out.keep S.o.ext) (H5.out.keep S.o.ext) (H6.out.keep S.o.ext) (H7.out.keep S.o.ext) (H8.out.keep S.o.ext) (H9.out.keep S.o.ext)).mono ?_)
  rintro e u9 ⟨rfl, x9⟩
  replace S := kp (S.o.quiet x9)
  clear x9
  go_wp2_with (first | (refine ldiM S.o ?_) | (refine ldiS S.o ?_) | (refine ldiT S.o ?_) | (refine stiM S.o ?_; clear S; intro w9 S) | (refine stiS S.o ?_; clear S; intro w9 S) | (refine wW ?_; dsimp only) | fail)
  (with_reducible refine (V4.out _ _ _).mono ?_)
  rintro e u9 ⟨rfl, x9⟩
  replace S := kp (S.o.quiet x9)
  clear x9
  go_upto_if 44 with (fail)
  go_wp2_with (first | (refine ldiM S.o ?_) | (refine ldiS S.o ?_) | (refine ldiT S.o ?_) | (refine stiM S.o ?_; clear S; intro w9 S) | (refine stiS S.o ?_; clear S; intro w9 S) | (refine wW ?_; dsimp only) | fail)
  exact bodyPost_ret (v := zzB) (by exact res4 rfl (by exact (rsiS S.o)) (by exact (rsiM S.o)) (by exact (rsiM S.o)) rfl) rfl ⟨_, _, _, _, rfl, Grp.zero4 _ _, S.o.ext⟩
 cases g5 : sameS ⟨r2, c2, x2⟩ ⟨r6, c6, x6⟩
 ·have hz : mulShOk ⟨⟨r0, c0, x0⟩, ⟨r1, c1, x1⟩⟩ ⟨⟨r2, c2, x2⟩, ⟨r3, c3, x3⟩⟩ ⟨⟨⟨r4, c4, x4⟩, ⟨r5, c5, x5⟩⟩, ⟨⟨r6, c6, x6⟩, ⟨r7, c7, x7⟩⟩, ⟨⟨r8, c8, x8⟩, ⟨r9, c9, x9⟩⟩⟩ = false := by unfold mulShOk; simp only; simp only [g1, g2, g3, g4, g5, Bool.and_false, Bool.false_and]
  rw [MulPost_bad hz]
  clear hz
  unfold MulP4 matZ
  simp only
  have VX := kp (fun (v u : Value) (w' : World) (h : Ints w' v x0) (k : Ints w' u x1) => impl_SharedMatrixValid r0 c0 r1 c1 v u x0 x1 true g1 w' h k)
  have VY := kp (fun (v u : Value) (w' : World) (h : Ints w' v x2) (k : Ints w' u x3) => impl_SharedMatrixValid r2 c2 r3 c3 v u x2 x3 true g2 w' h k)
  have VT := kp (fun (v4 v5 v6 v7 v8 v9 : Value) (w' : World) (h4 : Ints w' v4 x4) (h5 : Ints w' v5 x5) (h6 : Ints w' v6 x6) (h7 : Ints w' v7 x7) (h8 : Ints w' v8 x8) (h9 : Ints w' v9 x9) => impl_MatrixTripleRight r4 c4 r5 c5 r6 c6 r7 c7 r8 c8 r9 c9 v4 v5 v6 v7 v8 v9 x4 x5 x6 x7 x8 x9 w' h4 h5 h6 h7 h8 h9 true g3)
  have V4 := kp (fun (v u : Value) (w' : World) => impl_sameSides r0 c0 r4 c4 v u true g4 w')
  have V5 := kp (fun (v u : Value) (w' : World) => impl_sameSides r2 c2 r6 c6 v u false g5 w')
  clear g1 g2 g3 g4 g5
  obtain ⟨s0, n0, rfl, hm9, hc9⟩ := id h0
  clear hm9 hc9
  have H0 := kp h0
  clear h0
  obtain ⟨s1, n1, rfl, hm9, hc9⟩ := id h1
  clear hm9 hc9
  have H1 := kp h1
  clear h1
  obtain ⟨s2, n2, rfl, hm9, hc9⟩ := id h2
  clear hm9 hc9
  have H2 := kp h2
  clear h2
  obtain ⟨s3, n3, rfl, hm9, hc9⟩ := id h3
  clear hm9 hc9
  have H3 := kp h3
  clear h3
  obtain ⟨s4, n4, rfl, hm9, hc9⟩ := id h4
  clear hm9 hc9
  have H4 := kp h4
  clear h4
  obtain ⟨s5, n5, rfl, hm9, hc9⟩ := id h5
  clear hm9 hc9
  have H5 := kp h5
  clear h5
  obtain ⟨s6, n6, rfl, hm9, hc9⟩ := id h6
  clear hm9 hc9
  have H6 := kp h6
  clear h6
  obtain ⟨s7, n7, rfl, hm9, hc9⟩ := id h7
  clear hm9 hc9
  have H7 := kp h7
  clear h7
  obtain ⟨s8, n8, rfl, hm9, hc9⟩ := id h8
  clear hm9 hc9
  have H8 := kp h8
  clear h8
  obtain ⟨s9, n9, rfl, hm9, hc9⟩ := id h9
  clear hm9 hc9
  have H9 := kp h9
  clear h9
  have S := kp (St.start w)
  go_enter Tryz.func93, Tryz.ntmps93
  go_wp2_with (first | (refine bxiS (L := []) S.o ?_; clear S; intro b3 w9 S) | (refine bxiS (L := [_]) S.o ?_; clear S; intro b4 w9 S) | (refine bxiT (L := [_, _]) S.o ?_; clear S; intro b5 w9 S) | (refine aliS (L := [_, _, _]) S.o ?_; clear S; intro b6 w9 S) | (refine aliM (L := [_, _, _, _]) S.o ?_; clear S; intro b7 w9 S) | (refine aliM (L := [_, _, _, _, _]) S.o ?_; clear S; intro b8 w9 S) | (refine ldiM S.o ?_) | (refine ldiS S.o ?_) | (refine ldiT S.o ?_) | (refine stiM S.o ?_; clear S; intro w9 S) | (refine stiS S.o ?_; clear S; intro w9 S) | (refine wW ?_; dsimp only) | fail)
  (with_reducible refine (VX.out _ _ _ (H0.out.keep S.o.ext) (H1.out.keep S.o.ext)).mono ?_)
  rintro e u9 ⟨rfl, x9⟩
  replace S := kp (S.o.quiet x9)
  clear x9
  go_wp2_with (first | (refine ldiM S.o ?_) | (refine ldiS S.o ?_) | (refine ldiT S.o ?_) | (refine stiM S.o ?_; clear S; intro w9 S) | (refine stiS S.o ?_; clear S; intro w9 S) | (refine wW ?_; dsimp only) | fail)
  (with_reducible refine (VY.out _ _ _ (H2.out.keep S.o.ext) (H3.out.keep S.o.ext)).mono ?_)
  rintro e u9 ⟨rfl, x9⟩
  replace S := kp (S.o.quiet x9)
  clear x9
  go_wp2_with (first | (refine ldiM S.o ?_) | (refine ldiS S.o ?_) | (refine ldiT S.o ?_) | (refine stiM S.o ?_; clear S; intro w9 S) | (refine stiS S.o ?_; clear S; intro w9 S) | (refine wW ?_; dsimp only) | fail)
  (with_reducible refine (VT.out _ _ _ _ _ _ _ (H4.out.keep S.o.ext) (H5.out.keep S.o.ext) (H6.out.keep S.o.ext) (H7.out.keep S.o.ext) (H8.out.keep S.o.ext) (H9.out.keep S.o.ext)).mono ?_)
  rintro e u9 ⟨rfl, x9⟩
  replace S := kp (S.o.quiet x9)
  clear x9
  go_wp2_with (first | (refine ldiM S.o ?_) | (refine ldiS S.o ?_) | (refine ldiT S.o ?_) | (refine stiM S.o ?_; clear S; intro w9 S) | (refine stiS S.o ?_; clear S; intro w9 S) | (refine wW ?_; dsimp only) | fail)
  (with_reducible refine (V4.out _ _ _).mono ?_)
  rintro e u9 ⟨rfl, x9⟩
  replace S := kp (S.o.quiet x9)
  clear x9
  go_wp2_with (first | (refine ldiM S.o ?_) | (refine ldiS S.o ?_) | (refine ldiT S.o ?_) | (refine stiM S.o ?_; clear S; intro w9 S) | (refine stiS S.o ?_; clear S; intro w9 S) | (refine wW ?_; dsimp only) | fail)
  (with_reducible refine (V5.out _ _ _).mono ?_)
  rintro e u9 ⟨rfl, x9⟩
  replace S := kp (S.o.quiet x9)
  clear x9
  go_upto_if 44 with (fail)
  go_wp2_with (first | (refine ldiM S.o ?_) | (refine ldiS S.o ?_) | (refine ldiT S.o ?_) | (refine stiM S.o ?_; clear S; intro w9 S) | (refine stiS S.o ?_; clear S; intro w9 S) | (refine wW ?_; dsimp only) | fail)
  exact bodyPost_ret (v := zzB) (by exact res4 rfl (by exact (rsiS S.o)) (by exact (rsiM S.o)) (by exact (rsiM S.o)) rfl) rfl ⟨_, _, _, _, rfl, Grp.zero4 _ _, S.o.ext⟩
 have hz : mulShOk ⟨⟨r0, c0, x0⟩, ⟨r1, c1, x1⟩⟩ ⟨⟨r2, c2, x2⟩, ⟨r3, c3, x3⟩⟩ ⟨⟨⟨r4, c4, x4⟩, ⟨r5, c5, x5⟩⟩, ⟨⟨r6, c6, x6⟩, ⟨r7, c7, x7⟩⟩, ⟨⟨r8, c8, x8⟩, ⟨r9, c9, x9⟩⟩⟩ = true := by unfold mulShOk; simp only; simp only [g1, g2, g3, g4, g5, Bool.and_self]
 rw [MulPost_ok hz]
 clear hz
 unfold MulP4 mulShF mulShS opD
 simp only
 have VX := kp (fun (v u : Value) (w' : World) (h : Ints w' v x0) (k : Ints w' u x1) => impl_SharedMatrixValid r0 c0 r1 c1 v u x0 x1 true g1 w' h k)
 have VY := kp (fun (v u : Value) (w' : World) (h : Ints w' v x2) (k : Ints w' u x3) => impl_SharedMatrixValid r2 c2 r3 c3 v u x2 x3 true g2 w' h k)
 have VT := kp (fun (v4 v5 v6 v7 v8 v9 : Value) (w' : World) (h4 : Ints w' v4 x4) (h5 : Ints w' v5 x5) (h6 : Ints w' v6 x6) (h7 : Ints w' v7 x7) (h8 : Ints w' v8 x8) (h9 : Ints w' v9 x9) => impl_MatrixTripleRight r4 c4 r5 c5 r6 c6 r7 c7 r8 c8 r9 c9 v4 v5 v6 v7 v8 v9 x4 x5 x6 x7 x8 x9 w' h4 h5 h6 h7 h8 h9 true g3)
 have V4 := kp (fun (v u : Value) (w' : World) => impl_sameSides r0 c0 r4 c4 v u true g4 w')
 have V5 := kp (fun (v u : Value) (w' : World) => impl_sameSides r2 c2 r6 c6 v u true g5 w')
 clear g1 g2 g3 g4 g5
 have F4 := kp f4
 have F5 := kp f5
 clear f4 f5
 have JX := kp (fun (v u : Value) (w' : World) (h : Ints w' v x0) (k : Ints w' u x1) => impl_JoinMatrix r0 c0 r1 c1 v u x0 x1 w' h k)
 unfold MatPost at JX
 generalize joinM ⟨⟨r0, c0, x0⟩, ⟨r1, c1, x1⟩⟩ = Djx at *
 obtain ⟨jxr, jxc, jxs⟩ := Djx
 simp only at JX
 have JA := kp (fun (v u : Value) (w' : World) (h : Ints w' v x4) (k : Ints w' u x5) => impl_JoinMatrix r4 c4 r5 c5 v u x4 x5 w' h k)
 unfold MatPost at JA
 generalize joinM ⟨⟨r4, c4, x4⟩, ⟨r5, c5, x5⟩⟩ = Dja at *
 obtain ⟨jar, jac, jas⟩ := Dja
 simp only at JA
 have JY := kp (fun (v u : Value) (w' : World) (h : Ints w' v x2) (k : Ints w' u x3) => impl_JoinMatrix r2 c2 r3 c3 v u x2 x3 w' h k)
 unfold MatPost at JY
 generalize joinM ⟨⟨r2, c2, x2⟩, ⟨r3, c3, x3⟩⟩ = Djy at *
 obtain ⟨jyr, jyc, jys⟩ := Djy
 simp only at JY
 have JB := kp (fun (v u : Value) (w' : World) (h : Ints w' v x6) (k : Ints w' u x7) => impl_JoinMatrix r6 c6 r7 c7 v u x6 x7 w' h k)
 unfold MatPost at JB
 generalize joinM ⟨⟨r6, c6, x6⟩, ⟨r7, c7, x7⟩⟩ = Djb at *
 obtain ⟨jbr, jbc, jbs⟩ := Djb
 simp only at JB
 have SD := kp (fun (v u : Value) (w' : World) (h : Ints w' v jxs) (k : Ints w' u jas) => impl_SubMatrices jxr jxc jar jac v u jxs jas w' h k)
 unfold MatPost at SD
 generalize subM ⟨jxr, jxc, jxs⟩ ⟨jar, jac, jas⟩ = Dd at *
 obtain ⟨dr, dc, ds⟩ := Dd
 simp only at SD ⊢
 have SE := kp (fun (v u : Value) (w' : World) (h : Ints w' v jys) (k : Ints w' u jbs) => impl_SubMatrices jyr jyc jbr jbc v u jys jbs w' h k)
 unfold MatPost at SE
 generalize subM ⟨jyr, jyc, jys⟩ ⟨jbr, jbc, jbs⟩ = De at *
 obtain ⟨er, ec, es⟩ := De
 simp only at SE ⊢
 have M1 := kp (fun (v u : Value) (w' : World) (h : Ints w' v ds) (k : Ints w' u x6) (hf : Fit v) => impl_MulMatrices dr dc r6 c6 v u ds x6 w' h k hf)
 unfold MatPost at M1
 generalize mulM ⟨dr, dc, ds⟩ ⟨r6, c6, x6⟩ = Dp at *
 obtain ⟨pr, pc, ps⟩ := Dp
 simp only at M1 ⊢
 have M2 := kp (fun (v u : Value) (w' : World) (h : Ints w' v x4) (k : Ints w' u es) (hf : Fit v) => impl_MulMatrices r4 c4 er ec v u x4 es w' h k hf)
 unfold MatPost at M2
 generalize mulM ⟨r4, c4, x4⟩ ⟨er, ec, es⟩ = Dq at *
 obtain ⟨qr, qc, qs⟩ := Dq
 simp only at M2 ⊢
 have M3 := kp (fun (v u : Value) (w' : World) (h : Ints w' v ds) (k : Ints w' u es) (hf : Fit v) => impl_MulMatrices dr dc er ec v u ds es w' h k hf)
 unfold MatPost at M3
 generalize mulM ⟨dr, dc, ds⟩ ⟨er, ec, es⟩ = Do at *
 obtain ⟨or, oc, os⟩ := Do
 simp only at M3 ⊢
 have N1 := kp (fun (v u : Value) (w' : World) (h : Ints w' v ds) (k : Ints w' u x7) (hf : Fit v) => impl_MulMatrices dr dc r7 c7 v u ds x7 w' h k hf)
 unfold MatPost at N1
 generalize mulM ⟨dr, dc, ds⟩ ⟨r7, c7, x7⟩ = Di at *
 obtain ⟨ir, ic, is⟩ := Di
 simp only at N1 ⊢
 have N2 := kp (fun (v u : Value) (w' : World) (h : Ints w' v x5) (k : Ints w' u es) (hf : Fit v) => impl_MulMatrices r5 c5 er ec v u x5 es w' h k hf)
 unfold MatPost at N2
 generalize mulM ⟨r5, c5, x5⟩ ⟨er, ec, es⟩ = Dj at *
 obtain ⟨jr, jc, js⟩ := Dj
 simp only at N2 ⊢
 have G3 := kp (fun (v0 v1 v2 v3 : Value) (g : Nat) (w' : World) (hg : Blk w' g #[.int .i64 pr, .int .i64 pc, v1, .int .i64 qr, .int .i64 qc, v2, .int .i64 or, .int .i64 oc, v3] 28) (h0 : Ints w' v0 x8) (h1 : Ints w' v1 ps) (h2 : Ints w' v2 qs) (h3 : Ints w' v3 os) => impl_sumMatrices3 r8 c8 pr pc qr qc or oc v0 v1 v2 v3 x8 ps qs os g w' hg h0 h1 h2 h3)
 unfold MatPost at G3
 generalize addM (addM (addM ⟨r8, c8, x8⟩ ⟨pr, pc, ps⟩) ⟨qr, qc, qs⟩) ⟨or, oc, os⟩ = Df at *
 obtain ⟨fr, fc, fs⟩ := Df
 simp only at G3 ⊢
 have G2 := kp (fun (v0 v1 v2 : Value) (g : Nat) (w' : World) (hg : Blk w' g #[.int .i64 ir, .int .i64 ic, v1, .int .i64 jr, .int .i64 jc, v2] 28) (h0 : Ints w' v0 x9) (h1 : Ints w' v1 is) (h2 : Ints w' v2 js) => impl_sumMatrices2 r9 c9 ir ic jr jc v0 v1 v2 x9 is js g w' hg h0 h1 h2)
 unfold MatPost at G2
 generalize addM (addM ⟨r9, c9, x9⟩ ⟨ir, ic, is⟩) ⟨jr, jc, js⟩ = Ds at *
 obtain ⟨sr, sc, ss⟩ := Ds
 simp only at G2 ⊢
 obtain ⟨s0, n0, rfl, hm9, hc9⟩ := id h0
 clear hm9 hc9
 have H0 := kp h0
 clear h0
 obtain ⟨s1, n1, rfl, hm9, hc9⟩ := id h1
 clear hm9 hc9
 have H1 := kp h1
 clear h1
 obtain ⟨s2, n2, rfl, hm9, hc9⟩ := id h2
 clear hm9 hc9
 have H2 := kp h2
 clear h2
 obtain ⟨s3, n3, rfl, hm9, hc9⟩ := id h3
 clear hm9 hc9
 have H3 := kp h3
 clear h3
 obtain ⟨s4, n4, rfl, hm9, hc9⟩ := id h4
 clear hm9 hc9
 have H4 := kp h4
 clear h4
 obtain ⟨s5, n5, rfl, hm9, hc9⟩ := id h5
 clear hm9 hc9
 have H5 := kp h5
 clear h5
 obtain ⟨s6, n6, rfl, hm9, hc9⟩ := id h6
 clear hm9 hc9
 have H6 := kp h6
 clear h6
 obtain ⟨s7, n7, rfl, hm9, hc9⟩ := id h7
 clear hm9 hc9
 have H7 := kp h7
 clear h7
 obtain ⟨s8, n8, rfl, hm9, hc9⟩ := id h8
 clear hm9 hc9
 have H8 := kp h8
 clear h8
 obtain ⟨s9, n9, rfl, hm9, hc9⟩ := id h9
 clear hm9 hc9
 have H9 := kp h9
 clear h9
 have S := kp (St.start w)
 go_enter Tryz.func93, Tryz.ntmps93
 go_wp2_with (first | (refine bxiS (L := []) S.o ?_; clear S; intro b3 w9 S) | (refine bxiS (L := [_]) S.o ?_; clear S; intro b4 w9 S) | (refine bxiT (L := [_, _]) S.o ?_; clear S; intro b5 w9 S) | (refine aliS (L := [_, _, _]) S.o ?_; clear S; intro b6 w9 S) | (refine aliM (L := [_, _, _, _]) S.o ?_; clear S; intro b7 w9 S) | (refine aliM (L := [_, _, _, _, _]) S.o ?_; clear S; intro b8 w9 S) | (refine ldiM S.o ?_) | (refine ldiS S.o ?_) | (refine ldiT S.o ?_) | (refine stiM S.o ?_; clear S; intro w9 S) | (refine stiS S.o ?_; clear S; intro w9 S) | (refine wW ?_; dsimp only) | fail)
 (with_reducible refine (VX.out _ _ _ (H0.out.keep S.o.ext) (H1.out.keep S.o.ext)).mono ?_)
 rintro e u9 ⟨rfl, x9⟩
 replace S := kp (S.o.quiet x9)
 clear x9
 go_wp2_with (first | (refine ldiM S.o ?_) | (refine ldiS S.o ?_) | (refine ldiT S.o ?_) | (refine stiM S.o ?_; clear S; intro w9 S) | (refine stiS S.o ?_; clear S; intro w9 S) | (refine wW ?_; dsimp only) | fail)
 (with_reducible refine (VY.out _ _ _ (H2.out.keep S.o.ext) (H3.out.keep S.o.ext)).mono ?_)
 rintro e u9 ⟨rfl, x9⟩
 replace S := kp (S.o.quiet x9)
 clear x9
 go_wp2_with (first | (refine ldiM S.o ?_) | (refine ldiS S.o ?_) | (refine ldiT S.o ?_) | (refine stiM S.o ?_; clear S; intro w9 S) | (refine stiS S.o ?_; clear S; intro w9 S) | (refine wW ?_; dsimp only) | fail)
 (with_reducible refine (VT.out _ _ _ _ _ _ _ (H4.out.keep S.o.ext) (H5.out.keep S.o.ext) (H6.out.keep S.o.ext) (H7.out.keep S.o.ext) (H8.out.keep S.o.ext) (H9.out.keep S.o.ext)).mono ?_)
 rintro e u9 ⟨rfl, x9⟩
 replace S := kp (S.o.quiet x9)
 clear x9
 go_wp2_with (first | (refine ldiM S.o ?_) | (refine ldiS S.o ?_) | (refine ldiT S.o ?_) | (refine stiM S.o ?_; clear S; intro w9 S) | (refine stiS S.o ?_; clear S; intro w9 S) | (refine wW ?_; dsimp only) | fail)
 (with_reducible refine (V4.out _ _ _).mono ?_)
 rintro e u9 ⟨rfl, x9⟩
 replace S := kp (S.o.quiet x9)
 clear x9
 go_wp2_with (first | (refine ldiM S.o ?_) | (refine ldiS S.o ?_) | (refine ldiT S.o ?_) | (refine stiM S.o ?_; clear S; intro w9 S) | (refine stiS S.o ?_; clear S; intro w9 S) | (refine wW ?_; dsimp only) | fail)
 (with_reducible refine (V5.out _ _ _).mono ?_)
 rintro e u9 ⟨rfl, x9⟩
 replace S := kp (S.o.quiet x9)
 clear x9
 go_wp2_with (first | (refine ldiM S.o ?_) | (refine ldiS S.o ?_) | (refine ldiT S.o ?_) | (refine stiM S.o ?_; clear S; intro w9 S) | (refine stiS S.o ?_; clear S; intro w9 S) | (refine wW ?_; dsimp only) | fail)
 apply wp_region_zip [isv _, matR jxr jxc jxs, isv _, isv _, matR jar jac jas, matR dr dc ds, newb _ 28] _ (by kernel_rfl)
 case hA => intro V; simp [putAll, dstOf, Act.put]; exact rfl
 case hsl => intro V; exact rfl
 case step =>
  intro V lo up w' hr
  have S := kp (S.o.quiet hr)
  simp only [zipOk, depsImp, isv, matR, bs3, bs2, modeNg, newb, waits, Region.binds, List.map_nil, List.map_cons, List.headD_cons, List.nil_append, List.cons_append, List.filterMap_cons, List.filterMap_nil, ↓reduceIte, modeNe, Bool.false_eq_true, true_implies, List.getD_cons_zero, List.getD_cons_succ, and_true]
  refine ⟨?_, ?_, ?_, ?_, ?_, ?_, ?_⟩
  ·intros
   (try simp only [*])
   go_wp2_with (first | (refine ldiS S.o ?_) | fail)
   refine sQ ?_
   exact eZ
  ·intros
   (try simp only [*])
   go_wp2_with (fail)
   (with_reducible refine (JX.out _ _ _ (H0.out.keep S.o.ext) (H1.out.keep S.o.ext)).mono ?_)
   rintro e w9 ⟨v9, rfl, o9, x9⟩
   go_wp2
   refine sQ ?_
   exact ⟨x9, v9, rfl, o9, fun q hq => (o9.block q hq).2⟩
  ·intros
   (try simp only [*])
   go_wp2_with (fail)
   refine sQ ?_
   exact eZ
  ·intros
   (try simp only [*])
   go_wp2_with (first | (refine ldiS S.o ?_) | fail)
   refine sQ ?_
   exact eZ
  ·intros
   (try simp only [*])
   go_wp2_with (fail)
   (with_reducible refine (JA.out _ _ _ (H4.out.keep S.o.ext) (H5.out.keep S.o.ext)).mono ?_)
   rintro e w9 ⟨v9, rfl, o9, x9⟩
   go_wp2
   refine sQ ?_
   exact ⟨x9, v9, rfl, o9, fun q hq => (o9.block q hq).2⟩
  ·intros
   obtain ⟨v1, e1, o1, b1⟩ := ‹∃ v, V 1 = _ ∧ Own _ _ v jxs ∧ _›
   obtain ⟨v4, e4, o4, b4⟩ := ‹∃ v, V 4 = _ ∧ Own _ _ v jas ∧ _›
   (try simp only [*])
   go_wp2_with (fail)
   (with_reducible refine (SD.out _ _ _ o1.ints o4.ints).mono ?_)
   rintro e w9 ⟨v9, rfl, o9, x9⟩
   go_wp2
   refine sQ ?_
   exact ⟨x9, v9, rfl, o9, fun q hq => (o9.block q hq).2⟩
  intros
  go_wp2
  refine sQ ?_
  exact ⟨(Ext.refl _).alloc _, rfl, by simp, Blk.new _ _ _⟩
 case hB => kernel_rfl
 intro V lo up w' hr hf ha
 simp only [factsOk, isv, matR, bs3, bs2, modeNg, newb, List.map_nil, List.map_cons, List.headD_cons, and_true, Nat.zero_add, Nat.reduceAdd] at hf
 simp only [List.length_cons, List.length_nil, Nat.zero_add, Nat.reduceAdd, List.drop_succ_cons, List.drop_zero]
 obtain ⟨-, -, -, -, -, ⟨l5, -, -, v5, e5, o5, b5⟩, ⟨l6, -, -, e6, -, k6⟩⟩ := hf
 clear ha
 rw [e5, e6]
 clear e5 e6
 replace S := kp (S.o.grow (S.o.quiet hr) [⟨lo 6, 28, [.int .i64 0, .int .i64 0, .slice none 0 0]⟩] (by intro p hp; rw [List.mem_singleton] at hp; subst hp; exact ⟨k6, l6⟩) (by simp) (Grp.one (o5.mono l5)) (by intro p hp v hv; rw [List.mem_singleton] at hp hv; subst hp; subst hv; exact o5.ne k6 (by decide)))
 simp only [List.cons_append, List.nil_append] at S
 generalize lo 6 = b10 at *
 clear l5 l6 k6 b5 hr
 obtain ⟨pd, md, hu9, -, -⟩ := id o5.ints
 try simp only at hu9
 subst hu9
 clear o5
 go_wp2_with (first | (refine ldiM S.o ?_) | (refine ldiS S.o ?_) | (refine ldiT S.o ?_) | (refine stiM S.o ?_; clear S; intro w9 S) | (refine stiS S.o ?_; clear S; intro w9 S) | (refine wW ?_; dsimp only) | fail)
 apply wp_region_zip [isv _, matR jyr jyc jys, isv _, isv _, matR jbr jbc jbs, matR er ec es, newb _ 28] _ (by kernel_rfl)
 case hA => intro V; simp [putAll, dstOf, Act.put]; exact rfl
 case hsl => intro V; exact rfl
 case step =>
  intro V lo up w' hr
  have S := kp (S.o.quiet hr)
  simp only [zipOk, depsImp, isv, matR, bs3, bs2, modeNg, newb, waits, Region.binds, List.map_nil, List.map_cons, List.headD_cons, List.nil_append, List.cons_append, List.filterMap_cons, List.filterMap_nil, ↓reduceIte, modeNe, Bool.false_eq_true, true_implies, List.getD_cons_zero, List.getD_cons_succ, and_true]
  refine ⟨?_, ?_, ?_, ?_, ?_, ?_, ?_⟩
  ·intros
   (try simp only [*])
   go_wp2_with (first | (refine ldiS S.o ?_) | fail)
   refine sQ ?_
   exact eZ
  ·intros
   (try simp only [*])
   go_wp2_with (fail)
   (with_reducible refine (JY.out _ _ _ (H2.out.keep S.o.ext) (H3.out.keep S.o.ext)).mono ?_)
   rintro e w9 ⟨v9, rfl, o9, x9⟩
   go_wp2
   refine sQ ?_
   exact ⟨x9, v9, rfl, o9, fun q hq => (o9.block q hq).2⟩
  ·intros
   (try simp only [*])
   go_wp2_with (fail)
   refine sQ ?_
   exact eZ
  ·intros
   (try simp only [*])
   go_wp2_with (first | (refine ldiS S.o ?_) | fail)
   refine sQ ?_
   exact eZ
  ·intros
   (try simp only [*])
   go_wp2_with (fail)
   (with_reducible refine (JB.out _ _ _ (H6.out.keep S.o.ext) (H7.out.keep S.o.ext)).mono ?_)
   rintro e w9 ⟨v9, rfl, o9, x9⟩
   go_wp2
   refine sQ ?_
   exact ⟨x9, v9, rfl, o9, fun q hq => (o9.block q hq).2⟩
  ·intros
   obtain ⟨v1, e1, o1, b1⟩ := ‹∃ v, V 1 = _ ∧ Own _ _ v jys ∧ _›
   obtain ⟨v4, e4, o4, b4⟩ := ‹∃ v, V 4 = _ ∧ Own _ _ v jbs ∧ _›
   (try simp only [*])
   go_wp2_with (fail)
   (with_reducible refine (SE.out _ _ _ o1.ints o4.ints).mono ?_)
   rintro e w9 ⟨v9, rfl, o9, x9⟩
   go_wp2
   refine sQ ?_
   exact ⟨x9, v9, rfl, o9, fun q hq => (o9.block q hq).2⟩
  intros
  go_wp2
  refine sQ ?_
  exact ⟨(Ext.refl _).alloc _, rfl, by simp, Blk.new _ _ _⟩
 case hB => kernel_rfl
 intro V lo up w' hr hf ha
 simp only [factsOk, isv, matR, bs3, bs2, modeNg, newb, List.map_nil, List.map_cons, List.headD_cons, and_true, Nat.zero_add, Nat.reduceAdd] at hf
 simp only [List.length_cons, List.length_nil, Nat.zero_add, Nat.reduceAdd, List.drop_succ_cons, List.drop_zero]
 obtain ⟨-, -, -, -, -, ⟨l5, -, -, v5, e5, o5, b5⟩, ⟨l6, -, -, e6, -, k6⟩⟩ := hf
 clear ha
 rw [e5, e6]
 clear e5 e6
 replace S := kp (S.o.grow (S.o.quiet hr) [⟨lo 6, 28, [.int .i64 0, .int .i64 0, .slice none 0 0]⟩] (by intro p hp; rw [List.mem_singleton] at hp; subst hp; exact ⟨k6, l6⟩) (by simp) (Grp.one (o5.mono l5)) (by intro p hp v hv; rw [List.mem_singleton] at hp hv; subst hp; subst hv; exact o5.ne k6 (by decide)))
 simp only [List.cons_append, List.nil_append] at S
 generalize lo 6 = b11 at *
 clear l5 l6 k6 b5 hr
 obtain ⟨pe, me, hu9, -, -⟩ := id o5.ints
 try simp only at hu9
 subst hu9
 clear o5
 go_wp2_with (first | (refine ldiM S.o ?_) | (refine ldiS S.o ?_) | (refine ldiT S.o ?_) | (refine stiM S.o ?_; clear S; intro w9 S) | (refine stiS S.o ?_; clear S; intro w9 S) | (refine wW ?_; dsimp only) | fail)
 apply wp_region_zip [isv _, isv _, isv _, isv _, isv _, isv _, isv _, matR pr pc ps, isv _, isv _, isv _, isv _, matR qr qc qs, isv _, isv _, matR or oc os, bs3 pr pc qr qc or oc ps qs os, matR fr fc fs, newb _ 28] _ (by kernel_rfl)
 case hA => intro V; simp [putAll, dstOf, Act.put]; exact rfl
 case hsl => intro V; exact rfl
 case step =>
  intro V lo up w' hr
  have S := kp (S.o.quiet hr)
  simp only [zipOk, depsImp, isv, matR, bs3, bs2, modeNg, newb, waits, Region.binds, List.map_nil, List.map_cons, List.headD_cons, List.nil_append, List.cons_append, List.filterMap_cons, List.filterMap_nil, ↓reduceIte, modeNe, Bool.false_eq_true, true_implies, List.getD_cons_zero, List.getD_cons_succ, and_true]
  refine ⟨?_, ?_, ?_, ?_, ?_, ?_, ?_, ?_, ?_, ?_, ?_, ?_, ?_, ?_, ?_, ?_, ?_, ?_, ?_⟩
  ·intros
   (try simp only [*])
   go_wp2_with (fail)
   refine sQ ?_
   exact eZ
  ·intros
   (try simp only [*])
   go_wp2_with (fail)
   refine sQ ?_
   exact eZ
  ·intros
   (try simp only [*])
   go_wp2_with (first | (refine ldiM S.o ?_) | fail)
   refine sQ ?_
   exact eZ
  ·intros
   (try simp only [*])
   go_wp2_with (first | (refine ldiM S.o ?_) | fail)
   refine sQ ?_
   exact eZ
  ·intros
   (try simp only [*])
   go_wp2_with (fail)
   refine sQ ?_
   exact eZ
  ·intros
   (try simp only [*])
   go_wp2_with (fail)
   refine sQ ?_
   exact eZ
  ·intros
   (try simp only [*])
   go_wp2_with (first | (refine ldiM S.o ?_) | fail)
   refine sQ ?_
   exact eZ
  ·intros
   (try simp only [*])
   go_wp2_with (fail)
   (with_reducible refine (M1.out _ _ _ (S.o.grp.get 1 rfl rfl).ints (H6.out.keep S.o.ext) (S.o.grp.get 1 rfl rfl).fit).mono ?_)
   rintro e w9 ⟨v9, rfl, o9, x9⟩
   go_wp2
   refine sQ ?_
   exact ⟨x9, v9, rfl, o9, fun q hq => (o9.block q hq).2⟩
  ·intros
   (try simp only [*])
   go_wp2_with (fail)
   refine sQ ?_
   exact eZ
  ·intros
   (try simp only [*])
   go_wp2_with (fail)
   refine sQ ?_
   exact eZ
  ·intros
   (try simp only [*])
   go_wp2_with (first | (refine ldiM S.o ?_) | fail)
   refine sQ ?_
   exact eZ
  ·intros
   (try simp only [*])
   go_wp2_with (first | (refine ldiM S.o ?_) | fail)
   refine sQ ?_
   exact eZ
  ·intros
   (try simp only [*])
   go_wp2_with (fail)
   (with_reducible refine (M2.out _ _ _ (H4.out.keep S.o.ext) (S.o.grp.get 0 rfl rfl).ints F4.out).mono ?_)
   rintro e w9 ⟨v9, rfl, o9, x9⟩
   go_wp2
   refine sQ ?_
   exact ⟨x9, v9, rfl, o9, fun q hq => (o9.block q hq).2⟩
  ·intros
   (try simp only [*])
   go_wp2_with (first | (refine ldiM S.o ?_) | fail)
   refine sQ ?_
   exact eZ
  ·intros
   (try simp only [*])
   go_wp2_with (first | (refine ldiM S.o ?_) | fail)
   refine sQ ?_
   exact eZ
  ·intros
   (try simp only [*])
   go_wp2_with (fail)
   (with_reducible refine (M3.out _ _ _ (S.o.grp.get 1 rfl rfl).ints (S.o.grp.get 0 rfl rfl).ints (S.o.grp.get 1 rfl rfl).fit).mono ?_)
   rintro e w9 ⟨v9, rfl, o9, x9⟩
   go_wp2
   refine sQ ?_
   exact ⟨x9, v9, rfl, o9, fun q hq => (o9.block q hq).2⟩
  ·intros
   obtain ⟨v7, e7, o7, b7_⟩ := ‹∃ v, V 7 = _ ∧ Own _ _ v ps ∧ _›
   obtain ⟨q7, z7, hu9, -, -⟩ := id o7.ints
   try simp only at hu9
   subst hu9
   obtain ⟨v12, e12, o12, b12_⟩ := ‹∃ v, V 12 = _ ∧ Own _ _ v qs ∧ _›
   obtain ⟨q12, z12, hu9, -, -⟩ := id o12.ints
   try simp only at hu9
   subst hu9
   obtain ⟨v15, e15, o15, b15_⟩ := ‹∃ v, V 15 = _ ∧ Own _ _ v os ∧ _›
   obtain ⟨q15, z15, hu9, -, -⟩ := id o15.ints
   try simp only at hu9
   subst hu9
   (try simp only [*])
   go_wp2
   refine sQ ?_
   exact ⟨(Ext.refl _).alloc _, _, _, _, rfl, Blk.new _ _ _, o7.ints.keep ((Ext.refl _).alloc _), o12.ints.keep ((Ext.refl _).alloc _), o15.ints.keep ((Ext.refl _).alloc _)⟩
  ·intros
   obtain ⟨v7, v12, v15, e16, k16, i7, i12, i15⟩ := ‹∃ v0 v1 v2, V 16 = _ ∧ _›
   (try simp only [*])
   go_wp2_with (fail)
   (with_reducible refine (G3.out _ _ _ _ _ _ k16 (H8.out.keep S.o.ext) i7 i12 i15).mono ?_)
   rintro e w9 ⟨v9, rfl, o9, x9⟩
   go_wp2
   refine sQ ?_
   exact ⟨x9, v9, rfl, o9, fun q hq => (o9.block q hq).2⟩
  intros
  go_wp2
  refine sQ ?_
  exact ⟨(Ext.refl _).alloc _, rfl, by simp, Blk.new _ _ _⟩
 case hB => kernel_rfl
 intro V lo up w' hr hf ha
 simp only [factsOk, isv, matR, bs3, bs2, modeNg, newb, List.map_nil, List.map_cons, List.headD_cons, and_true, Nat.zero_add, Nat.reduceAdd] at hf
 simp only [List.length_cons, List.length_nil, Nat.zero_add, Nat.reduceAdd, List.drop_succ_cons, List.drop_zero]
 obtain ⟨-, -, -, -, -, -, -, -, -, -, -, -, -, -, -, -, -, ⟨l17, -, -, v17, e17, o17, b17⟩, ⟨l18, -, -, e18, -, k18⟩⟩ := hf
 clear ha
 rw [e17, e18]
 clear e17 e18
 replace S := kp (S.o.grow (S.o.quiet hr) [⟨lo 18, 28, [.int .i64 0, .int .i64 0, .slice none 0 0]⟩] (by intro p hp; rw [List.mem_singleton] at hp; subst hp; exact ⟨k18, l18⟩) (by simp) (Grp.one (o17.mono l17)) (by intro p hp v hv; rw [List.mem_singleton] at hp hv; subst hp; subst hv; exact o17.ne k18 (by decide)))
 simp only [List.cons_append, List.nil_append] at S
 generalize lo 18 = b12 at *
 clear l17 l18 k18 b17 hr
 obtain ⟨pf, mf, hu9, -, -⟩ := id o17.ints
 try simp only at hu9
 subst hu9
 clear o17
 go_wp2_with (first | (refine ldiM S.o ?_) | (refine ldiS S.o ?_) | (refine ldiT S.o ?_) | (refine stiM S.o ?_; clear S; intro w9 S) | (refine stiS S.o ?_; clear S; intro w9 S) | (refine wW ?_; dsimp only) | fail)
 apply wp_region_zip [isv _, isv _, isv _, isv _, isv _, isv _, isv _, matR ir ic is, isv _, isv _, isv _, isv _, matR jr jc js, bs2 ir ic jr jc is js, matR sr sc ss, newb _ 28] _ (by kernel_rfl)
 case hA => intro V; simp [putAll, dstOf, Act.put]; exact rfl
 case hsl => intro V; exact rfl
 case step =>
  intro V lo up w' hr
  have S := kp (S.o.quiet hr)
  simp only [zipOk, depsImp, isv, matR, bs3, bs2, modeNg, newb, waits, Region.binds, List.map_nil, List.map_cons, List.headD_cons, List.nil_append, List.cons_append, List.filterMap_cons, List.filterMap_nil, ↓reduceIte, modeNe, Bool.false_eq_true, true_implies, List.getD_cons_zero, List.getD_cons_succ, and_true]
  refine ⟨?_, ?_, ?_, ?_, ?_, ?_, ?_, ?_, ?_, ?_, ?_, ?_, ?_, ?_, ?_, ?_⟩
  ·intros
   (try simp only [*])
   go_wp2_with (fail)
   refine sQ ?_
   exact eZ
  ·intros
   (try simp only [*])
   go_wp2_with (fail)
   refine sQ ?_
   exact eZ
  ·intros
   (try simp only [*])
   go_wp2_with (first | (refine ldiM S.o ?_) | fail)
   refine sQ ?_
   exact eZ
  ·intros
   (try simp only [*])
   go_wp2_with (first | (refine ldiM S.o ?_) | fail)
   refine sQ ?_
   exact eZ
  ·intros
   (try simp only [*])
   go_wp2_with (fail)
   refine sQ ?_
   exact eZ
  ·intros
   (try simp only [*])
   go_wp2_with (fail)
   refine sQ ?_
   exact eZ
  ·intros
   (try simp only [*])
   go_wp2_with (first | (refine ldiM S.o ?_) | fail)
   refine sQ ?_
   exact eZ
  ·intros
   (try simp only [*])
   go_wp2_with (fail)
   (with_reducible refine (N1.out _ _ _ (S.o.grp.get 2 rfl rfl).ints (H7.out.keep S.o.ext) (S.o.grp.get 2 rfl rfl).fit).mono ?_)
   rintro e w9 ⟨v9, rfl, o9, x9⟩
   go_wp2
   refine sQ ?_
   exact ⟨x9, v9, rfl, o9, fun q hq => (o9.block q hq).2⟩
  ·intros
   (try simp only [*])
   go_wp2_with (fail)
   refine sQ ?_
   exact eZ
  ·intros
   (try simp only [*])
   go_wp2_with (fail)
   refine sQ ?_
   exact eZ
  ·intros
   (try simp only [*])
   go_wp2_with (first | (refine ldiM S.o ?_) | fail)
   refine sQ ?_
   exact eZ
  ·intros
   (try simp only [*])
   go_wp2_with (first | (refine ldiM S.o ?_) | fail)
   refine sQ ?_
   exact eZ
  ·intros
   (try simp only [*])
   go_wp2_with (fail)
   (with_reducible refine (N2.out _ _ _ (H5.out.keep S.o.ext) (S.o.grp.get 1 rfl rfl).ints F5.out).mono ?_)
   rintro e w9 ⟨v9, rfl, o9, x9⟩
   go_wp2
   refine sQ ?_
   exact ⟨x9, v9, rfl, o9, fun q hq => (o9.block q hq).2⟩
  ·intros
   obtain ⟨v7, e7, o7, b7_⟩ := ‹∃ v, V 7 = _ ∧ Own _ _ v is ∧ _›
   obtain ⟨q7, z7, hu9, -, -⟩ := id o7.ints
   try simp only at hu9
   subst hu9
   obtain ⟨v12, e12, o12, b12_⟩ := ‹∃ v, V 12 = _ ∧ Own _ _ v js ∧ _›
   obtain ⟨q12, z12, hu9, -, -⟩ := id o12.ints
   try simp only at hu9
   subst hu9
   (try simp only [*])
   go_wp2
   refine sQ ?_
   exact ⟨(Ext.refl _).alloc _, _, _, rfl, Blk.new _ _ _, o7.ints.keep ((Ext.refl _).alloc _), o12.ints.keep ((Ext.refl _).alloc _)⟩
  ·intros
   obtain ⟨v7, v12, e13, k13, i7, i12⟩ := ‹∃ v0 v1, V 13 = _ ∧ _›
   (try simp only [*])
   go_wp2_with (fail)
   (with_reducible refine (G2.out _ _ _ _ _ k13 (H9.out.keep S.o.ext) i7 i12).mono ?_)
   rintro e w9 ⟨v9, rfl, o9, x9⟩
   go_wp2
   refine sQ ?_
   exact ⟨x9, v9, rfl, o9, fun q hq => (o9.block q hq).2⟩
  intros
  go_wp2
  refine sQ ?_
  exact ⟨(Ext.refl _).alloc _, rfl, by simp, Blk.new _ _ _⟩
 case hB => kernel_rfl
 intro V lo up w' hr hf ha
 simp only [factsOk, isv, matR, bs3, bs2, modeNg, newb, List.map_nil, List.map_cons, List.headD_cons, and_true, Nat.zero_add, Nat.reduceAdd] at hf
 simp only [List.length_cons, List.length_nil, Nat.zero_add, Nat.reduceAdd, List.drop_succ_cons, List.drop_zero]
 obtain ⟨-, -, -, -, -, -, -, -, -, -, -, -, -, -, ⟨l14, -, -, v14, e14, o14, b14⟩, ⟨l15, -, -, e15, -, k15⟩⟩ := hf
 clear ha
 rw [e14, e15]
 clear e14 e15
 replace S := kp (S.o.grow (S.o.quiet hr) [⟨lo 15, 28, [.int .i64 0, .int .i64 0, .slice none 0 0]⟩] (by intro p hp; rw [List.mem_singleton] at hp; subst hp; exact ⟨k15, l15⟩) (by simp) (Grp.one (o14.mono l14)) (by intro p hp v hv; rw [List.mem_singleton] at hp hv; subst hp; subst hv; exact o14.ne k15 (by decide)))
 simp only [List.cons_append, List.nil_append] at S
 generalize lo 15 = b13 at *
 clear l14 l15 k15 b14 hr
 obtain ⟨ps, ms, hu9, -, -⟩ := id o14.ints
 try simp only at hu9
 subst hu9
 clear o14
 go_wp2_with (first | (refine ldiM S.o ?_) | (refine ldiS S.o ?_) | (refine ldiT S.o ?_) | (refine stiM S.o ?_; clear S; intro w9 S) | (refine stiS S.o ?_; clear S; intro w9 S) | (refine wW ?_; dsimp only) | fail)
 have D1 := kp (show Del [⟨b13, 28, [.int .i64 sr, .int .i64 sc, .slice ps ss.length ms]⟩, ⟨b12, 28, [.int .i64 fr, .int .i64 fc, .slice pf fs.length mf]⟩, ⟨b11, 28, [.int .i64 er, .int .i64 ec, .slice pe es.length me]⟩, ⟨b10, 28, [.int .i64 dr, .int .i64 dc, .slice pd ds.length md]⟩, ⟨b8, 28, [.int .i64 0, .int .i64 0, .slice none 0 0]⟩, ⟨b7, 28, [.int .i64 0, .int .i64 0, .slice none 0 0]⟩, ⟨b6, 30, [.int .i64 0, .int .i64 0, .slice none 0 0, .int .i64 0, .int .i64 0, .slice none 0 0]⟩, ⟨b5, 71, [.int .i64 r4, .int .i64 c4, .slice s4 x4.length n4, .int .i64 r5, .int .i64 c5, .slice s5 x5.length n5, .int .i64 r6, .int .i64 c6, .slice s6 x6.length n6, .int .i64 r7, .int .i64 c7, .slice s7 x7.length n7, .int .i64 r8, .int .i64 c8, .slice s8 x8.length n8, .int .i64 r9, .int .i64 c9, .slice s9 x9.length n9]⟩, ⟨b4, 30, [.int .i64 r2, .int .i64 c2, .slice s2 x2.length n2, .int .i64 r3, .int .i64 c3, .slice s3 x3.length n3]⟩, ⟨b3, 30, [.int .i64 r0, .int .i64 c0, .slice s0 x0.length n0, .int .i64 r1, .int .i64 c1, .slice s1 x1.length n1]⟩] b6 30 [.int .i64 0, .int .i64 0, .slice none 0 0, .int .i64 0, .int .i64 0, .slice none 0 0] [⟨b13, 28, [.int .i64 sr, .int .i64 sc, .slice ps ss.length ms]⟩, ⟨b12, 28, [.int .i64 fr, .int .i64 fc, .slice pf fs.length mf]⟩, ⟨b11, 28, [.int .i64 er, .int .i64 ec, .slice pe es.length me]⟩, ⟨b10, 28, [.int .i64 dr, .int .i64 dc, .slice pd ds.length md]⟩, ⟨b8, 28, [.int .i64 0, .int .i64 0, .slice none 0 0]⟩, ⟨b7, 28, [.int .i64 0, .int .i64 0, .slice none 0 0]⟩, ⟨b5, 71, [.int .i64 r4, .int .i64 c4, .slice s4 x4.length n4, .int .i64 r5, .int .i64 c5, .slice s5 x5.length n5, .int .i64 r6, .int .i64 c6, .slice s6 x6.length n6, .int .i64 r7, .int .i64 c7, .slice s7 x7.length n7, .int .i64 r8, .int .i64 c8, .slice s8 x8.length n8, .int .i64 r9, .int .i64 c9, .slice s9 x9.length n9]⟩, ⟨b4, 30, [.int .i64 r2, .int .i64 c2, .slice s2 x2.length n2, .int .i64 r3, .int .i64 c3, .slice s3 x3.length n3]⟩, ⟨b3, 30, [.int .i64 r0, .int .i64 c0, .slice s0 x0.length n0, .int .i64 r1, .int .i64 c1, .slice s1 x1.length n1]⟩] from (by repeat (first | exact Del.head | apply Del.tail)))
 have D2 := kp (show Del [⟨b13, 28, [.int .i64 sr, .int .i64 sc, .slice ps ss.length ms]⟩, ⟨b12, 28, [.int .i64 fr, .int .i64 fc, .slice pf fs.length mf]⟩, ⟨b11, 28, [.int .i64 er, .int .i64 ec, .slice pe es.length me]⟩, ⟨b10, 28, [.int .i64 dr, .int .i64 dc, .slice pd ds.length md]⟩, ⟨b8, 28, [.int .i64 0, .int .i64 0, .slice none 0 0]⟩, ⟨b7, 28, [.int .i64 0, .int .i64 0, .slice none 0 0]⟩, ⟨b5, 71, [.int .i64 r4, .int .i64 c4, .slice s4 x4.length n4, .int .i64 r5, .int .i64 c5, .slice s5 x5.length n5, .int .i64 r6, .int .i64 c6, .slice s6 x6.length n6, .int .i64 r7, .int .i64 c7, .slice s7 x7.length n7, .int .i64 r8, .int .i64 c8, .slice s8 x8.length n8, .int .i64 r9, .int .i64 c9, .slice s9 x9.length n9]⟩, ⟨b4, 30, [.int .i64 r2, .int .i64 c2, .slice s2 x2.length n2, .int .i64 r3, .int .i64 c3, .slice s3 x3.length n3]⟩, ⟨b3, 30, [.int .i64 r0, .int .i64 c0, .slice s0 x0.length n0, .int .i64 r1, .int .i64 c1, .slice s1 x1.length n1]⟩] b7 28 [.int .i64 0, .int .i64 0, .slice none 0 0] [⟨b13, 28, [.int .i64 sr, .int .i64 sc, .slice ps ss.length ms]⟩, ⟨b12, 28, [.int .i64 fr, .int .i64 fc, .slice pf fs.length mf]⟩, ⟨b11, 28, [.int .i64 er, .int .i64 ec, .slice pe es.length me]⟩, ⟨b10, 28, [.int .i64 dr, .int .i64 dc, .slice pd ds.length md]⟩, ⟨b8, 28, [.int .i64 0, .int .i64 0, .slice none 0 0]⟩, ⟨b5, 71, [.int .i64 r4, .int .i64 c4, .slice s4 x4.length n4, .int .i64 r5, .int .i64 c5, .slice s5 x5.length n5, .int .i64 r6, .int .i64 c6, .slice s6 x6.length n6, .int .i64 r7, .int .i64 c7, .slice s7 x7.length n7, .int .i64 r8, .int .i64 c8, .slice s8 x8.length n8, .int .i64 r9, .int .i64 c9, .slice s9 x9.length n9]⟩, ⟨b4, 30, [.int .i64 r2, .int .i64 c2, .slice s2 x2.length n2, .int .i64 r3, .int .i64 c3, .slice s3 x3.length n3]⟩, ⟨b3, 30, [.int .i64 r0, .int .i64 c0, .slice s0 x0.length n0, .int .i64 r1, .int .i64 c1, .slice s1 x1.length n1]⟩] from (by repeat (first | exact Del.head | apply Del.tail)))
 have D3 := kp (show Del [⟨b13, 28, [.int .i64 sr, .int .i64 sc, .slice ps ss.length ms]⟩, ⟨b12, 28, [.int .i64 fr, .int .i64 fc, .slice pf fs.length mf]⟩, ⟨b11, 28, [.int .i64 er, .int .i64 ec, .slice pe es.length me]⟩, ⟨b10, 28, [.int .i64 dr, .int .i64 dc, .slice pd ds.length md]⟩, ⟨b8, 28, [.int .i64 0, .int .i64 0, .slice none 0 0]⟩, ⟨b5, 71, [.int .i64 r4, .int .i64 c4, .slice s4 x4.length n4, .int .i64 r5, .int .i64 c5, .slice s5 x5.length n5, .int .i64 r6, .int .i64 c6, .slice s6 x6.length n6, .int .i64 r7, .int .i64 c7, .slice s7 x7.length n7, .int .i64 r8, .int .i64 c8, .slice s8 x8.length n8, .int .i64 r9, .int .i64 c9, .slice s9 x9.length n9]⟩, ⟨b4, 30, [.int .i64 r2, .int .i64 c2, .slice s2 x2.length n2, .int .i64 r3, .int .i64 c3, .slice s3 x3.length n3]⟩, ⟨b3, 30, [.int .i64 r0, .int .i64 c0, .slice s0 x0.length n0, .int .i64 r1, .int .i64 c1, .slice s1 x1.length n1]⟩] b8 28 [.int .i64 0, .int .i64 0, .slice none 0 0] [⟨b13, 28, [.int .i64 sr, .int .i64 sc, .slice ps ss.length ms]⟩, ⟨b12, 28, [.int .i64 fr, .int .i64 fc, .slice pf fs.length mf]⟩, ⟨b11, 28, [.int .i64 er, .int .i64 ec, .slice pe es.length me]⟩, ⟨b10, 28, [.int .i64 dr, .int .i64 dc, .slice pd ds.length md]⟩, ⟨b5, 71, [.int .i64 r4, .int .i64 c4, .slice s4 x4.length n4, .int .i64 r5, .int .i64 c5, .slice s5 x5.length n5, .int .i64 r6, .int .i64 c6, .slice s6 x6.length n6, .int .i64 r7, .int .i64 c7, .slice s7 x7.length n7, .int .i64 r8, .int .i64 c8, .slice s8 x8.length n8, .int .i64 r9, .int .i64 c9, .slice s9 x9.length n9]⟩, ⟨b4, 30, [.int .i64 r2, .int .i64 c2, .slice s2 x2.length n2, .int .i64 r3, .int .i64 c3, .slice s3 x3.length n3]⟩, ⟨b3, 30, [.int .i64 r0, .int .i64 c0, .slice s0 x0.length n0, .int .i64 r1, .int .i64 c1, .slice s1 x1.length n1]⟩] from (by repeat (first | exact Del.head | apply Del.tail)))
 have K6 := kp (S.o.box _ D1.out.mem).1
 have K7 := kp (S.o.box _ (D1.out.sub.subset D2.out.mem)).1
 have K8 := kp (S.o.box _ ((D2.out.sub.trans D1.out.sub).subset D3.out.mem)).1
 simp only at K6 K7 K8
 have ne67 : Kept (b7 ≠ b6) := ⟨D1.out.ne S.o.dis _ D2.out.mem⟩
 have ne68 : Kept (b8 ≠ b6) := ⟨D1.out.ne S.o.dis _ (D2.out.sub.subset D3.out.mem)⟩
 have ne78 : Kept (b8 ≠ b7) := ⟨D2.out.ne (S.o.dis.sublist D1.out.sub) _ D3.out.mem⟩
 apply wp_region_zipV (XS.rel _ [b6, b7, b8] []) (fun L _ w' => Px b6 5 30 #[.int .i64 0, .int .i64 0, .slice none 0 0, .int .i64 0, .int .i64 0, .slice none 0 0] (fun _ cs => cs = #[.int .i64 fr, .int .i64 fc, .slice pf fs.length mf, .int .i64 sr, .int .i64 sc, .slice ps ss.length ms]) L w' ∧ Px b7 6 28 #[.int .i64 0, .int .i64 0, .slice none 0 0] (fun _ cs => cs = #[.int .i64 dr, .int .i64 dc, .slice pd ds.length md]) L w' ∧ Px b8 7 28 #[.int .i64 0, .int .i64 0, .slice none 0 0] (fun _ cs => cs = #[.int .i64 er, .int .i64 ec, .slice pe es.length me]) L w') [isv _, isv _, isv _, isv _, isv _, anyV, anyV, anyV, isv _] _ ?hJ (by kernel_rfl)
 case hJ => exact ⟨⟨fun _ => K6.out.keep ⟨rfl, rfl, rfl, Nat.le_refl _, fun _ _ => rfl⟩, fun h => by cases h⟩, ⟨fun _ => K7.out.keep ⟨rfl, rfl, rfl, Nat.le_refl _, fun _ _ => rfl⟩, fun h => by cases h⟩, ⟨fun _ => K8.out.keep ⟨rfl, rfl, rfl, Nat.le_refl _, fun _ _ => rfl⟩, fun h => by cases h⟩⟩
 case hA => intro V; simp [putAll, dstOf, Act.put]; exact rfl
 case hsl => intro V; exact rfl
 case step =>
  intro V lo up w' hr L hj
  have S := kp (S.o.rest3 D1.out D2.out D3.out hr)
  simp only [zipOkV, depsImp, isv, matV, matU, anyV, modeNg, newb, waits, Region.binds, List.map_nil, List.map_cons, List.headD_cons, List.nil_append, List.cons_append, List.filterMap_cons, List.filterMap_nil, ↓reduceIte, modeNe, Bool.false_eq_true, true_implies, List.getD_cons_zero, List.getD_cons_succ, and_true, Nat.zero_add, Nat.reduceAdd]
  refine ⟨?_, ?_, ?_, ?_, ?_, ?_, ?_, ?_, ?_⟩
  ·intro hl hw hd
   intros
   (try simp only [*])
   go_wp2_with (first | (refine ldiM S.o ?_) | fail)
   refine sS ?_
   exact ⟨XS.refl _, rfl, ⟨hj.1.ext (fun _ h => h) (fun _ => rfl) (by decide), hj.2.1.ext (fun _ h => h) (fun _ => rfl) (by decide), hj.2.2.ext (fun _ h => h) (fun _ => rfl) (by decide)⟩⟩
  ·intro hl hw hd
   intros
   (try simp only [*])
   go_wp2_with (first | (refine ldiM S.o ?_) | fail)
   refine sS ?_
   exact ⟨XS.refl _, rfl, ⟨hj.1.ext (fun _ h => h) (fun _ => rfl) (by decide), hj.2.1.ext (fun _ h => h) (fun _ => rfl) (by decide), hj.2.2.ext (fun _ h => h) (fun _ => rfl) (by decide)⟩⟩
  ·intro hl hw hd
   intros
   (try simp only [*])
   go_wp2_with (fail)
   refine sS ?_
   exact ⟨XS.refl _, rfl, ⟨hj.1.ext (fun _ h => h) (fun _ => rfl) (by decide), hj.2.1.ext (fun _ h => h) (fun _ => rfl) (by decide), hj.2.2.ext (fun _ h => h) (fun _ => rfl) (by decide)⟩⟩
  ·intro hl hw hd
   intros
   (try simp only [*])
   go_wp2_with (first | (refine ldiM S.o ?_) | fail)
   refine sS ?_
   exact ⟨XS.refl _, rfl, ⟨hj.1.ext (fun _ h => h) (fun _ => rfl) (by decide), hj.2.1.ext (fun _ h => h) (fun _ => rfl) (by decide), hj.2.2.ext (fun _ h => h) (fun _ => rfl) (by decide)⟩⟩
  ·intro hl hw hd
   intros
   (try simp only [*])
   go_wp2_with (first | (refine ldiM S.o ?_) | fail)
   refine sS ?_
   exact ⟨XS.refl _, rfl, ⟨hj.1.ext (fun _ h => h) (fun _ => rfl) (by decide), hj.2.1.ext (fun _ h => h) (fun _ => rfl) (by decide), hj.2.2.ext (fun _ h => h) (fun _ => rfl) (by decide)⟩⟩
  ·intro hl hw hd
   obtain ⟨kz⟩ : Kept (Blk w' b6 #[.int .i64 0, .int .i64 0, .slice none 0 0, .int .i64 0, .int .i64 0, .slice none 0 0] 30) := ⟨hj.1.no hl⟩
   intros
   have e_ : V 2 = .agg #[.int .i64 fr, .int .i64 fc, .slice pf fs.length mf, .int .i64 sr, .int .i64 sc, .slice ps ss.length ms] := by assumption
   refine wpList_putX (by rfl) (by rfl) _ _ (by rfl) b6 _ _ (by rfl) (by exact e_) kz (by kernel_rfl) (by rfl) (by simp [Value.oneCell']) (.inl ⟨by simp, K6.out.lt⟩) (fun w'' f k hoth hsz u => ⟨f, trivial, Px.put k rfl, hj.2.1.ext (fun _ h => h) (fun _ => hoth _ ne67.out) (by decide), hj.2.2.ext (fun _ h => h) (fun _ => hoth _ ne68.out) (by decide)⟩)
  ·intro hl hw hd
   obtain ⟨kz⟩ : Kept (Blk w' b7 #[.int .i64 0, .int .i64 0, .slice none 0 0] 28) := ⟨hj.2.1.no hl⟩
   intros
   have e_ : V 3 = .agg #[.int .i64 dr, .int .i64 dc, .slice pd ds.length md] := by assumption
   refine wpList_putX (by rfl) (by rfl) _ _ (by rfl) b7 _ _ (by rfl) (by exact e_) kz (by kernel_rfl) (by rfl) (by simp [Value.oneCell']) (.inl ⟨by simp, K7.out.lt⟩) (fun w'' f k hoth hsz u => ⟨f, trivial, hj.1.ext (fun _ h => h) (fun _ => hoth _ ne67.out.symm) (by decide), Px.put k rfl, hj.2.2.ext (fun _ h => h) (fun _ => hoth _ ne78.out) (by decide)⟩)
  ·intro hl hw hd
   obtain ⟨kz⟩ : Kept (Blk w' b8 #[.int .i64 0, .int .i64 0, .slice none 0 0] 28) := ⟨hj.2.2.no hl⟩
   intros
   have e_ : V 4 = .agg #[.int .i64 er, .int .i64 ec, .slice pe es.length me] := by assumption
   refine wpList_putX (by rfl) (by rfl) _ _ (by rfl) b8 _ _ (by rfl) (by exact e_) kz (by kernel_rfl) (by rfl) (by simp [Value.oneCell']) (.inl ⟨by simp, K8.out.lt⟩) (fun w'' f k hoth hsz u => ⟨f, trivial, hj.1.ext (fun _ h => h) (fun _ => hoth _ ne68.out.symm) (by decide), hj.2.1.ext (fun _ h => h) (fun _ => hoth _ ne78.out.symm) (by decide), Px.put k rfl⟩)
  intro hl hw hd
  intros
  (try simp only [*])
  go_wp2_with (fail)
  refine sS ?_
  exact ⟨XS.refl _, rfl, ⟨hj.1.ext (fun _ h => h) (fun _ => rfl) (by decide), hj.2.1.ext (fun _ h => h) (fun _ => rfl) (by decide), hj.2.2.ext (fun _ h => h) (fun _ => rfl) (by decide)⟩⟩
 case hB => kernel_rfl
 intro V lo up w' hr L hj hL hf ha
 simp only [factsOk, isv, matV, matU, anyV, modeNg, newb, List.map_nil, List.map_cons, List.headD_cons, and_true, Nat.zero_add, Nat.reduceAdd] at hf
 simp only [List.length_cons, List.length_nil, Nat.zero_add, Nat.reduceAdd, List.drop_succ_cons, List.drop_zero]
 obtain ⟨-, -, -, -, -, -, -, -, ⟨-, -, -, e8⟩⟩ := hf
 clear ha
 rw [e8]
 clear e8
 obtain ⟨c6, k6, rfl⟩ := hj.1.yes (hL 5 (by simp))
 obtain ⟨c7, k7, rfl⟩ := hj.2.1.yes (hL 6 (by simp))
 obtain ⟨c8, k8, rfl⟩ := hj.2.2.yes (hL 7 (by simp))
 clear hj
 have S9 := S.o.fill3 (c1 := [.int .i64 fr, .int .i64 fc, .slice pf fs.length mf, .int .i64 sr, .int .i64 sc, .slice ps ss.length ms]) (c2 := [.int .i64 dr, .int .i64 dc, .slice pd ds.length md]) (c3 := [.int .i64 er, .int .i64 ec, .slice pe es.length me]) D1.out D2.out D3.out hr (Grp.nil _ _) k6 k7 k8
 simp only [List.cons_append, List.nil_append] at S9
 replace S := kp S9
 clear S9 k6 k7 k8 hr
 go_wp2_with (first | (refine ldiM S.o ?_) | (refine ldiS S.o ?_) | (refine ldiT S.o ?_) | (refine wW ?_; dsimp only) | fail)
 refine bodyPost_ret (v := .tuple #[.agg #[.int .i64 fr, .int .i64 fc, .slice pf fs.length mf, .int .i64 sr, .int .i64 sc, .slice ps ss.length ms], .agg #[.int .i64 dr, .int .i64 dc, .slice pd ds.length md], .agg #[.int .i64 er, .int .i64 ec, .slice pe es.length me], .bool true]) ?A rfl ⟨_, _, _, _, rfl, ?B, S.o.ext⟩
 case A => exact res4 rfl (by exact (rsiS S.o)) (by exact (rsiM S.o)) (by exact (rsiM S.o)) rfl
 case B => exact S.o.grp.sel rfl [1, 0, 3, 2] (by decide) (by simp)
end Go.Proofs.YtkkdikoknegpjaaGreat
