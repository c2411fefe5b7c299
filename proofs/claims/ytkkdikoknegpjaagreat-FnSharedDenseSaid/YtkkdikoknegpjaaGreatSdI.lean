import Derived.Test.YtkkdikoknegpjaaGreatSdC
import Derived.Test.YtkkdikoknegpjaaGreatSdX
import Derived.Test.YtkkdikoknegpjaaGreatDenT
import Derived.Test.YtkkdikoknegpjaaGreatShB
import Derived.Test.YtkkdikoknegpjaaGreatQB
import Derived.Test.YtkkdikoknegpjaaGreatQF
import Derived.Deep.Cut
namespace Go.Proofs.YtkkdikoknegpjaaGreat
set_option linter.unusedSimpArgs false
set_option linter.unusedVariables false
open Go.RowKit
def shD {n0 m : Nat} {rs : List Nat} {Ts : List TypeId} (hT : 3 ∉ Ts) (r0 c0 r1 c1 : Int) (x0 x1 : List Int) : OpSpec (XS n0 rs Ts) m :=
 ⟨[], fun _ u _ _ w => ∃ v0 v1, u = .agg #[.int .i64 r0, .int .i64 c0, v0, .int .i64 r1, .int .i64 c1, v1] ∧ Grp n0 w [v0, v1] [x0, x1], fun _ _ _ _ _ _ _ _ _ hx ⟨v0, v1, h1, h2⟩ => ⟨v0, v1, h1, h2.xs hx (Nat.le_refl _) hT⟩⟩
set_option maxHeartbeats 8000000 in
set_option maxRecDepth 4000 in
theorem impl_SharedDense (r0 c0 r1 c1 r2 c2 r3 c3 r4 c4 r5 c5 : Int) (v0 v1 v2 v3 v4 v5 : Value) (x0 x1 x2 x3 x4 x5 : List Int) (s : Int) (w : World) (h0 : Ints w v0 x0) (h1 : Ints w v1 x1) (h2 : Ints w v2 x2) (h3 : Ints w v3 x3) (h4 : Ints w v4 x4) (h5 : Ints w v5 x5) : Calls Tryz.prog 8 #[.agg #[.int .i64 r0, .int .i64 c0, v0, .int .i64 r1, .int .i64 c1, v1], .agg #[.int .i64 r2, .int .i64 c2, v2, .int .i64 r3, .int .i64 c3, v3], .agg #[.int .i64 r4, .int .i64 c4, v4, .int .i64 r5, .int .i64 c5, v5], .int .i64 s] w (ShLN (sdSh ⟨⟨r0, c0, x0⟩, ⟨r1, c1, x1⟩⟩ ⟨⟨r2, c2, x2⟩, ⟨r3, c3, x3⟩⟩ ⟨⟨r4, c4, x4⟩, ⟨r5, c5, x5⟩⟩ s) (sdL ⟨⟨r0, c0, x0⟩, ⟨r1, c1, x1⟩⟩ ⟨⟨r2, c2, x2⟩, ⟨r3, c3, x3⟩⟩ ⟨⟨r4, c4, x4⟩, ⟨r5, c5, x5⟩⟩ s) (sdS ⟨⟨r0, c0, x0⟩, ⟨r1, c1, x1⟩⟩ ⟨⟨r2, c2, x2⟩, ⟨r3, c3, x3⟩⟩ ⟨⟨r4, c4, x4⟩, ⟨r5, c5, x5⟩⟩ s) w) := by
 cases g1 : ShM.ok ⟨⟨r0, c0, x0⟩, ⟨r1, c1, x1⟩⟩
 ·have hz : sdOk ⟨⟨r0, c0, x0⟩, ⟨r1, c1, x1⟩⟩ ⟨⟨r2, c2, x2⟩, ⟨r3, c3, x3⟩⟩ ⟨⟨r4, c4, x4⟩, ⟨r5, c5, x5⟩⟩ s = false := by unfold sdOk; simp only; simp only [g1, Bool.and_false, Bool.false_and]
  obtain ⟨z1, z2, z3⟩ := sdSh_bad hz
  rw [z1, z2, z3]
  clear hz z1 z2 z3
  unfold ShLN shZ matZ
  simp only
  have VW := kp (fun (v u : Value) (w' : World) (h : Ints w' v x0) (k : Ints w' u x1) => impl_SharedMatrixValid r0 c0 r1 c1 v u x0 x1 false g1 w' h k)
  clear g1
  obtain ⟨s0, n0, rfl, hm9, hc9⟩ := id h0
  clear hm9 hc9
  have H0 := kp h0
  clear h0
  obtain ⟨s1, n1, rfl, hm9, hc9⟩ := id h1
  clear hm9 hc9
  have H1 := kp h1
  clear h1
  obtain ⟨s2, n2, rfl, hm9, hc9⟩ := id h2
  clear hm9 hc9
  have H2 := kp h2
  clear h2
  obtain ⟨s3, n3, rfl, hm9, hc9⟩ := id h3
  clear hm9 hc9
  have H3 := kp h3
  clear h3
  obtain ⟨s4, n4, rfl, hm9, hc9⟩ := id h4
  clear hm9 hc9
  have H4 := kp h4
  clear h4
  obtain ⟨s5, n5, rfl, hm9, hc9⟩ := id h5
  clear hm9 hc9
  have H5 := kp h5
  clear h5
  have S := kp (St.start w)
  go_enter Tryz.func8, Tryz.ntmps8
  go_wp2_with (first | (refine bxiS (L := []) S.o ?_; clear S; intro b4 w9 S) | (refine bxiS (L := [_]) S.o ?_; clear S; intro b5 w9 S) | (refine bxiS (L := [_, _]) S.o ?_; clear S; intro b6 w9 S) | (refine aliS (L := [_, _, _]) S.o ?_; clear S; intro b8 w9 S) | (refine aliQ (L := [_, _, _, _]) S.o ?_; clear S; intro b11 w9 S) | (refine aliS (L := [_, _, _, _, _]) S.o ?_; clear S; intro b12 w9 S) | (refine aliS (L := [_, _, _, _, _, _]) S.o ?_; clear S; intro b13 w9 S) | (refine ldiM S.o ?_) | (refine ldiS S.o ?_) | (refine ldI S.o ?_) | (refine ldIs S.o ?_) | (refine stiS S.o ?_; clear S; intro w9 S) | (refine stiQ S.o ?_; clear S; intro w9 S) | (refine wW ?_; dsimp only) | fail)
  (with_reducible refine (VW.out _ _ _ (H0.out.keep S.o.ext) (H1.out.keep S.o.ext)).mono ?_)
  rintro e u9 ⟨rfl, x9⟩
  replace S := kp (S.o.quiet x9)
  clear x9
  go_upto_if 48 with (fail)
  go_wp2_with (first | (refine ldiM S.o ?_) | (refine ldiS S.o ?_) | (refine ldI S.o ?_) | (refine ldIs S.o ?_) | (refine stiS S.o ?_; clear S; intro w9 S) | (refine stiQ S.o ?_; clear S; intro w9 S) | (refine wW ?_; dsimp only) | fail)
  exact bodyPost_ret (v := zzA) (by exact res3 rfl (by exact (rsiS S.o)) rfl rfl) rfl ⟨_, _, _, rfl, Grp.zero3 _ _, S.o.ext⟩
 cases g2 : ShM.ok ⟨⟨r2, c2, x2⟩, ⟨r3, c3, x3⟩⟩
 ·have hz : sdOk ⟨⟨r0, c0, x0⟩, ⟨r1, c1, x1⟩⟩ ⟨⟨r2, c2, x2⟩, ⟨r3, c3, x3⟩⟩ ⟨⟨r4, c4, x4⟩, ⟨r5, c5, x5⟩⟩ s = false := by unfold sdOk; simp only; simp only [g1, g2, Bool.and_false, Bool.false_and]
  obtain ⟨z1, z2, z3⟩ := sdSh_bad hz
  rw [z1, z2, z3]
  clear hz z1 z2 z3
  unfold ShLN shZ matZ
  simp only
  have VW := kp (fun (v u : Value) (w' : World) (h : Ints w' v x0) (k : Ints w' u x1) => impl_SharedMatrixValid r0 c0 r1 c1 v u x0 x1 true g1 w' h k)
  have VB := kp (fun (v u : Value) (w' : World) (h : Ints w' v x2) (k : Ints w' u x3) => impl_SharedMatrixValid r2 c2 r3 c3 v u x2 x3 false g2 w' h k)
  clear g1 g2
  obtain ⟨s0, n0, rfl, hm9, hc9⟩ := id h0
  clear hm9 hc9
  have H0 := kp h0
  clear h0
  obtain ⟨s1, n1, rfl, hm9, hc9⟩ := id h1
  clear hm9 hc9
  have H1 := kp h1
  clear h1
  obtain ⟨s2, n2, rfl, hm9, hc9⟩ := id h2
  clear hm9 hc9
  have H2 := kp h2
  clear h2
  obtain ⟨s3, n3, rfl, hm9, hc9⟩ := id h3
  clear hm9 hc9
  have H3 := kp h3
  clear h3
  obtain ⟨s4, n4, rfl, hm9, hc9⟩ := id h4
  clear hm9 hc9
  have H4 := kp h4
  clear h4
  obtain ⟨s5, n5, rfl, hm9, hc9⟩ := id h5
  clear hm9 hc9
  have H5 := kp h5
  clear h5
  have S := kp (St.start w)
  go_enter Tryz.func8, Tryz.ntmps8
  go_wp2_with (first | (refine bxiS (L := []) S.o ?_; clear S; intro b4 w9 S) | (refine bxiS (L := [_]) S.o ?_; clear S; intro b5 w9 S) | (refine bxiS (L := [_, _]) S.o ?_; clear S; intro b6 w9 S) | (refine aliS (L := [_, _, _]) S.o ?_; clear S; intro b8 w9 S) | (refine aliQ (L := [_, _, _, _]) S.o ?_; clear S; intro b11 w9 S) | (refine aliS (L := [_, _, _, _, _]) S.o ?_; clear S; intro b12 w9 S) | (refine aliS (L := [_, _, _, _, _, _]) S.o ?_; clear S; intro b13 w9 S) | (refine ldiM S.o ?_) | (refine ldiS S.o ?_) | (refine ldI S.o ?_) | (refine ldIs S.o ?_) | (refine stiS S.o ?_; clear S; intro w9 S) | (refine stiQ S.o ?_; clear S; intro w9 S) | (refine wW ?_; dsimp only) | fail)
  (with_reducible refine (VW.out _ _ _ (H0.out.keep S.o.ext) (H1.out.keep S.o.ext)).mono ?_)
  rintro e u9 ⟨rfl, x9⟩
  replace S := kp (S.o.quiet x9)
  clear x9
  go_wp2_with (first | (refine ldiM S.o ?_) | (refine ldiS S.o ?_) | (refine ldI S.o ?_) | (refine ldIs S.o ?_) | (refine stiS S.o ?_; clear S; intro w9 S) | (refine stiQ S.o ?_; clear S; intro w9 S) | (refine wW ?_; dsimp only) | fail)
  (with_reducible refine (VB.out _ _ _ (H2.out.keep S.o.ext) (H3.out.keep S.o.ext)).mono ?_)
  rintro e u9 ⟨rfl, x9⟩
  replace S := kp (S.o.quiet x9)
  clear x9
  go_upto_if 48 with (fail)
  go_wp2_with (first | (refine ldiM S.o ?_) | (refine ldiS S.o ?_) | (refine ldI S.o ?_) | (refine ldIs S.o ?_) | (refine stiS S.o ?_; clear S; intro w9 S) | (refine stiQ S.o ?_; clear S; intro w9 S) | (refine wW ?_; dsimp only) | fail)
  exact bodyPost_ret (v := zzA) (by exact res3 rfl (by exact (rsiS S.o)) rfl rfl) rfl ⟨_, _, _, rfl, Grp.zero3 _ _, S.o.ext⟩
 cases g3 : ShM.ok ⟨⟨r4, c4, x4⟩, ⟨r5, c5, x5⟩⟩
 ·have hz : sdOk ⟨⟨r0, c0, x0⟩, ⟨r1, c1, x1⟩⟩ ⟨⟨r2, c2, x2⟩, ⟨r3, c3, x3⟩⟩ ⟨⟨r4, c4, x4⟩, ⟨r5, c5, x5⟩⟩ s = false := by unfold sdOk; simp only; simp only [g1, g2, g3, Bool.and_false, Bool.false_and]
  obtain ⟨z1, z2, z3⟩ := sdSh_bad hz
  rw [z1, z2, z3]
  clear hz z1 z2 z3
  unfold ShLN shZ matZ
  simp only
  have VW := kp (fun (v u : Value) (w' : World) (h : Ints w' v x0) (k : Ints w' u x1) => impl_SharedMatrixValid r0 c0 r1 c1 v u x0 x1 true g1 w' h k)
  have VB := kp (fun (v u : Value) (w' : World) (h : Ints w' v x2) (k : Ints w' u x3) => impl_SharedMatrixValid r2 c2 r3 c3 v u x2 x3 true g2 w' h k)
  have VX := kp (fun (v u : Value) (w' : World) (h : Ints w' v x4) (k : Ints w' u x5) => impl_SharedMatrixValid r4 c4 r5 c5 v u x4 x5 false g3 w' h k)
  clear g1 g2 g3
  obtain ⟨s0, n0, rfl, hm9, hc9⟩ := id h0
  clear hm9 hc9
  have H0 := kp h0
  clear h0
  obtain ⟨s1, n1, rfl, hm9, hc9⟩ := id h1
  clear hm9 hc9
  have H1 := kp h1
  clear h1
  obtain ⟨s2, n2, rfl, hm9, hc9⟩ := id h2
  clear hm9 hc9
  have H2 := kp h2
  clear h2
  obtain ⟨s3, n3, rfl, hm9, hc9⟩ := id h3
  clear hm9 hc9
  have H3 := kp h3
  clear h3
  obtain ⟨s4, n4, rfl, hm9, hc9⟩ := id h4
  clear hm9 hc9
  have H4 := kp h4
  clear h4
  obtain ⟨s5, n5, rfl, hm9, hc9⟩ := id h5
  clear hm9 hc9
  have H5 := kp h5
  clear h5
  have S := kp (St.start w)
  go_enter Tryz.func8, Tryz.ntmps8
  go_wp2_with (first | (refine bxiS (L := []) S.o ?_; clear S; intro b4 w9 S) | (refine bxiS (L := [_]) S.o ?_; clear S; intro b5 w9 S) | (refine bxiS (L := [_, _]) S.o ?_; clear S; intro b6 w9 S) | (refine aliS (L := [_, _, _]) S.o ?_; clear S; intro b8 w9 S) | (refine aliQ (L := [_, _, _, _]) S.o ?_; clear S; intro b11 w9 S) | (refine aliS (L := [_, _, _, _, _]) S.o ?_; clear S; intro b12 w9 S) | (refine aliS (L := [_, _, _, _, _, _]) S.o ?_; clear S; intro b13 w9 S) | (refine ldiM S.o ?_) | (refine ldiS S.o ?_) | (refine ldI S.o ?_) | (refine ldIs S.o ?_) | (refine stiS S.o ?_; clear S; intro w9 S) | (refine stiQ S.o ?_; clear S; intro w9 S) | (refine wW ?_; dsimp only) | fail)
  (with_reducible refine (VW.out _ _ _ (H0.out.keep S.o.ext) (H1.out.keep S.o.ext)).mono ?_)
  rintro e u9 ⟨rfl, x9⟩
  replace S := kp (S.o.quiet x9)
  clear x9
  go_wp2_with (first | (refine ldiM S.o ?_) | (refine ldiS S.o ?_) | (refine ldI S.o ?_) | (refine ldIs S.o ?_) | (refine stiS S.o ?_; clear S; intro w9 S) | (refine stiQ S.o ?_; clear S; intro w9 S) | (refine wW ?_; dsimp only) | fail)
  (with_reducible refine (VB.out _ _ _ (H2.out.keep S.o.ext) (H3.out.keep S.o.ext)).mono ?_)
  rintro e u9 ⟨rfl, x9⟩
  replace S := kp (S.o.quiet x9)
  clear x9
  go_wp2_with (first | (refine ldiM S.o ?_) | (refine ldiS S.o ?_) | (refine ldI S.o ?_) | (refine ldIs S.o ?_) | (refine stiS S.o ?_; clear S; intro w9 S) | (refine stiQ S.o ?_; clear S; intro w9 S) | (refine wW ?_; dsimp only) | fail)
  (with_reducible refine (VX.out _ _ _ (H4.out.keep S.o.ext) (H5.out.keep S.o.ext)).mono ?_)
  rintro e u9 ⟨rfl, x9⟩
  replace S := kp (S.o.quiet x9)
  clear x9
  go_upto_if 48 with (fail)
  go_wp2_with (first | (refine ldiM S.o ?_) | (refine ldiS S.o ?_) | (refine ldI S.o ?_) | (refine ldIs S.o ?_) | (refine stiS S.o ?_; clear S; intro w9 S) | (refine stiQ S.o ?_; clear S; intro w9 S) | (refine wW ?_; dsimp only) | fail)
  exact bodyPost_ret (v := zzA) (by exact res3 rfl (by exact (rsiS S.o)) rfl rfl) rfl ⟨_, _, _, rfl, Grp.zero3 _ _, S.o.ext⟩
 cases g4 : seedOk s
 ·have hz : sdOk ⟨⟨r0, c0, x0⟩, ⟨r1, c1, x1⟩⟩ ⟨⟨r2, c2, x2⟩, ⟨r3, c3, x3⟩⟩ ⟨⟨r4, c4, x4⟩, ⟨r5, c5, x5⟩⟩ s = false := by unfold sdOk; simp only; simp only [g1, g2, g3, g4, Bool.and_false, Bool.false_and]
  obtain ⟨z1, z2, z3⟩ := sdSh_bad hz
  rw [z1, z2, z3]
  clear hz z1 z2 z3
  unfold ShLN shZ matZ
  simp only
  have VW := kp (fun (v u : Value) (w' : World) (h : Ints w' v x0) (k : Ints w' u x1) => impl_SharedMatrixValid r0 c0 r1 c1 v u x0 x1 true g1 w' h k)
  have VB := kp (fun (v u : Value) (w' : World) (h : Ints w' v x2) (k : Ints w' u x3) => impl_SharedMatrixValid r2 c2 r3 c3 v u x2 x3 true g2 w' h k)
  have VX := kp (fun (v u : Value) (w' : World) (h : Ints w' v x4) (k : Ints w' u x5) => impl_SharedMatrixValid r4 c4 r5 c5 v u x4 x5 true g3 w' h k)
  have SD : Kept ((decide (1 ≤ s) && decide (s ≤ 2147483646)) = false) := ⟨g4⟩
  clear g1 g2 g3 g4
  obtain ⟨s0, n0, rfl, hm9, hc9⟩ := id h0
  clear hm9 hc9
  have H0 := kp h0
  clear h0
  obtain ⟨s1, n1, rfl, hm9, hc9⟩ := id h1
  clear hm9 hc9
  have H1 := kp h1
  clear h1
  obtain ⟨s2, n2, rfl, hm9, hc9⟩ := id h2
  clear hm9 hc9
  have H2 := kp h2
  clear h2
  obtain ⟨s3, n3, rfl, hm9, hc9⟩ := id h3
  clear hm9 hc9
  have H3 := kp h3
  clear h3
  obtain ⟨s4, n4, rfl, hm9, hc9⟩ := id h4
  clear hm9 hc9
  have H4 := kp h4
  clear h4
  obtain ⟨s5, n5, rfl, hm9, hc9⟩ := id h5
  clear hm9 hc9
  have H5 := kp h5
  clear h5
  have S := kp (St.start w)
  go_enter Tryz.func8, Tryz.ntmps8
  go_wp2_with (first | (refine bxiS (L := []) S.o ?_; clear S; intro b4 w9 S) | (refine bxiS (L := [_]) S.o ?_; clear S; intro b5 w9 S) | (refine bxiS (L := [_, _]) S.o ?_; clear S; intro b6 w9 S) | (refine aliS (L := [_, _, _]) S.o ?_; clear S; intro b8 w9 S) | (refine aliQ (L := [_, _, _, _]) S.o ?_; clear S; intro b11 w9 S) | (refine aliS (L := [_, _, _, _, _]) S.o ?_; clear S; intro b12 w9 S) | (refine aliS (L := [_, _, _, _, _, _]) S.o ?_; clear S; intro b13 w9 S) | (refine ldiM S.o ?_) | (refine ldiS S.o ?_) | (refine ldI S.o ?_) | (refine ldIs S.o ?_) | (refine stiS S.o ?_; clear S; intro w9 S) | (refine stiQ S.o ?_; clear S; intro w9 S) | (refine wW ?_; dsimp only) | fail)
  (with_reducible refine (VW.out _ _ _ (H0.out.keep S.o.ext) (H1.out.keep S.o.ext)).mono ?_)
  rintro e u9 ⟨rfl, x9⟩
  replace S := kp (S.o.quiet x9)
  clear x9
  go_wp2_with (first | (refine ldiM S.o ?_) | (refine ldiS S.o ?_) | (refine ldI S.o ?_) | (refine ldIs S.o ?_) | (refine stiS S.o ?_; clear S; intro w9 S) | (refine stiQ S.o ?_; clear S; intro w9 S) | (refine wW ?_; dsimp only) | fail)
  (with_reducible refine (VB.out _ _ _ (H2.out.keep S.o.ext) (H3.out.keep S.o.ext)).mono ?_)
  rintro e u9 ⟨rfl, x9⟩
  replace S := kp (S.o.quiet x9)
  clear x9
  go_wp2_with (first | (refine ldiM S.o ?_) | (refine ldiS S.o ?_) | (refine ldI S.o ?_) | (refine ldIs S.o ?_) | (refine stiS S.o ?_; clear S; intro w9 S) | (refine stiQ S.o ?_; clear S; intro w9 S) | (refine wW ?_; dsimp only) | fail)
  (with_reducible refine (VX.out _ _ _ (H4.out.keep S.o.ext) (H5.out.keep S.o.ext)).mono ?_)
  rintro e u9 ⟨rfl, x9⟩
  replace S := kp (S.o.quiet x9)
  clear x9
  go_wp2_with (first | (refine ldiM S.o ?_) | (refine ldiS S.o ?_) | (refine ldI S.o ?_) | (refine ldIs S.o ?_) | (refine stiS S.o ?_; clear S; intro w9 S) | (refine stiQ S.o ?_; clear S; intro w9 S) | (refine wW ?_; dsimp only) | fail)
  (with_reducible refine (impl_seedValid s false SD.out _).mono ?_)
  rintro e u9 ⟨rfl, rfl⟩
  go_upto_if 48 with (fail)
  go_wp2_with (first | (refine ldiM S.o ?_) | (refine ldiS S.o ?_) | (refine ldI S.o ?_) | (refine ldIs S.o ?_) | (refine stiS S.o ?_; clear S; intro w9 S) | (refine stiQ S.o ?_; clear S; intro w9 S) | (refine wW ?_; dsimp only) | fail)
  exact bodyPost_ret (v := zzA) (by exact res3 rfl (by exact (rsiS S.o)) rfl rfl) rfl ⟨_, _, _, rfl, Grp.zero3 _ _, S.o.ext⟩
 cases g5 : (decide (c2 = 1) && decide (r2 = r0))
 ·have hz : sdOk ⟨⟨r0, c0, x0⟩, ⟨r1, c1, x1⟩⟩ ⟨⟨r2, c2, x2⟩, ⟨r3, c3, x3⟩⟩ ⟨⟨r4, c4, x4⟩, ⟨r5, c5, x5⟩⟩ s = false := by unfold sdOk; simp only; simp only [g1, g2, g3, g4, g5, Bool.and_false, Bool.false_and]
  obtain ⟨z1, z2, z3⟩ := sdSh_bad hz
  rw [z1, z2, z3]
  clear hz z1 z2 z3
  unfold ShLN shZ matZ
  simp only
  have mw : mOk r0 c0 x0 = true := by
   have a := g1
   simp only [ShM.ok, Mat.ok, Bool.and_eq_true] at a
   exact a.1.1
  have mb : mOk r2 c2 x2 = true := by
   have a := g2
   simp only [ShM.ok, Mat.ok, Bool.and_eq_true] at a
   exact a.1.1
  have VW := kp (fun (v u : Value) (w' : World) (h : Ints w' v x0) (k : Ints w' u x1) => impl_SharedMatrixValid r0 c0 r1 c1 v u x0 x1 true g1 w' h k)
  have VB := kp (fun (v u : Value) (w' : World) (h : Ints w' v x2) (k : Ints w' u x3) => impl_SharedMatrixValid r2 c2 r3 c3 v u x2 x3 true g2 w' h k)
  have VX := kp (fun (v u : Value) (w' : World) (h : Ints w' v x4) (k : Ints w' u x5) => impl_SharedMatrixValid r4 c4 r5 c5 v u x4 x5 true g3 w' h k)
  have SD : Kept ((decide (1 ≤ s) && decide (s ≤ 2147483646)) = true) := ⟨g4⟩
  have DF := kp (fun (v u : Value) (w' : World) (h : Ints w' v x0) (k : Ints w' u x2) => impl_denseFits r0 c0 r2 c2 v u x0 x2 false (by rw [mw, mb, Bool.and_assoc, g5]; rfl) w' h k)
  clear g1 g2 g3 g4 g5 mw mb
  obtain ⟨s0, n0, rfl, hm9, hc9⟩ := id h0
  clear hm9 hc9
  have H0 := kp h0
  clear h0
  obtain ⟨s1, n1, rfl, hm9, hc9⟩ := id h1
  clear hm9 hc9
  have H1 := kp h1
  clear h1
  obtain ⟨s2, n2, rfl, hm9, hc9⟩ := id h2
  clear hm9 hc9
  have H2 := kp h2
  clear h2
  obtain ⟨s3, n3, rfl, hm9, hc9⟩ := id h3
  clear hm9 hc9
  have H3 := kp h3
  clear h3
  obtain ⟨s4, n4, rfl, hm9, hc9⟩ := id h4
  clear hm9 hc9
  have H4 := kp h4
  clear h4
  obtain ⟨s5, n5, rfl, hm9, hc9⟩ := id h5
  clear hm9 hc9
  have H5 := kp h5
  clear h5
  have S := kp (St.start w)
  go_enter Tryz.func8, Tryz.ntmps8
  go_wp2_with (first | (refine bxiS (L := []) S.o ?_; clear S; intro b4 w9 S) | (refine bxiS (L := [_]) S.o ?_; clear S; intro b5 w9 S) | (refine bxiS (L := [_, _]) S.o ?_; clear S; intro b6 w9 S) | (refine aliS (L := [_, _, _]) S.o ?_; clear S; intro b8 w9 S) | (refine aliQ (L := [_, _, _, _]) S.o ?_; clear S; intro b11 w9 S) | (refine aliS (L := [_, _, _, _, _]) S.o ?_; clear S; intro b12 w9 S) | (refine aliS (L := [_, _, _, _, _, _]) S.o ?_; clear S; intro b13 w9 S) | (refine ldiM S.o ?_) | (refine ldiS S.o ?_) | (refine ldI S.o ?_) | (refine ldIs S.o ?_) | (refine stiS S.o ?_; clear S; intro w9 S) | (refine stiQ S.o ?_; clear S; intro w9 S) | (refine wW ?_; dsimp only) | fail)
  (with_reducible refine (VW.out _ _ _ (H0.out.keep S.o.ext) (H1.out.keep S.o.ext)).mono ?_)
  rintro e u9 ⟨rfl, x9⟩
  replace S := kp (S.o.quiet x9)
  clear x9
  go_wp2_with (first | (refine ldiM S.o ?_) | (refine ldiS S.o ?_) | (refine ldI S.o ?_) | (refine ldIs S.o ?_) | (refine stiS S.o ?_; clear S; intro w9 S) | (refine stiQ S.o ?_; clear S; intro w9 S) | (refine wW ?_; dsimp only) | fail)
  (with_reducible refine (VB.out _ _ _ (H2.out.keep S.o.ext) (H3.out.keep S.o.ext)).mono ?_)
  rintro e u9 ⟨rfl, x9⟩
  replace S := kp (S.o.quiet x9)
  clear x9
  go_wp2_with (first | (refine ldiM S.o ?_) | (refine ldiS S.o ?_) | (refine ldI S.o ?_) | (refine ldIs S.o ?_) | (refine stiS S.o ?_; clear S; intro w9 S) | (refine stiQ S.o ?_; clear S; intro w9 S) | (refine wW ?_; dsimp only) | fail)
  (with_reducible refine (VX.out _ _ _ (H4.out.keep S.o.ext) (H5.out.keep S.o.ext)).mono ?_)
  rintro e u9 ⟨rfl, x9⟩
  replace S := kp (S.o.quiet x9)
  clear x9
  go_wp2_with (first | (refine ldiM S.o ?_) | (refine ldiS S.o ?_) | (refine ldI S.o ?_) | (refine ldIs S.o ?_) | (refine stiS S.o ?_; clear S; intro w9 S) | (refine stiQ S.o ?_; clear S; intro w9 S) | (refine wW ?_; dsimp only) | fail)
  (with_reducible refine (impl_seedValid s true SD.out _).mono ?_)
  rintro e u9 ⟨rfl, rfl⟩
  go_wp2_with (first | (refine ldiM S.o ?_) | (refine ldiS S.o ?_) | (refine ldI S.o ?_) | (refine ldIs S.o ?_) | (refine stiS S.o ?_; clear S; intro w9 S) | (refine stiQ S.o ?_; clear S; intro w9 S) | (refine wW ?_; dsimp only) | fail)
  (with_reducible refine (DF.out _ _ _ (H0.out.keep S.o.ext) (H2.out.keep S.o.ext)).mono ?_)
  rintro e u9 ⟨rfl, x9⟩
  replace S := kp (S.o.quiet x9)
  clear x9
  go_upto_if 48 with (fail)
  go_wp2_with (first | (refine aliQ (L := [_, _, _, _]) S.o ?_; clear S; intro b11 w9 S) | (refine aliS (L := [_, _, _, _, _]) S.o ?_; clear S; intro b12 w9 S) | (refine aliS (L := [_, _, _, _, _, _]) S.o ?_; clear S; intro b13 w9 S) | (refine ldiM S.o ?_) | (refine ldiS S.o ?_) | (refine ldI S.o ?_) | (refine ldIs S.o ?_) | (refine stiS S.o ?_; clear S; intro w9 S) | (refine stiQ S.o ?_; clear S; intro w9 S) | (refine wW ?_; dsimp only) | fail)
  exact bodyPost_ret (v := zzA) (by exact res3 rfl (by exact (rsiS S.o)) rfl rfl) rfl ⟨_, _, _, rfl, Grp.zero3 _ _, S.o.ext⟩
 cases g6 : decide (c0 = r4)
 ·have hz : sdOk ⟨⟨r0, c0, x0⟩, ⟨r1, c1, x1⟩⟩ ⟨⟨r2, c2, x2⟩, ⟨r3, c3, x3⟩⟩ ⟨⟨r4, c4, x4⟩, ⟨r5, c5, x5⟩⟩ s = false := by unfold sdOk; simp only; simp only [g1, g2, g3, g4, g5, g6, Bool.and_false, Bool.false_and]
  obtain ⟨z1, z2, z3⟩ := sdSh_bad hz
  rw [z1, z2, z3]
  clear hz z1 z2 z3
  unfold ShLN shZ matZ
  simp only
  have mw : mOk r0 c0 x0 = true := by
   have a := g1
   simp only [ShM.ok, Mat.ok, Bool.and_eq_true] at a
   exact a.1.1
  have mb : mOk r2 c2 x2 = true := by
   have a := g2
   simp only [ShM.ok, Mat.ok, Bool.and_eq_true] at a
   exact a.1.1
  have VW := kp (fun (v u : Value) (w' : World) (h : Ints w' v x0) (k : Ints w' u x1) => impl_SharedMatrixValid r0 c0 r1 c1 v u x0 x1 true g1 w' h k)
  have VB := kp (fun (v u : Value) (w' : World) (h : Ints w' v x2) (k : Ints w' u x3) => impl_SharedMatrixValid r2 c2 r3 c3 v u x2 x3 true g2 w' h k)
  have VX := kp (fun (v u : Value) (w' : World) (h : Ints w' v x4) (k : Ints w' u x5) => impl_SharedMatrixValid r4 c4 r5 c5 v u x4 x5 true g3 w' h k)
  have SD : Kept ((decide (1 ≤ s) && decide (s ≤ 2147483646)) = true) := ⟨g4⟩
  have DF := kp (fun (v u : Value) (w' : World) (h : Ints w' v x0) (k : Ints w' u x2) => impl_denseFits r0 c0 r2 c2 v u x0 x2 true (by rw [mw, mb, Bool.and_assoc, g5]; rfl) w' h k)
  have e9 : (c0 == r4) = false := by simpa using g6
  have e9' : (c0 != r4) = true := by simpa using g6
  clear g1 g2 g3 g4 g5 g6 mw mb
  obtain ⟨s0, n0, rfl, hm9, hc9⟩ := id h0
  clear hm9 hc9
  have H0 := kp h0
  clear h0
  obtain ⟨s1, n1, rfl, hm9, hc9⟩ := id h1
  clear hm9 hc9
  have H1 := kp h1
  clear h1
  obtain ⟨s2, n2, rfl, hm9, hc9⟩ := id h2
  clear hm9 hc9
  have H2 := kp h2
  clear h2
  obtain ⟨s3, n3, rfl, hm9, hc9⟩ := id h3
  clear hm9 hc9
  have H3 := kp h3
  clear h3
  obtain ⟨s4, n4, rfl, hm9, hc9⟩ := id h4
  clear hm9 hc9
  have H4 := kp h4
  clear h4
  obtain ⟨s5, n5, rfl, hm9, hc9⟩ := id h5
  clear hm9 hc9
  have H5 := kp h5
  clear h5
  have S := kp (St.start w)
  go_enter Tryz.func8, Tryz.ntmps8
  go_wp2_with (first | (refine bxiS (L := []) S.o ?_; clear S; intro b4 w9 S) | (refine bxiS (L := [_]) S.o ?_; clear S; intro b5 w9 S) | (refine bxiS (L := [_, _]) S.o ?_; clear S; intro b6 w9 S) | (refine aliS (L := [_, _, _]) S.o ?_; clear S; intro b8 w9 S) | (refine aliQ (L := [_, _, _, _]) S.o ?_; clear S; intro b11 w9 S) | (refine aliS (L := [_, _, _, _, _]) S.o ?_; clear S; intro b12 w9 S) | (refine aliS (L := [_, _, _, _, _, _]) S.o ?_; clear S; intro b13 w9 S) | (refine ldiM S.o ?_) | (refine ldiS S.o ?_) | (refine ldI S.o ?_) | (refine ldIs S.o ?_) | (refine stiS S.o ?_; clear S; intro w9 S) | (refine stiQ S.o ?_; clear S; intro w9 S) | (refine wW ?_; dsimp only) | fail)
  (with_reducible refine (VW.out _ _ _ (H0.out.keep S.o.ext) (H1.out.keep S.o.ext)).mono ?_)
  rintro e u9 ⟨rfl, x9⟩
  replace S := kp (S.o.quiet x9)
  clear x9
  go_wp2_with (first | (refine ldiM S.o ?_) | (refine ldiS S.o ?_) | (refine ldI S.o ?_) | (refine ldIs S.o ?_) | (refine stiS S.o ?_; clear S; intro w9 S) | (refine stiQ S.o ?_; clear S; intro w9 S) | (refine wW ?_; dsimp only) | fail)
  (with_reducible refine (VB.out _ _ _ (H2.out.keep S.o.ext) (H3.out.keep S.o.ext)).mono ?_)
  rintro e u9 ⟨rfl, x9⟩
  replace S := kp (S.o.quiet x9)
  clear x9
  go_wp2_with (first | (refine ldiM S.o ?_) | (refine ldiS S.o ?_) | (refine ldI S.o ?_) | (refine ldIs S.o ?_) | (refine stiS S.o ?_; clear S; intro w9 S) | (refine stiQ S.o ?_; clear S; intro w9 S) | (refine wW ?_; dsimp only) | fail)
  (with_reducible refine (VX.out _ _ _ (H4.out.keep S.o.ext) (H5.out.keep S.o.ext)).mono ?_)
  rintro e u9 ⟨rfl, x9⟩
  replace S := kp (S.o.quiet x9)
  clear x9
  go_wp2_with (first | (refine ldiM S.o ?_) | (refine ldiS S.o ?_) | (refine ldI S.o ?_) | (refine ldIs S.o ?_) | (refine stiS S.o ?_; clear S; intro w9 S) | (refine stiQ S.o ?_; clear S; intro w9 S) | (refine wW ?_; dsimp only) | fail)
  (with_reducible refine (impl_seedValid s true SD.out _).mono ?_)
  rintro e u9 ⟨rfl, rfl⟩
  go_wp2_with (first | (refine ldiM S.o ?_) | (refine ldiS S.o ?_) | (refine ldI S.o ?_) | (refine ldIs S.o ?_) | (refine stiS S.o ?_; clear S; intro w9 S) | (refine stiQ S.o ?_; clear S; intro w9 S) | (refine wW ?_; dsimp only) | fail)
  (with_reducible refine (DF.out _ _ _ (H0.out.keep S.o.ext) (H2.out.keep S.o.ext)).mono ?_)
  rintro e u9 ⟨rfl, x9⟩
  replace S := kp (S.o.quiet x9)
  clear x9
  go_upto_if 48 with (first | (refine aliQ (L := [_, _, _, _]) S.o ?_; clear S; intro b11 w9 S) | (refine aliS (L := [_, _, _, _, _]) S.o ?_; clear S; intro b12 w9 S) | (refine aliS (L := [_, _, _, _, _, _]) S.o ?_; clear S; intro b13 w9 S) | (refine ldiM S.o ?_) | (refine ldiS S.o ?_) | (refine ldI S.o ?_) | (refine ldIs S.o ?_) | (refine stiS S.o ?_; clear S; intro w9 S) | (refine stiQ S.o ?_; clear S; intro w9 S) | (refine wW ?_; dsimp only) | fail)
  go_wp2_with (first | (refine aliQ (L := [_, _, _, _]) S.o ?_; clear S; intro b11 w9 S) | (refine aliS (L := [_, _, _, _, _]) S.o ?_; clear S; intro b12 w9 S) | (refine aliS (L := [_, _, _, _, _, _]) S.o ?_; clear S; intro b13 w9 S) | (refine ldiM S.o ?_) | (refine ldiS S.o ?_) | (refine ldI S.o ?_) | (refine ldIs S.o ?_) | (refine stiS S.o ?_; clear S; intro w9 S) | (refine stiQ S.o ?_; clear S; intro w9 S) | (refine wW ?_; dsimp only) | fail)
  exact bodyPost_ret (v := zzA) (by exact res3 rfl (by exact (rsiS S.o)) rfl rfl) rfl ⟨_, _, _, rfl, Grp.zero3 _ _, S.o.ext⟩
 have hz : sdOk ⟨⟨r0, c0, x0⟩, ⟨r1, c1, x1⟩⟩ ⟨⟨r2, c2, x2⟩, ⟨r3, c3, x3⟩⟩ ⟨⟨r4, c4, x4⟩, ⟨r5, c5, x5⟩⟩ s = true := by unfold sdOk; simp only; simp only [g1, g2, g3, g4, g5, g6, Bool.and_self]
 obtain ⟨z1, z2, z3⟩ := sdSh_ok hz
 rw [z1, z2, z3]
 clear hz z1 z2 z3
 unfold ShLN sdM sdO
 have mw : mOk r0 c0 x0 = true := by
  have a := g1
  simp only [ShM.ok, Mat.ok, Bool.and_eq_true] at a
  exact a.1.1
 have mb : mOk r2 c2 x2 = true := by
  have a := g2
  simp only [ShM.ok, Mat.ok, Bool.and_eq_true] at a
  exact a.1.1
 have VW := kp (fun (v u : Value) (w' : World) (h : Ints w' v x0) (k : Ints w' u x1) => impl_SharedMatrixValid r0 c0 r1 c1 v u x0 x1 true g1 w' h k)
 have VB := kp (fun (v u : Value) (w' : World) (h : Ints w' v x2) (k : Ints w' u x3) => impl_SharedMatrixValid r2 c2 r3 c3 v u x2 x3 true g2 w' h k)
 have VX := kp (fun (v u : Value) (w' : World) (h : Ints w' v x4) (k : Ints w' u x5) => impl_SharedMatrixValid r4 c4 r5 c5 v u x4 x5 true g3 w' h k)
 have SD : Kept ((decide (1 ≤ s) && decide (s ≤ 2147483646)) = true) := ⟨g4⟩
 have DF := kp (fun (v u : Value) (w' : World) (h : Ints w' v x0) (k : Ints w' u x2) => impl_denseFits r0 c0 r2 c2 v u x0 x2 true (by rw [mw, mb, Bool.and_assoc, g5]; rfl) w' h k)
 have sb : r2 = r3 ∧ c2 = c3 ∧ mOk r3 c3 x3 = true := by
  have a := g2
  simp only [ShM.ok, Mat.ok, sameS, Bool.and_eq_true, decide_eq_true_eq] at a
  exact ⟨a.2.1, a.2.2, a.1.2⟩
 have mx : mOk r4 c4 x4 = true := by
  have a := g3
  simp only [ShM.ok, Mat.ok, Bool.and_eq_true] at a
  exact a.1.1
 have g5' : c2 = 1 ∧ r2 = r0 := by simpa only [Bool.and_eq_true, decide_eq_true_eq] using g5
 have g6' : c0 = r4 := by simpa using g6
 clear g1 g2 g3 g4 g5 g6
 obtain ⟨rfl, rfl⟩ := g5'
 obtain ⟨rfl, rfl, m3⟩ := sb
 subst g6'
 obtain ⟨R, K, rfl, rfl, R1, R5, -, -, -, -, -⟩ := mOk_nat mw
 obtain ⟨K', C, -, rfl, -, -, C1, C5, -, -, -⟩ := mOk_nat mx
 have hR : Side R := ⟨R1, R5⟩
 have hC : Side C := ⟨C1, C5⟩
 have L2 : x2.length = R := by obtain ⟨_, _, h3, _⟩ := mOk_parts mb; omega
 have L3 : x3.length = R := by obtain ⟨_, _, h3, _⟩ := mOk_parts m3; omega
 clear mw mb m3 mx R1 R5 C1 C5
 simp only [Int.toNat_natCast]
 have hl1 : 0 + (pdL ⟨⟨R, K, x0⟩, ⟨r1, c1, x1⟩⟩ ⟨⟨K, C, x4⟩, ⟨r5, c5, x5⟩⟩ s).length ≤ 1099511627776 := by have := pd_len ⟨⟨R, K, x0⟩, ⟨r1, c1, x1⟩⟩ ⟨⟨K, C, x4⟩, ⟨r5, c5, x5⟩⟩ s; omega
 have hl2 : 0 + (pdL ⟨⟨R, K, x0⟩, ⟨r1, c1, x1⟩⟩ ⟨⟨K, C, x4⟩, ⟨r5, c5, x5⟩⟩ s).length + (mpO 1 (pdSh ⟨⟨R, K, x0⟩, ⟨r1, c1, x1⟩⟩ ⟨⟨K, C, x4⟩, ⟨r5, c5, x5⟩⟩ s) (pdS ⟨⟨R, K, x0⟩, ⟨r1, c1, x1⟩⟩ ⟨⟨K, C, x4⟩, ⟨r5, c5, x5⟩⟩ s)).length ≤ 1099511627776 := by have := pd_len ⟨⟨R, K, x0⟩, ⟨r1, c1, x1⟩⟩ ⟨⟨K, C, x4⟩, ⟨r5, c5, x5⟩⟩ s; have := (mp_lens 1 (pdSh ⟨⟨R, K, x0⟩, ⟨r1, c1, x1⟩⟩ ⟨⟨K, C, x4⟩, ⟨r5, c5, x5⟩⟩ s) (pdS ⟨⟨R, K, x0⟩, ⟨r1, c1, x1⟩⟩ ⟨⟨K, C, x4⟩, ⟨r5, c5, x5⟩⟩ s)).2.2; omega
 have HL := kp (And.intro hl1 hl2)
 clear hl1 hl2
 obtain ⟨DM, hDM⟩ : ∃ d, d = mpSh 1 (pdSh ⟨⟨R, K, x0⟩, ⟨r1, c1, x1⟩⟩ ⟨⟨K, C, x4⟩, ⟨r5, c5, x5⟩⟩ s) (pdS ⟨⟨R, K, x0⟩, ⟨r1, c1, x1⟩⟩ ⟨⟨K, C, x4⟩, ⟨r5, c5, x5⟩⟩ s) := ⟨_, rfl⟩
 obtain ⟨LL, hLL⟩ : ∃ l, l = pdL ⟨⟨R, K, x0⟩, ⟨r1, c1, x1⟩⟩ ⟨⟨K, C, x4⟩, ⟨r5, c5, x5⟩⟩ s ++ mpO 1 (pdSh ⟨⟨R, K, x0⟩, ⟨r1, c1, x1⟩⟩ ⟨⟨K, C, x4⟩, ⟨r5, c5, x5⟩⟩ s) (pdS ⟨⟨R, K, x0⟩, ⟨r1, c1, x1⟩⟩ ⟨⟨K, C, x4⟩, ⟨r5, c5, x5⟩⟩ s) := ⟨_, rfl⟩
 obtain ⟨N2, hN2⟩ : ∃ z, z = mpS 1 (pdSh ⟨⟨R, K, x0⟩, ⟨r1, c1, x1⟩⟩ ⟨⟨K, C, x4⟩, ⟨r5, c5, x5⟩⟩ s) (pdS ⟨⟨R, K, x0⟩, ⟨r1, c1, x1⟩⟩ ⟨⟨K, C, x4⟩, ⟨r5, c5, x5⟩⟩ s) := ⟨_, rfl⟩
 rw [← hDM, ← hLL, ← hN2]
 have HLN := kp (show 0 + (pdL ⟨⟨R, K, x0⟩, ⟨r1, c1, x1⟩⟩ ⟨⟨K, C, x4⟩, ⟨r5, c5, x5⟩⟩ s).length + (mpO 1 (pdSh ⟨⟨R, K, x0⟩, ⟨r1, c1, x1⟩⟩ ⟨⟨K, C, x4⟩, ⟨r5, c5, x5⟩⟩ s) (pdS ⟨⟨R, K, x0⟩, ⟨r1, c1, x1⟩⟩ ⟨⟨K, C, x4⟩, ⟨r5, c5, x5⟩⟩ s)).length = LL.length by rw [hLL, List.length_append]; omega)
 obtain ⟨⟨fr, fc, fs⟩, ⟨sr, sc, ss⟩⟩ := DM
 have HDM := kp hDM
 have HLL := kp hLL
 have HN2 := kp hN2
 clear hDM hLL hN2
 have EC := kp (fun (bx : Nat) (d0 d1 d2 : Int) (t0 t1 v u : Value) (w' : World) (hb : Blk w' bx [.int .i64 d0, .int .i64 C, t0, .int .i64 d1, .int .i64 d2, t1].toArray 30) (h0 : Ints w' v x2) (h1 : Ints w' u x3) => impl_each R C hR hC 1 v u x2 x3 L2 L3 bx d0 d1 d2 t0 t1 w' hb h0 h1)
 unfold WidePost at EC
 clear L2 L3 hR hC
 rw [show wideM R C x2 = ⟨R, C, (wideM R C x2).xs⟩ from rfl, show wideM R C x3 = ⟨R, C, (wideM R C x3).xs⟩ from rfl]
 generalize (wideM R C x2).xs = o1 at *
 generalize (wideM R C x3).xs = o2 at *
 have AD := kp (fun (v u v' u' : Value) (w' : World) (h : Ints w' v fs) (k : Ints w' u ss) (h' : Ints w' v' o1) (k' : Ints w' u' o2) => (impl_AddSharedMatrices fr fc v fs sr sc u ss R C v' o1 R C u' o2 w' h k h' k').mono fun e w'' q => ShPost.grp q)
 unfold ShGrp at AD
 generalize addSh ⟨⟨fr, fc, fs⟩, ⟨sr, sc, ss⟩⟩ ⟨⟨R, C, o1⟩, ⟨R, C, o2⟩⟩ = DD at *
 obtain ⟨⟨dr, dc, ds⟩, ⟨er, ec, es_⟩⟩ := DD
 simp only at AD ⊢
 obtain ⟨s0, n0, rfl, hm9, hc9⟩ := id h0
 clear hm9 hc9
 have H0 := kp h0
 clear h0
 obtain ⟨s1, n1, rfl, hm9, hc9⟩ := id h1
 clear hm9 hc9
 have H1 := kp h1
 clear h1
 obtain ⟨s2, n2, rfl, hm9, hc9⟩ := id h2
 clear hm9 hc9
 have H2 := kp h2
 clear h2
 obtain ⟨s3, n3, rfl, hm9, hc9⟩ := id h3
 clear hm9 hc9
 have H3 := kp h3
 clear h3
 obtain ⟨s4, n4, rfl, hm9, hc9⟩ := id h4
 clear hm9 hc9
 have H4 := kp h4
 clear h4
 obtain ⟨s5, n5, rfl, hm9, hc9⟩ := id h5
 clear hm9 hc9
 have H5 := kp h5
 clear h5
 have hmf : ∀ (fn : Fn) (first cap : Array Value) (w : World), (Instr.makeFunc fn first cap).run Tryz.prog w = .ok (.func fn first cap) w := fun _ _ _ _ => rfl
 have S := kp (St.start w)
 go_enter Tryz.func8, Tryz.ntmps8
 go_wp2_with (first | (refine bxiS (L := []) S.o ?_; clear S; intro b4 w9 S) | (refine bxiS (L := [_]) S.o ?_; clear S; intro b5 w9 S) | (refine bxiS (L := [_, _]) S.o ?_; clear S; intro b6 w9 S) | (refine aliS (L := [_, _, _]) S.o ?_; clear S; intro b8 w9 S) | (refine aliQ (L := [_, _, _, _]) S.o ?_; clear S; intro b11 w9 S) | (refine aliS (L := [_, _, _, _, _]) S.o ?_; clear S; intro b12 w9 S) | (refine aliS (L := [_, _, _, _, _, _]) S.o ?_; clear S; intro b13 w9 S) | (refine ldiM S.o ?_) | (refine ldiS S.o ?_) | (refine ldI S.o ?_) | (refine ldIs S.o ?_) | (refine stiS S.o ?_; clear S; intro w9 S) | (refine stiQ S.o ?_; clear S; intro w9 S) | (refine wW ?_; dsimp only) | fail)
 (with_reducible refine (VW.out _ _ _ (H0.out.keep S.o.ext) (H1.out.keep S.o.ext)).mono ?_)
 rintro e u9 ⟨rfl, x9⟩
 replace S := kp (S.o.quiet x9)
 clear x9
 go_wp2_with (first | (refine ldiM S.o ?_) | (refine ldiS S.o ?_) | (refine ldI S.o ?_) | (refine ldIs S.o ?_) | (refine stiS S.o ?_; clear S; intro w9 S) | (refine stiQ S.o ?_; clear S; intro w9 S) | (refine wW ?_; dsimp only) | fail)
 (with_reducible refine (VB.out _ _ _ (H2.out.keep S.o.ext) (H3.out.keep S.o.ext)).mono ?_)
 rintro e u9 ⟨rfl, x9⟩
 replace S := kp (S.o.quiet x9)
 clear x9
 go_wp2_with (first | (refine ldiM S.o ?_) | (refine ldiS S.o ?_) | (refine ldI S.o ?_) | (refine ldIs S.o ?_) | (refine stiS S.o ?_; clear S; intro w9 S) | (refine stiQ S.o ?_; clear S; intro w9 S) | (refine wW ?_; dsimp only) | fail)
 (with_reducible refine (VX.out _ _ _ (H4.out.keep S.o.ext) (H5.out.keep S.o.ext)).mono ?_)
 rintro e u9 ⟨rfl, x9⟩
 replace S := kp (S.o.quiet x9)
 clear x9
 go_wp2_with (first | (refine ldiM S.o ?_) | (refine ldiS S.o ?_) | (refine ldI S.o ?_) | (refine ldIs S.o ?_) | (refine stiS S.o ?_; clear S; intro w9 S) | (refine stiQ S.o ?_; clear S; intro w9 S) | (refine wW ?_; dsimp only) | fail)
 (with_reducible refine (impl_seedValid s true SD.out _).mono ?_)
 rintro e u9 ⟨rfl, rfl⟩
 go_wp2_with (first | (refine ldiM S.o ?_) | (refine ldiS S.o ?_) | (refine ldI S.o ?_) | (refine ldIs S.o ?_) | (refine stiS S.o ?_; clear S; intro w9 S) | (refine stiQ S.o ?_; clear S; intro w9 S) | (refine wW ?_; dsimp only) | fail)
 (with_reducible refine (DF.out _ _ _ (H0.out.keep S.o.ext) (H2.out.keep S.o.ext)).mono ?_)
 rintro e u9 ⟨rfl, x9⟩
 replace S := kp (S.o.quiet x9)
 clear x9
 go_wp2_with (first | (refine aliQ (L := [_, _, _, _]) S.o ?_; clear S; intro b11 w9 S) | (refine aliS (L := [_, _, _, _, _]) S.o ?_; clear S; intro b12 w9 S) | (refine aliS (L := [_, _, _, _, _, _]) S.o ?_; clear S; intro b13 w9 S) | (refine ldiM S.o ?_) | (refine ldiS S.o ?_) | (refine ldI S.o ?_) | (refine ldIs S.o ?_) | (refine stiS S.o ?_; clear S; intro w9 S) | (refine stiQ S.o ?_; clear S; intro w9 S) | (refine wW ?_; dsimp only) | fail)
 (with_reducible refine (steps_cutProduct b11 (fun cs => ⟨b11, 57, cs⟩ :: [⟨b8, 30, [.int .i64 0, .int .i64 0, .slice none 0 0, .int .i64 0, .int .i64 0, .slice none 0 0]⟩, ⟨b6, 30, [.int .i64 K, .int .i64 C, .slice s4 x4.length n4, .int .i64 r5, .int .i64 c5, .slice s5 x5.length n5]⟩, ⟨b5, 30, [.int .i64 R, .int .i64 1, .slice s2 x2.length n2, .int .i64 R, .int .i64 1, .slice s3 x3.length n3]⟩, ⟨b4, 30, [.int .i64 R, .int .i64 K, .slice s0 x0.length n0, .int .i64 r1, .int .i64 c1, .slice s1 x1.length n1]⟩]) (fun _ _ => Put.head) s (S.o.made (Own.nil _ _) (Ext.refl _)) 0 rfl rfl rfl R K r1 c1 K C r5 c5 _ _ _ _ x0 x1 x4 x5 (H0.out.keep S.o.ext) (H1.out.keep S.o.ext) (H4.out.keep S.o.ext) (H5.out.keep S.o.ext) HL.out.1 HL.out.2).mono ?_)
 rintro e u9 ⟨a0, a1, p', m', rfl, S9⟩
 simp only [List.set_cons_zero, List.nil_append] at S9
 rw [HLN.out, ← HLL.out, ← HN2.out, ← HDM.out] at S9
 rw [← HDM.out]
 simp only at S9 ⊢
 obtain ⟨pa, ma, hu9, -, -⟩ := id (S9.grp.get 0 rfl rfl).ints
 try simp only at hu9
 subst hu9
 obtain ⟨pb, mb, hu9, -, -⟩ := id (S9.grp.get 1 rfl rfl).ints
 try simp only at hu9
 subst hu9
 replace S := kp S9
 clear S9 HDM HLL HN2 HLN HL
 go_wp2_with (first | (refine aliQ (L := [_, _, _, _]) S.o ?_; clear S; intro b11 w9 S) | (refine aliS (L := [_, _, _, _, _]) S.o ?_; clear S; intro b12 w9 S) | (refine aliS (L := [_, _, _, _, _, _]) S.o ?_; clear S; intro b13 w9 S) | (refine ldiM S.o ?_) | (refine ldiS S.o ?_) | (refine ldI S.o ?_) | (refine ldIs S.o ?_) | (refine stiS S.o ?_; clear S; intro w9 S) | (refine stiQ S.o ?_; clear S; intro w9 S) | (refine wW ?_; dsimp only) | fail)
 (with_reducible refine (EC.out b6 K r5 c5 (.slice s4 x4.length n4) (.slice s5 x5.length n5) _ _ _ (S.o.box ⟨b6, 30, [.int .i64 K, .int .i64 C, .slice s4 x4.length n4, .int .i64 r5, .int .i64 c5, .slice s5 x5.length n5]⟩ (by simp)).1 (H2.out.keep S.o.ext) (H3.out.keep S.o.ext)).mono ?_)
 rintro e u9 ⟨va, vb, rfl, gg, x9⟩
 obtain ⟨pc, mc, hu9, -, -⟩ := id gg.o0.ints
 try simp only at hu9
 subst hu9
 obtain ⟨pd, md, hu9, -, -⟩ := id gg.o1.ints
 try simp only at hu9
 subst hu9
 replace S := kp (S.o.made2 gg x9)
 clear gg x9
 go_wp2_with (first | (refine aliQ (L := [_, _, _, _]) S.o ?_; clear S; intro b11 w9 S) | (refine aliS (L := [_, _, _, _, _]) S.o ?_; clear S; intro b12 w9 S) | (refine aliS (L := [_, _, _, _, _, _]) S.o ?_; clear S; intro b13 w9 S) | (refine ldiM S.o ?_) | (refine ldiS S.o ?_) | (refine ldI S.o ?_) | (refine ldIs S.o ?_) | (refine stiS S.o ?_; clear S; intro w9 S) | (refine stiQ S.o ?_; clear S; intro w9 S) | (refine wW ?_; dsimp only) | fail)
 have D1 := kp (show Del [⟨b13, 30, [.int .i64 R, .int .i64 C, .slice pc o1.length mc, .int .i64 R, .int .i64 C, .slice pd o2.length md]⟩, ⟨b12, 30, [.int .i64 fr, .int .i64 fc, .slice pa fs.length ma, .int .i64 sr, .int .i64 sc, .slice pb ss.length mb]⟩, ⟨b11, 57, [.int .i64 N2, .slice p' LL.length m']⟩, ⟨b8, 30, [.int .i64 0, .int .i64 0, .slice none 0 0, .int .i64 0, .int .i64 0, .slice none 0 0]⟩, ⟨b6, 30, [.int .i64 K, .int .i64 C, .slice s4 x4.length n4, .int .i64 r5, .int .i64 c5, .slice s5 x5.length n5]⟩, ⟨b5, 30, [.int .i64 R, .int .i64 1, .slice s2 x2.length n2, .int .i64 R, .int .i64 1, .slice s3 x3.length n3]⟩, ⟨b4, 30, [.int .i64 R, .int .i64 K, .slice s0 x0.length n0, .int .i64 r1, .int .i64 c1, .slice s1 x1.length n1]⟩] b8 30 [.int .i64 0, .int .i64 0, .slice none 0 0, .int .i64 0, .int .i64 0, .slice none 0 0] [⟨b13, 30, [.int .i64 R, .int .i64 C, .slice pc o1.length mc, .int .i64 R, .int .i64 C, .slice pd o2.length md]⟩, ⟨b12, 30, [.int .i64 fr, .int .i64 fc, .slice pa fs.length ma, .int .i64 sr, .int .i64 sc, .slice pb ss.length mb]⟩, ⟨b11, 57, [.int .i64 N2, .slice p' LL.length m']⟩, ⟨b6, 30, [.int .i64 K, .int .i64 C, .slice s4 x4.length n4, .int .i64 r5, .int .i64 c5, .slice s5 x5.length n5]⟩, ⟨b5, 30, [.int .i64 R, .int .i64 1, .slice s2 x2.length n2, .int .i64 R, .int .i64 1, .slice s3 x3.length n3]⟩, ⟨b4, 30, [.int .i64 R, .int .i64 K, .slice s0 x0.length n0, .int .i64 r1, .int .i64 c1, .slice s1 x1.length n1]⟩] from (by repeat (first | exact Del.head | apply Del.tail)))
 obtain ⟨S1, A1⟩ := S.o.del D1.out
 clear S D1
 have S := kp S1
 have AL := kp A1
 clear S1 A1
 apply wp_region_zipV (XS.rel _ [b8] []) (fun L _ w' => Px b8 7 30 #[.int .i64 0, .int .i64 0, .slice none 0 0, .int .i64 0, .int .i64 0, .slice none 0 0] (fun w' cs => ∃ u0 u1, cs = #[.int .i64 dr, .int .i64 dc, u0, .int .i64 er, .int .i64 ec, u1] ∧ Grp w9.heap.size w' [u0, u1] [ds, es_]) L w') [isv _, isv _, shD (by decide) dr dc er ec ds es_, isv _, isv _, isv _, isv _, anyV, isv _] _ ?hJ (by kernel_rfl)
 case hJ => exact ⟨fun _ => AL.out.blk.keep ⟨rfl, rfl, rfl, Nat.le_refl _, fun _ _ => rfl⟩, fun h => by cases h⟩
 case hA => intro V; simp [putAll, dstOf, Act.put]; exact rfl
 case hsl => intro V; exact rfl
 case step =>
  intro V lo up w' hr L hj
  have S := kp (S.o.xs1 AL.out hr)
  simp only [zipOkV, depsImp, isv, shD, anyV, modeNg, newb, waits, Region.binds, List.map_nil, List.map_cons, List.headD_cons, List.nil_append, List.cons_append, List.filterMap_cons, List.filterMap_nil, ↓reduceIte, modeNe, Bool.false_eq_true, true_implies, List.getD_cons_zero, List.getD_cons_succ, and_true, Nat.zero_add, Nat.reduceAdd]
  refine ⟨?_, ?_, ?_, ?_, ?_, ?_, ?_, ?_, ?_⟩
  ·intro hl hw hd
   intros
   (try simp only [*])
   go_wp2_with (first | (refine ldiS S.o ?_) | fail)
   refine sS ?_
   exact ⟨XS.refl _, rfl, hj.ext (fun cs ⟨u0, u1, h1, h2⟩ => ⟨u0, u1, h1, h2.xs (show XS w9.heap.size [b8] [] w' _ from XS.refl _) (Nat.le_refl _) (by decide)⟩) (fun _ => rfl) (by decide)⟩
  ·intro hl hw hd
   intros
   (try simp only [*])
   go_wp2_with (first | (refine ldiS S.o ?_) | fail)
   refine sS ?_
   exact ⟨XS.refl _, rfl, hj.ext (fun cs ⟨u0, u1, h1, h2⟩ => ⟨u0, u1, h1, h2.xs (show XS w9.heap.size [b8] [] w' _ from XS.refl _) (Nat.le_refl _) (by decide)⟩) (fun _ => rfl) (by decide)⟩
  ·intro hl hw hd
   intros
   (try simp only [*])
   go_wp2_with (fail)
   (with_reducible refine (AD.out _ _ _ _ _ (S.o.grp.get 2 rfl rfl).ints (S.o.grp.get 3 rfl rfl).ints (S.o.grp.get 0 rfl rfl).ints (S.o.grp.get 1 rfl rfl).ints).mono ?_)
   rintro e w8 ⟨u0, u1, rfl, gg, x9⟩
   go_wp2
   refine sS ?_
   exact ⟨XS.of_ext x9, ⟨u0, u1, rfl, gg.mono hr.size⟩, hj.ext (fun cs ⟨u0, u1, h1, h2⟩ => ⟨u0, u1, h1, h2.xs (show XS w9.heap.size [b8] [] w' _ from XS.of_ext x9) (Nat.le_refl _) (by decide)⟩) (fun hk => Below.block x9 _ hk) (by decide)⟩
  ·intro hl hw hd
   intros
   (try simp only [*])
   go_wp2_with (fail)
   refine sS ?_
   exact ⟨XS.refl _, rfl, hj.ext (fun cs ⟨u0, u1, h1, h2⟩ => ⟨u0, u1, h1, h2.xs (show XS w9.heap.size [b8] [] w' _ from XS.refl _) (Nat.le_refl _) (by decide)⟩) (fun _ => rfl) (by decide)⟩
  ·intro hl hw hd
   intros
   (try simp only [*])
   go_wp2_with (first | (refine ldIs S.o ?_) | fail)
   refine sS ?_
   exact ⟨XS.refl _, rfl, hj.ext (fun cs ⟨u0, u1, h1, h2⟩ => ⟨u0, u1, h1, h2.xs (show XS w9.heap.size [b8] [] w' _ from XS.refl _) (Nat.le_refl _) (by decide)⟩) (fun _ => rfl) (by decide)⟩
  ·intro hl hw hd
   intros
   (try simp only [*])
   go_wp2_with (fail)
   refine sS ?_
   exact ⟨XS.refl _, rfl, hj.ext (fun cs ⟨u0, u1, h1, h2⟩ => ⟨u0, u1, h1, h2.xs (show XS w9.heap.size [b8] [] w' _ from XS.refl _) (Nat.le_refl _) (by decide)⟩) (fun _ => rfl) (by decide)⟩
  ·intro hl hw hd
   intros
   (try simp only [*])
   go_wp2_with (first | (refine ldI S.o ?_) | fail)
   refine sS ?_
   exact ⟨XS.refl _, rfl, hj.ext (fun cs ⟨u0, u1, h1, h2⟩ => ⟨u0, u1, h1, h2.xs (show XS w9.heap.size [b8] [] w' _ from XS.refl _) (Nat.le_refl _) (by decide)⟩) (fun _ => rfl) (by decide)⟩
  ·intro hl hw hd
   obtain ⟨kz⟩ : Kept (Blk w' b8 #[.int .i64 0, .int .i64 0, .slice none 0 0, .int .i64 0, .int .i64 0, .slice none 0 0] 30) := ⟨hj.no hl⟩
   intros
   obtain ⟨u0, u1, e_, gg⟩ := ‹∃ v0 v1, V 2 = _ ∧ Grp _ _ _ [ds, es_]›
   obtain ⟨pe, me, hu9, -, -⟩ := id gg.o0.ints
   try simp only at hu9
   subst hu9
   obtain ⟨pf, mf, hu9, -, -⟩ := id gg.o1.ints
   try simp only at hu9
   subst hu9
   refine wpList_putX (by rfl) (by rfl) _ _ (by rfl) b8 _ _ (by rfl) (by exact e_) kz (by kernel_rfl) (by rfl) (by simp [Value.oneCell']) (.inl ⟨by simp, AL.out.blk.lt⟩) (fun w'' f k hoth hsz u => ⟨f, trivial, Px.put k ⟨_, _, rfl, gg.xs f (Nat.le_refl _) (by decide)⟩⟩)
  intro hl hw hd
  intros
  (try simp only [*])
  go_wp2_with (fail)
  refine sS ?_
  exact ⟨XS.refl _, rfl, hj.ext (fun cs ⟨u0, u1, h1, h2⟩ => ⟨u0, u1, h1, h2.xs (show XS w9.heap.size [b8] [] w' _ from XS.refl _) (Nat.le_refl _) (by decide)⟩) (fun _ => rfl) (by decide)⟩
 case hB => kernel_rfl
 intro V lo up w' hr L hj hL hf ha
 simp only [factsOk, isv, shD, anyV, modeNg, newb, List.map_nil, List.map_cons, List.headD_cons, and_true, Nat.zero_add, Nat.reduceAdd] at hf
 simp only [List.length_cons, List.length_nil, Nat.zero_add, Nat.reduceAdd, List.drop_succ_cons, List.drop_zero]
 obtain ⟨-, -, -, -, -, -, ⟨-, -, -, e6⟩, -, ⟨-, -, -, e8⟩⟩ := hf
 clear ha
 rw [e6, e8]
 clear e6 e8
 obtain ⟨cs, kb, u0, u1, e5, gg⟩ := hj.yes (hL 7 (by simp))
 subst e5
 obtain ⟨pe, me, hu9, -, -⟩ := id gg.o0.ints
 try simp only at hu9
 subst hu9
 obtain ⟨pf, mf, hu9, -, -⟩ := id gg.o1.ints
 try simp only at hu9
 subst hu9
 have S9 := S.o.fill1 (cs := [.int .i64 dr, .int .i64 dc, .slice pe ds.length me, .int .i64 er, .int .i64 ec, .slice pf es_.length mf]) AL.out hr gg kb
 simp only [List.cons_append, List.nil_append] at S9
 replace S := kp S9
 clear S9 kb hr AL hj gg
 go_wp2_with (first | (refine ldiM S.o ?_) | (refine ldiS S.o ?_) | (refine ldI S.o ?_) | (refine ldIs S.o ?_) | (refine wW ?_; dsimp only) | fail)
 refine bodyPost_ret (v := .tuple #[.agg #[.int .i64 dr, .int .i64 dc, .slice pe ds.length me, .int .i64 er, .int .i64 ec, .slice pf es_.length mf], .slice p' LL.length m', .int .i64 N2]) ?A rfl ⟨_, _, _, rfl, ?B, S.o.ext⟩
 case A => exact res3 rfl (by exact (rsiS S.o)) rfl rfl
 case B => exact S.o.grp.sel rfl [0, 1, 6] (by decide) (by simp)
end Go.Proofs.YtkkdikoknegpjaaGreat
