import Derived.Test.YtkkdikoknegpjaaGreatKX
import Derived.Test.YtkkdikoknegpjaaGreatKG
import Derived.Test.YtkkdikoknegpjaaGreatMulMS
import Derived.Test.YtkkdikoknegpjaaGreatQE
import Derived.Test.YtkkdikoknegpjaaGreatQF
import Derived.Test.YtkkdikoknegpjaaGreatKI
namespace Go.Proofs.YtkkdikoknegpjaaGreat
set_option linter.unusedSimpArgs false
set_option linter.unusedVariables false
open Go.RowKit
set_option maxHeartbeats 8000000 in
set_option maxRecDepth 4000 in
theorem spec_ProductShared (r0 c0 r1 c1 r2 c2 r3 c3 : Int) (v0 v1 v2 v3 : Value) (x0 x1 x2 x3 : List Int) (s : Int) (w : World) (h0 : Arg w v0 x0) (h1 : Arg w v1 x1) (h2 : Arg w v2 x2) (h3 : Arg w v3 x3) : Calls Tryz.prog 25 #[.agg #[.int .i64 r0, .int .i64 c0, v0, .int .i64 r1, .int .i64 c1, v1], .agg #[.int .i64 r2, .int .i64 c2, v2, .int .i64 r3, .int .i64 c3, v3], .int .i64 s] w (ShLN (pdSh ⟨⟨r0, c0, x0⟩, ⟨r1, c1, x1⟩⟩ ⟨⟨r2, c2, x2⟩, ⟨r3, c3, x3⟩⟩ s) (pdL ⟨⟨r0, c0, x0⟩, ⟨r1, c1, x1⟩⟩ ⟨⟨r2, c2, x2⟩, ⟨r3, c3, x3⟩⟩ s) (pdS ⟨⟨r0, c0, x0⟩, ⟨r1, c1, x1⟩⟩ ⟨⟨r2, c2, x2⟩, ⟨r3, c3, x3⟩⟩ s) w) := by
 cases g1 : ShM.ok ⟨⟨r0, c0, x0⟩, ⟨r1, c1, x1⟩⟩
 ·have hz : pdOk ⟨⟨r0, c0, x0⟩, ⟨r1, c1, x1⟩⟩ ⟨⟨r2, c2, x2⟩, ⟨r3, c3, x3⟩⟩ s = false := by unfold pdOk; simp only; simp only [g1, Bool.and_false, Bool.false_and]
  obtain ⟨z1, z2, z3⟩ := pdSh_bad hz
  rw [z1, z2, z3]
  clear hz z1 z2 z3
  unfold ShLN shZ matZ
  simp only
  have L0 := kp h0.len
  have L1 := kp h1.len
  have L2 := kp h2.len
  have L3 := kp h3.len
  have VX := kp (fun (v u : Value) (w' : World) (h : Ints w' v x0) (k : Ints w' u x1) => spec_SharedMatrixValid r0 c0 r1 c1 v u x0 x1 false g1 w' h k)
  clear g1
  obtain ⟨s0, n0, rfl, hm9, hc9⟩ := id h0.ints
  clear hm9 hc9
  have H0 := kp h0
  clear h0
  obtain ⟨s1, n1, rfl, hm9, hc9⟩ := id h1.ints
  clear hm9 hc9
  have H1 := kp h1
  clear h1
  obtain ⟨s2, n2, rfl, hm9, hc9⟩ := id h2.ints
  clear hm9 hc9
  have H2 := kp h2
  clear h2
  obtain ⟨s3, n3, rfl, hm9, hc9⟩ := id h3.ints
  clear hm9 hc9
  have H3 := kp h3
  clear h3
  have OW0 := kp (fun (w' : World) (hx : Ext w w') => spec_l1OwnSharedMatrix r0 c0 r1 c1 _ _ x0 x1 w' (H0.out.keep hx) (H1.out.keep hx))
  have OW2 := kp (fun (w' : World) (hx : Ext w w') => spec_l1OwnSharedMatrix r2 c2 r3 c3 _ _ x2 x3 w' (H2.out.keep hx) (H3.out.keep hx))
  have S := kp (St.start w)
  go_enter Tryz.func25, Tryz.ntmps25
  go_wp2_with (first | (refine bxiS (L := []) S.o ?_; clear S; intro b3 w9 S) | (refine bxiS (L := [_]) S.o ?_; clear S; intro b4 w9 S) | (refine aliS (L := [_, _]) S.o ?_; clear S; intro b6 w9 S) | (refine aliT (L := [_, _, _]) S.o ?_; clear S; intro b9 w9 S) | (refine aliS (L := [_, _, _, _]) S.o ?_; clear S; intro b11 w9 S) | (refine aliM (L := [_, _, _, _, _]) S.o ?_; clear S; intro b12 w9 S) | (refine aliM (L := [_, _, _, _, _, _]) S.o ?_; clear S; intro b13 w9 S) | (refine ldiS S.o ?_) | (refine ldiT S.o ?_) | (refine ldI S.o ?_) | (refine ldIs S.o ?_) | (refine stiM S.o ?_; clear S; intro w9 S) | (refine stiS S.o ?_; clear S; intro w9 S) | (refine stiT S.o ?_; clear S; intro w9 S) | (refine wW ?_; dsimp only) | fail)
  (with_reducible refine ((OW0.out _ S.o.ext).mono fun e w'' h => ShPost.grp (m := ⟨⟨r0, c0, x0⟩, ⟨r1, c1, x1⟩⟩) h).mono ?_)
  rintro e u9 ⟨u0, u1, rfl, gg, x9⟩
  obtain ⟨p0, m0, hu9, -, -⟩ := id gg.o0.ints
  try simp only at hu9
  subst hu9
  obtain ⟨p1, m1, hu9, -, -⟩ := id gg.o1.ints
  try simp only at hu9
  subst hu9
  replace S := kp (S.o.made2 gg x9)
  clear gg x9
  go_wp2_with (first | (refine ldiS S.o ?_) | (refine ldiT S.o ?_) | (refine ldI S.o ?_) | (refine ldIs S.o ?_) | (refine stiM S.o ?_; clear S; intro w9 S) | (refine stiS S.o ?_; clear S; intro w9 S) | (refine stiT S.o ?_; clear S; intro w9 S) | (refine wW ?_; dsimp only) | fail)
  (with_reducible refine ((OW2.out _ S.o.ext).mono fun e w'' h => ShPost.grp (m := ⟨⟨r2, c2, x2⟩, ⟨r3, c3, x3⟩⟩) h).mono ?_)
  rintro e u9 ⟨u2, u3, rfl, gg, x9⟩
  obtain ⟨p2, m2, hu9, -, -⟩ := id gg.o0.ints
  try simp only at hu9
  subst hu9
  obtain ⟨p3, m3, hu9, -, -⟩ := id gg.o1.ints
  try simp only at hu9
  subst hu9
  replace S := kp (S.o.made2 gg x9)
  clear gg x9
  go_wp2_with (first | (refine ldiS S.o ?_) | (refine ldiT S.o ?_) | (refine ldI S.o ?_) | (refine ldIs S.o ?_) | (refine stiM S.o ?_; clear S; intro w9 S) | (refine stiS S.o ?_; clear S; intro w9 S) | (refine stiT S.o ?_; clear S; intro w9 S) | (refine wW ?_; dsimp only) | fail)
  (with_reducible refine (VX.out _ _ _ (S.o.grp.get 2 rfl rfl).ints (S.o.grp.get 3 rfl rfl).ints).mono ?_)
  rintro e u9 ⟨rfl, x9⟩
  replace S := kp (S.o.quiet x9)
  clear x9
  go_upto_if 40 with (fail)
  go_wp2_with (first | (refine stiS (part := [.int .i64 0, .int .i64 0, .slice none 0 0, .int .i64 0, .int .i64 0, .slice none 0 0]) (hy := by kernel_rfl) (S.o.alloc 3 []) ?_; clear S; intro w9 S) | fail)
  exact bodyPost_ret (v := .tuple #[.agg #[.int .i64 0, .int .i64 0, .slice none 0 0, .int .i64 0, .int .i64 0, .slice none 0 0], .slice (some ⟨_, 0, none⟩) 0 0, .int .i64 0]) (by exact res3 rfl (by exact (rsiS S.o)) rfl rfl) rfl ⟨_, _, _, rfl, Grp.zeroE (S.o.box _ (List.Mem.head _)).2 (S.o.box _ (List.Mem.head _)).1, S.o.ext⟩
 cases g2 : ShM.ok ⟨⟨r2, c2, x2⟩, ⟨r3, c3, x3⟩⟩
 ·have hz : pdOk ⟨⟨r0, c0, x0⟩, ⟨r1, c1, x1⟩⟩ ⟨⟨r2, c2, x2⟩, ⟨r3, c3, x3⟩⟩ s = false := by unfold pdOk; simp only; simp only [g1, g2, Bool.and_false, Bool.false_and]
  obtain ⟨z1, z2, z3⟩ := pdSh_bad hz
  rw [z1, z2, z3]
  clear hz z1 z2 z3
  unfold ShLN shZ matZ
  simp only
  have L0 := kp h0.len
  have L1 := kp h1.len
  have L2 := kp h2.len
  have L3 := kp h3.len
  have VX := kp (fun (v u : Value) (w' : World) (h : Ints w' v x0) (k : Ints w' u x1) => spec_SharedMatrixValid r0 c0 r1 c1 v u x0 x1 true g1 w' h k)
  have VY := kp (fun (v u : Value) (w' : World) (h : Ints w' v x2) (k : Ints w' u x3) => spec_SharedMatrixValid r2 c2 r3 c3 v u x2 x3 false g2 w' h k)
  clear g1 g2
  obtain ⟨s0, n0, rfl, hm9, hc9⟩ := id h0.ints
  clear hm9 hc9
  have H0 := kp h0
  clear h0
  obtain ⟨s1, n1, rfl, hm9, hc9⟩ := id h1.ints
  clear hm9 hc9
  have H1 := kp h1
  clear h1
  obtain ⟨s2, n2, rfl, hm9, hc9⟩ := id h2.ints
  clear hm9 hc9
  have H2 := kp h2
  clear h2
  obtain ⟨s3, n3, rfl, hm9, hc9⟩ := id h3.ints
  clear hm9 hc9
  have H3 := kp h3
  clear h3
  have OW0 := kp (fun (w' : World) (hx : Ext w w') => spec_l1OwnSharedMatrix r0 c0 r1 c1 _ _ x0 x1 w' (H0.out.keep hx) (H1.out.keep hx))
  have OW2 := kp (fun (w' : World) (hx : Ext w w') => spec_l1OwnSharedMatrix r2 c2 r3 c3 _ _ x2 x3 w' (H2.out.keep hx) (H3.out.keep hx))
  have S := kp (St.start w)
  go_enter Tryz.func25, Tryz.ntmps25
  go_wp2_with (first | (refine bxiS (L := []) S.o ?_; clear S; intro b3 w9 S) | (refine bxiS (L := [_]) S.o ?_; clear S; intro b4 w9 S) | (refine aliS (L := [_, _]) S.o ?_; clear S; intro b6 w9 S) | (refine aliT (L := [_, _, _]) S.o ?_; clear S; intro b9 w9 S) | (refine aliS (L := [_, _, _, _]) S.o ?_; clear S; intro b11 w9 S) | (refine aliM (L := [_, _, _, _, _]) S.o ?_; clear S; intro b12 w9 S) | (refine aliM (L := [_, _, _, _, _, _]) S.o ?_; clear S; intro b13 w9 S) | (refine ldiS S.o ?_) | (refine ldiT S.o ?_) | (refine ldI S.o ?_) | (refine ldIs S.o ?_) | (refine stiM S.o ?_; clear S; intro w9 S) | (refine stiS S.o ?_; clear S; intro w9 S) | (refine stiT S.o ?_; clear S; intro w9 S) | (refine wW ?_; dsimp only) | fail)
  (with_reducible refine ((OW0.out _ S.o.ext).mono fun e w'' h => ShPost.grp (m := ⟨⟨r0, c0, x0⟩, ⟨r1, c1, x1⟩⟩) h).mono ?_)
  rintro e u9 ⟨u0, u1, rfl, gg, x9⟩
  obtain ⟨p0, m0, hu9, -, -⟩ := id gg.o0.ints
  try simp only at hu9
  subst hu9
  obtain ⟨p1, m1, hu9, -, -⟩ := id gg.o1.ints
  try simp only at hu9
  subst hu9
  replace S := kp (S.o.made2 gg x9)
  clear gg x9
  go_wp2_with (first | (refine ldiS S.o ?_) | (refine ldiT S.o ?_) | (refine ldI S.o ?_) | (refine ldIs S.o ?_) | (refine stiM S.o ?_; clear S; intro w9 S) | (refine stiS S.o ?_; clear S; intro w9 S) | (refine stiT S.o ?_; clear S; intro w9 S) | (refine wW ?_; dsimp only) | fail)
  (with_reducible refine ((OW2.out _ S.o.ext).mono fun e w'' h => ShPost.grp (m := ⟨⟨r2, c2, x2⟩, ⟨r3, c3, x3⟩⟩) h).mono ?_)
  rintro e u9 ⟨u2, u3, rfl, gg, x9⟩
  obtain ⟨p2, m2, hu9, -, -⟩ := id gg.o0.ints
  try simp only at hu9
  subst hu9
  obtain ⟨p3, m3, hu9, -, -⟩ := id gg.o1.ints
  try simp only at hu9
  subst hu9
  replace S := kp (S.o.made2 gg x9)
  clear gg x9
  go_wp2_with (first | (refine ldiS S.o ?_) | (refine ldiT S.o ?_) | (refine ldI S.o ?_) | (refine ldIs S.o ?_) | (refine stiM S.o ?_; clear S; intro w9 S) | (refine stiS S.o ?_; clear S; intro w9 S) | (refine stiT S.o ?_; clear S; intro w9 S) | (refine wW ?_; dsimp only) | fail)
  (with_reducible refine (VX.out _ _ _ (S.o.grp.get 2 rfl rfl).ints (S.o.grp.get 3 rfl rfl).ints).mono ?_)
  rintro e u9 ⟨rfl, x9⟩
  replace S := kp (S.o.quiet x9)
  clear x9
  go_wp2_with (first | (refine ldiS S.o ?_) | (refine ldiT S.o ?_) | (refine ldI S.o ?_) | (refine ldIs S.o ?_) | (refine stiM S.o ?_; clear S; intro w9 S) | (refine stiS S.o ?_; clear S; intro w9 S) | (refine stiT S.o ?_; clear S; intro w9 S) | (refine wW ?_; dsimp only) | fail)
  (with_reducible refine (VY.out _ _ _ (S.o.grp.get 0 rfl rfl).ints (S.o.grp.get 1 rfl rfl).ints).mono ?_)
  rintro e u9 ⟨rfl, x9⟩
  replace S := kp (S.o.quiet x9)
  clear x9
  go_upto_if 40 with (fail)
  go_wp2_with (first | (refine stiS (part := [.int .i64 0, .int .i64 0, .slice none 0 0, .int .i64 0, .int .i64 0, .slice none 0 0]) (hy := by kernel_rfl) (S.o.alloc 3 []) ?_; clear S; intro w9 S) | fail)
  exact bodyPost_ret (v := .tuple #[.agg #[.int .i64 0, .int .i64 0, .slice none 0 0, .int .i64 0, .int .i64 0, .slice none 0 0], .slice (some ⟨_, 0, none⟩) 0 0, .int .i64 0]) (by exact res3 rfl (by exact (rsiS S.o)) rfl rfl) rfl ⟨_, _, _, rfl, Grp.zeroE (S.o.box _ (List.Mem.head _)).2 (S.o.box _ (List.Mem.head _)).1, S.o.ext⟩
 cases g3 : decide (c0 = r2)
 ·have hz : pdOk ⟨⟨r0, c0, x0⟩, ⟨r1, c1, x1⟩⟩ ⟨⟨r2, c2, x2⟩, ⟨r3, c3, x3⟩⟩ s = false := by unfold pdOk; simp only; simp only [g1, g2, g3, Bool.and_false, Bool.false_and]
  obtain ⟨z1, z2, z3⟩ := pdSh_bad hz
  rw [z1, z2, z3]
  clear hz z1 z2 z3
  unfold ShLN shZ matZ
  simp only
  have L0 := kp h0.len
  have L1 := kp h1.len
  have L2 := kp h2.len
  have L3 := kp h3.len
  have VX := kp (fun (v u : Value) (w' : World) (h : Ints w' v x0) (k : Ints w' u x1) => spec_SharedMatrixValid r0 c0 r1 c1 v u x0 x1 true g1 w' h k)
  have VY := kp (fun (v u : Value) (w' : World) (h : Ints w' v x2) (k : Ints w' u x3) => spec_SharedMatrixValid r2 c2 r3 c3 v u x2 x3 true g2 w' h k)
  have e9 : (c0 == r2) = false := by simpa using g3
  have e9' : (c0 != r2) = true := by simpa using g3
  clear g1 g2 g3
  obtain ⟨s0, n0, rfl, hm9, hc9⟩ := id h0.ints
  clear hm9 hc9
  have H0 := kp h0
  clear h0
  obtain ⟨s1, n1, rfl, hm9, hc9⟩ := id h1.ints
  clear hm9 hc9
  have H1 := kp h1
  clear h1
  obtain ⟨s2, n2, rfl, hm9, hc9⟩ := id h2.ints
  clear hm9 hc9
  have H2 := kp h2
  clear h2
  obtain ⟨s3, n3, rfl, hm9, hc9⟩ := id h3.ints
  clear hm9 hc9
  have H3 := kp h3
  clear h3
  have OW0 := kp (fun (w' : World) (hx : Ext w w') => spec_l1OwnSharedMatrix r0 c0 r1 c1 _ _ x0 x1 w' (H0.out.keep hx) (H1.out.keep hx))
  have OW2 := kp (fun (w' : World) (hx : Ext w w') => spec_l1OwnSharedMatrix r2 c2 r3 c3 _ _ x2 x3 w' (H2.out.keep hx) (H3.out.keep hx))
  have S := kp (St.start w)
  go_enter Tryz.func25, Tryz.ntmps25
  go_wp2_with (first | (refine bxiS (L := []) S.o ?_; clear S; intro b3 w9 S) | (refine bxiS (L := [_]) S.o ?_; clear S; intro b4 w9 S) | (refine aliS (L := [_, _]) S.o ?_; clear S; intro b6 w9 S) | (refine aliT (L := [_, _, _]) S.o ?_; clear S; intro b9 w9 S) | (refine aliS (L := [_, _, _, _]) S.o ?_; clear S; intro b11 w9 S) | (refine aliM (L := [_, _, _, _, _]) S.o ?_; clear S; intro b12 w9 S) | (refine aliM (L := [_, _, _, _, _, _]) S.o ?_; clear S; intro b13 w9 S) | (refine ldiS S.o ?_) | (refine ldiT S.o ?_) | (refine ldI S.o ?_) | (refine ldIs S.o ?_) | (refine stiM S.o ?_; clear S; intro w9 S) | (refine stiS S.o ?_; clear S; intro w9 S) | (refine stiT S.o ?_; clear S; intro w9 S) | (refine wW ?_; dsimp only) | fail)
  (with_reducible refine ((OW0.out _ S.o.ext).mono fun e w'' h => ShPost.grp (m := ⟨⟨r0, c0, x0⟩, ⟨r1, c1, x1⟩⟩) h).mono ?_)
  rintro e u9 ⟨u0, u1, rfl, gg, x9⟩
  obtain ⟨p0, m0, hu9, -, -⟩ := id gg.o0.ints
  try simp only at hu9
  subst hu9
  obtain ⟨p1, m1, hu9, -, -⟩ := id gg.o1.ints
  try simp only at hu9
  subst hu9
  replace S := kp (S.o.made2 gg x9)
  clear gg x9
  go_wp2_with (first | (refine ldiS S.o ?_) | (refine ldiT S.o ?_) | (refine ldI S.o ?_) | (refine ldIs S.o ?_) | (refine stiM S.o ?_; clear S; intro w9 S) | (refine stiS S.o ?_; clear S; intro w9 S) | (refine stiT S.o ?_; clear S; intro w9 S) | (refine wW ?_; dsimp only) | fail)
  (with_reducible refine ((OW2.out _ S.o.ext).mono fun e w'' h => ShPost.grp (m := ⟨⟨r2, c2, x2⟩, ⟨r3, c3, x3⟩⟩) h).mono ?_)
  rintro e u9 ⟨u2, u3, rfl, gg, x9⟩
  obtain ⟨p2, m2, hu9, -, -⟩ := id gg.o0.ints
  try simp only at hu9
  subst hu9
  obtain ⟨p3, m3, hu9, -, -⟩ := id gg.o1.ints
  try simp only at hu9
  subst hu9
  replace S := kp (S.o.made2 gg x9)
  clear gg x9
  go_wp2_with (first | (refine ldiS S.o ?_) | (refine ldiT S.o ?_) | (refine ldI S.o ?_) | (refine ldIs S.o ?_) | (refine stiM S.o ?_; clear S; intro w9 S) | (refine stiS S.o ?_; clear S; intro w9 S) | (refine stiT S.o ?_; clear S; intro w9 S) | (refine wW ?_; dsimp only) | fail)
  (with_reducible refine (VX.out _ _ _ (S.o.grp.get 2 rfl rfl).ints (S.o.grp.get 3 rfl rfl).ints).mono ?_)
  rintro e u9 ⟨rfl, x9⟩
  replace S := kp (S.o.quiet x9)
  clear x9
  go_wp2_with (first | (refine ldiS S.o ?_) | (refine ldiT S.o ?_) | (refine ldI S.o ?_) | (refine ldIs S.o ?_) | (refine stiM S.o ?_; clear S; intro w9 S) | (refine stiS S.o ?_; clear S; intro w9 S) | (refine stiT S.o ?_; clear S; intro w9 S) | (refine wW ?_; dsimp only) | fail)
  (with_reducible refine (VY.out _ _ _ (S.o.grp.get 0 rfl rfl).ints (S.o.grp.get 1 rfl rfl).ints).mono ?_)
  rintro e u9 ⟨rfl, x9⟩
  replace S := kp (S.o.quiet x9)
  clear x9
  go_upto_if 40 with (first | (refine ldiS S.o ?_) | (refine ldiT S.o ?_) | (refine ldI S.o ?_) | (refine ldIs S.o ?_) | (refine stiM S.o ?_; clear S; intro w9 S) | (refine stiS S.o ?_; clear S; intro w9 S) | (refine stiT S.o ?_; clear S; intro w9 S) | (refine wW ?_; dsimp only) | fail)
  go_wp2_with (first | (refine stiS (part := [.int .i64 0, .int .i64 0, .slice none 0 0, .int .i64 0, .int .i64 0, .slice none 0 0]) (hy := by kernel_rfl) (S.o.alloc 3 []) ?_; clear S; intro w9 S) | fail)
  exact bodyPost_ret (v := .tuple #[.agg #[.int .i64 0, .int .i64 0, .slice none 0 0, .int .i64 0, .int .i64 0, .slice none 0 0], .slice (some ⟨_, 0, none⟩) 0 0, .int .i64 0]) (by exact res3 rfl (by exact (rsiS S.o)) rfl rfl) rfl ⟨_, _, _, rfl, Grp.zeroE (S.o.box _ (List.Mem.head _)).2 (S.o.box _ (List.Mem.head _)).1, S.o.ext⟩
 cases g4 : seedOk s
 ·have hz : pdOk ⟨⟨r0, c0, x0⟩, ⟨r1, c1, x1⟩⟩ ⟨⟨r2, c2, x2⟩, ⟨r3, c3, x3⟩⟩ s = false := by unfold pdOk; simp only; simp only [g1, g2, g3, g4, Bool.and_false, Bool.false_and]
  obtain ⟨z1, z2, z3⟩ := pdSh_bad hz
  rw [z1, z2, z3]
  clear hz z1 z2 z3
  unfold ShLN shZ matZ
  simp only
  obtain rfl : c0 = r2 := by simpa using g3
  have L0 := kp h0.len
  have L1 := kp h1.len
  have L2 := kp h2.len
  have L3 := kp h3.len
  have VX := kp (fun (v u : Value) (w' : World) (h : Ints w' v x0) (k : Ints w' u x1) => spec_SharedMatrixValid r0 c0 r1 c1 v u x0 x1 true g1 w' h k)
  have VY := kp (fun (v u : Value) (w' : World) (h : Ints w' v x2) (k : Ints w' u x3) => spec_SharedMatrixValid c0 c2 r3 c3 v u x2 x3 true g2 w' h k)
  have SD : Kept ((decide (1 ≤ s) && decide (s ≤ 2147483646)) = false) := ⟨g4⟩
  clear g1 g2 g3 g4
  obtain ⟨s0, n0, rfl, hm9, hc9⟩ := id h0.ints
  clear hm9 hc9
  have H0 := kp h0
  clear h0
  obtain ⟨s1, n1, rfl, hm9, hc9⟩ := id h1.ints
  clear hm9 hc9
  have H1 := kp h1
  clear h1
  obtain ⟨s2, n2, rfl, hm9, hc9⟩ := id h2.ints
  clear hm9 hc9
  have H2 := kp h2
  clear h2
  obtain ⟨s3, n3, rfl, hm9, hc9⟩ := id h3.ints
  clear hm9 hc9
  have H3 := kp h3
  clear h3
  have OW0 := kp (fun (w' : World) (hx : Ext w w') => spec_l1OwnSharedMatrix r0 c0 r1 c1 _ _ x0 x1 w' (H0.out.keep hx) (H1.out.keep hx))
  have OW2 := kp (fun (w' : World) (hx : Ext w w') => spec_l1OwnSharedMatrix c0 c2 r3 c3 _ _ x2 x3 w' (H2.out.keep hx) (H3.out.keep hx))
  have S := kp (St.start w)
  go_enter Tryz.func25, Tryz.ntmps25
  go_wp2_with (first | (refine bxiS (L := []) S.o ?_; clear S; intro b3 w9 S) | (refine bxiS (L := [_]) S.o ?_; clear S; intro b4 w9 S) | (refine aliS (L := [_, _]) S.o ?_; clear S; intro b6 w9 S) | (refine aliT (L := [_, _, _]) S.o ?_; clear S; intro b9 w9 S) | (refine aliS (L := [_, _, _, _]) S.o ?_; clear S; intro b11 w9 S) | (refine aliM (L := [_, _, _, _, _]) S.o ?_; clear S; intro b12 w9 S) | (refine aliM (L := [_, _, _, _, _, _]) S.o ?_; clear S; intro b13 w9 S) | (refine ldiS S.o ?_) | (refine ldiT S.o ?_) | (refine ldI S.o ?_) | (refine ldIs S.o ?_) | (refine stiM S.o ?_; clear S; intro w9 S) | (refine stiS S.o ?_; clear S; intro w9 S) | (refine stiT S.o ?_; clear S; intro w9 S) | (refine wW ?_; dsimp only) | fail)
  (with_reducible refine ((OW0.out _ S.o.ext).mono fun e w'' h => ShPost.grp (m := ⟨⟨r0, c0, x0⟩, ⟨r1, c1, x1⟩⟩) h).mono ?_)
  rintro e u9 ⟨u0, u1, rfl, gg, x9⟩
  obtain ⟨p0, m0, hu9, -, -⟩ := id gg.o0.ints
  try simp only at hu9
  subst hu9
  obtain ⟨p1, m1, hu9, -, -⟩ := id gg.o1.ints
  try simp only at hu9
  subst hu9
  replace S := kp (S.o.made2 gg x9)
  clear gg x9
  go_wp2_with (first | (refine ldiS S.o ?_) | (refine ldiT S.o ?_) | (refine ldI S.o ?_) | (refine ldIs S.o ?_) | (refine stiM S.o ?_; clear S; intro w9 S) | (refine stiS S.o ?_; clear S; intro w9 S) | (refine stiT S.o ?_; clear S; intro w9 S) | (refine wW ?_; dsimp only) | fail)
  (with_reducible refine ((OW2.out _ S.o.ext).mono fun e w'' h => ShPost.grp (m := ⟨⟨c0, c2, x2⟩, ⟨r3, c3, x3⟩⟩) h).mono ?_)
  rintro e u9 ⟨u2, u3, rfl, gg, x9⟩
  obtain ⟨p2, m2, hu9, -, -⟩ := id gg.o0.ints
  try simp only at hu9
  subst hu9
  obtain ⟨p3, m3, hu9, -, -⟩ := id gg.o1.ints
  try simp only at hu9
  subst hu9
  replace S := kp (S.o.made2 gg x9)
  clear gg x9
  go_wp2_with (first | (refine ldiS S.o ?_) | (refine ldiT S.o ?_) | (refine ldI S.o ?_) | (refine ldIs S.o ?_) | (refine stiM S.o ?_; clear S; intro w9 S) | (refine stiS S.o ?_; clear S; intro w9 S) | (refine stiT S.o ?_; clear S; intro w9 S) | (refine wW ?_; dsimp only) | fail)
  (with_reducible refine (VX.out _ _ _ (S.o.grp.get 2 rfl rfl).ints (S.o.grp.get 3 rfl rfl).ints).mono ?_)
  rintro e u9 ⟨rfl, x9⟩
  replace S := kp (S.o.quiet x9)
  clear x9
  go_wp2_with (first | (refine ldiS S.o ?_) | (refine ldiT S.o ?_) | (refine ldI S.o ?_) | (refine ldIs S.o ?_) | (refine stiM S.o ?_; clear S; intro w9 S) | (refine stiS S.o ?_; clear S; intro w9 S) | (refine stiT S.o ?_; clear S; intro w9 S) | (refine wW ?_; dsimp only) | fail)
  (with_reducible refine (VY.out _ _ _ (S.o.grp.get 0 rfl rfl).ints (S.o.grp.get 1 rfl rfl).ints).mono ?_)
  rintro e u9 ⟨rfl, x9⟩
  replace S := kp (S.o.quiet x9)
  clear x9
  go_wp2_with (first | (refine ldiS S.o ?_) | (refine ldiT S.o ?_) | (refine ldI S.o ?_) | (refine ldIs S.o ?_) | (refine stiM S.o ?_; clear S; intro w9 S) | (refine stiS S.o ?_; clear S; intro w9 S) | (refine stiT S.o ?_; clear S; intro w9 S) | (refine wW ?_; dsimp only) | fail)
  (with_reducible refine (spec_l1In s 1 2147483646 false SD.out _).mono ?_)
  rintro e u9 ⟨rfl, rfl⟩
  go_upto_if 40 with (fail)
  go_wp2_with (first | (refine stiS (part := [.int .i64 0, .int .i64 0, .slice none 0 0, .int .i64 0, .int .i64 0, .slice none 0 0]) (hy := by kernel_rfl) (S.o.alloc 3 []) ?_; clear S; intro w9 S) | fail)
  exact bodyPost_ret (v := .tuple #[.agg #[.int .i64 0, .int .i64 0, .slice none 0 0, .int .i64 0, .int .i64 0, .slice none 0 0], .slice (some ⟨_, 0, none⟩) 0 0, .int .i64 0]) (by exact res3 rfl (by exact (rsiS S.o)) rfl rfl) rfl ⟨_, _, _, rfl, Grp.zeroE (S.o.box _ (List.Mem.head _)).2 (S.o.box _ (List.Mem.head _)).1, S.o.ext⟩
 have hz : pdOk ⟨⟨r0, c0, x0⟩, ⟨r1, c1, x1⟩⟩ ⟨⟨r2, c2, x2⟩, ⟨r3, c3, x3⟩⟩ s = true := by unfold pdOk; simp only; simp only [g1, g2, g3, g4, Bool.and_self]
 obtain ⟨z1, z2, z3⟩ := pdSh_ok hz
 rw [z1, z2, z3]
 clear hz z1 z2 z3
 unfold ShLN pdT
 simp only
 obtain rfl : c0 = r2 := by simpa using g3
 have L0 := kp h0.len
 have L1 := kp h1.len
 have L2 := kp h2.len
 have L3 := kp h3.len
 have VX := kp (fun (v u : Value) (w' : World) (h : Ints w' v x0) (k : Ints w' u x1) => spec_SharedMatrixValid r0 c0 r1 c1 v u x0 x1 true g1 w' h k)
 have VY := kp (fun (v u : Value) (w' : World) (h : Ints w' v x2) (k : Ints w' u x3) => spec_SharedMatrixValid c0 c2 r3 c3 v u x2 x3 true g2 w' h k)
 have SD : Kept ((decide (1 ≤ s) && decide (s ≤ 2147483646)) = true) := ⟨g4⟩
 clear g1 g2 g3 g4
 have MK := kp (fun (w' : World) => spec_MakeMatrixTriple r0 c0 c2 s w')
 have NL := tripM_short r0 c0 c2 s
 generalize tripM r0 c0 c2 s = TT at *
 generalize tripS r0 c0 c2 s = N at *
 obtain ⟨⟨⟨r4, c4, x4⟩, ⟨r5, c5, x5⟩⟩, ⟨⟨r6, c6, x6⟩, ⟨r7, c7, x7⟩⟩, ⟨⟨r8, c8, x8⟩, ⟨r9, c9, x9⟩⟩⟩ := TT
 unfold TrNPost at MK
 simp only at MK NL
 have L4 := kp NL.l0
 simp only at L4
 have L5 := kp NL.l1
 simp only at L5
 have L6 := kp NL.l2
 simp only at L6
 have L7 := kp NL.l3
 simp only at L7
 have L8 := kp NL.l4
 simp only at L8
 have L9 := kp NL.l5
 simp only at L9
 clear NL
 have MS := kp (fun (v0 v1 v2 v3 v4 v5 v6 v7 v8 v9 : Value) (w' : World) (h0 : Arg w' v0 x0) (h1 : Arg w' v1 x1) (h2 : Arg w' v2 x2) (h3 : Arg w' v3 x3) (h4 : Arg w' v4 x4) (h5 : Arg w' v5 x5) (h6 : Arg w' v6 x6) (h7 : Arg w' v7 x7) (h8 : Arg w' v8 x8) (h9 : Arg w' v9 x9) => spec_MulSharedMatrices r0 c0 r1 c1 c0 c2 r3 c3 r4 c4 r5 c5 r6 c6 r7 c7 r8 c8 r9 c9 v0 v1 v2 v3 v4 v5 v6 v7 v8 v9 x0 x1 x2 x3 x4 x5 x6 x7 x8 x9 w' h0 h1 h2 h3 h4 h5 h6 h7 h8 h9)
 have LD := kp (mulShD_len ⟨⟨r0, c0, x0⟩, ⟨r1, c1, x1⟩⟩ ⟨⟨c0, c2, x2⟩, ⟨r3, c3, x3⟩⟩ ⟨⟨⟨r4, c4, x4⟩, ⟨r5, c5, x5⟩⟩, ⟨⟨r6, c6, x6⟩, ⟨r7, c7, x7⟩⟩, ⟨⟨r8, c8, x8⟩, ⟨r9, c9, x9⟩⟩⟩)
 have LE := kp (mulShE_len ⟨⟨r0, c0, x0⟩, ⟨r1, c1, x1⟩⟩ ⟨⟨c0, c2, x2⟩, ⟨r3, c3, x3⟩⟩ ⟨⟨⟨r4, c4, x4⟩, ⟨r5, c5, x5⟩⟩, ⟨⟨r6, c6, x6⟩, ⟨r7, c7, x7⟩⟩, ⟨⟨r8, c8, x8⟩, ⟨r9, c9, x9⟩⟩⟩)
 unfold MulPost MulP4 at MS
 generalize mulSh ⟨⟨r0, c0, x0⟩, ⟨r1, c1, x1⟩⟩ ⟨⟨c0, c2, x2⟩, ⟨r3, c3, x3⟩⟩ ⟨⟨⟨r4, c4, x4⟩, ⟨r5, c5, x5⟩⟩, ⟨⟨r6, c6, x6⟩, ⟨r7, c7, x7⟩⟩, ⟨⟨r8, c8, x8⟩, ⟨r9, c9, x9⟩⟩⟩ = DM at *
 generalize mulShD ⟨⟨r0, c0, x0⟩, ⟨r1, c1, x1⟩⟩ ⟨⟨c0, c2, x2⟩, ⟨r3, c3, x3⟩⟩ ⟨⟨⟨r4, c4, x4⟩, ⟨r5, c5, x5⟩⟩, ⟨⟨r6, c6, x6⟩, ⟨r7, c7, x7⟩⟩, ⟨⟨r8, c8, x8⟩, ⟨r9, c9, x9⟩⟩⟩ = DD at *
 generalize mulShE ⟨⟨r0, c0, x0⟩, ⟨r1, c1, x1⟩⟩ ⟨⟨c0, c2, x2⟩, ⟨r3, c3, x3⟩⟩ ⟨⟨⟨r4, c4, x4⟩, ⟨r5, c5, x5⟩⟩, ⟨⟨r6, c6, x6⟩, ⟨r7, c7, x7⟩⟩, ⟨⟨r8, c8, x8⟩, ⟨r9, c9, x9⟩⟩⟩ = DE at *
 generalize mulShOk ⟨⟨r0, c0, x0⟩, ⟨r1, c1, x1⟩⟩ ⟨⟨c0, c2, x2⟩, ⟨r3, c3, x3⟩⟩ ⟨⟨⟨r4, c4, x4⟩, ⟨r5, c5, x5⟩⟩, ⟨⟨r6, c6, x6⟩, ⟨r7, c7, x7⟩⟩, ⟨⟨r8, c8, x8⟩, ⟨r9, c9, x9⟩⟩⟩ = OK at *
 obtain ⟨⟨fr, fc, fs⟩, ⟨sr, sc, ss⟩⟩ := DM
 obtain ⟨dr, dc, ds⟩ := DD
 obtain ⟨er, ec, es⟩ := DE
 simp only at MS LD LE ⊢
 obtain ⟨s0, n0, rfl, hm9, hc9⟩ := id h0.ints
 clear hm9 hc9
 have H0 := kp h0
 clear h0
 obtain ⟨s1, n1, rfl, hm9, hc9⟩ := id h1.ints
 clear hm9 hc9
 have H1 := kp h1
 clear h1
 obtain ⟨s2, n2, rfl, hm9, hc9⟩ := id h2.ints
 clear hm9 hc9
 have H2 := kp h2
 clear h2
 obtain ⟨s3, n3, rfl, hm9, hc9⟩ := id h3.ints
 clear hm9 hc9
 have H3 := kp h3
 clear h3
 have OW0 := kp (fun (w' : World) (hx : Ext w w') => spec_l1OwnSharedMatrix r0 c0 r1 c1 _ _ x0 x1 w' (H0.out.keep hx) (H1.out.keep hx))
 have OW2 := kp (fun (w' : World) (hx : Ext w w') => spec_l1OwnSharedMatrix c0 c2 r3 c3 _ _ x2 x3 w' (H2.out.keep hx) (H3.out.keep hx))
 have S := kp (St.start w)
 go_enter Tryz.func25, Tryz.ntmps25
 go_wp2_with (first | (refine bxiS (L := []) S.o ?_; clear S; intro b3 w9 S) | (refine bxiS (L := [_]) S.o ?_; clear S; intro b4 w9 S) | (refine aliS (L := [_, _]) S.o ?_; clear S; intro b6 w9 S) | (refine aliT (L := [_, _, _]) S.o ?_; clear S; intro b9 w9 S) | (refine aliS (L := [_, _, _, _]) S.o ?_; clear S; intro b11 w9 S) | (refine aliM (L := [_, _, _, _, _]) S.o ?_; clear S; intro b12 w9 S) | (refine aliM (L := [_, _, _, _, _, _]) S.o ?_; clear S; intro b13 w9 S) | (refine ldiS S.o ?_) | (refine ldiT S.o ?_) | (refine ldI S.o ?_) | (refine ldIs S.o ?_) | (refine stiM S.o ?_; clear S; intro w9 S) | (refine stiS S.o ?_; clear S; intro w9 S) | (refine stiT S.o ?_; clear S; intro w9 S) | (refine wW ?_; dsimp only) | fail)
 (with_reducible refine ((OW0.out _ S.o.ext).mono fun e w'' h => ShPost.grp (m := ⟨⟨r0, c0, x0⟩, ⟨r1, c1, x1⟩⟩) h).mono ?_)
 rintro e u9 ⟨u0, u1, rfl, gg, x9⟩
 obtain ⟨p0, m0, hu9, -, -⟩ := id gg.o0.ints
 try simp only at hu9
 subst hu9
 obtain ⟨p1, m1, hu9, -, -⟩ := id gg.o1.ints
 try simp only at hu9
 subst hu9
 replace S := kp (S.o.made2 gg x9)
 clear gg x9
 go_wp2_with (first | (refine ldiS S.o ?_) | (refine ldiT S.o ?_) | (refine ldI S.o ?_) | (refine ldIs S.o ?_) | (refine stiM S.o ?_; clear S; intro w9 S) | (refine stiS S.o ?_; clear S; intro w9 S) | (refine stiT S.o ?_; clear S; intro w9 S) | (refine wW ?_; dsimp only) | fail)
 (with_reducible refine ((OW2.out _ S.o.ext).mono fun e w'' h => ShPost.grp (m := ⟨⟨c0, c2, x2⟩, ⟨r3, c3, x3⟩⟩) h).mono ?_)
 rintro e u9 ⟨u2, u3, rfl, gg, x9⟩
 obtain ⟨p2, m2, hu9, -, -⟩ := id gg.o0.ints
 try simp only at hu9
 subst hu9
 obtain ⟨p3, m3, hu9, -, -⟩ := id gg.o1.ints
 try simp only at hu9
 subst hu9
 replace S := kp (S.o.made2 gg x9)
 clear gg x9
 go_wp2_with (first | (refine ldiS S.o ?_) | (refine ldiT S.o ?_) | (refine ldI S.o ?_) | (refine ldIs S.o ?_) | (refine stiM S.o ?_; clear S; intro w9 S) | (refine stiS S.o ?_; clear S; intro w9 S) | (refine stiT S.o ?_; clear S; intro w9 S) | (refine wW ?_; dsimp only) | fail)
 (with_reducible refine (VX.out _ _ _ (S.o.grp.get 2 rfl rfl).ints (S.o.grp.get 3 rfl rfl).ints).mono ?_)
 rintro e u9 ⟨rfl, x9⟩
 replace S := kp (S.o.quiet x9)
 clear x9
 go_wp2_with (first | (refine ldiS S.o ?_) | (refine ldiT S.o ?_) | (refine ldI S.o ?_) | (refine ldIs S.o ?_) | (refine stiM S.o ?_; clear S; intro w9 S) | (refine stiS S.o ?_; clear S; intro w9 S) | (refine stiT S.o ?_; clear S; intro w9 S) | (refine wW ?_; dsimp only) | fail)
 (with_reducible refine (VY.out _ _ _ (S.o.grp.get 0 rfl rfl).ints (S.o.grp.get 1 rfl rfl).ints).mono ?_)
 rintro e u9 ⟨rfl, x9⟩
 replace S := kp (S.o.quiet x9)
 clear x9
 go_wp2_with (first | (refine ldiS S.o ?_) | (refine ldiT S.o ?_) | (refine ldI S.o ?_) | (refine ldIs S.o ?_) | (refine stiM S.o ?_; clear S; intro w9 S) | (refine stiS S.o ?_; clear S; intro w9 S) | (refine stiT S.o ?_; clear S; intro w9 S) | (refine wW ?_; dsimp only) | fail)
 (with_reducible refine (spec_l1In s 1 2147483646 true SD.out _).mono ?_)
 rintro e u9 ⟨rfl, rfl⟩
 go_wp2_with (first | (refine ldiS S.o ?_) | (refine ldiT S.o ?_) | (refine ldI S.o ?_) | (refine ldIs S.o ?_) | (refine stiM S.o ?_; clear S; intro w9 S) | (refine stiS S.o ?_; clear S; intro w9 S) | (refine stiT S.o ?_; clear S; intro w9 S) | (refine wW ?_; dsimp only) | fail)
 (with_reducible refine (MK.out _).mono ?_)
 rintro e u9 ⟨u4, u5, u6, u7, u8, u9, rfl, gg, x9⟩
 obtain ⟨p4, m4, hu9, -, -⟩ := id gg.o0.ints
 try simp only at hu9
 subst hu9
 obtain ⟨p5, m5, hu9, -, -⟩ := id gg.o1.ints
 try simp only at hu9
 subst hu9
 obtain ⟨p6, m6, hu9, -, -⟩ := id gg.o2.ints
 try simp only at hu9
 subst hu9
 obtain ⟨p7, m7, hu9, -, -⟩ := id gg.o3.ints
 try simp only at hu9
 subst hu9
 obtain ⟨p8, m8, hu9, -, -⟩ := id gg.o4.ints
 try simp only at hu9
 subst hu9
 obtain ⟨p9, m9, hu9, -, -⟩ := id gg.o5.ints
 try simp only at hu9
 subst hu9
 replace S := kp (S.o.made6 gg x9)
 clear gg x9
 go_wp2_with (first | (refine aliT (L := [_, _, _]) S.o ?_; clear S; intro b9 w9 S) | (refine aliS (L := [_, _, _, _]) S.o ?_; clear S; intro b11 w9 S) | (refine aliM (L := [_, _, _, _, _]) S.o ?_; clear S; intro b12 w9 S) | (refine aliM (L := [_, _, _, _, _, _]) S.o ?_; clear S; intro b13 w9 S) | (refine ldiS S.o ?_) | (refine ldiT S.o ?_) | (refine ldI S.o ?_) | (refine ldIs S.o ?_) | (refine stiM S.o ?_; clear S; intro w9 S) | (refine stiS S.o ?_; clear S; intro w9 S) | (refine stiT S.o ?_; clear S; intro w9 S) | (refine wW ?_; dsimp only) | fail)
 (with_reducible refine (MS.out _ _ _ _ _ _ _ _ _ _ _ ((S.o.grp.get 8 rfl rfl).arg L0.out) ((S.o.grp.get 9 rfl rfl).arg L1.out) ((S.o.grp.get 6 rfl rfl).arg L2.out) ((S.o.grp.get 7 rfl rfl).arg L3.out) ((S.o.grp.get 0 rfl rfl).arg L4.out) ((S.o.grp.get 1 rfl rfl).arg L5.out) ((S.o.grp.get 2 rfl rfl).arg L6.out) ((S.o.grp.get 3 rfl rfl).arg L7.out) ((S.o.grp.get 4 rfl rfl).arg L8.out) ((S.o.grp.get 5 rfl rfl).arg L9.out)).mono ?_)
 rintro e u9 ⟨v0, v1, v2, v3, rfl, gg, x9⟩
 obtain ⟨pF, mF, hu9, -, -⟩ := id gg.o0.ints
 try simp only at hu9
 subst hu9
 obtain ⟨pS, mS, hu9, -, -⟩ := id gg.o1.ints
 try simp only at hu9
 subst hu9
 obtain ⟨pD, mD, hu9, -, -⟩ := id gg.o2.ints
 try simp only at hu9
 subst hu9
 obtain ⟨pE, mE, hu9, -, -⟩ := id gg.o3.ints
 try simp only at hu9
 subst hu9
 have S9 := S.o.madeG gg x9
 simp only [List.cons_append, List.nil_append] at S9
 replace S := kp S9
 clear S9 gg x9
 go_wp2_with (first | (refine aliT (L := [_, _, _]) S.o ?_; clear S; intro b9 w9 S) | (refine aliS (L := [_, _, _, _]) S.o ?_; clear S; intro b11 w9 S) | (refine aliM (L := [_, _, _, _, _]) S.o ?_; clear S; intro b12 w9 S) | (refine aliM (L := [_, _, _, _, _, _]) S.o ?_; clear S; intro b13 w9 S) | (refine ldiS S.o ?_) | (refine ldiT S.o ?_) | (refine ldI S.o ?_) | (refine ldIs S.o ?_) | (refine stiM S.o ?_; clear S; intro w9 S) | (refine stiS S.o ?_; clear S; intro w9 S) | (refine stiT S.o ?_; clear S; intro w9 S) | (refine wW ?_; dsimp only) | fail)
 have D1 := kp (show Del [⟨b13, 28, [.int .i64 er, .int .i64 ec, .slice pE es.length mE]⟩, ⟨b12, 28, [.int .i64 dr, .int .i64 dc, .slice pD ds.length mD]⟩, ⟨b11, 30, [.int .i64 fr, .int .i64 fc, .slice pF fs.length mF, .int .i64 sr, .int .i64 sc, .slice pS ss.length mS]⟩, ⟨b9, 71, [.int .i64 r4, .int .i64 c4, .slice p4 x4.length m4, .int .i64 r5, .int .i64 c5, .slice p5 x5.length m5, .int .i64 r6, .int .i64 c6, .slice p6 x6.length m6, .int .i64 r7, .int .i64 c7, .slice p7 x7.length m7, .int .i64 r8, .int .i64 c8, .slice p8 x8.length m8, .int .i64 r9, .int .i64 c9, .slice p9 x9.length m9]⟩, ⟨b6, 30, [.int .i64 0, .int .i64 0, .slice none 0 0, .int .i64 0, .int .i64 0, .slice none 0 0]⟩, ⟨b4, 30, [.int .i64 c0, .int .i64 c2, .slice p2 x2.length m2, .int .i64 r3, .int .i64 c3, .slice p3 x3.length m3]⟩, ⟨b3, 30, [.int .i64 r0, .int .i64 c0, .slice p0 x0.length m0, .int .i64 r1, .int .i64 c1, .slice p1 x1.length m1]⟩] b6 30 [.int .i64 0, .int .i64 0, .slice none 0 0, .int .i64 0, .int .i64 0, .slice none 0 0] [⟨b13, 28, [.int .i64 er, .int .i64 ec, .slice pE es.length mE]⟩, ⟨b12, 28, [.int .i64 dr, .int .i64 dc, .slice pD ds.length mD]⟩, ⟨b11, 30, [.int .i64 fr, .int .i64 fc, .slice pF fs.length mF, .int .i64 sr, .int .i64 sc, .slice pS ss.length mS]⟩, ⟨b9, 71, [.int .i64 r4, .int .i64 c4, .slice p4 x4.length m4, .int .i64 r5, .int .i64 c5, .slice p5 x5.length m5, .int .i64 r6, .int .i64 c6, .slice p6 x6.length m6, .int .i64 r7, .int .i64 c7, .slice p7 x7.length m7, .int .i64 r8, .int .i64 c8, .slice p8 x8.length m8, .int .i64 r9, .int .i64 c9, .slice p9 x9.length m9]⟩, ⟨b4, 30, [.int .i64 c0, .int .i64 c2, .slice p2 x2.length m2, .int .i64 r3, .int .i64 c3, .slice p3 x3.length m3]⟩, ⟨b3, 30, [.int .i64 r0, .int .i64 c0, .slice p0 x0.length m0, .int .i64 r1, .int .i64 c1, .slice p1 x1.length m1]⟩] from (by repeat (first | exact Del.head | apply Del.tail)))
 obtain ⟨S1, A1⟩ := S.o.del D1.out
 clear S D1
 have S := kp S1
 have AL := kp A1
 clear S1 A1
 apply wp_region_zipV (Fre.rel w9.heap.size [b6]) (fun L V w' => Px b6 9 30 #[.int .i64 0, .int .i64 0, .slice none 0 0, .int .i64 0, .int .i64 0, .slice none 0 0] (fun _ cs => cs = #[.int .i64 fr, .int .i64 fc, .slice pF fs.length mF, .int .i64 sr, .int .i64 sc, .slice pS ss.length mS]) L w' ∧ (L 4 = true → L 1 = true) ∧ (L 7 = true → L 4 = true) ∧ (L 1 = true → L 4 = false → Own w9.heap.size w' (V 1) []) ∧ (L 4 = true → L 7 = false → Own w9.heap.size w' (V 4) ds) ∧ (L 7 = true → Own w9.heap.size w' (V 7) (ds ++ es))) [isv _, anyV, isv _, isv _, anyV, isv _, isv _, anyV, isv _, anyV, sameV 7, isv _] _ ?hJ (by kernel_rfl)
 case hJ => exact ⟨⟨fun _ => AL.out.blk.keep ⟨rfl, rfl, rfl, Nat.le_refl _, fun _ _ => rfl⟩, fun h => (by cases h)⟩, fun h => (by cases h), fun h => (by cases h), fun h => (by cases h), fun h => (by cases h), fun h => (by cases h)⟩
 case hA => intro V; simp [putAll, dstOf, Act.put]; exact rfl
 case hsl => intro V; exact rfl
 case step =>
  intro V lo up w' hr L hj
  have S := kp (S.o.fre1 AL.out hr)
  simp only [zipOkV, depsImp, isv, sameV, anyV, modeNg, newb, waits, Region.binds, List.map_nil, List.map_cons, List.headD_cons, List.nil_append, List.cons_append, List.filterMap_cons, List.filterMap_nil, ↓reduceIte, modeNe, Bool.false_eq_true, true_implies, List.getD_cons_zero, List.getD_cons_succ, and_true, Nat.zero_add, Nat.reduceAdd]
  refine ⟨?_, ?_, ?_, ?_, ?_, ?_, ?_, ?_, ?_, ?_, ?_, ?_⟩
  ·intro hl hw hd
   intros
   (try simp only [*])
   go_wp2_with (first | (refine ldiS S.o ?_) | fail)
   refine sS ?_
   exact ⟨Fre.refl _ _ _, rfl, ⟨hj.1.ext (fun _ h => h) (fun _ => rfl) (by decide), by simpa [upd] using hj.2.1, by simpa [upd] using hj.2.2.1, by simpa [upd] using hj.2.2.2.1, by simpa [upd] using hj.2.2.2.2.1, by simpa [upd] using hj.2.2.2.2.2⟩⟩
  ·intro hl hw hd
   intros
   go_wp2
   refine sS ?_
   have x9 : Ext w' (w'.alloc (.cells #[] 3)) := (Ext.refl _).alloc _
   have h4 : L 4 = false := by
    cases h : L 4
    ·rfl
    exact absurd (hl.symm.trans (hj.2.1 h)) (by decide)
   have h7 : L 7 = false := by
    cases h : L 7
    ·rfl
    exact absurd (h4.symm.trans (hj.2.2.1 h)) (by decide)
   refine ⟨Fre.of_ext x9, ?_⟩
   (try refine ⟨trivial, ?_⟩)
   exact ⟨hj.1.ext (fun _ h => h) (fun hk => Below.block x9 _ hk) (by decide), by simp [upd, h4], by simp [upd, h4, h7], fun _ _ => (by rw [updV_eq]; exact Own.empty hr.size (Blk.new w' #[] 3) (Nat.zero_le _) rfl), by simp [upd, h4], by simp [upd, h7]⟩
  ·intro hl hw hd
   intros
   (try simp only [*])
   go_wp2_with (fail)
   refine sS ?_
   exact ⟨Fre.refl _ _ _, rfl, ⟨hj.1.ext (fun _ h => h) (fun _ => rfl) (by decide), by simpa [upd] using hj.2.1, by simpa [upd] using hj.2.2.1, by simpa [upd] using hj.2.2.2.1, by simpa [upd] using hj.2.2.2.2.1, by simpa [upd] using hj.2.2.2.2.2⟩⟩
  ·intro hl hw hd
   intros
   (try simp only [*])
   go_wp2_with (first | (refine ldIs S.o ?_) | fail)
   refine sS ?_
   exact ⟨Fre.refl _ _ _, rfl, ⟨hj.1.ext (fun _ h => h) (fun _ => rfl) (by decide), by simpa [upd] using hj.2.1, by simpa [upd] using hj.2.2.1, by simpa [upd] using hj.2.2.2.1, by simpa [upd] using hj.2.2.2.2.1, by simpa [upd] using hj.2.2.2.2.2⟩⟩
  ·intro hl hw hd
   intros
   obtain ⟨HO⟩ : Kept (Own w9.heap.size w' (V 1) []) := ⟨hj.2.2.2.1 (hd 1 (by simp)) hl⟩
   (try simp only [*])
   go_wp2_with (at_builtin; refine wpList_append_ints rfl _ _ rfl w9.heap.size _ [] rfl HO _ ds rfl (S.o.grp.o2.ints) S.o.grp.o2.fit.nil (by have := LD.out; have := LE.out; first | omega | (simp; omega)) hr.size ?_; intro v' w8 o8 t8)
   refine sS ?_
   have h7 : L 7 = false := by
    cases h : L 7
    ·rfl
    exact absurd (hl.symm.trans (hj.2.2.1 h)) (by decide)
   refine ⟨Fre.turned t8 (fun q hq => (HO.block q hq).1), ?_⟩
   (try refine ⟨trivial, ?_⟩)
   exact ⟨hj.1.ext (fun _ h => h) (fun hk => t8.block _ hk (fun e => by have := (HO.block _ e).1; have := AL.out.blk.lt; omega)) (by decide), fun _ => by simpa [upd] using hd 1 (by simp), by simp [upd, h7], by simp [upd], fun _ _ => (by rw [updV_eq]; simpa using o8), by simp [upd, h7]⟩
  ·intro hl hw hd
   intros
   (try simp only [*])
   go_wp2_with (fail)
   refine sS ?_
   exact ⟨Fre.refl _ _ _, rfl, ⟨hj.1.ext (fun _ h => h) (fun _ => rfl) (by decide), by simpa [upd] using hj.2.1, by simpa [upd] using hj.2.2.1, by simpa [upd] using hj.2.2.2.1, by simpa [upd] using hj.2.2.2.2.1, by simpa [upd] using hj.2.2.2.2.2⟩⟩
  ·intro hl hw hd
   intros
   (try simp only [*])
   go_wp2_with (first | (refine ldIs S.o ?_) | fail)
   refine sS ?_
   exact ⟨Fre.refl _ _ _, rfl, ⟨hj.1.ext (fun _ h => h) (fun _ => rfl) (by decide), by simpa [upd] using hj.2.1, by simpa [upd] using hj.2.2.1, by simpa [upd] using hj.2.2.2.1, by simpa [upd] using hj.2.2.2.2.1, by simpa [upd] using hj.2.2.2.2.2⟩⟩
  ·intro hl hw hd
   intros
   obtain ⟨HO⟩ : Kept (Own w9.heap.size w' (V 4) ds) := ⟨hj.2.2.2.2.1 (hd 4 (by simp)) hl⟩
   (try simp only [*])
   go_wp2_with (at_builtin; refine wpList_append_ints rfl _ _ rfl w9.heap.size _ ds rfl HO _ es rfl (S.o.grp.o3.ints) S.o.grp.o3.fit.nil (by have := LD.out; have := LE.out; first | omega | (simp; omega)) hr.size ?_; intro v' w8 o8 t8)
   refine sS ?_
   refine ⟨Fre.turned t8 (fun q hq => (HO.block q hq).1), ?_⟩
   (try refine ⟨trivial, ?_⟩)
   exact ⟨hj.1.ext (fun _ h => h) (fun hk => t8.block _ hk (fun e => by have := (HO.block _ e).1; have := AL.out.blk.lt; omega)) (by decide), by simpa [upd] using hj.2.1, fun _ => by simpa [upd] using hd 4 (by simp), fun _ h => (by rw [updL_ne (by decide)] at h; rw [hd 4 (by simp)] at h; cases h), by simp [upd], fun _ => (by rw [updV_eq]; exact o8)⟩
  ·intro hl hw hd
   intros
   (try simp only [*])
   go_wp2_with (fail)
   refine sS ?_
   exact ⟨Fre.refl _ _ _, rfl, ⟨hj.1.ext (fun _ h => h) (fun _ => rfl) (by decide), by simpa [upd] using hj.2.1, by simpa [upd] using hj.2.2.1, by simpa [upd] using hj.2.2.2.1, by simpa [upd] using hj.2.2.2.2.1, by simpa [upd] using hj.2.2.2.2.2⟩⟩
  ·intro hl hw hd
   obtain ⟨kz⟩ : Kept (Blk w' b6 #[.int .i64 0, .int .i64 0, .slice none 0 0, .int .i64 0, .int .i64 0, .slice none 0 0] 30) := ⟨hj.1.no hl⟩
   intros
   have e_ : V 0 = .agg #[.int .i64 fr, .int .i64 fc, .slice pF fs.length mF, .int .i64 sr, .int .i64 sc, .slice pS ss.length mS] := by assumption
   refine wpList_putF (by rfl) (by rfl) _ _ (by rfl) b6 _ _ (by rfl) (by exact e_) kz (by kernel_rfl) (by rfl) (by simp [Value.oneCell']) (by simp) (fun w'' f k hoth hsz u => ⟨f, trivial, Px.put k rfl, by simpa [upd] using hj.2.1, by simpa [upd] using hj.2.2.1, fun a b => (Own.keep' (hj.2.2.2.1 (by simpa [upd] using a) (by simpa [upd] using b)) hoth (fun e => by have := ((hj.2.2.2.1 (by simpa [upd] using a) (by simpa [upd] using b)).block _ e).1; have := AL.out.blk.lt; omega)), fun a b => (Own.keep' (hj.2.2.2.2.1 (by simpa [upd] using a) (by simpa [upd] using b)) hoth (fun e => by have := ((hj.2.2.2.2.1 (by simpa [upd] using a) (by simpa [upd] using b)).block _ e).1; have := AL.out.blk.lt; omega)), fun a => (Own.keep' (hj.2.2.2.2.2 (by simpa [upd] using a)) hoth (fun e => by have := ((hj.2.2.2.2.2 (by simpa [upd] using a)).block _ e).1; have := AL.out.blk.lt; omega))⟩)
  ·intro hl hw hd
   intros
   (try simp only [*])
   go_wp2_with (fail)
   refine sS ?_
   exact ⟨Fre.refl _ _ _, rfl, ⟨hj.1.ext (fun _ h => h) (fun _ => rfl) (by decide), by simpa [upd] using hj.2.1, by simpa [upd] using hj.2.2.1, by simpa [upd] using hj.2.2.2.1, by simpa [upd] using hj.2.2.2.2.1, by simpa [upd] using hj.2.2.2.2.2⟩⟩
  intro hl hw hd
  intros
  (try simp only [*])
  go_wp2_with (fail)
  refine sS ?_
  exact ⟨Fre.refl _ _ _, rfl, ⟨hj.1.ext (fun _ h => h) (fun _ => rfl) (by decide), by simpa [upd] using hj.2.1, by simpa [upd] using hj.2.2.1, by simpa [upd] using hj.2.2.2.1, by simpa [upd] using hj.2.2.2.2.1, by simpa [upd] using hj.2.2.2.2.2⟩⟩
 case hB => kernel_rfl
 intro V lo up w' hr L hj hL hf ha
 simp only [factsOk, isv, sameV, anyV, modeNg, newb, List.map_nil, List.map_cons, List.headD_cons, and_true, Nat.zero_add, Nat.reduceAdd] at hf
 simp only [List.length_cons, List.length_nil, Nat.zero_add, Nat.reduceAdd, List.drop_succ_cons, List.drop_zero]
 obtain ⟨-, -, -, -, -, -, -, -, -, -, ⟨-, -, -, e10⟩, ⟨-, -, -, e11⟩⟩ := hf
 clear ha
 rw [e10, e11]
 clear e10 e11
 obtain ⟨cs, kb, e5⟩ := hj.1.yes (hL 9 (by simp))
 subst e5
 have o6 := hj.2.2.2.2.2 (hL 7 (by simp))
 (try simp only [List.headD_cons])
 generalize hv7 : V 7 = v7 at *
 clear hv7 hj
 replace S := kp (S.o.fillF (cs := [.int .i64 fr, .int .i64 fc, .slice pF fs.length mF, .int .i64 sr, .int .i64 sc, .slice pS ss.length mS]) AL.out hr (Grp.one o6) kb)
 clear kb hr AL o6
 go_wp2_with (first | (refine ldiS S.o ?_) | (refine ldiT S.o ?_) | (refine ldI S.o ?_) | (refine ldIs S.o ?_) | (refine wW ?_; dsimp only) | fail)
 refine bodyPost_ret (v := .tuple #[.agg #[.int .i64 fr, .int .i64 fc, .slice pF fs.length mF, .int .i64 sr, .int .i64 sc, .slice pS ss.length mS], v7, .int .i64 N]) ?A rfl ⟨_, _, _, rfl, ?B, S.o.ext⟩
 case A => exact res3 rfl (by exact (rsiS S.o)) rfl rfl
 case B => exact S.o.grp.sel rfl [1, 2, 0] (by decide) (by simp)
end Go.Proofs.YtkkdikoknegpjaaGreat
