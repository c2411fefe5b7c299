import Derived.Test.YtkkdikoknegpjaaGreatKX
namespace Go.Proofs.YtkkdikoknegpjaaGreat
set_option linter.unusedSimpArgs false
set_option linter.unusedVariables false
open Go.RowKit
set_option maxHeartbeats 8000000 in
set_option maxRecDepth 4000 in
theorem spec_MulSharedMatrices (r0 c0 r1 c1 r2 c2 r3 c3 r4 c4 r5 c5 r6 c6 r7 c7 r8 c8 r9 c9 : Int) (v0 v1 v2 v3 v4 v5 v6 v7 v8 v9 : Value) (x0 x1 x2 x3 x4 x5 x6 x7 x8 x9 : List Int) (w : World) (h0 : Arg w v0 x0) (h1 : Arg w v1 x1) (h2 : Arg w v2 x2) (h3 : Arg w v3 x3) (h4 : Arg w v4 x4) (h5 : Arg w v5 x5) (h6 : Arg w v6 x6) (h7 : Arg w v7 x7) (h8 : Arg w v8 x8) (h9 : Arg w v9 x9) : Calls Tryz.prog 55 #[.agg #[.int .i64 r0, .int .i64 c0, v0, .int .i64 r1, .int .i64 c1, v1], .agg #[.int .i64 r2, .int .i64 c2, v2, .int .i64 r3, .int .i64 c3, v3], .agg #[.int .i64 r4, .int .i64 c4, v4, .int .i64 r5, .int .i64 c5, v5, .int .i64 r6, .int .i64 c6, v6, .int .i64 r7, .int .i64 c7, v7, .int .i64 r8, .int .i64 c8, v8, .int .i64 r9, .int .i64 c9, v9]] w (MulPost ⟨⟨r0, c0, x0⟩, ⟨r1, c1, x1⟩⟩ ⟨⟨r2, c2, x2⟩, ⟨r3, c3, x3⟩⟩ ⟨⟨⟨r4, c4, x4⟩, ⟨r5, c5, x5⟩⟩, ⟨⟨r6, c6, x6⟩, ⟨r7, c7, x7⟩⟩, ⟨⟨r8, c8, x8⟩, ⟨r9, c9, x9⟩⟩⟩ w) := by
 cases g1 : ShM.ok ⟨⟨r0, c0, x0⟩, ⟨r1, c1, x1⟩⟩
 ·have hz : mulShOk ⟨⟨r0, c0, x0⟩, ⟨r1, c1, x1⟩⟩ ⟨⟨r2, c2, x2⟩, ⟨r3, c3, x3⟩⟩ ⟨⟨⟨r4, c4, x4⟩, ⟨r5, c5, x5⟩⟩, ⟨⟨r6, c6, x6⟩, ⟨r7, c7, x7⟩⟩, ⟨⟨r8, c8, x8⟩, ⟨r9, c9, x9⟩⟩⟩ = false := by unfold mulShOk; simp only; simp only [g1, Bool.and_false, Bool.false_and]
  rw [MulPost_bad hz]
  clear hz
  unfold MulP4 matZ
  simp only
  have L0 := kp h0.len
  have L1 := kp h1.len
  have L2 := kp h2.len
  have L3 := kp h3.len
  have L4 := kp h4.len
  have L5 := kp h5.len
  have L6 := kp h6.len
  have L7 := kp h7.len
  have L8 := kp h8.len
  have L9 := kp h9.len
  have VX := kp (fun (v u : Value) (w' : World) (h : Ints w' v x0) (k : Ints w' u x1) => spec_SharedMatrixValid r0 c0 r1 c1 v u x0 x1 false g1 w' h k)
  clear g1
  obtain ⟨s0, n0, rfl, hm9, hc9⟩ := id h0.ints
  clear hm9 hc9
  have H0 := kp h0
  clear h0
  obtain ⟨s1, n1, rfl, hm9, hc9⟩ := id h1.ints
  clear hm9 hc9
  have H1 := kp h1
  clear h1
  obtain ⟨s2, n2, rfl, hm9, hc9⟩ := id h2.ints
  clear hm9 hc9
  have H2 := kp h2
  clear h2
  obtain ⟨s3, n3, rfl, hm9, hc9⟩ := id h3.ints
  clear hm9 hc9
  have H3 := kp h3
  clear h3
  obtain ⟨s4, n4, rfl, hm9, hc9⟩ := id h4.ints
  clear hm9 hc9
  have H4 := kp h4
  clear h4
  obtain ⟨s5, n5, rfl, hm9, hc9⟩ := id h5.ints
  clear hm9 hc9
  have H5 := kp h5
  clear h5
  obtain ⟨s6, n6, rfl, hm9, hc9⟩ := id h6.ints
  clear hm9 hc9
  have H6 := kp h6
  clear h6
  obtain ⟨s7, n7, rfl, hm9, hc9⟩ := id h7.ints
  clear hm9 hc9
  have H7 := kp h7
  clear h7
  obtain ⟨s8, n8, rfl, hm9, hc9⟩ := id h8.ints
  clear hm9 hc9
  have H8 := kp h8
  clear h8
  obtain ⟨s9, n9, rfl, hm9, hc9⟩ := id h9.ints
  clear hm9 hc9
  have H9 := kp h9
  clear h9
  have OW0 := kp (fun (w' : World) (hx : Ext w w') => spec_l1OwnSharedMatrix r0 c0 r1 c1 _ _ x0 x1 w' (H0.out.keep hx) (H1.out.keep hx))
  have OW2 := kp (fun (w' : World) (hx : Ext w w') => spec_l1OwnSharedMatrix r2 c2 r3 c3 _ _ x2 x3 w' (H2.out.keep hx) (H3.out.keep hx))
  have OW4 := kp (fun (w' : World) (hx : Ext w w') => spec_l1OwnMatrixTriple r4 c4 r5 c5 r6 c6 r7 c7 r8 c8 r9 c9 _ _ _ _ _ _ x4 x5 x6 x7 x8 x9 w' (H4.out.keep hx) (H5.out.keep hx) (H6.out.keep hx) (H7.out.keep hx) (H8.out.keep hx) (H9.out.keep hx))
  unfold TrGrp at OW4
  have S := kp (St.start w)
  go_enter Tryz.func55, Tryz.ntmps55
  go_wp2_with (first | (refine bxiS (L := []) S.o ?_; clear S; intro b3 w9 S) | (refine bxiS (L := [_]) S.o ?_; clear S; intro b4 w9 S) | (refine bxiT (L := [_, _]) S.o ?_; clear S; intro b5 w9 S) | (refine aliS (L := [_, _, _]) S.o ?_; clear S; intro b6 w9 S) | (refine aliM (L := [_, _, _, _]) S.o ?_; clear S; intro b7 w9 S) | (refine aliM (L := [_, _, _, _, _]) S.o ?_; clear S; intro b8 w9 S) | (refine ldiM S.o ?_) | (refine ldiS S.o ?_) | (refine ldiT S.o ?_) | (refine stiM S.o ?_; clear S; intro w9 S) | (refine stiS S.o ?_; clear S; intro w9 S) | (refine stiT S.o ?_; clear S; intro w9 S) | (refine wW ?_; dsimp only) | fail)
  (with_reducible refine ((OW0.out _ S.o.ext).mono fun e w'' h => ShPost.grp (m := ⟨⟨r0, c0, x0⟩, ⟨r1, c1, x1⟩⟩) h).mono ?_)
  rintro e u9 ⟨u0, u1, rfl, gg, x9⟩
  obtain ⟨p0, m0, hu9, -, -⟩ := id gg.o0.ints
  try simp only at hu9
  subst hu9
  obtain ⟨p1, m1, hu9, -, -⟩ := id gg.o1.ints
  try simp only at hu9
  subst hu9
  replace S := kp (S.o.made2 gg x9)
  clear gg x9
  go_wp2_with (first | (refine ldiM S.o ?_) | (refine ldiS S.o ?_) | (refine ldiT S.o ?_) | (refine stiM S.o ?_; clear S; intro w9 S) | (refine stiS S.o ?_; clear S; intro w9 S) | (refine stiT S.o ?_; clear S; intro w9 S) | (refine wW ?_; dsimp only) | fail)
  (with_reducible refine ((OW2.out _ S.o.ext).mono fun e w'' h => ShPost.grp (m := ⟨⟨r2, c2, x2⟩, ⟨r3, c3, x3⟩⟩) h).mono ?_)
  rintro e u9 ⟨u2, u3, rfl, gg, x9⟩
  obtain ⟨p2, m2, hu9, -, -⟩ := id gg.o0.ints
  try simp only at hu9
  subst hu9
  obtain ⟨p3, m3, hu9, -, -⟩ := id gg.o1.ints
  try simp only at hu9
  subst hu9
  replace S := kp (S.o.made2 gg x9)
  clear gg x9
  go_wp2_with (first | (refine ldiM S.o ?_) | (refine ldiS S.o ?_) | (refine ldiT S.o ?_) | (refine stiM S.o ?_; clear S; intro w9 S) | (refine stiS S.o ?_; clear S; intro w9 S) | (refine stiT S.o ?_; clear S; intro w9 S) | (refine wW ?_; dsimp only) | fail)
  (with_reducible refine (OW4.out _ S.o.ext).mono ?_)
  rintro e u9 ⟨u4, u5, u6, u7, u8, u9, rfl, gg, x9⟩
  obtain ⟨p4, m4, hu9, -, -⟩ := id gg.o0.ints
  try simp only at hu9
  subst hu9
  obtain ⟨p5, m5, hu9, -, -⟩ := id gg.o1.ints
  try simp only at hu9
  subst hu9
  obtain ⟨p6, m6, hu9, -, -⟩ := id gg.o2.ints
  try simp only at hu9
  subst hu9
  obtain ⟨p7, m7, hu9, -, -⟩ := id gg.o3.ints
  try simp only at hu9
  subst hu9
  obtain ⟨p8, m8, hu9, -, -⟩ := id gg.o4.ints
  try simp only at hu9
  subst hu9
  obtain ⟨p9, m9, hu9, -, -⟩ := id gg.o5.ints
  try simp only at hu9
  subst hu9
  replace S := kp (S.o.made6 gg x9)
  clear gg x9
  go_wp2_with (first | (refine ldiM S.o ?_) | (refine ldiS S.o ?_) | (refine ldiT S.o ?_) | (refine stiM S.o ?_; clear S; intro w9 S) | (refine stiS S.o ?_; clear S; intro w9 S) | (refine stiT S.o ?_; clear S; intro w9 S) | (refine wW ?_; dsimp only) | fail)
  (with_reducible refine (VX.out _ _ _ (S.o.grp.get 8 rfl rfl).ints (S.o.grp.get 9 rfl rfl).ints).mono ?_)
  rintro e u9 ⟨rfl, x9⟩
  replace S := kp (S.o.quiet x9)
  clear x9
  go_upto_if 50 with (fail)
  go_wp2_with (first | (refine ldiM S.o ?_) | (refine ldiS S.o ?_) | (refine ldiT S.o ?_) | (refine stiM S.o ?_; clear S; intro w9 S) | (refine stiS S.o ?_; clear S; intro w9 S) | (refine stiT S.o ?_; clear S; intro w9 S) | (refine wW ?_; dsimp only) | fail)
  exact bodyPost_ret (v := zzB) (by exact res4 rfl (by exact (rsiS S.o)) (by exact (rsiM S.o)) (by exact (rsiM S.o)) rfl) rfl ⟨_, _, _, _, rfl, Grp.zero4 _ _, S.o.ext⟩
 cases g2 : ShM.ok ⟨⟨r2, c2, x2⟩, ⟨r3, c3, x3⟩⟩
 ·have hz : mulShOk ⟨⟨r0, c0, x0⟩, ⟨r1, c1, x1⟩⟩ ⟨⟨r2, c2, x2⟩, ⟨r3, c3, x3⟩⟩ ⟨⟨⟨r4, c4, x4⟩, ⟨r5, c5, x5⟩⟩, ⟨⟨r6, c6, x6⟩, ⟨r7, c7, x7⟩⟩, ⟨⟨r8, c8, x8⟩, ⟨r9, c9, x9⟩⟩⟩ = false := by unfold mulShOk; simp only; simp only [g1, g2, Bool.and_false, Bool.false_and]
  rw [MulPost_bad hz]
  clear hz
  unfold MulP4 matZ
  simp only
  have L0 := kp h0.len
  have L1 := kp h1.len
  have L2 := kp h2.len
  have L3 := kp h3.len
  have L4 := kp h4.len
  have L5 := kp h5.len
  have L6 := kp h6.len
  have L7 := kp h7.len
  have L8 := kp h8.len
  have L9 := kp h9.len
  have VX := kp (fun (v u : Value) (w' : World) (h : Ints w' v x0) (k : Ints w' u x1) => spec_SharedMatrixValid r0 c0 r1 c1 v u x0 x1 true g1 w' h k)
  have VY := kp (fun (v u : Value) (w' : World) (h : Ints w' v x2) (k : Ints w' u x3) => spec_SharedMatrixValid r2 c2 r3 c3 v u x2 x3 false g2 w' h k)
  clear g1 g2
  obtain ⟨s0, n0, rfl, hm9, hc9⟩ := id h0.ints
  clear hm9 hc9
  have H0 := kp h0
  clear h0
  obtain ⟨s1, n1, rfl, hm9, hc9⟩ := id h1.ints
  clear hm9 hc9
  have H1 := kp h1
  clear h1
  obtain ⟨s2, n2, rfl, hm9, hc9⟩ := id h2.ints
  clear hm9 hc9
  have H2 := kp h2
  clear h2
  obtain ⟨s3, n3, rfl, hm9, hc9⟩ := id h3.ints
  clear hm9 hc9
  have H3 := kp h3
  clear h3
  obtain ⟨s4, n4, rfl, hm9, hc9⟩ := id h4.ints
  clear hm9 hc9
  have H4 := kp h4
  clear h4
  obtain ⟨s5, n5, rfl, hm9, hc9⟩ := id h5.ints
  clear hm9 hc9
  have H5 := kp h5
  clear h5
  obtain ⟨s6, n6, rfl, hm9, hc9⟩ := id h6.ints
  clear hm9 hc9
  have H6 := kp h6
  clear h6
  obtain ⟨s7, n7, rfl, hm9, hc9⟩ := id h7.ints
  clear hm9 hc9
  have H7 := kp h7
  clear h7
  obtain ⟨s8, n8, rfl, hm9, hc9⟩ := id h8.ints
  clear hm9 hc9
  have H8 := kp h8
  clear h8
  obtain ⟨s9, n9, rfl, hm9, hc9⟩ := id h9.ints
  clear hm9 hc9
  have H9 := kp h9
  clear h9
  have OW0 := kp (fun (w' : World) (hx : Ext w w') => spec_l1OwnSharedMatrix r0 c0 r1 c1 _ _ x0 x1 w' (H0.out.keep hx) (H1.out.keep hx))
  have OW2 := kp (fun (w' : World) (hx : Ext w w') => spec_l1OwnSharedMatrix r2 c2 r3 c3 _ _ x2 x3 w' (H2.out.keep hx) (H3.out.keep hx))
  have OW4 := kp (fun (w' : World) (hx : Ext w w') => spec_l1OwnMatrixTriple r4 c4 r5 c5 r6 c6 r7 c7 r8 c8 r9 c9 _ _ _ _ _ _ x4 x5 x6 x7 x8 x9 w' (H4.out.keep hx) (H5.out.keep hx) (H6.out.keep hx) (H7.out.keep hx) (H8.out.keep hx) (H9.out.keep hx))
  unfold TrGrp at OW4
  have S := kp (St.start w)
  go_enter Tryz.func55, Tryz.ntmps55
  go_wp2_with (first | (refine bxiS (L := []) S.o ?_; clear S; intro b3 w9 S) | (refine bxiS (L := [_]) S.o ?_; clear S; intro b4 w9 S) | (refine bxiT (L := [_, _]) S.o ?_; clear S; intro b5 w9 S) | (refine aliS (L := [_, _, _]) S.o ?_; clear S; intro b6 w9 S) | (refine aliM (L := [_, _, _, _]) S.o ?_; clear S; intro b7 w9 S) | (refine aliM (L := [_, _, _, _, _]) S.o ?_; clear S; intro b8 w9 S) | (refine ldiM S.o ?_) | (refine ldiS S.o ?_) | (refine ldiT S.o ?_) | (refine stiM S.o ?_; clear S; intro w9 S) | (refine stiS S.o ?_; clear S; intro w9 S) | (refine stiT S.o ?_; clear S; intro w9 S) | (refine wW ?_; dsimp only) | fail)
  (with_reducible refine ((OW0.out _ S.o.ext).mono fun e w'' h => ShPost.grp (m := ⟨⟨r0, c0, x0⟩, ⟨r1, c1, x1⟩⟩) h).mono ?_)
  rintro e u9 ⟨u0, u1, rfl, gg, x9⟩
  obtain ⟨p0, m0, hu9, -, -⟩ := id gg.o0.ints
  try simp only at hu9
  subst hu9
  obtain ⟨p1, m1, hu9, -, -⟩ := id gg.o1.ints
  try simp only at hu9
  subst hu9
  replace S := kp (S.o.made2 gg x9)
  clear gg x9
  go_wp2_with (first | (refine ldiM S.o ?_) | (refine ldiS S.o ?_) | (refine ldiT S.o ?_) | (refine stiM S.o ?_; clear S; intro w9 S) | (refine stiS S.o ?_; clear S; intro w9 S) | (refine stiT S.o ?_; clear S; intro w9 S) | (refine wW ?_; dsimp only) | fail)
  (with_reducible refine ((OW2.out _ S.o.ext).mono fun e w'' h => ShPost.grp (m := ⟨⟨r2, c2, x2⟩, ⟨r3, c3, x3⟩⟩) h).mono ?_)
  rintro e u9 ⟨u2, u3, rfl, gg, x9⟩
  obtain ⟨p2, m2, hu9, -, -⟩ := id gg.o0.ints
  try simp only at hu9
  subst hu9
  obtain ⟨p3, m3, hu9, -, -⟩ := id gg.o1.ints
  try simp only at hu9
  subst hu9
  replace S := kp (S.o.made2 gg x9)
  clear gg x9
  go_wp2_with (first | (refine ldiM S.o ?_) | (refine ldiS S.o ?_) | (refine ldiT S.o ?_) | (refine stiM S.o ?_; clear S; intro w9 S) | (refine stiS S.o ?_; clear S; intro w9 S) | (refine stiT S.o ?_; clear S; intro w9 S) | (refine wW ?_; dsimp only) | fail)
  (with_reducible refine (OW4.out _ S.o.ext).mono ?_)
  rintro e u9 ⟨u4, u5, u6, u7, u8, u9, rfl, gg, x9⟩
  obtain ⟨p4, m4, hu9, -, -⟩ := id gg.o0.ints
  try simp only at hu9
  subst hu9
  obtain ⟨p5, m5, hu9, -, -⟩ := id gg.o1.ints
  try simp only at hu9
  subst hu9
  obtain ⟨p6, m6, hu9, -, -⟩ := id gg.o2.ints
  try simp only at hu9
  subst hu9
  obtain ⟨p7, m7, hu9, -, -⟩ := id gg.o3.ints
  try simp only at hu9
  subst hu9
  obtain ⟨p8, m8, hu9, -, -⟩ := id gg.o4.ints
  try simp only at hu9
  subst hu9
  obtain ⟨p9, m9, hu9, -, -⟩ := id gg.o5.ints
  try simp only at hu9
  subst hu9
  replace S := kp (S.o.made6 gg x9)
  clear gg x9
  go_wp2_with (first | (refine ldiM S.o ?_) | (refine ldiS S.o ?_) | (refine ldiT S.o ?_) | (refine stiM S.o ?_; clear S; intro w9 S) | (refine stiS S.o ?_; clear S; intro w9 S) | (refine stiT S.o ?_; clear S; intro w9 S) | (refine wW ?_; dsimp only) | fail)
  (with_reducible refine (VX.out _ _ _ (S.o.grp.get 8 rfl rfl).ints (S.o.grp.get 9 rfl rfl).ints).mono ?_)
  rintro e u9 ⟨rfl, x9⟩
  replace S := kp (S.o.quiet x9)
  clear x9
  go_wp2_with (first | (refine ldiM S.o ?_) | (refine ldiS S.o ?_) | (refine ldiT S.o ?_) | (refine stiM S.o ?_; clear S; intro w9 S) | (refine stiS S.o ?_; clear S; intro w9 S) | (refine stiT S.o ?_; clear S; intro w9 S) | (refine wW ?_; dsimp only) | fail)
  (with_reducible refine (VY.out _ _ _ (S.o.grp.get 6 rfl rfl).ints (S.o.grp.get 7 rfl rfl).ints).mono ?_)
  rintro e u9 ⟨rfl, x9⟩
  replace S := kp (S.o.quiet x9)
  clear x9
  go_upto_if 50 with (fail)
  go_wp2_with (first | (refine ldiM S.o ?_) | (refine ldiS S.o ?_) | (refine ldiT S.o ?_) | (refine stiM S.o ?_; clear S; intro w9 S) | (refine stiS S.o ?_; clear S; intro w9 S) | (refine stiT S.o ?_; clear S; intro w9 S) | (refine wW ?_; dsimp only) | fail)
  exact bodyPost_ret (v := zzB) (by exact res4 rfl (by exact (rsiS S.o)) (by exact (rsiM S.o)) (by exact (rsiM S.o)) rfl) rfl ⟨_, _, _, _, rfl, Grp.zero4 _ _, S.o.ext⟩
 cases g3 : TrM.ok ⟨⟨⟨r4, c4, x4⟩, ⟨r5, c5, x5⟩⟩, ⟨⟨r6, c6, x6⟩, ⟨r7, c7, x7⟩⟩, ⟨⟨r8, c8, x8⟩, ⟨r9, c9, x9⟩⟩⟩
 ·have hz : mulShOk ⟨⟨r0, c0, x0⟩, ⟨r1, c1, x1⟩⟩ ⟨⟨r2, c2, x2⟩, ⟨r3, c3, x3⟩⟩ ⟨⟨⟨r4, c4, x4⟩, ⟨r5, c5, x5⟩⟩, ⟨⟨r6, c6, x6⟩, ⟨r7, c7, x7⟩⟩, ⟨⟨r8, c8, x8⟩, ⟨r9, c9, x9⟩⟩⟩ = false := by unfold mulShOk; simp only; simp only [g1, g2, g3, Bool.and_false, Bool.false_and]
  rw [MulPost_bad hz]
  clear hz
  unfold MulP4 matZ
  simp only
  have L0 := kp h0.len
  have L1 := kp h1.len
  have L2 := kp h2.len
  have L3 := kp h3.len
  have L4 := kp h4.len
  have L5 := kp h5.len
  have L6 := kp h6.len
  have L7 := kp h7.len
  have L8 := kp h8.len
  have L9 := kp h9.len
  have VX := kp (fun (v u : Value) (w' : World) (h : Ints w' v x0) (k : Ints w' u x1) => spec_SharedMatrixValid r0 c0 r1 c1 v u x0 x1 true g1 w' h k)
  have VY := kp (fun (v u : Value) (w' : World) (h : Ints w' v x2) (k : Ints w' u x3) => spec_SharedMatrixValid r2 c2 r3 c3 v u x2 x3 true g2 w' h k)
  have VT := kp (fun (v4 v5 v6 v7 v8 v9 : Value) (w' : World) (h4 : Arg w' v4 x4) (h5 : Arg w' v5 x5) (h6 : Arg w' v6 x6) (h7 : Arg w' v7 x7) (h8 : Arg w' v8 x8) (h9 : Arg w' v9 x9) => spec_MatrixTripleRight r4 c4 r5 c5 r6 c6 r7 c7 r8 c8 r9 c9 v4 v5 v6 v7 v8 v9 x4 x5 x6 x7 x8 x9 w' h4 h5 h6 h7 h8 h9 false g3)
  clear g1 g2 g3
  obtain ⟨s0, n0, rfl, hm9, hc9⟩ := id h0.ints
  clear hm9 hc9
  have H0 := kp h0
  clear h0
  obtain ⟨s1, n1, rfl, hm9, hc9⟩ := id h1.ints
  clear hm9 hc9
  have H1 := kp h1
  clear h1
  obtain ⟨s2, n2, rfl, hm9, hc9⟩ := id h2.ints
  clear hm9 hc9
  have H2 := kp h2
  clear h2
  obtain ⟨s3, n3, rfl, hm9, hc9⟩ := id h3.ints
  clear hm9 hc9
  have H3 := kp h3
  clear h3
  obtain ⟨s4, n4, rfl, hm9, hc9⟩ := id h4.ints
  clear hm9 hc9
  have H4 := kp h4
  clear h4
  obtain ⟨s5, n5, rfl, hm9, hc9⟩ := id h5.ints
  clear hm9 hc9
  have H5 := kp h5
  clear h5
  obtain ⟨s6, n6, rfl, hm9, hc9⟩ := id h6.ints
  clear hm9 hc9
  have H6 := kp h6
  clear h6
  obtain ⟨s7, n7, rfl, hm9, hc9⟩ := id h7.ints
  clear hm9 hc9
  have H7 := kp h7
  clear h7
  obtain ⟨s8, n8, rfl, hm9, hc9⟩ := id h8.ints
  clear hm9 hc9
  have H8 := kp h8
  clear h8
  obtain ⟨s9, n9, rfl, hm9, hc9⟩ := id h9.ints
  clear hm9 hc9
  have H9 := kp h9
  clear h9
  have OW0 := kp (fun (w' : World) (hx : Ext w w') => spec_l1OwnSharedMatrix r0 c0 r1 c1 _ _ x0 x1 w' (H0.out.keep hx) (H1.out.keep hx))
  have OW2 := kp (fun (w' : World) (hx : Ext w w') => spec_l1OwnSharedMatrix r2 c2 r3 c3 _ _ x2 x3 w' (H2.out.keep hx) (H3.out.keep hx))
  have OW4 := kp (fun (w' : World) (hx : Ext w w') => spec_l1OwnMatrixTriple r4 c4 r5 c5 r6 c6 r7 c7 r8 c8 r9 c9 _ _ _ _ _ _ x4 x5 x6 x7 x8 x9 w' (H4.out.keep hx) (H5.out.keep hx) (H6.out.keep hx) (H7.out.keep hx) (H8.out.keep hx) (H9.out.keep hx))
  unfold TrGrp at OW4
  have S := kp (St.start w)
  go_enter Tryz.func55, Tryz.ntmps55
  go_wp2_with (first | (refine bxiS (L := []) S.o ?_; clear S; intro b3 w9 S) | (refine bxiS (L := [_]) S.o ?_; clear S; intro b4 w9 S) | (refine bxiT (L := [_, _]) S.o ?_; clear S; intro b5 w9 S) | (refine aliS (L := [_, _, _]) S.o ?_; clear S; intro b6 w9 S) | (refine aliM (L := [_, _, _, _]) S.o ?_; clear S; intro b7 w9 S) | (refine aliM (L := [_, _, _, _, _]) S.o ?_; clear S; intro b8 w9 S) | (refine ldiM S.o ?_) | (refine ldiS S.o ?_) | (refine ldiT S.o ?_) | (refine stiM S.o ?_; clear S; intro w9 S) | (refine stiS S.o ?_; clear S; intro w9 S) | (refine stiT S.o ?_; clear S; intro w9 S) | (refine wW ?_; dsimp only) | fail)
  (with_reducible refine ((OW0.out _ S.o.ext).mono fun e w'' h => ShPost.grp (m := ⟨⟨r0, c0, x0⟩, ⟨r1, c1, x1⟩⟩) h).mono ?_)
  rintro e u9 ⟨u0, u1, rfl, gg, x9⟩
  obtain ⟨p0, m0, hu9, -, -⟩ := id gg.o0.ints
  try simp only at hu9
  subst hu9
  obtain ⟨p1, m1, hu9, -, -⟩ := id gg.o1.ints
  try simp only at hu9
  subst hu9
  replace S := kp (S.o.made2 gg x9)
  clear gg x9
  go_wp2_with (first | (refine ldiM S.o ?_) | (refine ldiS S.o ?_) | (refine ldiT S.o ?_) | (refine stiM S.o ?_; clear S; intro w9 S) | (refine stiS S.o ?_; clear S; intro w9 S) | (refine stiT S.o ?_; clear S; intro w9 S) | (refine wW ?_; dsimp only) | fail)
  (with_reducible refine ((OW2.out _ S.o.ext).mono fun e w'' h => ShPost.grp (m := ⟨⟨r2, c2, x2⟩, ⟨r3, c3, x3⟩⟩) h).mono ?_)
  rintro e u9 ⟨u2, u3, rfl, gg, x9⟩
  obtain ⟨p2, m2, hu9, -, -⟩ := id gg.o0.ints
  try simp only at hu9
  subst hu9
  obtain ⟨p3, m3, hu9, -, -⟩ := id gg.o1.ints
  try simp only at hu9
  subst hu9
  replace S := kp (S.o.made2 gg x9)
  clear gg x9
  go_wp2_with (first | (refine ldiM S.o ?_) | (refine ldiS S.o ?_) | (refine ldiT S.o ?_) | (refine stiM S.o ?_; clear S; intro w9 S) | (refine stiS S.o ?_; clear S; intro w9 S) | (refine stiT S.o ?_; clear S; intro w9 S) | (refine wW ?_; dsimp only) | fail)
  (with_reducible refine (OW4.out _ S.o.ext).mono ?_)
  rintro e u9 ⟨u4, u5, u6, u7, u8, u9, rfl, gg, x9⟩
  obtain ⟨p4, m4, hu9, -, -⟩ := id gg.o0.ints
  try simp only at hu9
  subst hu9
  obtain ⟨p5, m5, hu9, -, -⟩ := id gg.o1.ints
  try simp only at hu9
  subst hu9
  obtain ⟨p6, m6, hu9, -, -⟩ := id gg.o2.ints
  try simp only at hu9
  subst hu9
  obtain ⟨p7, m7, hu9, -, -⟩ := id gg.o3.ints
  try simp only at hu9
  subst hu9
  obtain ⟨p8, m8, hu9, -, -⟩ := id gg.o4.ints
  try simp only at hu9
  subst hu9
  obtain ⟨p9, m9, hu9, -, -⟩ := id gg.o5.ints
  try simp only at hu9
  subst hu9
  replace S := kp (S.o.made6 gg x9)
  clear gg x9
  go_wp2_with (first | (refine ldiM S.o ?_) | (refine ldiS S.o ?_) | (refine ldiT S.o ?_) | (refine stiM S.o ?_; clear S; intro w9 S) | (refine stiS S.o ?_; clear S; intro w9 S) | (refine stiT S.o ?_; clear S; intro w9 S) | (refine wW ?_; dsimp only) | fail)
  (with_reducible refine (VX.out _ _ _ (S.o.grp.get 8 rfl rfl).ints (S.o.grp.get 9 rfl rfl).ints).mono ?_)
  rintro e u9 ⟨rfl, x9⟩
  replace S := kp (S.o.quiet x9)
  clear x9
  go_wp2_with (first | (refine ldiM S.o ?_) | (refine ldiS S.o ?_) | (refine ldiT S.o ?_) | (refine stiM S.o ?_; clear S; intro w9 S) | (refine stiS S.o ?_; clear S; intro w9 S) | (refine stiT S.o ?_; clear S; intro w9 S) | (refine wW ?_; dsimp only) | fail)
  (with_reducible refine (VY.out _ _ _ (S.o.grp.get 6 rfl rfl).ints (S.o.grp.get 7 rfl rfl).ints).mono ?_)
  rintro e u9 ⟨rfl, x9⟩
  replace S := kp (S.o.quiet x9)
  clear x9
  go_wp2_with (first | (refine ldiM S.o ?_) | (refine ldiS S.o ?_) | (refine ldiT S.o ?_) | (refine stiM S.o ?_; clear S; intro w9 S) | (refine stiS S.o ?_; clear S; intro w9 S) | (refine stiT S.o ?_; clear S; intro w9 S) | (refine wW ?_; dsimp only) | fail)
  (with_reducible refine (VT.out _ _ _ _ _ _ _ ((S.o.grp.get 0 rfl rfl).arg L4.out) ((S.o.grp.get 1 rfl rfl).arg L5.out) ((S.o.grp.get 2 rfl rfl).arg L6.out) ((S.o.grp.get 3 rfl rfl).arg L7.out) ((S.o.grp.get 4 rfl rfl).arg L8.out) ((S.o.grp.get 5 rfl rfl).arg L9.out)).mono ?_)
  rintro e u9 ⟨rfl, x9⟩
  replace S := kp (S.o.quiet x9)
  clear x9
  go_upto_if 50 with (fail)
  go_wp2_with (first | (refine ldiM S.o ?_) | (refine ldiS S.o ?_) | (refine ldiT S.o ?_) | (refine stiM S.o ?_; clear S; intro w9 S) | (refine stiS S.o ?_; clear S; intro w9 S) | (refine stiT S.o ?_; clear S; intro w9 S) | (refine wW ?_; dsimp only) | fail)
  exact bodyPost_ret (v := zzB) (by exact res4 rfl (by exact (rsiS S.o)) (by exact (rsiM S.o)) (by exact (rsiM S.o)) rfl) rfl ⟨_, _, _, _, rfl, Grp.zero4 _ _, S.o.ext⟩
 cases g4 : sameS ⟨r0, c0, x0⟩ ⟨r4, c4, x4⟩
 ·have hz : mulShOk ⟨⟨r0, c0, x0⟩, ⟨r1, c1, x1⟩⟩ ⟨⟨r2, c2, x2⟩, ⟨r3, c3, x3⟩⟩ ⟨⟨⟨r4, c4, x4⟩, ⟨r5, c5, x5⟩⟩, ⟨⟨r6, c6, x6⟩, ⟨r7, c7, x7⟩⟩, ⟨⟨r8, c8, x8⟩, ⟨r9, c9, x9⟩⟩⟩ = false := by unfold mulShOk; simp only; simp only [g1, g2, g3, g4, Bool.and_false, Bool.false_and]
  rw [MulPost_bad hz]
  clear hz
  unfold MulP4 matZ
  simp only
  have L0 := kp h0.len
  have L1 := kp h1.len
  have L2 := kp h2.len
  have L3 := kp h3.len
  have L4 := kp h4.len
  have L5 := kp h5.len
  have L6 := kp h6.len
  have L7 := kp h7.len
  have L8 := kp h8.len
  have L9 := kp h9.len
  obtain ⟨⟨m0, -⟩, -⟩ : (mOk r0 c0 x0 = true ∧ mOk r1 c1 x1 = true) ∧ sameS ⟨r0, c0, x0⟩ ⟨r1, c1, x1⟩ = true := by have a := g1; unfold ShM.ok Mat.ok at a; simpa only [Bool.and_eq_true] using a
  obtain ⟨⟨m2, -⟩, -⟩ : (mOk r2 c2 x2 = true ∧ mOk r3 c3 x3 = true) ∧ sameS ⟨r2, c2, x2⟩ ⟨r3, c3, x3⟩ = true := by have a := g2; unfold ShM.ok Mat.ok at a; simpa only [Bool.and_eq_true] using a
  obtain ⟨m4, m6⟩ : mOk r4 c4 x4 = true ∧ mOk r6 c6 x6 = true := by
   have a := g3
   unfold TrM.ok ShM.ok Mat.ok at a
   simp only [Bool.and_eq_true] at a
   exact ⟨a.1.1.1.1.1, a.1.1.2.1.1⟩
  have VX := kp (fun (v u : Value) (w' : World) (h : Ints w' v x0) (k : Ints w' u x1) => spec_SharedMatrixValid r0 c0 r1 c1 v u x0 x1 true g1 w' h k)
  have VY := kp (fun (v u : Value) (w' : World) (h : Ints w' v x2) (k : Ints w' u x3) => spec_SharedMatrixValid r2 c2 r3 c3 v u x2 x3 true g2 w' h k)
  have VT := kp (fun (v4 v5 v6 v7 v8 v9 : Value) (w' : World) (h4 : Arg w' v4 x4) (h5 : Arg w' v5 x5) (h6 : Arg w' v6 x6) (h7 : Arg w' v7 x7) (h8 : Arg w' v8 x8) (h9 : Arg w' v9 x9) => spec_MatrixTripleRight r4 c4 r5 c5 r6 c6 r7 c7 r8 c8 r9 c9 v4 v5 v6 v7 v8 v9 x4 x5 x6 x7 x8 x9 w' h4 h5 h6 h7 h8 h9 true g3)
  have V4 := kp (fun (v u : Value) (w' : World) (h : Ints w' v x0) (k : Ints w' u x4) => spec_l3Like r0 c0 r4 c4 v u x0 x4 false (by have a := m0; have b := m4; have c := g4; unfold sameS at c; simp only at c; rw [a, b, c]; rfl) w' h k)
  clear m0 m2 m4 m6
  clear g1 g2 g3 g4
  obtain ⟨s0, n0, rfl, hm9, hc9⟩ := id h0.ints
  clear hm9 hc9
  have H0 := kp h0
  clear h0
  obtain ⟨s1, n1, rfl, hm9, hc9⟩ := id h1.ints
  clear hm9 hc9
  have H1 := kp h1
  clear h1
  obtain ⟨s2, n2, rfl, hm9, hc9⟩ := id h2.ints
  clear hm9 hc9
  have H2 := kp h2
  clear h2
  obtain ⟨s3, n3, rfl, hm9, hc9⟩ := id h3.ints
  clear hm9 hc9
  have H3 := kp h3
  clear h3
  obtain ⟨s4, n4, rfl, hm9, hc9⟩ := id h4.ints
  clear hm9 hc9
  have H4 := kp h4
  clear h4
  obtain ⟨s5, n5, rfl, hm9, hc9⟩ := id h5.ints
  clear hm9 hc9
  have H5 := kp h5
  clear h5
  obtain ⟨s6, n6, rfl, hm9, hc9⟩ := id h6.ints
  clear hm9 hc9
  have H6 := kp h6
  clear h6
  obtain ⟨s7, n7, rfl, hm9, hc9⟩ := id h7.ints
  clear hm9 hc9
  have H7 := kp h7
  clear h7
  obtain ⟨s8, n8, rfl, hm9, hc9⟩ := id h8.ints
  clear hm9 hc9
  have H8 := kp h8
  clear h8
  obtain ⟨s9, n9, rfl, hm9, hc9⟩ := id h9.ints
  clear hm9 hc9
  have H9 := kp h9
  clear h9
  have OW0 := kp (fun (w' : World) (hx : Ext w w') => spec_l1OwnSharedMatrix r0 c0 r1 c1 _ _ x0 x1 w' (H0.out.keep hx) (H1.out.keep hx))
  have OW2 := kp (fun (w' : World) (hx : Ext w w') => spec_l1OwnSharedMatrix r2 c2 r3 c3 _ _ x2 x3 w' (H2.out.keep hx) (H3.out.keep hx))
  have OW4 := kp (fun (w' : World) (hx : Ext w w') => spec_l1OwnMatrixTriple r4 c4 r5 c5 r6 c6 r7 c7 r8 c8 r9 c9 _ _ _ _ _ _ x4 x5 x6 x7 x8 x9 w' (H4.out.keep hx) (H5.out.keep hx) (H6.out.keep hx) (H7.out.keep hx) (H8.out.keep hx) (H9.out.keep hx))
  unfold TrGrp at OW4
  have S := kp (St.start w)
  go_enter Tryz.func55, Tryz.ntmps55
  go_wp2_with (first | (refine bxiS (L := []) S.o ?_; clear S; intro b3 w9 S) | (refine bxiS (L := [_]) S.o ?_; clear S; intro b4 w9 S) | (refine bxiT (L := [_, _]) S.o ?_; clear S; intro b5 w9 S) | (refine aliS (L := [_, _, _]) S.o ?_; clear S; intro b6 w9 S) | (refine aliM (L := [_, _, _, _]) S.o ?_; clear S; intro b7 w9 S) | (refine aliM (L := [_, _, _, _, _]) S.o ?_; clear S; intro b8 w9 S) | (refine ldiM S.o ?_) | (refine ldiS S.o ?_) | (refine ldiT S.o ?_) | (refine stiM S.o ?_; clear S; intro w9 S) | (refine stiS S.o ?_; clear S; intro w9 S) | (refine stiT S.o ?_; clear S; intro w9 S) | (refine wW ?_; dsimp only) | fail)
  (with_reducible refine ((OW0.out _ S.o.ext).mono fun e w'' h => ShPost.grp (m := ⟨⟨r0, c0, x0⟩, ⟨r1, c1, x1⟩⟩) h).mono ?_)
  rintro e u9 ⟨u0, u1, rfl, gg, x9⟩
  obtain ⟨p0, m0, hu9, -, -⟩ := id gg.o0.ints
  try simp only at hu9
  subst hu9
  obtain ⟨p1, m1, hu9, -, -⟩ := id gg.o1.ints
  try simp only at hu9
  subst hu9
  replace S := kp (S.o.made2 gg x9)
  clear gg x9
  go_wp2_with (first | (refine ldiM S.o ?_) | (refine ldiS S.o ?_) | (refine ldiT S.o ?_) | (refine stiM S.o ?_; clear S; intro w9 S) | (refine stiS S.o ?_; clear S; intro w9 S) | (refine stiT S.o ?_; clear S; intro w9 S) | (refine wW ?_; dsimp only) | fail)
  (with_reducible refine ((OW2.out _ S.o.ext).mono fun e w'' h => ShPost.grp (m := ⟨⟨r2, c2, x2⟩, ⟨r3, c3, x3⟩⟩) h).mono ?_)
  rintro e u9 ⟨u2, u3, rfl, gg, x9⟩
  obtain ⟨p2, m2, hu9, -, -⟩ := id gg.o0.ints
  try simp only at hu9
  subst hu9
  obtain ⟨p3, m3, hu9, -, -⟩ := id gg.o1.ints
  try simp only at hu9
  subst hu9
  replace S := kp (S.o.made2 gg x9)
  clear gg x9
  go_wp2_with (first | (refine ldiM S.o ?_) | (refine ldiS S.o ?_) | (refine ldiT S.o ?_) | (refine stiM S.o ?_; clear S; intro w9 S) | (refine stiS S.o ?_; clear S; intro w9 S) | (refine stiT S.o ?_; clear S; intro w9 S) | (refine wW ?_; dsimp only) | fail)
  (with_reducible refine (OW4.out _ S.o.ext).mono ?_)
  rintro e u9 ⟨u4, u5, u6, u7, u8, u9, rfl, gg, x9⟩
  obtain ⟨p4, m4, hu9, -, -⟩ := id gg.o0.ints
  try simp only at hu9
  subst hu9
  obtain ⟨p5, m5, hu9, -, -⟩ := id gg.o1.ints
  try simp only at hu9
  subst hu9
  obtain ⟨p6, m6, hu9, -, -⟩ := id gg.o2.ints
  try simp only at hu9
  subst hu9
  obtain ⟨p7, m7, hu9, -, -⟩ := id gg.o3.ints
  try simp only at hu9
  subst hu9
  obtain ⟨p8, m8, hu9, -, -⟩ := id gg.o4.ints
  try simp only at hu9
  subst hu9
  obtain ⟨p9, m9, hu9, -, -⟩ := id gg.o5.ints
  try simp only at hu9
  subst hu9
  replace S := kp (S.o.made6 gg x9)
  clear gg x9
  go_wp2_with (first | (refine ldiM S.o ?_) | (refine ldiS S.o ?_) | (refine ldiT S.o ?_) | (refine stiM S.o ?_; clear S; intro w9 S) | (refine stiS S.o ?_; clear S; intro w9 S) | (refine stiT S.o ?_; clear S; intro w9 S) | (refine wW ?_; dsimp only) | fail)
  (with_reducible refine (VX.out _ _ _ (S.o.grp.get 8 rfl rfl).ints (S.o.grp.get 9 rfl rfl).ints).mono ?_)
  rintro e u9 ⟨rfl, x9⟩
  replace S := kp (S.o.quiet x9)
  clear x9
  go_wp2_with (first | (refine ldiM S.o ?_) | (refine ldiS S.o ?_) | (refine ldiT S.o ?_) | (refine stiM S.o ?_; clear S; intro w9 S) | (refine stiS S.o ?_; clear S; intro w9 S) | (refine stiT S.o ?_; clear S; intro w9 S) | (refine wW ?_; dsimp only) | fail)
  (with_reducible refine (VY.out _ _ _ (S.o.grp.get 6 rfl rfl).ints (S.o.grp.get 7 rfl rfl).ints).mono ?_)
  rintro e u9 ⟨rfl, x9⟩
  replace S := kp (S.o.quiet x9)
  clear x9
  go_wp2_with (first | (refine ldiM S.o ?_) | (refine ldiS S.o ?_) | (refine ldiT S.o ?_) | (refine stiM S.o ?_; clear S; intro w9 S) | (refine stiS S.o ?_; clear S; intro w9 S) | (refine stiT S.o ?_; clear S; intro w9 S) | (refine wW ?_; dsimp only) | fail)
  (with_reducible refine (VT.out _ _ _ _ _ _ _ ((S.o.grp.get 0 rfl rfl).arg L4.out) ((S.o.grp.get 1 rfl rfl).arg L5.out) ((S.o.grp.get 2 rfl rfl).arg L6.out) ((S.o.grp.get 3 rfl rfl).arg L7.out) ((S.o.grp.get 4 rfl rfl).arg L8.out) ((S.o.grp.get 5 rfl rfl).arg L9.out)).mono ?_)
  rintro e u9 ⟨rfl, x9⟩
  replace S := kp (S.o.quiet x9)
  clear x9
  go_wp2_with (first | (refine ldiM S.o ?_) | (refine ldiS S.o ?_) | (refine ldiT S.o ?_) | (refine stiM S.o ?_; clear S; intro w9 S) | (refine stiS S.o ?_; clear S; intro w9 S) | (refine stiT S.o ?_; clear S; intro w9 S) | (refine wW ?_; dsimp only) | fail)
  (with_reducible refine (V4.out _ _ _ (S.o.grp.get 8 rfl rfl).ints (S.o.grp.get 0 rfl rfl).ints).mono ?_)
  rintro e u9 ⟨rfl, x9⟩
  replace S := kp (S.o.quiet x9)
  clear x9
  go_upto_if 50 with (fail)
  go_wp2_with (first | (refine ldiM S.o ?_) | (refine ldiS S.o ?_) | (refine ldiT S.o ?_) | (refine stiM S.o ?_; clear S; intro w9 S) | (refine stiS S.o ?_; clear S; intro w9 S) | (refine stiT S.o ?_; clear S; intro w9 S) | (refine wW ?_; dsimp only) | fail)
  exact bodyPost_ret (v := zzB) (by exact res4 rfl (by exact (rsiS S.o)) (by exact (rsiM S.o)) (by exact (rsiM S.o)) rfl) rfl ⟨_, _, _, _, rfl, Grp.zero4 _ _, S.o.ext⟩
 cases g5 : sameS ⟨r2, c2, x2⟩ ⟨r6, c6, x6⟩
 ·have hz : mulShOk ⟨⟨r0, c0, x0⟩, ⟨r1, c1, x1⟩⟩ ⟨⟨r2, c2, x2⟩, ⟨r3, c3, x3⟩⟩ ⟨⟨⟨r4, c4, x4⟩, ⟨r5, c5, x5⟩⟩, ⟨⟨r6, c6, x6⟩, ⟨r7, c7, x7⟩⟩, ⟨⟨r8, c8, x8⟩, ⟨r9, c9, x9⟩⟩⟩ = false := by unfold mulShOk; simp only; simp only [g1, g2, g3, g4, g5, Bool.and_false, Bool.false_and]
  rw [MulPost_bad hz]
  clear hz
  unfold MulP4 matZ
  simp only
  have L0 := kp h0.len
  have L1 := kp h1.len
  have L2 := kp h2.len
  have L3 := kp h3.len
  have L4 := kp h4.len
  have L5 := kp h5.len
  have L6 := kp h6.len
  have L7 := kp h7.len
  have L8 := kp h8.len
  have L9 := kp h9.len
  obtain ⟨⟨m0, -⟩, -⟩ : (mOk r0 c0 x0 = true ∧ mOk r1 c1 x1 = true) ∧ sameS ⟨r0, c0, x0⟩ ⟨r1, c1, x1⟩ = true := by have a := g1; unfold ShM.ok Mat.ok at a; simpa only [Bool.and_eq_true] using a
  obtain ⟨⟨m2, -⟩, -⟩ : (mOk r2 c2 x2 = true ∧ mOk r3 c3 x3 = true) ∧ sameS ⟨r2, c2, x2⟩ ⟨r3, c3, x3⟩ = true := by have a := g2; unfold ShM.ok Mat.ok at a; simpa only [Bool.and_eq_true] using a
  obtain ⟨m4, m6⟩ : mOk r4 c4 x4 = true ∧ mOk r6 c6 x6 = true := by
   have a := g3
   unfold TrM.ok ShM.ok Mat.ok at a
   simp only [Bool.and_eq_true] at a
   exact ⟨a.1.1.1.1.1, a.1.1.2.1.1⟩
  have VX := kp (fun (v u : Value) (w' : World) (h : Ints w' v x0) (k : Ints w' u x1) => spec_SharedMatrixValid r0 c0 r1 c1 v u x0 x1 true g1 w' h k)
  have VY := kp (fun (v u : Value) (w' : World) (h : Ints w' v x2) (k : Ints w' u x3) => spec_SharedMatrixValid r2 c2 r3 c3 v u x2 x3 true g2 w' h k)
  have VT := kp (fun (v4 v5 v6 v7 v8 v9 : Value) (w' : World) (h4 : Arg w' v4 x4) (h5 : Arg w' v5 x5) (h6 : Arg w' v6 x6) (h7 : Arg w' v7 x7) (h8 : Arg w' v8 x8) (h9 : Arg w' v9 x9) => spec_MatrixTripleRight r4 c4 r5 c5 r6 c6 r7 c7 r8 c8 r9 c9 v4 v5 v6 v7 v8 v9 x4 x5 x6 x7 x8 x9 w' h4 h5 h6 h7 h8 h9 true g3)
  have V4 := kp (fun (v u : Value) (w' : World) (h : Ints w' v x0) (k : Ints w' u x4) => spec_l3Like r0 c0 r4 c4 v u x0 x4 true (by have a := m0; have b := m4; have c := g4; unfold sameS at c; simp only at c; rw [a, b, c]; rfl) w' h k)
  have V5 := kp (fun (v u : Value) (w' : World) (h : Ints w' v x2) (k : Ints w' u x6) => spec_l3Like r2 c2 r6 c6 v u x2 x6 false (by have a := m2; have b := m6; have c := g5; unfold sameS at c; simp only at c; rw [a, b, c]; rfl) w' h k)
  clear m0 m2 m4 m6
  clear g1 g2 g3 g4 g5
  obtain ⟨s0, n0, rfl, hm9, hc9⟩ := id h0.ints
  clear hm9 hc9
  have H0 := kp h0
  clear h0
  obtain ⟨s1, n1, rfl, hm9, hc9⟩ := id h1.ints
  clear hm9 hc9
  have H1 := kp h1
  clear h1
  obtain ⟨s2, n2, rfl, hm9, hc9⟩ := id h2.ints
  clear hm9 hc9
  have H2 := kp h2
  clear h2
  obtain ⟨s3, n3, rfl, hm9, hc9⟩ := id h3.ints
  clear hm9 hc9
  have H3 := kp h3
  clear h3
  obtain ⟨s4, n4, rfl, hm9, hc9⟩ := id h4.ints
  clear hm9 hc9
  have H4 := kp h4
  clear h4
  obtain ⟨s5, n5, rfl, hm9, hc9⟩ := id h5.ints
  clear hm9 hc9
  have H5 := kp h5
  clear h5
  obtain ⟨s6, n6, rfl, hm9, hc9⟩ := id h6.ints
  clear hm9 hc9
  have H6 := kp h6
  clear h6
  obtain ⟨s7, n7, rfl, hm9, hc9⟩ := id h7.ints
  clear hm9 hc9
  have H7 := kp h7
  clear h7
  obtain ⟨s8, n8, rfl, hm9, hc9⟩ := id h8.ints
  clear hm9 hc9
  have H8 := kp h8
  clear h8
  obtain ⟨s9, n9, rfl, hm9, hc9⟩ := id h9.ints
  clear hm9 hc9
  have H9 := kp h9
  clear h9
  have OW0 := kp (fun (w' : World) (hx : Ext w w') => spec_l1OwnSharedMatrix r0 c0 r1 c1 _ _ x0 x1 w' (H0.out.keep hx) (H1.out.keep hx))
  have OW2 := kp (fun (w' : World) (hx : Ext w w') => spec_l1OwnSharedMatrix r2 c2 r3 c3 _ _ x2 x3 w' (H2.out.keep hx) (H3.out.keep hx))
  have OW4 := kp (fun (w' : World) (hx : Ext w w') => spec_l1OwnMatrixTriple r4 c4 r5 c5 r6 c6 r7 c7 r8 c8 r9 c9 _ _ _ _ _ _ x4 x5 x6 x7 x8 x9 w' (H4.out.keep hx) (H5.out.keep hx) (H6.out.keep hx) (H7.out.keep hx) (H8.out.keep hx) (H9.out.keep hx))
  unfold TrGrp at OW4
  have S := kp (St.start w)
  go_enter Tryz.func55, Tryz.ntmps55
  go_wp2_with (first | (refine bxiS (L := []) S.o ?_; clear S; intro b3 w9 S) | (refine bxiS (L := [_]) S.o ?_; clear S; intro b4 w9 S) | (refine bxiT (L := [_, _]) S.o ?_; clear S; intro b5 w9 S) | (refine aliS (L := [_, _, _]) S.o ?_; clear S; intro b6 w9 S) | (refine aliM (L := [_, _, _, _]) S.o ?_; clear S; intro b7 w9 S) | (refine aliM (L := [_, _, _, _, _]) S.o ?_; clear S; intro b8 w9 S) | (refine ldiM S.o ?_) | (refine ldiS S.o ?_) | (refine ldiT S.o ?_) | (refine stiM S.o ?_; clear S; intro w9 S) | (refine stiS S.o ?_; clear S; intro w9 S) | (refine stiT S.o ?_; clear S; intro w9 S) | (refine wW ?_; dsimp only) | fail)
  (with_reducible refine ((OW0.out _ S.o.ext).mono fun e w'' h => ShPost.grp (m := ⟨⟨r0, c0, x0⟩, ⟨r1, c1, x1⟩⟩) h).mono ?_)
  rintro e u9 ⟨u0, u1, rfl, gg, x9⟩
  obtain ⟨p0, m0, hu9, -, -⟩ := id gg.o0.ints
  try simp only at hu9
  subst hu9
  obtain ⟨p1, m1, hu9, -, -⟩ := id gg.o1.ints
  try simp only at hu9
  subst hu9
  replace S := kp (S.o.made2 gg x9)
  clear gg x9
  go_wp2_with (first | (refine ldiM S.o ?_) | (refine ldiS S.o ?_) | (refine ldiT S.o ?_) | (refine stiM S.o ?_; clear S; intro w9 S) | (refine stiS S.o ?_; clear S; intro w9 S) | (refine stiT S.o ?_; clear S; intro w9 S) | (refine wW ?_; dsimp only) | fail)
  (with_reducible refine ((OW2.out _ S.o.ext).mono fun e w'' h => ShPost.grp (m := ⟨⟨r2, c2, x2⟩, ⟨r3, c3, x3⟩⟩) h).mono ?_)
  rintro e u9 ⟨u2, u3, rfl, gg, x9⟩
  obtain ⟨p2, m2, hu9, -, -⟩ := id gg.o0.ints
  try simp only at hu9
  subst hu9
  obtain ⟨p3, m3, hu9, -, -⟩ := id gg.o1.ints
  try simp only at hu9
  subst hu9
  replace S := kp (S.o.made2 gg x9)
  clear gg x9
  go_wp2_with (first | (refine ldiM S.o ?_) | (refine ldiS S.o ?_) | (refine ldiT S.o ?_) | (refine stiM S.o ?_; clear S; intro w9 S) | (refine stiS S.o ?_; clear S; intro w9 S) | (refine stiT S.o ?_; clear S; intro w9 S) | (refine wW ?_; dsimp only) | fail)
  (with_reducible refine (OW4.out _ S.o.ext).mono ?_)
  rintro e u9 ⟨u4, u5, u6, u7, u8, u9, rfl, gg, x9⟩
  obtain ⟨p4, m4, hu9, -, -⟩ := id gg.o0.ints
  try simp only at hu9
  subst hu9
  obtain ⟨p5, m5, hu9, -, -⟩ := id gg.o1.ints
  try simp only at hu9
  subst hu9
  obtain ⟨p6, m6, hu9, -, -⟩ := id gg.o2.ints
  try simp only at hu9
  subst hu9
  obtain ⟨p7, m7, hu9, -, -⟩ := id gg.o3.ints
  try simp only at hu9
  subst hu9
  obtain ⟨p8, m8, hu9, -, -⟩ := id gg.o4.ints
  try simp only at hu9
  subst hu9
  obtain ⟨p9, m9, hu9, -, -⟩ := id gg.o5.ints
  try simp only at hu9
  subst hu9
  replace S := kp (S.o.made6 gg x9)
  clear gg x9
  go_wp2_with (first | (refine ldiM S.o ?_) | (refine ldiS S.o ?_) | (refine ldiT S.o ?_) | (refine stiM S.o ?_; clear S; intro w9 S) | (refine stiS S.o ?_; clear S; intro w9 S) | (refine stiT S.o ?_; clear S; intro w9 S) | (refine wW ?_; dsimp only) | fail)
  (with_reducible refine (VX.out _ _ _ (S.o.grp.get 8 rfl rfl).ints (S.o.grp.get 9 rfl rfl).ints).mono ?_)
  rintro e u9 ⟨rfl, x9⟩
  replace S := kp (S.o.quiet x9)
  clear x9
  go_wp2_with (first | (refine ldiM S.o ?_) | (refine ldiS S.o ?_) | (refine ldiT S.o ?_) | (refine stiM S.o ?_; clear S; intro w9 S) | (refine stiS S.o ?_; clear S; intro w9 S) | (refine stiT S.o ?_; clear S; intro w9 S) | (refine wW ?_; dsimp only) | fail)
  (with_reducible refine (VY.out _ _ _ (S.o.grp.get 6 rfl rfl).ints (S.o.grp.get 7 rfl rfl).ints).mono ?_)
  rintro e u9 ⟨rfl, x9⟩
  replace S := kp (S.o.quiet x9)
  clear x9
  go_wp2_with (first | (refine ldiM S.o ?_) | (refine ldiS S.o ?_) | (refine ldiT S.o ?_) | (refine stiM S.o ?_; clear S; intro w9 S) | (refine stiS S.o ?_; clear S; intro w9 S) | (refine stiT S.o ?_; clear S; intro w9 S) | (refine wW ?_; dsimp only) | fail)
  (with_reducible refine (VT.out _ _ _ _ _ _ _ ((S.o.grp.get 0 rfl rfl).arg L4.out) ((S.o.grp.get 1 rfl rfl).arg L5.out) ((S.o.grp.get 2 rfl rfl).arg L6.out) ((S.o.grp.get 3 rfl rfl).arg L7.out) ((S.o.grp.get 4 rfl rfl).arg L8.out) ((S.o.grp.get 5 rfl rfl).arg L9.out)).mono ?_)
  rintro e u9 ⟨rfl, x9⟩
  replace S := kp (S.o.quiet x9)
  clear x9
  go_wp2_with (first | (refine ldiM S.o ?_) | (refine ldiS S.o ?_) | (refine ldiT S.o ?_) | (refine stiM S.o ?_; clear S; intro w9 S) | (refine stiS S.o ?_; clear S; intro w9 S) | (refine stiT S.o ?_; clear S; intro w9 S) | (refine wW ?_; dsimp only) | fail)
  (with_reducible refine (V4.out _ _ _ (S.o.grp.get 8 rfl rfl).ints (S.o.grp.get 0 rfl rfl).ints).mono ?_)
  rintro e u9 ⟨rfl, x9⟩
  replace S := kp (S.o.quiet x9)
  clear x9
  go_wp2_with (first | (refine ldiM S.o ?_) | (refine ldiS S.o ?_) | (refine ldiT S.o ?_) | (refine stiM S.o ?_; clear S; intro w9 S) | (refine stiS S.o ?_; clear S; intro w9 S) | (refine stiT S.o ?_; clear S; intro w9 S) | (refine wW ?_; dsimp only) | fail)
  (with_reducible refine (V5.out _ _ _ (S.o.grp.get 6 rfl rfl).ints (S.o.grp.get 2 rfl rfl).ints).mono ?_)
  rintro e u9 ⟨rfl, x9⟩
  replace S := kp (S.o.quiet x9)
  clear x9
  go_upto_if 50 with (fail)
  go_wp2_with (first | (refine ldiM S.o ?_) | (refine ldiS S.o ?_) | (refine ldiT S.o ?_) | (refine stiM S.o ?_; clear S; intro w9 S) | (refine stiS S.o ?_; clear S; intro w9 S) | (refine stiT S.o ?_; clear S; intro w9 S) | (refine wW ?_; dsimp only) | fail)
  exact bodyPost_ret (v := zzB) (by exact res4 rfl (by exact (rsiS S.o)) (by exact (rsiM S.o)) (by exact (rsiM S.o)) rfl) rfl ⟨_, _, _, _, rfl, Grp.zero4 _ _, S.o.ext⟩
 have hz : mulShOk ⟨⟨r0, c0, x0⟩, ⟨r1, c1, x1⟩⟩ ⟨⟨r2, c2, x2⟩, ⟨r3, c3, x3⟩⟩ ⟨⟨⟨r4, c4, x4⟩, ⟨r5, c5, x5⟩⟩, ⟨⟨r6, c6, x6⟩, ⟨r7, c7, x7⟩⟩, ⟨⟨r8, c8, x8⟩, ⟨r9, c9, x9⟩⟩⟩ = true := by unfold mulShOk; simp only; simp only [g1, g2, g3, g4, g5, Bool.and_self]
 rw [MulPost_ok hz]
 clear hz
 unfold MulP4 mulShF mulShS opD
 simp only
 have L0 := kp h0.len
 have L1 := kp h1.len
 have L2 := kp h2.len
 have L3 := kp h3.len
 have L4 := kp h4.len
 have L5 := kp h5.len
 have L6 := kp h6.len
 have L7 := kp h7.len
 have L8 := kp h8.len
 have L9 := kp h9.len
 obtain ⟨⟨m0, -⟩, -⟩ : (mOk r0 c0 x0 = true ∧ mOk r1 c1 x1 = true) ∧ sameS ⟨r0, c0, x0⟩ ⟨r1, c1, x1⟩ = true := by have a := g1; unfold ShM.ok Mat.ok at a; simpa only [Bool.and_eq_true] using a
 obtain ⟨⟨m2, -⟩, -⟩ : (mOk r2 c2 x2 = true ∧ mOk r3 c3 x3 = true) ∧ sameS ⟨r2, c2, x2⟩ ⟨r3, c3, x3⟩ = true := by have a := g2; unfold ShM.ok Mat.ok at a; simpa only [Bool.and_eq_true] using a
 obtain ⟨m4, m6⟩ : mOk r4 c4 x4 = true ∧ mOk r6 c6 x6 = true := by
  have a := g3
  unfold TrM.ok ShM.ok Mat.ok at a
  simp only [Bool.and_eq_true] at a
  exact ⟨a.1.1.1.1.1, a.1.1.2.1.1⟩
 have VX := kp (fun (v u : Value) (w' : World) (h : Ints w' v x0) (k : Ints w' u x1) => spec_SharedMatrixValid r0 c0 r1 c1 v u x0 x1 true g1 w' h k)
 have VY := kp (fun (v u : Value) (w' : World) (h : Ints w' v x2) (k : Ints w' u x3) => spec_SharedMatrixValid r2 c2 r3 c3 v u x2 x3 true g2 w' h k)
 have VT := kp (fun (v4 v5 v6 v7 v8 v9 : Value) (w' : World) (h4 : Arg w' v4 x4) (h5 : Arg w' v5 x5) (h6 : Arg w' v6 x6) (h7 : Arg w' v7 x7) (h8 : Arg w' v8 x8) (h9 : Arg w' v9 x9) => spec_MatrixTripleRight r4 c4 r5 c5 r6 c6 r7 c7 r8 c8 r9 c9 v4 v5 v6 v7 v8 v9 x4 x5 x6 x7 x8 x9 w' h4 h5 h6 h7 h8 h9 true g3)
 have V4 := kp (fun (v u : Value) (w' : World) (h : Ints w' v x0) (k : Ints w' u x4) => spec_l3Like r0 c0 r4 c4 v u x0 x4 true (by have a := m0; have b := m4; have c := g4; unfold sameS at c; simp only at c; rw [a, b, c]; rfl) w' h k)
 have V5 := kp (fun (v u : Value) (w' : World) (h : Ints w' v x2) (k : Ints w' u x6) => spec_l3Like r2 c2 r6 c6 v u x2 x6 true (by have a := m2; have b := m6; have c := g5; unfold sameS at c; simp only at c; rw [a, b, c]; rfl) w' h k)
 clear m0 m2 m4 m6
 clear g1 g2 g3 g4 g5
 have JX := kp (fun (v u : Value) (w' : World) (h : Arg w' v x0) (k : Arg w' u x1) => spec_JoinMatrix r0 c0 r1 c1 v u x0 x1 w' h k)
 unfold MatPost at JX
 have Ljxs := kp (join_len ⟨⟨r0, c0, x0⟩, ⟨r1, c1, x1⟩⟩)
 generalize joinM ⟨⟨r0, c0, x0⟩, ⟨r1, c1, x1⟩⟩ = Djx at *
 obtain ⟨jxr, jxc, jxs⟩ := Djx
 simp only at JX Ljxs
 have JA := kp (fun (v u : Value) (w' : World) (h : Arg w' v x4) (k : Arg w' u x5) => spec_JoinMatrix r4 c4 r5 c5 v u x4 x5 w' h k)
 unfold MatPost at JA
 have Ljas := kp (join_len ⟨⟨r4, c4, x4⟩, ⟨r5, c5, x5⟩⟩)
 generalize joinM ⟨⟨r4, c4, x4⟩, ⟨r5, c5, x5⟩⟩ = Dja at *
 obtain ⟨jar, jac, jas⟩ := Dja
 simp only at JA Ljas
 have JY := kp (fun (v u : Value) (w' : World) (h : Arg w' v x2) (k : Arg w' u x3) => spec_JoinMatrix r2 c2 r3 c3 v u x2 x3 w' h k)
 unfold MatPost at JY
 have Ljys := kp (join_len ⟨⟨r2, c2, x2⟩, ⟨r3, c3, x3⟩⟩)
 generalize joinM ⟨⟨r2, c2, x2⟩, ⟨r3, c3, x3⟩⟩ = Djy at *
 obtain ⟨jyr, jyc, jys⟩ := Djy
 simp only at JY Ljys
 have JB := kp (fun (v u : Value) (w' : World) (h : Arg w' v x6) (k : Arg w' u x7) => spec_JoinMatrix r6 c6 r7 c7 v u x6 x7 w' h k)
 unfold MatPost at JB
 have Ljbs := kp (join_len ⟨⟨r6, c6, x6⟩, ⟨r7, c7, x7⟩⟩)
 generalize joinM ⟨⟨r6, c6, x6⟩, ⟨r7, c7, x7⟩⟩ = Djb at *
 obtain ⟨jbr, jbc, jbs⟩ := Djb
 simp only at JB Ljbs
 have SD := kp (fun (v u : Value) (w' : World) (h : Arg w' v jxs) (k : Arg w' u jas) => spec_SubMatrices jxr jxc jar jac v u jxs jas w' h k)
 unfold MatPost at SD
 have Lds := kp (pairM_len subR ⟨jxr, jxc, jxs⟩ ⟨jar, jac, jas⟩)
 rw [show pairM subR = subM from rfl] at Lds
 generalize subM ⟨jxr, jxc, jxs⟩ ⟨jar, jac, jas⟩ = Dd at *
 obtain ⟨dr, dc, ds⟩ := Dd
 simp only at SD Lds ⊢
 have SE := kp (fun (v u : Value) (w' : World) (h : Arg w' v jys) (k : Arg w' u jbs) => spec_SubMatrices jyr jyc jbr jbc v u jys jbs w' h k)
 unfold MatPost at SE
 have Les := kp (pairM_len subR ⟨jyr, jyc, jys⟩ ⟨jbr, jbc, jbs⟩)
 rw [show pairM subR = subM from rfl] at Les
 generalize subM ⟨jyr, jyc, jys⟩ ⟨jbr, jbc, jbs⟩ = De at *
 obtain ⟨er, ec, es⟩ := De
 simp only at SE Les ⊢
 have M1 := kp (fun (v u : Value) (w' : World) (h : Arg w' v ds) (k : Arg w' u x6) => spec_MulMatrices dr dc r6 c6 v u ds x6 w' h k)
 unfold MatPost at M1
 have Lps := kp (mulM_len ⟨dr, dc, ds⟩ ⟨r6, c6, x6⟩)
 generalize mulM ⟨dr, dc, ds⟩ ⟨r6, c6, x6⟩ = Dp at *
 obtain ⟨pr, pc, ps⟩ := Dp
 simp only at M1 Lps ⊢
 have M2 := kp (fun (v u : Value) (w' : World) (h : Arg w' v x4) (k : Arg w' u es) => spec_MulMatrices r4 c4 er ec v u x4 es w' h k)
 unfold MatPost at M2
 have Lqs := kp (mulM_len ⟨r4, c4, x4⟩ ⟨er, ec, es⟩)
 generalize mulM ⟨r4, c4, x4⟩ ⟨er, ec, es⟩ = Dq at *
 obtain ⟨qr, qc, qs⟩ := Dq
 simp only at M2 Lqs ⊢
 have M3 := kp (fun (v u : Value) (w' : World) (h : Arg w' v ds) (k : Arg w' u es) => spec_MulMatrices dr dc er ec v u ds es w' h k)
 unfold MatPost at M3
 have Los := kp (mulM_len ⟨dr, dc, ds⟩ ⟨er, ec, es⟩)
 generalize mulM ⟨dr, dc, ds⟩ ⟨er, ec, es⟩ = Do at *
 obtain ⟨or, oc, os⟩ := Do
 simp only at M3 Los ⊢
 have N1 := kp (fun (v u : Value) (w' : World) (h : Arg w' v ds) (k : Arg w' u x7) => spec_MulMatrices dr dc r7 c7 v u ds x7 w' h k)
 unfold MatPost at N1
 have Lis := kp (mulM_len ⟨dr, dc, ds⟩ ⟨r7, c7, x7⟩)
 generalize mulM ⟨dr, dc, ds⟩ ⟨r7, c7, x7⟩ = Di at *
 obtain ⟨ir, ic, is⟩ := Di
 simp only at N1 Lis ⊢
 have N2 := kp (fun (v u : Value) (w' : World) (h : Arg w' v x5) (k : Arg w' u es) => spec_MulMatrices r5 c5 er ec v u x5 es w' h k)
 unfold MatPost at N2
 have Ljs := kp (mulM_len ⟨r5, c5, x5⟩ ⟨er, ec, es⟩)
 generalize mulM ⟨r5, c5, x5⟩ ⟨er, ec, es⟩ = Dj at *
 obtain ⟨jr, jc, js⟩ := Dj
 simp only at N2 Ljs ⊢
 have A1 := kp (fun (v u : Value) (w' : World) (h : Arg w' v x8) (k : Arg w' u ps) => spec_AddMatrices r8 c8 pr pc v u x8 ps w' h k)
 unfold MatPost at A1
 have Lks := kp (pairM_len addR ⟨r8, c8, x8⟩ ⟨pr, pc, ps⟩)
 rw [show pairM addR = addM from rfl] at Lks
 generalize addM ⟨r8, c8, x8⟩ ⟨pr, pc, ps⟩ = Dk at *
 obtain ⟨kr, kc, ks⟩ := Dk
 simp only at A1 Lks ⊢
 have A2 := kp (fun (v u : Value) (w' : World) (h : Arg w' v ks) (k : Arg w' u qs) => spec_AddMatrices kr kc qr qc v u ks qs w' h k)
 unfold MatPost at A2
 have Lbs := kp (pairM_len addR ⟨kr, kc, ks⟩ ⟨qr, qc, qs⟩)
 rw [show pairM addR = addM from rfl] at Lbs
 generalize addM ⟨kr, kc, ks⟩ ⟨qr, qc, qs⟩ = Db at *
 obtain ⟨br, bc, bs⟩ := Db
 simp only at A2 Lbs ⊢
 have A3 := kp (fun (v u : Value) (w' : World) (h : Arg w' v bs) (k : Arg w' u os) => spec_AddMatrices br bc or oc v u bs os w' h k)
 unfold MatPost at A3
 have Lfs := kp (pairM_len addR ⟨br, bc, bs⟩ ⟨or, oc, os⟩)
 rw [show pairM addR = addM from rfl] at Lfs
 generalize addM ⟨br, bc, bs⟩ ⟨or, oc, os⟩ = Df at *
 obtain ⟨fr, fc, fs⟩ := Df
 simp only at A3 Lfs ⊢
 have B1 := kp (fun (v u : Value) (w' : World) (h : Arg w' v x9) (k : Arg w' u is) => spec_AddMatrices r9 c9 ir ic v u x9 is w' h k)
 unfold MatPost at B1
 have Lgs := kp (pairM_len addR ⟨r9, c9, x9⟩ ⟨ir, ic, is⟩)
 rw [show pairM addR = addM from rfl] at Lgs
 generalize addM ⟨r9, c9, x9⟩ ⟨ir, ic, is⟩ = Dg at *
 obtain ⟨gr, gc, gs⟩ := Dg
 simp only at B1 Lgs ⊢
 have B2 := kp (fun (v u : Value) (w' : World) (h : Arg w' v gs) (k : Arg w' u js) => spec_AddMatrices gr gc jr jc v u gs js w' h k)
 unfold MatPost at B2
 have Lss := kp (pairM_len addR ⟨gr, gc, gs⟩ ⟨jr, jc, js⟩)
 rw [show pairM addR = addM from rfl] at Lss
 generalize addM ⟨gr, gc, gs⟩ ⟨jr, jc, js⟩ = Ds at *
 obtain ⟨sr, sc, ss⟩ := Ds
 simp only at B2 Lss ⊢
 obtain ⟨s0, n0, rfl, hm9, hc9⟩ := id h0.ints
 clear hm9 hc9
 have H0 := kp h0
 clear h0
 obtain ⟨s1, n1, rfl, hm9, hc9⟩ := id h1.ints
 clear hm9 hc9
 have H1 := kp h1
 clear h1
 obtain ⟨s2, n2, rfl, hm9, hc9⟩ := id h2.ints
 clear hm9 hc9
 have H2 := kp h2
 clear h2
 obtain ⟨s3, n3, rfl, hm9, hc9⟩ := id h3.ints
 clear hm9 hc9
 have H3 := kp h3
 clear h3
 obtain ⟨s4, n4, rfl, hm9, hc9⟩ := id h4.ints
 clear hm9 hc9
 have H4 := kp h4
 clear h4
 obtain ⟨s5, n5, rfl, hm9, hc9⟩ := id h5.ints
 clear hm9 hc9
 have H5 := kp h5
 clear h5
 obtain ⟨s6, n6, rfl, hm9, hc9⟩ := id h6.ints
 clear hm9 hc9
 have H6 := kp h6
 clear h6
 obtain ⟨s7, n7, rfl, hm9, hc9⟩ := id h7.ints
 clear hm9 hc9
 have H7 := kp h7
 clear h7
 obtain ⟨s8, n8, rfl, hm9, hc9⟩ := id h8.ints
 clear hm9 hc9
 have H8 := kp h8
 clear h8
 obtain ⟨s9, n9, rfl, hm9, hc9⟩ := id h9.ints
 clear hm9 hc9
 have H9 := kp h9
 clear h9
 have OW0 := kp (fun (w' : World) (hx : Ext w w') => spec_l1OwnSharedMatrix r0 c0 r1 c1 _ _ x0 x1 w' (H0.out.keep hx) (H1.out.keep hx))
 have OW2 := kp (fun (w' : World) (hx : Ext w w') => spec_l1OwnSharedMatrix r2 c2 r3 c3 _ _ x2 x3 w' (H2.out.keep hx) (H3.out.keep hx))
 have OW4 := kp (fun (w' : World) (hx : Ext w w') => spec_l1OwnMatrixTriple r4 c4 r5 c5 r6 c6 r7 c7 r8 c8 r9 c9 _ _ _ _ _ _ x4 x5 x6 x7 x8 x9 w' (H4.out.keep hx) (H5.out.keep hx) (H6.out.keep hx) (H7.out.keep hx) (H8.out.keep hx) (H9.out.keep hx))
 unfold TrGrp at OW4
 have S := kp (St.start w)
 go_enter Tryz.func55, Tryz.ntmps55
 go_wp2_with (first | (refine bxiS (L := []) S.o ?_; clear S; intro b3 w9 S) | (refine bxiS (L := [_]) S.o ?_; clear S; intro b4 w9 S) | (refine bxiT (L := [_, _]) S.o ?_; clear S; intro b5 w9 S) | (refine aliS (L := [_, _, _]) S.o ?_; clear S; intro b6 w9 S) | (refine aliM (L := [_, _, _, _]) S.o ?_; clear S; intro b7 w9 S) | (refine aliM (L := [_, _, _, _, _]) S.o ?_; clear S; intro b8 w9 S) | (refine ldiM S.o ?_) | (refine ldiS S.o ?_) | (refine ldiT S.o ?_) | (refine stiM S.o ?_; clear S; intro w9 S) | (refine stiS S.o ?_; clear S; intro w9 S) | (refine stiT S.o ?_; clear S; intro w9 S) | (refine wW ?_; dsimp only) | fail)
 (with_reducible refine ((OW0.out _ S.o.ext).mono fun e w'' h => ShPost.grp (m := ⟨⟨r0, c0, x0⟩, ⟨r1, c1, x1⟩⟩) h).mono ?_)
 rintro e u9 ⟨u0, u1, rfl, gg, x9⟩
 obtain ⟨p0, m0, hu9, -, -⟩ := id gg.o0.ints
 try simp only at hu9
 subst hu9
 obtain ⟨p1, m1, hu9, -, -⟩ := id gg.o1.ints
 try simp only at hu9
 subst hu9
 replace S := kp (S.o.made2 gg x9)
 clear gg x9
 go_wp2_with (first | (refine ldiM S.o ?_) | (refine ldiS S.o ?_) | (refine ldiT S.o ?_) | (refine stiM S.o ?_; clear S; intro w9 S) | (refine stiS S.o ?_; clear S; intro w9 S) | (refine stiT S.o ?_; clear S; intro w9 S) | (refine wW ?_; dsimp only) | fail)
 (with_reducible refine ((OW2.out _ S.o.ext).mono fun e w'' h => ShPost.grp (m := ⟨⟨r2, c2, x2⟩, ⟨r3, c3, x3⟩⟩) h).mono ?_)
 rintro e u9 ⟨u2, u3, rfl, gg, x9⟩
 obtain ⟨p2, m2, hu9, -, -⟩ := id gg.o0.ints
 try simp only at hu9
 subst hu9
 obtain ⟨p3, m3, hu9, -, -⟩ := id gg.o1.ints
 try simp only at hu9
 subst hu9
 replace S := kp (S.o.made2 gg x9)
 clear gg x9
 go_wp2_with (first | (refine ldiM S.o ?_) | (refine ldiS S.o ?_) | (refine ldiT S.o ?_) | (refine stiM S.o ?_; clear S; intro w9 S) | (refine stiS S.o ?_; clear S; intro w9 S) | (refine stiT S.o ?_; clear S; intro w9 S) | (refine wW ?_; dsimp only) | fail)
 (with_reducible refine (OW4.out _ S.o.ext).mono ?_)
 rintro e u9 ⟨u4, u5, u6, u7, u8, u9, rfl, gg, x9⟩
 obtain ⟨p4, m4, hu9, -, -⟩ := id gg.o0.ints
 try simp only at hu9
 subst hu9
 obtain ⟨p5, m5, hu9, -, -⟩ := id gg.o1.ints
 try simp only at hu9
 subst hu9
 obtain ⟨p6, m6, hu9, -, -⟩ := id gg.o2.ints
 try simp only at hu9
 subst hu9
 obtain ⟨p7, m7, hu9, -, -⟩ := id gg.o3.ints
 try simp only at hu9
 subst hu9
 obtain ⟨p8, m8, hu9, -, -⟩ := id gg.o4.ints
 try simp only at hu9
 subst hu9
 obtain ⟨p9, m9, hu9, -, -⟩ := id gg.o5.ints
 try simp only at hu9
 subst hu9
 replace S := kp (S.o.made6 gg x9)
 clear gg x9
 go_wp2_with (first | (refine ldiM S.o ?_) | (refine ldiS S.o ?_) | (refine ldiT S.o ?_) | (refine stiM S.o ?_; clear S; intro w9 S) | (refine stiS S.o ?_; clear S; intro w9 S) | (refine stiT S.o ?_; clear S; intro w9 S) | (refine wW ?_; dsimp only) | fail)
 (with_reducible refine (VX.out _ _ _ (S.o.grp.get 8 rfl rfl).ints (S.o.grp.get 9 rfl rfl).ints).mono ?_)
 rintro e u9 ⟨rfl, x9⟩
 replace S := kp (S.o.quiet x9)
 clear x9
 go_wp2_with (first | (refine ldiM S.o ?_) | (refine ldiS S.o ?_) | (refine ldiT S.o ?_) | (refine stiM S.o ?_; clear S; intro w9 S) | (refine stiS S.o ?_; clear S; intro w9 S) | (refine stiT S.o ?_; clear S; intro w9 S) | (refine wW ?_; dsimp only) | fail)
 (with_reducible refine (VY.out _ _ _ (S.o.grp.get 6 rfl rfl).ints (S.o.grp.get 7 rfl rfl).ints).mono ?_)
 rintro e u9 ⟨rfl, x9⟩
 replace S := kp (S.o.quiet x9)
 clear x9
 go_wp2_with (first | (refine ldiM S.o ?_) | (refine ldiS S.o ?_) | (refine ldiT S.o ?_) | (refine stiM S.o ?_; clear S; intro w9 S) | (refine stiS S.o ?_; clear S; intro w9 S) | (refine stiT S.o ?_; clear S; intro w9 S) | (refine wW ?_; dsimp only) | fail)
 (with_reducible refine (VT.out _ _ _ _ _ _ _ ((S.o.grp.get 0 rfl rfl).arg L4.out) ((S.o.grp.get 1 rfl rfl).arg L5.out) ((S.o.grp.get 2 rfl rfl).arg L6.out) ((S.o.grp.get 3 rfl rfl).arg L7.out) ((S.o.grp.get 4 rfl rfl).arg L8.out) ((S.o.grp.get 5 rfl rfl).arg L9.out)).mono ?_)
 rintro e u9 ⟨rfl, x9⟩
 replace S := kp (S.o.quiet x9)
 clear x9
 go_wp2_with (first | (refine ldiM S.o ?_) | (refine ldiS S.o ?_) | (refine ldiT S.o ?_) | (refine stiM S.o ?_; clear S; intro w9 S) | (refine stiS S.o ?_; clear S; intro w9 S) | (refine stiT S.o ?_; clear S; intro w9 S) | (refine wW ?_; dsimp only) | fail)
 (with_reducible refine (V4.out _ _ _ (S.o.grp.get 8 rfl rfl).ints (S.o.grp.get 0 rfl rfl).ints).mono ?_)
 rintro e u9 ⟨rfl, x9⟩
 replace S := kp (S.o.quiet x9)
 clear x9
 go_wp2_with (first | (refine ldiM S.o ?_) | (refine ldiS S.o ?_) | (refine ldiT S.o ?_) | (refine stiM S.o ?_; clear S; intro w9 S) | (refine stiS S.o ?_; clear S; intro w9 S) | (refine stiT S.o ?_; clear S; intro w9 S) | (refine wW ?_; dsimp only) | fail)
 (with_reducible refine (V5.out _ _ _ (S.o.grp.get 6 rfl rfl).ints (S.o.grp.get 2 rfl rfl).ints).mono ?_)
 rintro e u9 ⟨rfl, x9⟩
 replace S := kp (S.o.quiet x9)
 clear x9
 go_wp2_with (first | (refine ldiM S.o ?_) | (refine ldiS S.o ?_) | (refine ldiT S.o ?_) | (refine stiM S.o ?_; clear S; intro w9 S) | (refine stiS S.o ?_; clear S; intro w9 S) | (refine stiT S.o ?_; clear S; intro w9 S) | (refine wW ?_; dsimp only) | fail)
 apply wp_region_zip [isv _, matR jxr jxc jxs, isv _, isv _, matR jar jac jas, matR dr dc ds, newb _ 28] _ (by kernel_rfl)
 case hA => intro V; simp [putAll, dstOf, Act.put]; exact rfl
 case hsl => intro V; exact rfl
 case step =>
  intro V lo up w' hr
  have S := kp (S.o.quiet hr)
  simp only [zipOk, depsImp, isv, matR, bs3, bs2, modeNg, newb, waits, Region.binds, List.map_nil, List.map_cons, List.headD_cons, List.nil_append, List.cons_append, List.filterMap_cons, List.filterMap_nil, ↓reduceIte, modeNe, Bool.false_eq_true, true_implies, List.getD_cons_zero, List.getD_cons_succ, and_true]
  refine ⟨?_, ?_, ?_, ?_, ?_, ?_, ?_⟩
  ·intros
   (try simp only [*])
   go_wp2_with (first | (refine ldiS S.o ?_) | fail)
   refine sQ ?_
   exact eZ
  ·intros
   (try simp only [*])
   go_wp2_with (fail)
   (with_reducible refine (JX.out _ _ _ ((S.o.grp.get 8 rfl rfl).arg L0.out) ((S.o.grp.get 9 rfl rfl).arg L1.out)).mono ?_)
   rintro e w9 ⟨v9, rfl, o9, x9⟩
   go_wp2
   refine sQ ?_
   exact ⟨x9, v9, rfl, o9, fun q hq => (o9.block q hq).2⟩
  ·intros
   (try simp only [*])
   go_wp2_with (fail)
   refine sQ ?_
   exact eZ
  ·intros
   (try simp only [*])
   go_wp2_with (first | (refine ldiS S.o ?_) | fail)
   refine sQ ?_
   exact eZ
  ·intros
   (try simp only [*])
   go_wp2_with (fail)
   (with_reducible refine (JA.out _ _ _ ((S.o.grp.get 0 rfl rfl).arg L4.out) ((S.o.grp.get 1 rfl rfl).arg L5.out)).mono ?_)
   rintro e w9 ⟨v9, rfl, o9, x9⟩
   go_wp2
   refine sQ ?_
   exact ⟨x9, v9, rfl, o9, fun q hq => (o9.block q hq).2⟩
  ·intros
   obtain ⟨v1, e1, o1, b1⟩ := ‹∃ v, V 1 = _ ∧ Own _ _ v jxs ∧ _›
   obtain ⟨v4, e4, o4, b4⟩ := ‹∃ v, V 4 = _ ∧ Own _ _ v jas ∧ _›
   (try simp only [*])
   go_wp2_with (fail)
   (with_reducible refine (SD.out _ _ _ (o1.arg Ljxs.out) (o4.arg Ljas.out)).mono ?_)
   rintro e w9 ⟨v9, rfl, o9, x9⟩
   go_wp2
   refine sQ ?_
   exact ⟨x9, v9, rfl, o9, fun q hq => (o9.block q hq).2⟩
  intros
  go_wp2
  refine sQ ?_
  exact ⟨(Ext.refl _).alloc _, rfl, by simp, Blk.new _ _ _⟩
 case hB => kernel_rfl
 intro V lo up w' hr hf ha
 simp only [factsOk, isv, matR, bs3, bs2, modeNg, newb, List.map_nil, List.map_cons, List.headD_cons, and_true, Nat.zero_add, Nat.reduceAdd] at hf
 simp only [List.length_cons, List.length_nil, Nat.zero_add, Nat.reduceAdd, List.drop_succ_cons, List.drop_zero]
 obtain ⟨-, -, -, -, -, ⟨l5, -, -, v5, e5, o5, b5⟩, ⟨l6, -, -, e6, -, k6⟩⟩ := hf
 clear ha
 rw [e5, e6]
 clear e5 e6
 replace S := kp (S.o.grow (S.o.quiet hr) [⟨lo 6, 28, [.int .i64 0, .int .i64 0, .slice none 0 0]⟩] (by intro p hp; rw [List.mem_singleton] at hp; subst hp; exact ⟨k6, l6⟩) (by simp) (Grp.one (o5.mono l5)) (by intro p hp v hv; rw [List.mem_singleton] at hp hv; subst hp; subst hv; exact o5.ne k6 (by decide)))
 simp only [List.cons_append, List.nil_append] at S
 generalize lo 6 = b10 at *
 clear l5 l6 k6 b5 hr
 obtain ⟨pd, md, hu9, -, -⟩ := id o5.ints
 try simp only at hu9
 subst hu9
 clear o5
 go_wp2_with (first | (refine ldiM S.o ?_) | (refine ldiS S.o ?_) | (refine ldiT S.o ?_) | (refine stiM S.o ?_; clear S; intro w9 S) | (refine stiS S.o ?_; clear S; intro w9 S) | (refine stiT S.o ?_; clear S; intro w9 S) | (refine wW ?_; dsimp only) | fail)
 apply wp_region_zip [isv _, matR jyr jyc jys, isv _, isv _, matR jbr jbc jbs, matR er ec es, newb _ 28] _ (by kernel_rfl)
 case hA => intro V; simp [putAll, dstOf, Act.put]; exact rfl
 case hsl => intro V; exact rfl
 case step =>
  intro V lo up w' hr
  have S := kp (S.o.quiet hr)
  simp only [zipOk, depsImp, isv, matR, bs3, bs2, modeNg, newb, waits, Region.binds, List.map_nil, List.map_cons, List.headD_cons, List.nil_append, List.cons_append, List.filterMap_cons, List.filterMap_nil, ↓reduceIte, modeNe, Bool.false_eq_true, true_implies, List.getD_cons_zero, List.getD_cons_succ, and_true]
  refine ⟨?_, ?_, ?_, ?_, ?_, ?_, ?_⟩
  ·intros
   (try simp only [*])
   go_wp2_with (first | (refine ldiS S.o ?_) | fail)
   refine sQ ?_
   exact eZ
  ·intros
   (try simp only [*])
   go_wp2_with (fail)
   (with_reducible refine (JY.out _ _ _ ((S.o.grp.get 7 rfl rfl).arg L2.out) ((S.o.grp.get 8 rfl rfl).arg L3.out)).mono ?_)
   rintro e w9 ⟨v9, rfl, o9, x9⟩
   go_wp2
   refine sQ ?_
   exact ⟨x9, v9, rfl, o9, fun q hq => (o9.block q hq).2⟩
  ·intros
   (try simp only [*])
   go_wp2_with (fail)
   refine sQ ?_
   exact eZ
  ·intros
   (try simp only [*])
   go_wp2_with (first | (refine ldiS S.o ?_) | fail)
   refine sQ ?_
   exact eZ
  ·intros
   (try simp only [*])
   go_wp2_with (fail)
   (with_reducible refine (JB.out _ _ _ ((S.o.grp.get 3 rfl rfl).arg L6.out) ((S.o.grp.get 4 rfl rfl).arg L7.out)).mono ?_)
   rintro e w9 ⟨v9, rfl, o9, x9⟩
   go_wp2
   refine sQ ?_
   exact ⟨x9, v9, rfl, o9, fun q hq => (o9.block q hq).2⟩
  ·intros
   obtain ⟨v1, e1, o1, b1⟩ := ‹∃ v, V 1 = _ ∧ Own _ _ v jys ∧ _›
   obtain ⟨v4, e4, o4, b4⟩ := ‹∃ v, V 4 = _ ∧ Own _ _ v jbs ∧ _›
   (try simp only [*])
   go_wp2_with (fail)
   (with_reducible refine (SE.out _ _ _ (o1.arg Ljys.out) (o4.arg Ljbs.out)).mono ?_)
   rintro e w9 ⟨v9, rfl, o9, x9⟩
   go_wp2
   refine sQ ?_
   exact ⟨x9, v9, rfl, o9, fun q hq => (o9.block q hq).2⟩
  intros
  go_wp2
  refine sQ ?_
  exact ⟨(Ext.refl _).alloc _, rfl, by simp, Blk.new _ _ _⟩
 case hB => kernel_rfl
 intro V lo up w' hr hf ha
 simp only [factsOk, isv, matR, bs3, bs2, modeNg, newb, List.map_nil, List.map_cons, List.headD_cons, and_true, Nat.zero_add, Nat.reduceAdd] at hf
 simp only [List.length_cons, List.length_nil, Nat.zero_add, Nat.reduceAdd, List.drop_succ_cons, List.drop_zero]
 obtain ⟨-, -, -, -, -, ⟨l5, -, -, v5, e5, o5, b5⟩, ⟨l6, -, -, e6, -, k6⟩⟩ := hf
 clear ha
 rw [e5, e6]
 clear e5 e6
 replace S := kp (S.o.grow (S.o.quiet hr) [⟨lo 6, 28, [.int .i64 0, .int .i64 0, .slice none 0 0]⟩] (by intro p hp; rw [List.mem_singleton] at hp; subst hp; exact ⟨k6, l6⟩) (by simp) (Grp.one (o5.mono l5)) (by intro p hp v hv; rw [List.mem_singleton] at hp hv; subst hp; subst hv; exact o5.ne k6 (by decide)))
 simp only [List.cons_append, List.nil_append] at S
 generalize lo 6 = b11 at *
 clear l5 l6 k6 b5 hr
 obtain ⟨pe, me, hu9, -, -⟩ := id o5.ints
 try simp only at hu9
 subst hu9
 clear o5
 go_wp2_with (first | (refine ldiM S.o ?_) | (refine ldiS S.o ?_) | (refine ldiT S.o ?_) | (refine stiM S.o ?_; clear S; intro w9 S) | (refine stiS S.o ?_; clear S; intro w9 S) | (refine stiT S.o ?_; clear S; intro w9 S) | (refine wW ?_; dsimp only) | fail)
 apply wp_region_zip [isv _, isv _, isv _, isv _, isv _, isv _, isv _, matR pr pc ps, matR kr kc ks, isv _, isv _, isv _, isv _, matR qr qc qs, matR br bc bs, newb _ 28] _ (by kernel_rfl)
 case hA => intro V; simp [putAll, dstOf, Act.put]; exact rfl
 case hsl => intro V; exact rfl
 case step =>
  intro V lo up w' hr
  have S := kp (S.o.quiet hr)
  simp only [zipOk, depsImp, isv, matR, bs3, bs2, modeNg, newb, waits, Region.binds, List.map_nil, List.map_cons, List.headD_cons, List.nil_append, List.cons_append, List.filterMap_cons, List.filterMap_nil, ↓reduceIte, modeNe, Bool.false_eq_true, true_implies, List.getD_cons_zero, List.getD_cons_succ, and_true]
  refine ⟨?_, ?_, ?_, ?_, ?_, ?_, ?_, ?_, ?_, ?_, ?_, ?_, ?_, ?_, ?_, ?_⟩
  ·intros
   (try simp only [*])
   go_wp2_with (fail)
   refine sQ ?_
   exact eZ
  ·intros
   (try simp only [*])
   go_wp2_with (fail)
   refine sQ ?_
   exact eZ
  ·intros
   (try simp only [*])
   go_wp2_with (first | (refine ldiM S.o ?_) | fail)
   refine sQ ?_
   exact eZ
  ·intros
   (try simp only [*])
   go_wp2_with (first | (refine ldiM S.o ?_) | fail)
   refine sQ ?_
   exact eZ
  ·intros
   (try simp only [*])
   go_wp2_with (fail)
   refine sQ ?_
   exact eZ
  ·intros
   (try simp only [*])
   go_wp2_with (fail)
   refine sQ ?_
   exact eZ
  ·intros
   (try simp only [*])
   go_wp2_with (first | (refine ldiM S.o ?_) | fail)
   refine sQ ?_
   exact eZ
  ·intros
   (try simp only [*])
   go_wp2_with (fail)
   (with_reducible refine (M1.out _ _ _ ((S.o.grp.get 1 rfl rfl).arg Lds.out) ((S.o.grp.get 4 rfl rfl).arg L6.out)).mono ?_)
   rintro e w9 ⟨v9, rfl, o9, x9⟩
   go_wp2
   refine sQ ?_
   exact ⟨x9, v9, rfl, o9, fun q hq => (o9.block q hq).2⟩
  ·intros
   obtain ⟨v7, e7, o7, b7⟩ := ‹∃ v, V 7 = _ ∧ Own _ _ v ps ∧ _›
   (try simp only [*])
   go_wp2_with (fail)
   (with_reducible refine (A1.out _ _ _ ((S.o.grp.get 6 rfl rfl).arg L8.out) (o7.arg Lps.out)).mono ?_)
   rintro e w9 ⟨v9, rfl, o9, x9⟩
   go_wp2
   refine sQ ?_
   exact ⟨x9, v9, rfl, o9, fun q hq => (o9.block q hq).2⟩
  ·intros
   (try simp only [*])
   go_wp2_with (fail)
   refine sQ ?_
   exact eZ
  ·intros
   (try simp only [*])
   go_wp2_with (fail)
   refine sQ ?_
   exact eZ
  ·intros
   (try simp only [*])
   go_wp2_with (first | (refine ldiM S.o ?_) | fail)
   refine sQ ?_
   exact eZ
  ·intros
   (try simp only [*])
   go_wp2_with (first | (refine ldiM S.o ?_) | fail)
   refine sQ ?_
   exact eZ
  ·intros
   (try simp only [*])
   go_wp2_with (fail)
   (with_reducible refine (M2.out _ _ _ ((S.o.grp.get 2 rfl rfl).arg L4.out) ((S.o.grp.get 0 rfl rfl).arg Les.out)).mono ?_)
   rintro e w9 ⟨v9, rfl, o9, x9⟩
   go_wp2
   refine sQ ?_
   exact ⟨x9, v9, rfl, o9, fun q hq => (o9.block q hq).2⟩
  ·intros
   obtain ⟨v8, e8, o8, b8⟩ := ‹∃ v, V 8 = _ ∧ Own _ _ v ks ∧ _›
   obtain ⟨v13, e13, o13, b13⟩ := ‹∃ v, V 13 = _ ∧ Own _ _ v qs ∧ _›
   (try simp only [*])
   go_wp2_with (fail)
   (with_reducible refine (A2.out _ _ _ (o8.arg Lks.out) (o13.arg Lqs.out)).mono ?_)
   rintro e w9 ⟨v9, rfl, o9, x9⟩
   go_wp2
   refine sQ ?_
   exact ⟨x9, v9, rfl, o9, fun q hq => (o9.block q hq).2⟩
  intros
  go_wp2
  refine sQ ?_
  exact ⟨(Ext.refl _).alloc _, rfl, by simp, Blk.new _ _ _⟩
 case hB => kernel_rfl
 intro V lo up w' hr hf ha
 simp only [factsOk, isv, matR, bs3, bs2, modeNg, newb, List.map_nil, List.map_cons, List.headD_cons, and_true, Nat.zero_add, Nat.reduceAdd] at hf
 simp only [List.length_cons, List.length_nil, Nat.zero_add, Nat.reduceAdd, List.drop_succ_cons, List.drop_zero]
 obtain ⟨-, -, -, -, -, -, -, -, -, -, -, -, -, -, ⟨l14, -, -, v14, e14, o14, b14⟩, ⟨l15, -, -, e15, -, k15⟩⟩ := hf
 clear ha
 rw [e14, e15]
 clear e14 e15
 replace S := kp (S.o.grow (S.o.quiet hr) [⟨lo 15, 28, [.int .i64 0, .int .i64 0, .slice none 0 0]⟩] (by intro p hp; rw [List.mem_singleton] at hp; subst hp; exact ⟨k15, l15⟩) (by simp) (Grp.one (o14.mono l14)) (by intro p hp v hv; rw [List.mem_singleton] at hp hv; subst hp; subst hv; exact o14.ne k15 (by decide)))
 simp only [List.cons_append, List.nil_append] at S
 generalize lo 15 = b12 at *
 clear l14 l15 k15 b14 hr
 obtain ⟨pb, mb, hu9, -, -⟩ := id o14.ints
 try simp only at hu9
 subst hu9
 clear o14
 go_wp2_with (first | (refine ldiM S.o ?_) | (refine ldiS S.o ?_) | (refine ldiT S.o ?_) | (refine stiM S.o ?_; clear S; intro w9 S) | (refine stiS S.o ?_; clear S; intro w9 S) | (refine stiT S.o ?_; clear S; intro w9 S) | (refine wW ?_; dsimp only) | fail)
 apply wp_region_zip [isv _, isv _, isv _, isv _, isv _, isv _, isv _, matR ir ic is, matR gr gc gs, isv _, isv _, isv _, isv _, matR jr jc js, matR sr sc ss, newb _ 28] _ (by kernel_rfl)
 case hA => intro V; simp [putAll, dstOf, Act.put]; exact rfl
 case hsl => intro V; exact rfl
 case step =>
  intro V lo up w' hr
  have S := kp (S.o.quiet hr)
  simp only [zipOk, depsImp, isv, matR, bs3, bs2, modeNg, newb, waits, Region.binds, List.map_nil, List.map_cons, List.headD_cons, List.nil_append, List.cons_append, List.filterMap_cons, List.filterMap_nil, ↓reduceIte, modeNe, Bool.false_eq_true, true_implies, List.getD_cons_zero, List.getD_cons_succ, and_true]
  refine ⟨?_, ?_, ?_, ?_, ?_, ?_, ?_, ?_, ?_, ?_, ?_, ?_, ?_, ?_, ?_, ?_⟩
  ·intros
   (try simp only [*])
   go_wp2_with (fail)
   refine sQ ?_
   exact eZ
  ·intros
   (try simp only [*])
   go_wp2_with (fail)
   refine sQ ?_
   exact eZ
  ·intros
   (try simp only [*])
   go_wp2_with (first | (refine ldiM S.o ?_) | fail)
   refine sQ ?_
   exact eZ
  ·intros
   (try simp only [*])
   go_wp2_with (first | (refine ldiM S.o ?_) | fail)
   refine sQ ?_
   exact eZ
  ·intros
   (try simp only [*])
   go_wp2_with (fail)
   refine sQ ?_
   exact eZ
  ·intros
   (try simp only [*])
   go_wp2_with (fail)
   refine sQ ?_
   exact eZ
  ·intros
   (try simp only [*])
   go_wp2_with (first | (refine ldiM S.o ?_) | fail)
   refine sQ ?_
   exact eZ
  ·intros
   (try simp only [*])
   go_wp2_with (fail)
   (with_reducible refine (N1.out _ _ _ ((S.o.grp.get 2 rfl rfl).arg Lds.out) ((S.o.grp.get 6 rfl rfl).arg L7.out)).mono ?_)
   rintro e w9 ⟨v9, rfl, o9, x9⟩
   go_wp2
   refine sQ ?_
   exact ⟨x9, v9, rfl, o9, fun q hq => (o9.block q hq).2⟩
  ·intros
   obtain ⟨v7, e7, o7, b7⟩ := ‹∃ v, V 7 = _ ∧ Own _ _ v is ∧ _›
   (try simp only [*])
   go_wp2_with (fail)
   (with_reducible refine (B1.out _ _ _ ((S.o.grp.get 8 rfl rfl).arg L9.out) (o7.arg Lis.out)).mono ?_)
   rintro e w9 ⟨v9, rfl, o9, x9⟩
   go_wp2
   refine sQ ?_
   exact ⟨x9, v9, rfl, o9, fun q hq => (o9.block q hq).2⟩
  ·intros
   (try simp only [*])
   go_wp2_with (fail)
   refine sQ ?_
   exact eZ
  ·intros
   (try simp only [*])
   go_wp2_with (fail)
   refine sQ ?_
   exact eZ
  ·intros
   (try simp only [*])
   go_wp2_with (first | (refine ldiM S.o ?_) | fail)
   refine sQ ?_
   exact eZ
  ·intros
   (try simp only [*])
   go_wp2_with (first | (refine ldiM S.o ?_) | fail)
   refine sQ ?_
   exact eZ
  ·intros
   (try simp only [*])
   go_wp2_with (fail)
   (with_reducible refine (N2.out _ _ _ ((S.o.grp.get 4 rfl rfl).arg L5.out) ((S.o.grp.get 1 rfl rfl).arg Les.out)).mono ?_)
   rintro e w9 ⟨v9, rfl, o9, x9⟩
   go_wp2
   refine sQ ?_
   exact ⟨x9, v9, rfl, o9, fun q hq => (o9.block q hq).2⟩
  ·intros
   obtain ⟨v8, e8, o8, b8⟩ := ‹∃ v, V 8 = _ ∧ Own _ _ v gs ∧ _›
   obtain ⟨v13, e13, o13, b13⟩ := ‹∃ v, V 13 = _ ∧ Own _ _ v js ∧ _›
   (try simp only [*])
   go_wp2_with (fail)
   (with_reducible refine (B2.out _ _ _ (o8.arg Lgs.out) (o13.arg Ljs.out)).mono ?_)
   rintro e w9 ⟨v9, rfl, o9, x9⟩
   go_wp2
   refine sQ ?_
   exact ⟨x9, v9, rfl, o9, fun q hq => (o9.block q hq).2⟩
  intros
  go_wp2
  refine sQ ?_
  exact ⟨(Ext.refl _).alloc _, rfl, by simp, Blk.new _ _ _⟩
 case hB => kernel_rfl
 intro V lo up w' hr hf ha
 simp only [factsOk, isv, matR, bs3, bs2, modeNg, newb, List.map_nil, List.map_cons, List.headD_cons, and_true, Nat.zero_add, Nat.reduceAdd] at hf
 simp only [List.length_cons, List.length_nil, Nat.zero_add, Nat.reduceAdd, List.drop_succ_cons, List.drop_zero]
 obtain ⟨-, -, -, -, -, -, -, -, -, -, -, -, -, -, ⟨l14, -, -, v14, e14, o14, b14⟩, ⟨l15, -, -, e15, -, k15⟩⟩ := hf
 clear ha
 rw [e14, e15]
 clear e14 e15
 replace S := kp (S.o.grow (S.o.quiet hr) [⟨lo 15, 28, [.int .i64 0, .int .i64 0, .slice none 0 0]⟩] (by intro p hp; rw [List.mem_singleton] at hp; subst hp; exact ⟨k15, l15⟩) (by simp) (Grp.one (o14.mono l14)) (by intro p hp v hv; rw [List.mem_singleton] at hp hv; subst hp; subst hv; exact o14.ne k15 (by decide)))
 simp only [List.cons_append, List.nil_append] at S
 generalize lo 15 = b13 at *
 clear l14 l15 k15 b14 hr
 obtain ⟨ps, ms, hu9, -, -⟩ := id o14.ints
 try simp only at hu9
 subst hu9
 clear o14
 go_wp2_with (first | (refine ldiM S.o ?_) | (refine ldiS S.o ?_) | (refine ldiT S.o ?_) | (refine stiM S.o ?_; clear S; intro w9 S) | (refine stiS S.o ?_; clear S; intro w9 S) | (refine stiT S.o ?_; clear S; intro w9 S) | (refine wW ?_; dsimp only) | fail)
 have D1 := kp (show Del [⟨b13, 28, [.int .i64 sr, .int .i64 sc, .slice ps ss.length ms]⟩, ⟨b12, 28, [.int .i64 br, .int .i64 bc, .slice pb bs.length mb]⟩, ⟨b11, 28, [.int .i64 er, .int .i64 ec, .slice pe es.length me]⟩, ⟨b10, 28, [.int .i64 dr, .int .i64 dc, .slice pd ds.length md]⟩, ⟨b8, 28, [.int .i64 0, .int .i64 0, .slice none 0 0]⟩, ⟨b7, 28, [.int .i64 0, .int .i64 0, .slice none 0 0]⟩, ⟨b6, 30, [.int .i64 0, .int .i64 0, .slice none 0 0, .int .i64 0, .int .i64 0, .slice none 0 0]⟩, ⟨b5, 71, [.int .i64 r4, .int .i64 c4, .slice p4 x4.length m4, .int .i64 r5, .int .i64 c5, .slice p5 x5.length m5, .int .i64 r6, .int .i64 c6, .slice p6 x6.length m6, .int .i64 r7, .int .i64 c7, .slice p7 x7.length m7, .int .i64 r8, .int .i64 c8, .slice p8 x8.length m8, .int .i64 r9, .int .i64 c9, .slice p9 x9.length m9]⟩, ⟨b4, 30, [.int .i64 r2, .int .i64 c2, .slice p2 x2.length m2, .int .i64 r3, .int .i64 c3, .slice p3 x3.length m3]⟩, ⟨b3, 30, [.int .i64 r0, .int .i64 c0, .slice p0 x0.length m0, .int .i64 r1, .int .i64 c1, .slice p1 x1.length m1]⟩] b6 30 [.int .i64 0, .int .i64 0, .slice none 0 0, .int .i64 0, .int .i64 0, .slice none 0 0] [⟨b13, 28, [.int .i64 sr, .int .i64 sc, .slice ps ss.length ms]⟩, ⟨b12, 28, [.int .i64 br, .int .i64 bc, .slice pb bs.length mb]⟩, ⟨b11, 28, [.int .i64 er, .int .i64 ec, .slice pe es.length me]⟩, ⟨b10, 28, [.int .i64 dr, .int .i64 dc, .slice pd ds.length md]⟩, ⟨b8, 28, [.int .i64 0, .int .i64 0, .slice none 0 0]⟩, ⟨b7, 28, [.int .i64 0, .int .i64 0, .slice none 0 0]⟩, ⟨b5, 71, [.int .i64 r4, .int .i64 c4, .slice p4 x4.length m4, .int .i64 r5, .int .i64 c5, .slice p5 x5.length m5, .int .i64 r6, .int .i64 c6, .slice p6 x6.length m6, .int .i64 r7, .int .i64 c7, .slice p7 x7.length m7, .int .i64 r8, .int .i64 c8, .slice p8 x8.length m8, .int .i64 r9, .int .i64 c9, .slice p9 x9.length m9]⟩, ⟨b4, 30, [.int .i64 r2, .int .i64 c2, .slice p2 x2.length m2, .int .i64 r3, .int .i64 c3, .slice p3 x3.length m3]⟩, ⟨b3, 30, [.int .i64 r0, .int .i64 c0, .slice p0 x0.length m0, .int .i64 r1, .int .i64 c1, .slice p1 x1.length m1]⟩] from (by repeat (first | exact Del.head | apply Del.tail)))
 have D2 := kp (show Del [⟨b13, 28, [.int .i64 sr, .int .i64 sc, .slice ps ss.length ms]⟩, ⟨b12, 28, [.int .i64 br, .int .i64 bc, .slice pb bs.length mb]⟩, ⟨b11, 28, [.int .i64 er, .int .i64 ec, .slice pe es.length me]⟩, ⟨b10, 28, [.int .i64 dr, .int .i64 dc, .slice pd ds.length md]⟩, ⟨b8, 28, [.int .i64 0, .int .i64 0, .slice none 0 0]⟩, ⟨b7, 28, [.int .i64 0, .int .i64 0, .slice none 0 0]⟩, ⟨b5, 71, [.int .i64 r4, .int .i64 c4, .slice p4 x4.length m4, .int .i64 r5, .int .i64 c5, .slice p5 x5.length m5, .int .i64 r6, .int .i64 c6, .slice p6 x6.length m6, .int .i64 r7, .int .i64 c7, .slice p7 x7.length m7, .int .i64 r8, .int .i64 c8, .slice p8 x8.length m8, .int .i64 r9, .int .i64 c9, .slice p9 x9.length m9]⟩, ⟨b4, 30, [.int .i64 r2, .int .i64 c2, .slice p2 x2.length m2, .int .i64 r3, .int .i64 c3, .slice p3 x3.length m3]⟩, ⟨b3, 30, [.int .i64 r0, .int .i64 c0, .slice p0 x0.length m0, .int .i64 r1, .int .i64 c1, .slice p1 x1.length m1]⟩] b7 28 [.int .i64 0, .int .i64 0, .slice none 0 0] [⟨b13, 28, [.int .i64 sr, .int .i64 sc, .slice ps ss.length ms]⟩, ⟨b12, 28, [.int .i64 br, .int .i64 bc, .slice pb bs.length mb]⟩, ⟨b11, 28, [.int .i64 er, .int .i64 ec, .slice pe es.length me]⟩, ⟨b10, 28, [.int .i64 dr, .int .i64 dc, .slice pd ds.length md]⟩, ⟨b8, 28, [.int .i64 0, .int .i64 0, .slice none 0 0]⟩, ⟨b5, 71, [.int .i64 r4, .int .i64 c4, .slice p4 x4.length m4, .int .i64 r5, .int .i64 c5, .slice p5 x5.length m5, .int .i64 r6, .int .i64 c6, .slice p6 x6.length m6, .int .i64 r7, .int .i64 c7, .slice p7 x7.length m7, .int .i64 r8, .int .i64 c8, .slice p8 x8.length m8, .int .i64 r9, .int .i64 c9, .slice p9 x9.length m9]⟩, ⟨b4, 30, [.int .i64 r2, .int .i64 c2, .slice p2 x2.length m2, .int .i64 r3, .int .i64 c3, .slice p3 x3.length m3]⟩, ⟨b3, 30, [.int .i64 r0, .int .i64 c0, .slice p0 x0.length m0, .int .i64 r1, .int .i64 c1, .slice p1 x1.length m1]⟩] from (by repeat (first | exact Del.head | apply Del.tail)))
 have D3 := kp (show Del [⟨b13, 28, [.int .i64 sr, .int .i64 sc, .slice ps ss.length ms]⟩, ⟨b12, 28, [.int .i64 br, .int .i64 bc, .slice pb bs.length mb]⟩, ⟨b11, 28, [.int .i64 er, .int .i64 ec, .slice pe es.length me]⟩, ⟨b10, 28, [.int .i64 dr, .int .i64 dc, .slice pd ds.length md]⟩, ⟨b8, 28, [.int .i64 0, .int .i64 0, .slice none 0 0]⟩, ⟨b5, 71, [.int .i64 r4, .int .i64 c4, .slice p4 x4.length m4, .int .i64 r5, .int .i64 c5, .slice p5 x5.length m5, .int .i64 r6, .int .i64 c6, .slice p6 x6.length m6, .int .i64 r7, .int .i64 c7, .slice p7 x7.length m7, .int .i64 r8, .int .i64 c8, .slice p8 x8.length m8, .int .i64 r9, .int .i64 c9, .slice p9 x9.length m9]⟩, ⟨b4, 30, [.int .i64 r2, .int .i64 c2, .slice p2 x2.length m2, .int .i64 r3, .int .i64 c3, .slice p3 x3.length m3]⟩, ⟨b3, 30, [.int .i64 r0, .int .i64 c0, .slice p0 x0.length m0, .int .i64 r1, .int .i64 c1, .slice p1 x1.length m1]⟩] b8 28 [.int .i64 0, .int .i64 0, .slice none 0 0] [⟨b13, 28, [.int .i64 sr, .int .i64 sc, .slice ps ss.length ms]⟩, ⟨b12, 28, [.int .i64 br, .int .i64 bc, .slice pb bs.length mb]⟩, ⟨b11, 28, [.int .i64 er, .int .i64 ec, .slice pe es.length me]⟩, ⟨b10, 28, [.int .i64 dr, .int .i64 dc, .slice pd ds.length md]⟩, ⟨b5, 71, [.int .i64 r4, .int .i64 c4, .slice p4 x4.length m4, .int .i64 r5, .int .i64 c5, .slice p5 x5.length m5, .int .i64 r6, .int .i64 c6, .slice p6 x6.length m6, .int .i64 r7, .int .i64 c7, .slice p7 x7.length m7, .int .i64 r8, .int .i64 c8, .slice p8 x8.length m8, .int .i64 r9, .int .i64 c9, .slice p9 x9.length m9]⟩, ⟨b4, 30, [.int .i64 r2, .int .i64 c2, .slice p2 x2.length m2, .int .i64 r3, .int .i64 c3, .slice p3 x3.length m3]⟩, ⟨b3, 30, [.int .i64 r0, .int .i64 c0, .slice p0 x0.length m0, .int .i64 r1, .int .i64 c1, .slice p1 x1.length m1]⟩] from (by repeat (first | exact Del.head | apply Del.tail)))
 have K6 := kp (S.o.box _ D1.out.mem).1
 have K7 := kp (S.o.box _ (D1.out.sub.subset D2.out.mem)).1
 have K8 := kp (S.o.box _ ((D2.out.sub.trans D1.out.sub).subset D3.out.mem)).1
 simp only at K6 K7 K8
 have ne67 : Kept (b7 ≠ b6) := ⟨D1.out.ne S.o.dis _ D2.out.mem⟩
 have ne68 : Kept (b8 ≠ b6) := ⟨D1.out.ne S.o.dis _ (D2.out.sub.subset D3.out.mem)⟩
 have ne78 : Kept (b8 ≠ b7) := ⟨D2.out.ne (S.o.dis.sublist D1.out.sub) _ D3.out.mem⟩
 apply wp_region_zipV (XS.rel _ [b6, b7, b8] []) (fun L _ w' => Px b6 9 30 #[.int .i64 0, .int .i64 0, .slice none 0 0, .int .i64 0, .int .i64 0, .slice none 0 0] (fun w8 cs => ∃ v, cs = #[.int .i64 fr, .int .i64 fc, v, .int .i64 sr, .int .i64 sc, .slice ps ss.length ms] ∧ Own w9.heap.size w8 v fs) L w' ∧ Px b7 10 28 #[.int .i64 0, .int .i64 0, .slice none 0 0] (fun _ cs => cs = #[.int .i64 dr, .int .i64 dc, .slice pd ds.length md]) L w' ∧ Px b8 11 28 #[.int .i64 0, .int .i64 0, .slice none 0 0] (fun _ cs => cs = #[.int .i64 er, .int .i64 ec, .slice pe es.length me]) L w') [isv _, isv _, isv _, matV (by decide) or oc os, matV (by decide) fr fc fs, isv _, matU (by decide) fr fc sr sc (.slice ps ss.length ms) fs, isv _, isv _, anyV, anyV, anyV, isv _] _ ?hJ (by kernel_rfl)
 case hJ => exact ⟨⟨fun _ => K6.out.keep ⟨rfl, rfl, rfl, Nat.le_refl _, fun _ _ => rfl⟩, fun h => by cases h⟩, ⟨fun _ => K7.out.keep ⟨rfl, rfl, rfl, Nat.le_refl _, fun _ _ => rfl⟩, fun h => by cases h⟩, ⟨fun _ => K8.out.keep ⟨rfl, rfl, rfl, Nat.le_refl _, fun _ _ => rfl⟩, fun h => by cases h⟩⟩
 case hA => intro V; simp [putAll, dstOf, Act.put]; exact rfl
 case hsl => intro V; exact rfl
 case step =>
  intro V lo up w' hr L hj
  have S := kp (S.o.rest3 D1.out D2.out D3.out hr)
  simp only [zipOkV, depsImp, isv, matV, matU, anyV, modeNg, newb, waits, Region.binds, List.map_nil, List.map_cons, List.headD_cons, List.nil_append, List.cons_append, List.filterMap_cons, List.filterMap_nil, ↓reduceIte, modeNe, Bool.false_eq_true, true_implies, List.getD_cons_zero, List.getD_cons_succ, and_true, Nat.zero_add, Nat.reduceAdd]
  refine ⟨?_, ?_, ?_, ?_, ?_, ?_, ?_, ?_, ?_, ?_, ?_, ?_, ?_⟩
  ·intro hl hw hd
   intros
   (try simp only [*])
   go_wp2_with (first | (refine ldiM S.o ?_) | fail)
   refine sS ?_
   exact ⟨XS.refl _, rfl, ⟨hj.1.ext (fun _ h => h) (fun _ => rfl) (by decide), hj.2.1.ext (fun _ h => h) (fun _ => rfl) (by decide), hj.2.2.ext (fun _ h => h) (fun _ => rfl) (by decide)⟩⟩
  ·intro hl hw hd
   intros
   (try simp only [*])
   go_wp2_with (first | (refine ldiM S.o ?_) | fail)
   refine sS ?_
   exact ⟨XS.refl _, rfl, ⟨hj.1.ext (fun _ h => h) (fun _ => rfl) (by decide), hj.2.1.ext (fun _ h => h) (fun _ => rfl) (by decide), hj.2.2.ext (fun _ h => h) (fun _ => rfl) (by decide)⟩⟩
  ·intro hl hw hd
   intros
   (try simp only [*])
   go_wp2_with (first | (refine ldiM S.o ?_) | fail)
   refine sS ?_
   exact ⟨XS.refl _, rfl, ⟨hj.1.ext (fun _ h => h) (fun _ => rfl) (by decide), hj.2.1.ext (fun _ h => h) (fun _ => rfl) (by decide), hj.2.2.ext (fun _ h => h) (fun _ => rfl) (by decide)⟩⟩
  ·intro hl hw hd
   intros
   (try simp only [*])
   go_wp2_with (fail)
   (with_reducible refine (M3.out _ _ _ ((S.o.grp.get 3 rfl rfl).arg Lds.out) ((S.o.grp.get 2 rfl rfl).arg Les.out)).mono ?_)
   rintro e w9 ⟨v9, rfl, o9, x9⟩
   go_wp2
   refine sS ?_
   exact ⟨XS.of_ext x9, ⟨v9, rfl, o9.mono hr.size⟩, ⟨hj.1.ext (fun cs ⟨v, e, o⟩ => ⟨v, e, o.keep x9⟩) (fun hk => Below.block x9 _ hk) (by decide), hj.2.1.ext (fun _ h => h) (fun hk => Below.block x9 _ hk) (by decide), hj.2.2.ext (fun _ h => h) (fun hk => Below.block x9 _ hk) (by decide)⟩⟩
  ·intro hl hw hd
   intros
   obtain ⟨v3, e3, o3⟩ := ‹∃ v, V 3 = _ ∧ Own _ _ v os›
   (try simp only [*])
   go_wp2_with (fail)
   (with_reducible refine (A3.out _ _ _ ((S.o.grp.get 1 rfl rfl).arg Lbs.out) (o3.arg Los.out)).mono ?_)
   rintro e w9 ⟨v9, rfl, o9, x9⟩
   go_wp2
   refine sS ?_
   exact ⟨XS.of_ext x9, ⟨v9, rfl, o9.mono hr.size⟩, ⟨hj.1.ext (fun cs ⟨v, e, o⟩ => ⟨v, e, o.keep x9⟩) (fun hk => Below.block x9 _ hk) (by decide), hj.2.1.ext (fun _ h => h) (fun hk => Below.block x9 _ hk) (by decide), hj.2.2.ext (fun _ h => h) (fun hk => Below.block x9 _ hk) (by decide)⟩⟩
  ·intro hl hw hd
   intros
   (try simp only [*])
   go_wp2_with (first | (refine ldiM S.o ?_) | fail)
   refine sS ?_
   exact ⟨XS.refl _, rfl, ⟨hj.1.ext (fun _ h => h) (fun _ => rfl) (by decide), hj.2.1.ext (fun _ h => h) (fun _ => rfl) (by decide), hj.2.2.ext (fun _ h => h) (fun _ => rfl) (by decide)⟩⟩
  ·intro hl hw hd
   intros
   obtain ⟨v4, e4, o4⟩ := ‹∃ v, V 4 = _ ∧ Own _ _ v fs›
   (try simp only [*])
   go_wp2_with (fail)
   refine sS ?_
   exact ⟨XS.refl _, ⟨v4, rfl, o4⟩, ⟨hj.1.ext (fun _ h => h) (fun _ => rfl) (by decide), hj.2.1.ext (fun _ h => h) (fun _ => rfl) (by decide), hj.2.2.ext (fun _ h => h) (fun _ => rfl) (by decide)⟩⟩
  ·intro hl hw hd
   intros
   (try simp only [*])
   go_wp2_with (first | (refine ldiM S.o ?_) | fail)
   refine sS ?_
   exact ⟨XS.refl _, rfl, ⟨hj.1.ext (fun _ h => h) (fun _ => rfl) (by decide), hj.2.1.ext (fun _ h => h) (fun _ => rfl) (by decide), hj.2.2.ext (fun _ h => h) (fun _ => rfl) (by decide)⟩⟩
  ·intro hl hw hd
   intros
   (try simp only [*])
   go_wp2_with (first | (refine ldiM S.o ?_) | fail)
   refine sS ?_
   exact ⟨XS.refl _, rfl, ⟨hj.1.ext (fun _ h => h) (fun _ => rfl) (by decide), hj.2.1.ext (fun _ h => h) (fun _ => rfl) (by decide), hj.2.2.ext (fun _ h => h) (fun _ => rfl) (by decide)⟩⟩
  ·intro hl hw hd
   obtain ⟨kz⟩ : Kept (Blk w' b6 #[.int .i64 0, .int .i64 0, .slice none 0 0, .int .i64 0, .int .i64 0, .slice none 0 0] 30) := ⟨hj.1.no hl⟩
   intros
   obtain ⟨v_, e_, o_⟩ := ‹∃ v, V 6 = _ ∧ Own _ _ v fs›
   obtain ⟨p9, m9, hu9, -, -⟩ := id o_.ints
   try simp only at hu9
   subst hu9
   refine wpList_putX (by rfl) (by rfl) _ _ (by rfl) b6 _ _ (by rfl) (by exact e_) kz (by kernel_rfl) (by rfl) (by simp [Value.oneCell']) (.inl ⟨by simp, K6.out.lt⟩) (fun w'' f k hoth hsz u => ⟨f, trivial, Px.put k ⟨_, rfl, o_.xs f (Nat.le_refl _) (by decide)⟩, hj.2.1.ext (fun _ h => h) (fun _ => hoth _ ne67.out) (by decide), hj.2.2.ext (fun _ h => h) (fun _ => hoth _ ne68.out) (by decide)⟩)
  ·intro hl hw hd
   obtain ⟨kz⟩ : Kept (Blk w' b7 #[.int .i64 0, .int .i64 0, .slice none 0 0] 28) := ⟨hj.2.1.no hl⟩
   intros
   have e_ : V 7 = .agg #[.int .i64 dr, .int .i64 dc, .slice pd ds.length md] := by assumption
   refine wpList_putX (by rfl) (by rfl) _ _ (by rfl) b7 _ _ (by rfl) (by exact e_) kz (by kernel_rfl) (by rfl) (by simp [Value.oneCell']) (.inl ⟨by simp, K7.out.lt⟩) (fun w'' f k hoth hsz u => ⟨f, trivial, hj.1.ext (fun cs ⟨v, e, o⟩ => ⟨v, e, o.xs f (Nat.le_refl _) (by decide)⟩) (fun _ => hoth _ ne67.out.symm) (by decide), Px.put k rfl, hj.2.2.ext (fun _ h => h) (fun _ => hoth _ ne78.out) (by decide)⟩)
  ·intro hl hw hd
   obtain ⟨kz⟩ : Kept (Blk w' b8 #[.int .i64 0, .int .i64 0, .slice none 0 0] 28) := ⟨hj.2.2.no hl⟩
   intros
   have e_ : V 8 = .agg #[.int .i64 er, .int .i64 ec, .slice pe es.length me] := by assumption
   refine wpList_putX (by rfl) (by rfl) _ _ (by rfl) b8 _ _ (by rfl) (by exact e_) kz (by kernel_rfl) (by rfl) (by simp [Value.oneCell']) (.inl ⟨by simp, K8.out.lt⟩) (fun w'' f k hoth hsz u => ⟨f, trivial, hj.1.ext (fun cs ⟨v, e, o⟩ => ⟨v, e, o.xs f (Nat.le_refl _) (by decide)⟩) (fun _ => hoth _ ne68.out.symm) (by decide), hj.2.1.ext (fun _ h => h) (fun _ => hoth _ ne78.out.symm) (by decide), Px.put k rfl⟩)
  intro hl hw hd
  intros
  (try simp only [*])
  go_wp2_with (fail)
  refine sS ?_
  exact ⟨XS.refl _, rfl, ⟨hj.1.ext (fun _ h => h) (fun _ => rfl) (by decide), hj.2.1.ext (fun _ h => h) (fun _ => rfl) (by decide), hj.2.2.ext (fun _ h => h) (fun _ => rfl) (by decide)⟩⟩
 case hB => kernel_rfl
 intro V lo up w' hr L hj hL hf ha
 simp only [factsOk, isv, matV, matU, anyV, modeNg, newb, List.map_nil, List.map_cons, List.headD_cons, and_true, Nat.zero_add, Nat.reduceAdd] at hf
 simp only [List.length_cons, List.length_nil, Nat.zero_add, Nat.reduceAdd, List.drop_succ_cons, List.drop_zero]
 obtain ⟨-, -, -, -, -, -, -, -, -, -, -, -, ⟨-, -, -, e12⟩⟩ := hf
 clear ha
 rw [e12]
 clear e12
 obtain ⟨c6, k6, v9, rfl, o9⟩ := hj.1.yes (hL 9 (by simp))
 obtain ⟨p9, m9, hu9, -, -⟩ := id o9.ints
 try simp only at hu9
 subst hu9
 obtain ⟨c7, k7, rfl⟩ := hj.2.1.yes (hL 10 (by simp))
 obtain ⟨c8, k8, rfl⟩ := hj.2.2.yes (hL 11 (by simp))
 clear hj
 have S9 := S.o.fill3 (c1 := [.int .i64 fr, .int .i64 fc, .slice p9 fs.length m9, .int .i64 sr, .int .i64 sc, .slice ps ss.length ms]) (c2 := [.int .i64 dr, .int .i64 dc, .slice pd ds.length md]) (c3 := [.int .i64 er, .int .i64 ec, .slice pe es.length me]) D1.out D2.out D3.out hr (Grp.one o9) k6 k7 k8
 simp only [List.cons_append, List.nil_append] at S9
 replace S := kp S9
 clear S9 k6 k7 k8 hr
 go_wp2_with (first | (refine ldiM S.o ?_) | (refine ldiS S.o ?_) | (refine ldiT S.o ?_) | (refine wW ?_; dsimp only) | fail)
 refine bodyPost_ret (v := .tuple #[.agg #[.int .i64 fr, .int .i64 fc, .slice p9 fs.length m9, .int .i64 sr, .int .i64 sc, .slice ps ss.length ms], .agg #[.int .i64 dr, .int .i64 dc, .slice pd ds.length md], .agg #[.int .i64 er, .int .i64 ec, .slice pe es.length me], .bool true]) ?A rfl ⟨_, _, _, _, rfl, ?B, S.o.ext⟩
 case A => exact res4 rfl (by exact (rsiS S.o)) (by exact (rsiM S.o)) (by exact (rsiM S.o)) rfl
 case B => exact S.o.grp.sel rfl [0, 1, 4, 3] (by decide) (by simp)
end Go.Proofs.YtkkdikoknegpjaaGreat
