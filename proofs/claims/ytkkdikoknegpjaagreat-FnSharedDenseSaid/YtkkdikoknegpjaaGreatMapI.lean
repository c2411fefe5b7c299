import Derived.Test.YtkkdikoknegpjaaGreatKL
import Derived.Test.YtkkdikoknegpjaaGreatQB
import Derived.Test.YtkkdikoknegpjaaGreatQF
import Derived.Deep.Cut
namespace Go.Proofs.YtkkdikoknegpjaaGreat
set_option linter.unusedSimpArgs false
set_option linter.unusedVariables false
open Go.RowKit
set_option maxHeartbeats 8000000 in
set_option maxRecDepth 4000 in
theorem impl_MapShared (k r0 c0 r1 c1 : Int) (v0 v1 : Value) (x0 x1 : List Int) (s : Int) (w : World) (h0 : Ints w v0 x0) (h1 : Ints w v1 x1) : Calls Tryz.prog 95 #[.int .i64 k, .agg #[.int .i64 r0, .int .i64 c0, v0, .int .i64 r1, .int .i64 c1, v1], .int .i64 s] w (ShLN (mpSh k ⟨⟨r0, c0, x0⟩, ⟨r1, c1, x1⟩⟩ s) (mpO k ⟨⟨r0, c0, x0⟩, ⟨r1, c1, x1⟩⟩ s) (mpS k ⟨⟨r0, c0, x0⟩, ⟨r1, c1, x1⟩⟩ s) w) := by
 cases g1 : fKnown k
 ·have hz : mpOk k ⟨⟨r0, c0, x0⟩, ⟨r1, c1, x1⟩⟩ s = false := by unfold mpOk; simp only [g1, Bool.and_false, Bool.false_and]
  obtain ⟨z1, z2, z3⟩ := mpSh_bad hz
  rw [z1, z2, z3]
  clear hz z1 z2 z3
  unfold ShLN shZ matZ
  simp only
  have FK : Kept (fKnown k = false) := ⟨g1⟩
  clear g1
  obtain ⟨s0, n0, rfl, hm9, hc9⟩ := id h0
  clear hm9 hc9
  have H0 := kp h0
  clear h0
  obtain ⟨s1, n1, rfl, hm9, hc9⟩ := id h1
  clear hm9 hc9
  have H1 := kp h1
  clear h1
  have S := kp (St.start w)
  go_enter Tryz.func95, Tryz.ntmps95
  go_wp2_with (first | (refine bxiS (L := []) S.o ?_; clear S; intro b4 w9 S) | (refine aliS (L := [_]) S.o ?_; clear S; intro b6 w9 S) | (refine aliS (L := [_, _]) S.o ?_; clear S; intro b10 w9 S) | (refine aliB (L := [_, _, _]) S.o ?_; clear S; intro b13 w9 S) | (refine ldiS S.o ?_) | (refine ldiB S.o ?_) | (refine ldiN S.o ?_) | (refine ldI S.o ?_) | (refine ldIs S.o ?_) | (refine stiS S.o ?_; clear S; intro w9 S) | (refine stiB S.o ?_; clear S; intro w9 S) | (refine stiN S.o ?_; clear S; intro w9 S) | (refine wW ?_; dsimp only) | fail)
  (with_reducible refine (impl_functionKnown k false FK.out _).mono ?_)
  rintro e u9 ⟨rfl, rfl⟩
  go_upto_if 29 with (fail)
  go_wp2_with (first | (refine ldiS S.o ?_) | (refine ldiB S.o ?_) | (refine ldiN S.o ?_) | (refine ldI S.o ?_) | (refine ldIs S.o ?_) | (refine stiS S.o ?_; clear S; intro w9 S) | (refine stiB S.o ?_; clear S; intro w9 S) | (refine stiN S.o ?_; clear S; intro w9 S) | (refine wW ?_; dsimp only) | fail)
  exact bodyPost_ret (v := zzA) (by exact res3 rfl (by exact (rsiS S.o)) rfl rfl) rfl ⟨_, _, _, rfl, Grp.zero3 _ _, S.o.ext⟩
 cases g2 : ShM.ok ⟨⟨r0, c0, x0⟩, ⟨r1, c1, x1⟩⟩
 ·have hz : mpOk k ⟨⟨r0, c0, x0⟩, ⟨r1, c1, x1⟩⟩ s = false := by unfold mpOk; simp only [g1, g2, Bool.and_false, Bool.false_and]
  obtain ⟨z1, z2, z3⟩ := mpSh_bad hz
  rw [z1, z2, z3]
  clear hz z1 z2 z3
  unfold ShLN shZ matZ
  simp only
  have FK : Kept (fKnown k = true) := ⟨g1⟩
  have VX := kp (fun (v u : Value) (w' : World) (h : Ints w' v x0) (k : Ints w' u x1) => impl_SharedMatrixValid r0 c0 r1 c1 v u x0 x1 false g2 w' h k)
  clear g1 g2
  obtain ⟨s0, n0, rfl, hm9, hc9⟩ := id h0
  clear hm9 hc9
  have H0 := kp h0
  clear h0
  obtain ⟨s1, n1, rfl, hm9, hc9⟩ := id h1
  clear hm9 hc9
  have H1 := kp h1
  clear h1
  have S := kp (St.start w)
  go_enter Tryz.func95, Tryz.ntmps95
  go_wp2_with (first | (refine bxiS (L := []) S.o ?_; clear S; intro b4 w9 S) | (refine aliS (L := [_]) S.o ?_; clear S; intro b6 w9 S) | (refine aliS (L := [_, _]) S.o ?_; clear S; intro b10 w9 S) | (refine aliB (L := [_, _, _]) S.o ?_; clear S; intro b13 w9 S) | (refine ldiS S.o ?_) | (refine ldiB S.o ?_) | (refine ldiN S.o ?_) | (refine ldI S.o ?_) | (refine ldIs S.o ?_) | (refine stiS S.o ?_; clear S; intro w9 S) | (refine stiB S.o ?_; clear S; intro w9 S) | (refine stiN S.o ?_; clear S; intro w9 S) | (refine wW ?_; dsimp only) | fail)
  (with_reducible refine (impl_functionKnown k true FK.out _).mono ?_)
  rintro e u9 ⟨rfl, rfl⟩
  go_wp2_with (first | (refine ldiS S.o ?_) | (refine ldiB S.o ?_) | (refine ldiN S.o ?_) | (refine ldI S.o ?_) | (refine ldIs S.o ?_) | (refine stiS S.o ?_; clear S; intro w9 S) | (refine stiB S.o ?_; clear S; intro w9 S) | (refine stiN S.o ?_; clear S; intro w9 S) | (refine wW ?_; dsimp only) | fail)
  (with_reducible refine (VX.out _ _ _ (H0.out.keep S.o.ext) (H1.out.keep S.o.ext)).mono ?_)
  rintro e u9 ⟨rfl, x9⟩
  replace S := kp (S.o.quiet x9)
  clear x9
  go_upto_if 29 with (fail)
  go_wp2_with (first | (refine ldiS S.o ?_) | (refine ldiB S.o ?_) | (refine ldiN S.o ?_) | (refine ldI S.o ?_) | (refine ldIs S.o ?_) | (refine stiS S.o ?_; clear S; intro w9 S) | (refine stiB S.o ?_; clear S; intro w9 S) | (refine stiN S.o ?_; clear S; intro w9 S) | (refine wW ?_; dsimp only) | fail)
  exact bodyPost_ret (v := zzA) (by exact res3 rfl (by exact (rsiS S.o)) rfl rfl) rfl ⟨_, _, _, rfl, Grp.zero3 _ _, S.o.ext⟩
 cases g3 : seedOk s
 ·have hz : mpOk k ⟨⟨r0, c0, x0⟩, ⟨r1, c1, x1⟩⟩ s = false := by unfold mpOk; simp only [g1, g2, g3, Bool.and_false, Bool.false_and]
  obtain ⟨z1, z2, z3⟩ := mpSh_bad hz
  rw [z1, z2, z3]
  clear hz z1 z2 z3
  unfold ShLN shZ matZ
  simp only
  have FK : Kept (fKnown k = true) := ⟨g1⟩
  have VX := kp (fun (v u : Value) (w' : World) (h : Ints w' v x0) (k : Ints w' u x1) => impl_SharedMatrixValid r0 c0 r1 c1 v u x0 x1 true g2 w' h k)
  have SD : Kept ((decide (1 ≤ s) && decide (s ≤ 2147483646)) = false) := ⟨g3⟩
  clear g1 g2 g3
  obtain ⟨s0, n0, rfl, hm9, hc9⟩ := id h0
  clear hm9 hc9
  have H0 := kp h0
  clear h0
  obtain ⟨s1, n1, rfl, hm9, hc9⟩ := id h1
  clear hm9 hc9
  have H1 := kp h1
  clear h1
  have S := kp (St.start w)
  go_enter Tryz.func95, Tryz.ntmps95
  go_wp2_with (first | (refine bxiS (L := []) S.o ?_; clear S; intro b4 w9 S) | (refine aliS (L := [_]) S.o ?_; clear S; intro b6 w9 S) | (refine aliS (L := [_, _]) S.o ?_; clear S; intro b10 w9 S) | (refine aliB (L := [_, _, _]) S.o ?_; clear S; intro b13 w9 S) | (refine ldiS S.o ?_) | (refine ldiB S.o ?_) | (refine ldiN S.o ?_) | (refine ldI S.o ?_) | (refine ldIs S.o ?_) | (refine stiS S.o ?_; clear S; intro w9 S) | (refine stiB S.o ?_; clear S; intro w9 S) | (refine stiN S.o ?_; clear S; intro w9 S) | (refine wW ?_; dsimp only) | fail)
  (with_reducible refine (impl_functionKnown k true FK.out _).mono ?_)
  rintro e u9 ⟨rfl, rfl⟩
  go_wp2_with (first | (refine ldiS S.o ?_) | (refine ldiB S.o ?_) | (refine ldiN S.o ?_) | (refine ldI S.o ?_) | (refine ldIs S.o ?_) | (refine stiS S.o ?_; clear S; intro w9 S) | (refine stiB S.o ?_; clear S; intro w9 S) | (refine stiN S.o ?_; clear S; intro w9 S) | (refine wW ?_; dsimp only) | fail)
  (with_reducible refine (VX.out _ _ _ (H0.out.keep S.o.ext) (H1.out.keep S.o.ext)).mono ?_)
  rintro e u9 ⟨rfl, x9⟩
  replace S := kp (S.o.quiet x9)
  clear x9
  go_wp2_with (first | (refine ldiS S.o ?_) | (refine ldiB S.o ?_) | (refine ldiN S.o ?_) | (refine ldI S.o ?_) | (refine ldIs S.o ?_) | (refine stiS S.o ?_; clear S; intro w9 S) | (refine stiB S.o ?_; clear S; intro w9 S) | (refine stiN S.o ?_; clear S; intro w9 S) | (refine wW ?_; dsimp only) | fail)
  (with_reducible refine (impl_seedValid s false SD.out _).mono ?_)
  rintro e u9 ⟨rfl, rfl⟩
  go_upto_if 29 with (fail)
  go_wp2_with (first | (refine ldiS S.o ?_) | (refine ldiB S.o ?_) | (refine ldiN S.o ?_) | (refine ldI S.o ?_) | (refine ldIs S.o ?_) | (refine stiS S.o ?_; clear S; intro w9 S) | (refine stiB S.o ?_; clear S; intro w9 S) | (refine stiN S.o ?_; clear S; intro w9 S) | (refine wW ?_; dsimp only) | fail)
  exact bodyPost_ret (v := zzA) (by exact res3 rfl (by exact (rsiS S.o)) rfl rfl) rfl ⟨_, _, _, rfl, Grp.zero3 _ _, S.o.ext⟩
 have hz : mpOk k ⟨⟨r0, c0, x0⟩, ⟨r1, c1, x1⟩⟩ s = true := by unfold mpOk; simp only [g1, g2, g3, Bool.and_self]
 obtain ⟨z1, z2, z3⟩ := mpSh_ok hz
 rw [z1, z2, z3]
 clear hz z1 z2 z3
 unfold ShLN
 simp only
 have sides : mOk r0 c0 x0 = true ∧ mOk r1 c1 x1 = true ∧ r0 = r1 ∧ c0 = c1 := by
  have a := g2
  simp only [ShM.ok, Mat.ok, sameS, Bool.and_eq_true, decide_eq_true_eq] at a
  exact ⟨a.1.1, a.1.2, a.2.1, a.2.2⟩
 have FK : Kept (fKnown k = true) := ⟨g1⟩
 have VX := kp (fun (v u : Value) (w' : World) (h : Ints w' v x0) (k : Ints w' u x1) => impl_SharedMatrixValid r0 c0 r1 c1 v u x0 x1 true g2 w' h k)
 have SD : Kept ((decide (1 ≤ s) && decide (s ≤ 2147483646)) = true) := ⟨g3⟩
 clear g1 g2 g3
 obtain ⟨m0, m1, rfl, rfl⟩ := sides
 obtain ⟨R, C, rfl, rfl, R1, R5, C1, C5, hL0, L25, -⟩ := mOk_nat m0
 obtain ⟨R', C', e1, e2, -, -, -, -, hL1, -, -⟩ := mOk_nat m1
 obtain rfl : R = R' := by omega
 obtain rfl : C = C' := by omega
 have hX1 : x1.length = x0.length := by omega
 have X1 := kp hX1
 clear hX1
 have X25 : x0.length ≤ 25 := by omega
 clear m0 m1 e1 e2 hL1 L25
 have EMS := kp (fun (w' : World) => impl_emptyShared R C ⟨R1, R5⟩ ⟨C1, C5⟩ w')
 unfold ZeroSh at EMS
 rw [← hL0] at EMS
 clear hL0 R1 R5 C1 C5
 have FV := kp (fun (w' : World) => impl_FunctionValues k w')
 unfold OwnPost at FV
 generalize fVals k = V at *
 have HF := kp (fun j => (show mpF V x0 x1 s j = lkF V x0 x1 (msd V s j) j from rfl))
 have HG := kp (fun j => (show mpL V x0 x1 s j = lkL V x0 x1 (msd V s j) j from rfl))
 have HO := kp (fun j => (show mpC V x0 x1 s j = lkC V x0 x1 (msd V s j) j from rfl))
 have HM := kp (fun j => (show msd V s (j + 1) = mtN V (msd V s j) from rfl))
 have HM0 := kp (show msd V s 0 = s from rfl)
 generalize mpF V x0 x1 s = F at *
 generalize mpL V x0 x1 s = G at *
 generalize mpC V x0 x1 s = O at *
 generalize msd V s = M at *
 obtain ⟨s0, n0, rfl, hm9, hc9⟩ := id h0
 clear hm9 hc9
 have H0 := kp h0
 clear h0
 obtain ⟨s1, n1, rfl, hm9, hc9⟩ := id h1
 clear hm9 hc9
 have H1 := kp h1
 clear h1
 have S := kp (St.start w)
 go_enter Tryz.func95, Tryz.ntmps95
 go_wp2_with (first | (refine bxiS (L := []) S.o ?_; clear S; intro b4 w9 S) | (refine aliS (L := [_]) S.o ?_; clear S; intro b6 w9 S) | (refine aliS (L := [_, _]) S.o ?_; clear S; intro b10 w9 S) | (refine aliB (L := [_, _, _]) S.o ?_; clear S; intro b13 w9 S) | (refine ldiS S.o ?_) | (refine ldiB S.o ?_) | (refine ldiN S.o ?_) | (refine ldI S.o ?_) | (refine ldIs S.o ?_) | (refine stiS S.o ?_; clear S; intro w9 S) | (refine stiB S.o ?_; clear S; intro w9 S) | (refine stiN S.o ?_; clear S; intro w9 S) | (refine wW ?_; dsimp only) | fail)
 (with_reducible refine (impl_functionKnown k true FK.out _).mono ?_)
 rintro e u9 ⟨rfl, rfl⟩
 go_wp2_with (first | (refine ldiS S.o ?_) | (refine ldiB S.o ?_) | (refine ldiN S.o ?_) | (refine ldI S.o ?_) | (refine ldIs S.o ?_) | (refine stiS S.o ?_; clear S; intro w9 S) | (refine stiB S.o ?_; clear S; intro w9 S) | (refine stiN S.o ?_; clear S; intro w9 S) | (refine wW ?_; dsimp only) | fail)
 (with_reducible refine (VX.out _ _ _ (H0.out.keep S.o.ext) (H1.out.keep S.o.ext)).mono ?_)
 rintro e u9 ⟨rfl, x9⟩
 replace S := kp (S.o.quiet x9)
 clear x9
 go_wp2_with (first | (refine ldiS S.o ?_) | (refine ldiB S.o ?_) | (refine ldiN S.o ?_) | (refine ldI S.o ?_) | (refine ldIs S.o ?_) | (refine stiS S.o ?_; clear S; intro w9 S) | (refine stiB S.o ?_; clear S; intro w9 S) | (refine stiN S.o ?_; clear S; intro w9 S) | (refine wW ?_; dsimp only) | fail)
 (with_reducible refine (impl_seedValid s true SD.out _).mono ?_)
 rintro e u9 ⟨rfl, rfl⟩
 go_upto_if 29 with (fail)
 go_wp2_with (first | (refine ldiS S.o ?_) | (refine ldiB S.o ?_) | (refine ldiN S.o ?_) | (refine ldI S.o ?_) | (refine ldIs S.o ?_) | (refine stiS S.o ?_; clear S; intro w9 S) | (refine stiB S.o ?_; clear S; intro w9 S) | (refine stiN S.o ?_; clear S; intro w9 S) | (refine wW ?_; dsimp only) | fail)
 (with_reducible refine (FV.out _).mono ?_)
 rintro e u9 ⟨vV, rfl, oV, x9⟩
 replace S := kp (S.o.made oV x9)
 clear x9
 obtain ⟨pV, mV, hu9, -, -⟩ := id oV.ints
 try simp only at hu9
 subst hu9
 clear oV
 go_wp2_with (first | (refine aliS (L := [_, _]) S.o ?_; clear S; intro b10 w9 S) | (refine aliB (L := [_, _, _]) S.o ?_; clear S; intro b13 w9 S) | (refine ldiS S.o ?_) | (refine ldiB S.o ?_) | (refine ldiN S.o ?_) | (refine ldI S.o ?_) | (refine ldIs S.o ?_) | (refine stiS S.o ?_; clear S; intro w9 S) | (refine stiB S.o ?_; clear S; intro w9 S) | (refine stiN S.o ?_; clear S; intro w9 S) | (refine wW ?_; dsimp only) | fail)
 (with_reducible refine (EMS.out _).mono ?_)
 rintro e u9 ⟨gF, gG, rfl, gg, x9⟩
 replace S := kp (S.o.made2 gg x9)
 clear gg x9
 go_wp2_with (first | (at_make; refine wpList_make_ints _ rfl _ _ rfl _ x0.length (x0.length : Int) rfl rfl rfl (by omega) (Nat.le_refl _) ?_; intro w1 hown hx hlt; replace S := kp (S.o.made hown hx); clear hown hx hlt) | (refine aliS (L := [_, _]) S.o ?_; clear S; intro b10 w9 S) | (refine aliB (L := [_, _, _]) S.o ?_; clear S; intro b13 w9 S) | (refine ldiS S.o ?_) | (refine ldiB S.o ?_) | (refine ldiN S.o ?_) | (refine ldI S.o ?_) | (refine ldIs S.o ?_) | (refine stiS S.o ?_; clear S; intro w9 S) | (refine stiB S.o ?_; clear S; intro w9 S) | (refine stiN S.o ?_; clear S; intro w9 S) | (refine wW ?_; dsimp only) | fail)
 obtain ⟨gO, hgO⟩ : ∃ gO, St none w w1 [⟨b10, 30, [.int .i64 R, .int .i64 C, .slice (some ⟨gF, 0, none⟩) x0.length x0.length, .int .i64 R, .int .i64 C, .slice (some ⟨gG, 0, none⟩) x0.length x0.length]⟩, ⟨b6, 30, [.int .i64 0, .int .i64 0, .slice none 0 0, .int .i64 0, .int .i64 0, .slice none 0 0]⟩, ⟨b4, 30, [.int .i64 R, .int .i64 C, .slice s0 x0.length n0, .int .i64 R, .int .i64 C, .slice s1 x1.length n1]⟩] [.slice (some ⟨gO, 0, none⟩) x0.length x0.length, .slice (some ⟨gF, 0, none⟩) x0.length x0.length, .slice (some ⟨gG, 0, none⟩) x0.length x0.length, .slice pV V.length mV] [fil O 0 x0.length, fil F 0 x0.length, fil G 0 x0.length, V] ∧ gO = w9.heap.size := ⟨_, by rw [← fil_zero, ← fil_zero, ← fil_zero]; exact S.o, rfl⟩
 clear S
 obtain ⟨S, hg⟩ := hgO
 have S := kp S
 rw [← hg]
 clear hg
 go_loopw [2, 47] (fun sd i wr => ∃ j : Nat, j ≤ x0.length ∧ sd = .int .i64 (M j) ∧ i = .int .i64 j ∧ St none w wr [⟨b10, 30, [.int .i64 R, .int .i64 C, .slice (some ⟨gF, 0, none⟩) x0.length x0.length, .int .i64 R, .int .i64 C, .slice (some ⟨gG, 0, none⟩) x0.length x0.length]⟩, ⟨b6, 30, [.int .i64 0, .int .i64 0, .slice none 0 0, .int .i64 0, .int .i64 0, .slice none 0 0]⟩, ⟨b4, 30, [.int .i64 R, .int .i64 C, .slice s0 x0.length n0, .int .i64 R, .int .i64 C, .slice s1 x1.length n1]⟩] [.slice (some ⟨gO, 0, none⟩) x0.length x0.length, .slice (some ⟨gF, 0, none⟩) x0.length x0.length, .slice (some ⟨gG, 0, none⟩) x0.length x0.length, .slice pV V.length mV] [fil O j x0.length, fil F j x0.length, fil G j x0.length, V]) (fun _ i _ => x0.length - (intOf i).toNat)
 case atStart => exact ⟨0, Nat.zero_le _, by rw [HM0.out], rfl, S.o⟩
 clear S
 obtain ⟨j, hj, rfl, rfl, S⟩ := hrel
 have S := kp S
 by_cases hlt : j < x0.length
 ·have hz : (j : Int) < (x0.length : Int) := by omega
  have MK := kp (fun (v : Value) (w' : World) (h : Ints w' v V) => (impl_MakeTable V (M j) v w' h).mono fun e w'' h => MadePost.grp h)
  have UT := kp (fun (v u : Value) (w' : World) (h : Ints w' v (mtF V (M j))) (k : Ints w' u (mtS V (M j))) => impl_UseTable (x0.getD j 0) (x1.getD j 0) (mtA V (M j)) (mtB V (M j)) v u (mtF V (M j)) (mtS V (M j)) w' h k)
  have SA := kp (fun (v u : Value) (w' : World) (h : Ints w' v x0) (k : Ints w' u x1) => impl_sharesAt R C R C v u x0 x1 j hlt (by rw [X1.out]; exact hlt) w' h k)
  rw [← HM.out j] at MK
  have eF := HF.out j
  have eG := HG.out j
  have eO := HO.out j
  unfold lkF at eF
  unfold lkL at eG
  unfold lkC at eO
  rw [← eF, ← eG, ← eO] at UT
  clear eF eG eO
  generalize useOk _ _ _ _ _ _ = ok at UT
  generalize x0.getD j 0 = y0 at *
  generalize x1.getD j 0 = y1 at *
  generalize mtA V (M j) = a1 at *
  generalize mtB V (M j) = a2 at *
  generalize mtF V (M j) = tF at *
  generalize mtS V (M j) = tS at *
  generalize hN : M (j + 1) = q1 at MK
  have HN := kp hN
  clear hN
  generalize M j = q0 at *
  have EF := kp (fil_set F hlt)
  have EG := kp (fil_set G hlt)
  have EO := kp (fil_set O hlt)
  generalize F j = f0 at *
  generalize G j = f1 at *
  generalize O j = f2 at *
  go_wp2_with (first | (refine aliS (L := [_, _]) S.o ?_; clear S; intro b10 w9 S) | (refine aliB (L := [_, _, _]) S.o ?_; clear S; intro b13 w9 S) | (refine ldiS S.o ?_) | (refine ldiB S.o ?_) | (refine ldiN S.o ?_) | (refine ldI S.o ?_) | (refine ldIs S.o ?_) | (refine stiS S.o ?_; clear S; intro w9 S) | (refine stiB S.o ?_; clear S; intro w9 S) | (refine stiN S.o ?_; clear S; intro w9 S) | (refine wW ?_; dsimp only) | fail)
  (with_reducible refine (MK.out _ _ (S.o.grp.get 3 rfl rfl).ints).mono ?_)
  rintro e u9 ⟨vT, vU, rfl, gg, x9⟩
  obtain ⟨pT, mT, hu9, -, -⟩ := id gg.o0.ints
  try simp only at hu9
  subst hu9
  obtain ⟨pU, mU, hu9, -, -⟩ := id gg.o1.ints
  try simp only at hu9
  subst hu9
  replace S := kp (S.o.made2 gg x9)
  clear gg x9
  go_wp2_with (first | (refine aliS (L := [_, _]) S.o ?_; clear S; intro b10 w9 S) | (refine aliB (L := [_, _, _]) S.o ?_; clear S; intro b13 w9 S) | (refine ldiS S.o ?_) | (refine ldiB S.o ?_) | (refine ldiN S.o ?_) | (refine ldI S.o ?_) | (refine ldIs S.o ?_) | (refine stiS S.o ?_; clear S; intro w9 S) | (refine stiB S.o ?_; clear S; intro w9 S) | (refine stiN S.o ?_; clear S; intro w9 S) | (refine wW ?_; dsimp only) | fail)
  apply wp_region_zipV (XS.rel _ [] [78]) (fun L V w' => Bs w9.heap.size [⟨9, 10, 6, 78, #[.int .i64 0, .int .i64 0]⟩] L V w') [isv _, isv _, isv _, isv _, isv _, isv _, isv _, isv _, isv _, anyV, anyV, isv _, isv _] _ ?hJ (by kernel_rfl)
  case hJ => exact Bs.start _ _ _ _
  case hA => intro V; simp [putAll, dstOf, Act.put]; exact rfl
  case hsl => intro V; exact rfl
  case step =>
   intro V lo up w' hr L hj
   have S := kp (S.o.quiet hr.ext)
   simp only [zipOkV, depsImp, isv, anyV, modeNg, newb, waits, Region.binds, List.map_nil, List.map_cons, List.headD_cons, List.nil_append, List.cons_append, List.filterMap_cons, List.filterMap_nil, ↓reduceIte, modeNe, Bool.false_eq_true, true_implies, List.getD_cons_zero, List.getD_cons_succ, and_true, Nat.zero_add, Nat.reduceAdd]
   refine ⟨?_, ?_, ?_, ?_, ?_, ?_, ?_, ?_, ?_, ?_, ?_, ?_, ?_⟩
   ·intro hl hw hd
    intros
    (try simp only [*])
    go_wp2_with (first | (refine ldiS S.o ?_) | fail)
    refine sS ?_
    exact ⟨XS.refl _, rfl, hj.other (Ext.refl _) hl (by intro it hit; simp only [List.mem_cons, List.not_mem_nil, or_false] at hit; subst hit; exact ⟨by decide, by decide⟩)⟩
   ·intro hl hw hd
    intros
    (try simp only [*])
    go_wp2_with (fail)
    refine sS ?_
    exact ⟨XS.refl _, rfl, hj.other (Ext.refl _) hl (by intro it hit; simp only [List.mem_cons, List.not_mem_nil, or_false] at hit; subst hit; exact ⟨by decide, by decide⟩)⟩
   ·intro hl hw hd
    intros
    (try simp only [*])
    go_wp2_with (fail)
    (with_reducible refine (SA.out _ _ _ (H0.out.keep S.o.ext) (H1.out.keep S.o.ext)).mono ?_)
    rintro e w9 ⟨rfl, x9⟩
    go_wp2
    refine sS ?_
    exact ⟨XS.of_ext x9, rfl, hj.other x9 hl (by intro it hit; simp only [List.mem_cons, List.not_mem_nil, or_false] at hit; subst hit; exact ⟨by decide, by decide⟩)⟩
   ·intro hl hw hd
    intros
    (try simp only [*])
    go_wp2_with (first | (refine ldiB S.o ?_) | fail)
    refine sS ?_
    exact ⟨XS.refl _, rfl, hj.other (Ext.refl _) hl (by intro it hit; simp only [List.mem_cons, List.not_mem_nil, or_false] at hit; subst hit; exact ⟨by decide, by decide⟩)⟩
   ·intro hl hw hd
    intros
    (try simp only [*])
    go_wp2_with (fail)
    (with_reducible refine (UT.out _ _ _ (S.o.grp.get 0 rfl rfl).ints (S.o.grp.get 1 rfl rfl).ints).mono ?_)
    rintro e w9 ⟨rfl, x9⟩
    go_wp2
    refine sS ?_
    exact ⟨XS.of_ext x9, rfl, hj.other x9 hl (by intro it hit; simp only [List.mem_cons, List.not_mem_nil, or_false] at hit; subst hit; exact ⟨by decide, by decide⟩)⟩
   ·intro hl hw hd
    intros
    (try simp only [*])
    go_wp2_with (fail)
    refine sS ?_
    exact ⟨XS.refl _, rfl, hj.other (Ext.refl _) hl (by intro it hit; simp only [List.mem_cons, List.not_mem_nil, or_false] at hit; subst hit; exact ⟨by decide, by decide⟩)⟩
   ·intro hl hw hd
    intros
    (try simp only [*])
    go_wp2_with (fail)
    refine sS ?_
    exact ⟨XS.refl _, rfl, hj.other (Ext.refl _) hl (by intro it hit; simp only [List.mem_cons, List.not_mem_nil, or_false] at hit; subst hit; exact ⟨by decide, by decide⟩)⟩
   ·intro hl hw hd
    intros
    (try simp only [*])
    go_wp2_with (fail)
    refine sS ?_
    exact ⟨XS.refl _, rfl, hj.other (Ext.refl _) hl (by intro it hit; simp only [List.mem_cons, List.not_mem_nil, or_false] at hit; subst hit; exact ⟨by decide, by decide⟩)⟩
   ·intro hl hw hd
    intros
    (try simp only [*])
    go_wp2_with (fail)
    refine sS ?_
    exact ⟨XS.refl _, rfl, hj.other (Ext.refl _) hl (by intro it hit; simp only [List.mem_cons, List.not_mem_nil, or_false] at hit; subst hit; exact ⟨by decide, by decide⟩)⟩
   ·intro hl hw hd
    intros
    go_wp2
    refine sS ?_
    exact ⟨XS.of_ext ((Ext.refl _).alloc _), trivial, hj.alloc (it0 := ⟨9, 10, 6, 78, #[.int .i64 0, .int .i64 0]⟩) (by simp) hl (by intro jt hjt h; simp only [List.mem_cons, List.not_mem_nil, or_false] at hjt; subst hjt; first | rfl | exact absurd h (by decide)) (by intro it hit; simp only [List.mem_cons, List.not_mem_nil, or_false] at hit; subst hit; exact ⟨by decide, by decide⟩) (b := w'.heap.size) (Nat.le_refl _) hr.size ((Ext.refl _).alloc _) (Blk.new _ _ _)⟩
   ·intro hl hw hd
    obtain ⟨b_, eb, lb, -, k0, -⟩ := hj.box ⟨9, 10, 6, 78, #[.int .i64 0, .int .i64 0]⟩ (by simp) (hd 9 (by simp))
    have kz := k0 hl
    intros
    have e_ : V 6 = .agg #[.int .i64 f0, .int .i64 f1] := by assumption
    refine wpList_putX (by rfl) (by rfl) _ _ (by rfl) b_ _ _ (by exact eb) (by exact e_) kz (by kernel_rfl) (by rfl) (by simp [Value.oneCell']) (.inr ⟨lb, by simp⟩) (fun w'' f k hoth hsz u => ⟨f, trivial, hj.store (it0 := ⟨9, 10, 6, 78, #[.int .i64 0, .int .i64 0]⟩) (by simp) (hd 9 (by simp)) (hd 6 (by simp)) (by intro jt hjt h; simp only [List.mem_cons, List.not_mem_nil, or_false] at hjt; subst hjt; first | rfl | exact absurd h (by decide)) (by intro jt hjt h; simp only [List.mem_cons, List.not_mem_nil, or_false] at hjt; subst hjt; first | rfl | exact absurd h (by decide)) (by intro it hit; simp only [List.mem_cons, List.not_mem_nil, or_false] at hit; subst hit; exact ⟨by decide, by decide⟩) eb e_ k hoth hsz⟩)
   ·intro hl hw hd
    intros
    (try simp only [*])
    go_wp2_with (fail)
    refine sS ?_
    exact ⟨XS.refl _, rfl, hj.other (Ext.refl _) hl (by intro it hit; simp only [List.mem_cons, List.not_mem_nil, or_false] at hit; subst hit; exact ⟨by decide, by decide⟩)⟩
   intro hl hw hd
   intros
   (try simp only [*])
   go_wp2_with (fail)
   refine sS ?_
   exact ⟨XS.refl _, rfl, hj.other (Ext.refl _) hl (by intro it hit; simp only [List.mem_cons, List.not_mem_nil, or_false] at hit; subst hit; exact ⟨by decide, by decide⟩)⟩
  case hB => kernel_rfl
  intro V lo up w' hr L hj hL hf ha
  simp only [factsOk, isv, anyV, modeNg, newb, List.map_nil, List.map_cons, List.headD_cons, and_true, Nat.zero_add, Nat.reduceAdd] at hf
  simp only [List.length_cons, List.length_nil, Nat.zero_add, Nat.reduceAdd, List.drop_succ_cons, List.drop_zero]
  obtain ⟨-, -, -, -, -, -, ⟨-, -, -, e6⟩, -, -, -, -, ⟨-, -, -, e11⟩, ⟨-, -, -, e12⟩⟩ := hf
  clear ha
  rw [e11, e12]
  clear e11 e12
  obtain ⟨b14, eb, lb, -, -, kk⟩ := hj.box ⟨9, 10, 6, 78, #[.int .i64 0, .int .i64 0]⟩ (by simp) (hL 9 (by simp))
  obtain ⟨cs, es, k14⟩ := kk (hL 10 (by simp))
  rw [e6] at es
  injection es with es
  subst es
  rw [eb]
  clear eb e6 hj
  replace S := kp (S.o.newBox (cs := [.int .i64 f0, .int .i64 f1]) hr.ext k14 lb)
  clear hr k14 lb kk
  go_wp2_with (first | (refine ldiS S.o ?_) | (refine ldiB S.o ?_) | (refine ldiN S.o ?_) | (refine ldI S.o ?_) | (refine ldIs S.o ?_) | (refine stiS S.o ?_; clear S; intro w9 S) | (refine stiB S.o ?_; clear S; intro w9 S) | (refine stiN S.o ?_; clear S; intro w9 S) | (refine wW ?_; dsimp only) | fail)
  (with_reducible refine (impl_put S.o R C R C 3 4 (by decide) rfl rfl (fil_len _ _ _) rfl rfl (fil_len _ _ _) j hlt hlt f0 f1).mono ?_)
  rintro e u9 ⟨rfl, S9⟩
  clear S
  simp only [List.set_cons_succ, List.set_cons_zero] at S9
  rw [EF.out, EG.out] at S9
  have S := kp S9
  clear S9
  go_wp2_with (first | (refine stL S.o 2 rfl rfl (fil_len _ _ _) j hlt f2 _ _ rfl rfl rfl rfl rfl ?_; clear S; intro w9 S) | (refine ldiS S.o ?_) | (refine ldiB S.o ?_) | (refine ldiN S.o ?_) | (refine ldI S.o ?_) | (refine ldIs S.o ?_) | (refine wW ?_; dsimp only) | fail)
  simp only [List.set_cons_succ, List.set_cons_zero] at S
  rw [EO.out] at S
  have S := kp S
  go_roundw
  case rel => exact ⟨j + 1, by omega, by rw [HN.out], by go_num, S.o.sub (List.Sublist.cons _ (List.Sublist.cons _ (List.Sublist.refl _))) (List.Sublist.cons _ (List.Sublist.cons _ (List.Sublist.refl _))) S.o.grp.own.2.2⟩
  case measure => simp [intOf]; omega
 have e : j = x0.length := by omega
 subst e
 have hz : ¬ (x0.length : Int) < (x0.length : Int) := by omega
 have S9 := S.o
 rw [fil_full, fil_full, fil_full] at S9
 replace S := kp S9
 clear S9
 go_wp2_with (first | (refine ldiS S.o ?_) | (refine ldiB S.o ?_) | (refine ldiN S.o ?_) | (refine ldI S.o ?_) | (refine ldIs S.o ?_) | (refine stiS S.o ?_; clear S; intro w9 S) | (refine stiB S.o ?_; clear S; intro w9 S) | (refine stiN S.o ?_; clear S; intro w9 S) | (refine wW ?_; dsimp only) | fail)
 exact bodyPost_ret (v := .tuple #[.agg #[.int .i64 R, .int .i64 C, .slice (some ⟨gF, 0, none⟩) x0.length x0.length, .int .i64 R, .int .i64 C, .slice (some ⟨gG, 0, none⟩) x0.length x0.length], .slice (some ⟨gO, 0, none⟩) x0.length x0.length, .int .i64 (M x0.length)]) (by exact res3 rfl (by exact (rsiS S.o)) rfl rfl) rfl ⟨_, _, _, rfl, S.o.grp.sel rfl [1, 2, 0] (by decide) (by simp), S.o.ext⟩
end Go.Proofs.YtkkdikoknegpjaaGreat
