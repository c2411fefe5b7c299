import Derived.Test.YtkkdikoknegpjaaGreatMatD
import Derived.Test.YtkkdikoknegpjaaGreatKG
import Derived.Test.YtkkdikoknegpjaaGreatSPair
import Derived.Test.YtkkdikoknegpjaaGreatTriT
import Derived.Test.YtkkdikoknegpjaaGreatQE
import Derived.Test.YtkkdikoknegpjaaGreatQF
namespace Go.Proofs.YtkkdikoknegpjaaGreat
set_option linter.unusedSimpArgs false
set_option linter.unusedVariables false
open Go.RowKit
def IsShM (B : Nat) (w : World) (u : Value) : Prop := ∃ (r c r' c' : Int) (v v' : Value) (xs xs' : List Int), u = .agg #[.int .i64 r, .int .i64 c, v, .int .i64 r', .int .i64 c', v'] ∧ Grp B w [v, v'] [xs, xs'] ∧ xs.length ≤ 1048576 ∧ xs'.length ≤ 1048576
def matV {n0 m : Nat} {rs : List Nat} {Ts : List TypeId} (hT : 3 ∉ Ts) (r c : Int) (xs : List Int) : OpSpec (XS n0 rs Ts) m :=
 ⟨[], fun _ u _ _ w => ∃ v, u = .agg #[.int .i64 r, .int .i64 c, v] ∧ Own n0 w v xs, fun _ _ _ _ _ _ _ _ _ hx ⟨v, h1, h2⟩ => ⟨v, h1, h2.xs hx (Nat.le_refl _) hT⟩⟩
def matW {n0 m : Nat} {rs : List Nat} {Ts : List TypeId} (hT : 3 ∉ Ts) (r c : Int) (s : Value) (r' c' : Int) (xs : List Int) : OpSpec (XS n0 rs Ts) m :=
 ⟨[], fun _ u _ _ w => ∃ v, u = .agg #[.int .i64 r, .int .i64 c, s, .int .i64 r', .int .i64 c', v] ∧ Own n0 w v xs, fun _ _ _ _ _ _ _ _ _ hx ⟨v, h1, h2⟩ => ⟨v, h1, h2.xs hx (Nat.le_refl _) hT⟩⟩
def anyV {X : World → World → Prop} {m : Nat} : OpSpec X m := ⟨[], fun _ _ _ _ _ => True, fun _ _ _ _ _ _ _ _ _ _ h => h⟩
set_option maxHeartbeats 8000000 in
set_option maxRecDepth 4000 in
theorem spec_SplitMatrix (r c : Int) (v : Value) (xs : List Int) (s : Int) (w : World) (h1 : Arg w v xs) : Calls Tryz.prog 67 #[.agg #[.int .i64 r, .int .i64 c, v], .int .i64 s] w fun e w' => ∃ (u : Value) (n : Int), e = .returned (.tuple #[u, .int .i64 n]) ∧ IsShM w.heap.size w' u ∧ Ext w w' := by
 cases g1 : mOk r c xs
 ·obtain ⟨s1, n1, rfl, hm1, hc1⟩ := id h1.ints
  clear hm1 hc1
  have H1 := kp h1
  clear h1
  have OA : Kept (∀ w', Ints w' (.slice s1 xs.length n1) xs → Calls Tryz.prog 51 #[.agg #[.int .i64 r, .int .i64 c, .slice s1 xs.length n1]] w' (MatPost ⟨r, c, xs⟩ w')) := ⟨fun w' h => spec_l1OwnMatrix r c _ xs w' h H1.out.fit.nil H1.out.len⟩
  unfold MatPost at OA
  have S := kp (St.start w)
  go_enter Tryz.func67, Tryz.ntmps67
  go_wp2_with (first | (refine ldiM S.o ?_) | (refine ldI S.o ?_) | (refine stiM S.o ?_; clear S; intro w9 S) | (refine stiS S.o ?_; clear S; intro w9 S) | (refine aliM S.o ?_; clear S; intro b9 w9 S) | (refine aliS S.o ?_; clear S; intro b9 w9 S) | (refine bxiM S.o ?_; clear S; intro b9 w9 S) | (refine wW ?_; dsimp only) | fail)
  (with_reducible refine (OA.out _ (H1.out.ints.keep S.o.ext)).mono ?_)
  rintro e u9 ⟨v0, rfl, o0, x9⟩
  replace S := kp (S.o.made o0 x9)
  clear x9
  obtain ⟨p0, m0, hu9, -, -⟩ := id o0.ints
  try simp only at hu9
  subst hu9
  clear o0
  have MV : Kept (∀ w', Ints w' (.slice p0 xs.length m0) xs → Calls Tryz.prog 75 #[.agg #[.int .i64 r, .int .i64 c, .slice p0 xs.length m0]] w' fun e w'' => e = .returned (.bool (mOk r c xs)) ∧ Ext w' w'') := ⟨fun w' h => spec_MatrixValid r c _ xs w' h⟩
  go_wp2_with (first | (refine ldiM S.o ?_) | (refine ldI S.o ?_) | (refine stiM S.o ?_; clear S; intro w9 S) | (refine stiS S.o ?_; clear S; intro w9 S) | (refine aliM S.o ?_; clear S; intro b9 w9 S) | (refine aliS S.o ?_; clear S; intro b9 w9 S) | (refine bxiM S.o ?_; clear S; intro b9 w9 S) | (refine wW ?_; dsimp only) | fail)
  rw [g1] at MV
  (with_reducible refine (MV.out _ S.o.own.ints).mono ?_)
  rintro e u9 ⟨rfl, x9⟩
  replace S := kp (S.o.quiet x9)
  clear x9
  go_wp2_with (first | (refine ldiM S.o ?_) | (refine ldI S.o ?_) | (refine stiM S.o ?_; clear S; intro w9 S) | (refine stiS S.o ?_; clear S; intro w9 S) | (refine aliM S.o ?_; clear S; intro b9 w9 S) | (refine aliS S.o ?_; clear S; intro b9 w9 S) | (refine bxiM S.o ?_; clear S; intro b9 w9 S) | (refine wW ?_; dsimp only) | fail)
  exact bodyPost_ret (v := .tuple #[.agg #[.int .i64 0, .int .i64 0, .slice none 0 0, .int .i64 0, .int .i64 0, .slice none 0 0], .int .i64 0]) (by exact res2 rfl (by exact (rsiS S.o)) rfl) rfl ⟨_, _, rfl, ⟨_, _, _, _, _, _, [], [], rfl, Grp.two (Own.nil _ _) (Own.nil _ _) (Apt.nil _ _ rfl), Nat.zero_le _, Nat.zero_le _⟩, S.o.ext⟩
 cases g2 : seedOk s
 ·have SD : Kept ((decide (1 ≤ s) && decide (s ≤ 2147483646)) = false) := ⟨g2⟩
  clear g2
  obtain ⟨s1, n1, rfl, hm1, hc1⟩ := id h1.ints
  clear hm1 hc1
  have H1 := kp h1
  clear h1
  have OA : Kept (∀ w', Ints w' (.slice s1 xs.length n1) xs → Calls Tryz.prog 51 #[.agg #[.int .i64 r, .int .i64 c, .slice s1 xs.length n1]] w' (MatPost ⟨r, c, xs⟩ w')) := ⟨fun w' h => spec_l1OwnMatrix r c _ xs w' h H1.out.fit.nil H1.out.len⟩
  unfold MatPost at OA
  have S := kp (St.start w)
  go_enter Tryz.func67, Tryz.ntmps67
  go_wp2_with (first | (refine ldiM S.o ?_) | (refine ldI S.o ?_) | (refine stiM S.o ?_; clear S; intro w9 S) | (refine stiS S.o ?_; clear S; intro w9 S) | (refine aliM S.o ?_; clear S; intro b9 w9 S) | (refine aliS S.o ?_; clear S; intro b9 w9 S) | (refine bxiM S.o ?_; clear S; intro b9 w9 S) | (refine wW ?_; dsimp only) | fail)
  (with_reducible refine (OA.out _ (H1.out.ints.keep S.o.ext)).mono ?_)
  rintro e u9 ⟨v0, rfl, o0, x9⟩
  replace S := kp (S.o.made o0 x9)
  clear x9
  obtain ⟨p0, m0, hu9, -, -⟩ := id o0.ints
  try simp only at hu9
  subst hu9
  clear o0
  have MV : Kept (∀ w', Ints w' (.slice p0 xs.length m0) xs → Calls Tryz.prog 75 #[.agg #[.int .i64 r, .int .i64 c, .slice p0 xs.length m0]] w' fun e w'' => e = .returned (.bool (mOk r c xs)) ∧ Ext w' w'') := ⟨fun w' h => spec_MatrixValid r c _ xs w' h⟩
  go_wp2_with (first | (refine ldiM S.o ?_) | (refine ldI S.o ?_) | (refine stiM S.o ?_; clear S; intro w9 S) | (refine stiS S.o ?_; clear S; intro w9 S) | (refine aliM S.o ?_; clear S; intro b9 w9 S) | (refine aliS S.o ?_; clear S; intro b9 w9 S) | (refine bxiM S.o ?_; clear S; intro b9 w9 S) | (refine wW ?_; dsimp only) | fail)
  rw [g1] at MV
  (with_reducible refine (MV.out _ S.o.own.ints).mono ?_)
  rintro e u9 ⟨rfl, x9⟩
  replace S := kp (S.o.quiet x9)
  clear x9
  go_wp2_with (first | (refine ldiM S.o ?_) | (refine ldI S.o ?_) | (refine stiM S.o ?_; clear S; intro w9 S) | (refine stiS S.o ?_; clear S; intro w9 S) | (refine aliM S.o ?_; clear S; intro b9 w9 S) | (refine aliS S.o ?_; clear S; intro b9 w9 S) | (refine bxiM S.o ?_; clear S; intro b9 w9 S) | (refine wW ?_; dsimp only) | fail)
  (with_reducible refine (spec_l1In s 1 2147483646 false SD.out _).mono ?_)
  rintro e u9 ⟨rfl, rfl⟩
  go_wp2_with (first | (refine ldiM S.o ?_) | (refine ldI S.o ?_) | (refine stiM S.o ?_; clear S; intro w9 S) | (refine stiS S.o ?_; clear S; intro w9 S) | (refine aliM S.o ?_; clear S; intro b9 w9 S) | (refine aliS S.o ?_; clear S; intro b9 w9 S) | (refine bxiM S.o ?_; clear S; intro b9 w9 S) | (refine wW ?_; dsimp only) | fail)
  exact bodyPost_ret (v := .tuple #[.agg #[.int .i64 0, .int .i64 0, .slice none 0 0, .int .i64 0, .int .i64 0, .slice none 0 0], .int .i64 0]) (by exact res2 rfl (by exact (rsiS S.o)) rfl) rfl ⟨_, _, rfl, ⟨_, _, _, _, _, _, [], [], rfl, Grp.two (Own.nil _ _) (Own.nil _ _) (Apt.nil _ _ rfl), Nat.zero_le _, Nat.zero_le _⟩, S.o.ext⟩
 have SD : Kept ((decide (1 ≤ s) && decide (s ≤ 2147483646)) = true) := ⟨g2⟩
 obtain ⟨R, C, f, e9, hR, hC, hf⟩ := Mat.ok_form (m := ⟨r, c, xs⟩) g1
 obtain ⟨rfl, rfl, hxs⟩ : r = (R : Int) ∧ c = (C : Int) ∧ xs = mapTo f (R * C) := by simpa [Fm] using e9
 clear e9 hxs hf f
 have RM := kp (fun w' => spec_RandomMatrix R C hR hC s (seed_of g2) w')
 unfold RmPost at RM
 have L1 : Kept ((rlist s (R * C)).length ≤ 1048576) := ⟨by rw [rlist_len]; exact Nat.le_trans (side_mul' hR hC) (by decide)⟩
 have L0 : Kept (xs.length ≤ 1048576) := ⟨h1.len⟩
 clear hR hC
 generalize rlist s (R * C) = x1 at *
 generalize strm s (R * C) = t1 at *
 have SB := kp (fun (v u : Value) (w' : World) (h1 : Arg w' v xs) (h2 : Arg w' u x1) => spec_SubMatrices R C R C v u xs x1 w' h1 h2)
 unfold MatPost at SB
 have L9 := kp (pairM_len subR ⟨R, C, xs⟩ ⟨R, C, x1⟩)
 rw [show pairM subR = subM from rfl] at L9
 generalize subM ⟨R, C, xs⟩ ⟨R, C, x1⟩ = DE at *
 obtain ⟨er, ec, es⟩ := DE
 simp only at SB L9
 obtain ⟨s1, n1, rfl, hm1, hc1⟩ := id h1.ints
 clear hm1 hc1
 have H1 := kp h1
 clear h1
 have OA : Kept (∀ w', Ints w' (.slice s1 xs.length n1) xs → Calls Tryz.prog 51 #[.agg #[.int .i64 R, .int .i64 C, .slice s1 xs.length n1]] w' (MatPost ⟨R, C, xs⟩ w')) := ⟨fun w' h => spec_l1OwnMatrix R C _ xs w' h H1.out.fit.nil H1.out.len⟩
 unfold MatPost at OA
 have S := kp (St.start w)
 go_enter Tryz.func67, Tryz.ntmps67
 go_wp2_with (first | (refine aliS S.o ?_; clear S; intro rb w9 S) | (refine ldiM S.o ?_) | (refine ldI S.o ?_) | (refine stiM S.o ?_; clear S; intro w9 S) | (refine stiS S.o ?_; clear S; intro w9 S) | (refine aliM S.o ?_; clear S; intro b9 w9 S) | (refine bxiM S.o ?_; clear S; intro b9 w9 S) | (refine wW ?_; dsimp only) | fail)
 (with_reducible refine (OA.out _ (H1.out.ints.keep S.o.ext)).mono ?_)
 rintro e u9 ⟨v0, rfl, o0, x9⟩
 replace S := kp (S.o.made o0 x9)
 clear x9
 obtain ⟨p0, m0, hu9, -, -⟩ := id o0.ints
 try simp only at hu9
 subst hu9
 clear o0
 have MV : Kept (∀ w', Ints w' (.slice p0 xs.length m0) xs → Calls Tryz.prog 75 #[.agg #[.int .i64 R, .int .i64 C, .slice p0 xs.length m0]] w' fun e w'' => e = .returned (.bool (mOk R C xs)) ∧ Ext w' w'') := ⟨fun w' h => spec_MatrixValid R C _ xs w' h⟩
 go_wp2_with (first | (refine aliS S.o ?_; clear S; intro rb w9 S) | (refine ldiM S.o ?_) | (refine ldI S.o ?_) | (refine stiM S.o ?_; clear S; intro w9 S) | (refine stiS S.o ?_; clear S; intro w9 S) | (refine aliM S.o ?_; clear S; intro b9 w9 S) | (refine bxiM S.o ?_; clear S; intro b9 w9 S) | (refine wW ?_; dsimp only) | fail)
 rw [g1] at MV
 (with_reducible refine (MV.out _ S.o.own.ints).mono ?_)
 rintro e u9 ⟨rfl, x9⟩
 replace S := kp (S.o.quiet x9)
 clear x9
 go_wp2_with (first | (refine ldiM S.o ?_) | (refine ldI S.o ?_) | (refine stiM S.o ?_; clear S; intro w9 S) | (refine stiS S.o ?_; clear S; intro w9 S) | (refine aliM S.o ?_; clear S; intro b9 w9 S) | (refine aliS S.o ?_; clear S; intro b9 w9 S) | (refine bxiM S.o ?_; clear S; intro b9 w9 S) | (refine wW ?_; dsimp only) | fail)
 (with_reducible refine (spec_l1In s 1 2147483646 true SD.out _).mono ?_)
 rintro e u9 ⟨rfl, rfl⟩
 go_wp2_with (first | (refine ldiM S.o ?_) | (refine ldI S.o ?_) | (refine stiM S.o ?_; clear S; intro w9 S) | (refine stiS S.o ?_; clear S; intro w9 S) | (refine aliM S.o ?_; clear S; intro b9 w9 S) | (refine aliS S.o ?_; clear S; intro b9 w9 S) | (refine bxiM S.o ?_; clear S; intro b9 w9 S) | (refine wW ?_; dsimp only) | fail)
 (with_reducible refine (RM.out _).mono ?_)
 rintro e u9 ⟨v1, rfl, o1, x9⟩
 replace S := kp (S.o.made o1 x9)
 clear x9
 obtain ⟨p1, m1, hu9, -, -⟩ := id o1.ints
 try simp only at hu9
 subst hu9
 clear o1
 go_wp2_with (first | (refine ldiM S.o ?_) | (refine ldI S.o ?_) | (refine stiM S.o ?_; clear S; intro w9 S) | (refine stiS S.o ?_; clear S; intro w9 S) | (refine aliM S.o ?_; clear S; intro b9 w9 S) | (refine aliS S.o ?_; clear S; intro b9 w9 S) | (refine bxiM S.o ?_; clear S; intro b9 w9 S) | (refine wW ?_; dsimp only) | fail)
 obtain ⟨S1, A1⟩ := S.o.del (r := rb) (T := 30) (cs := [.int .i64 0, .int .i64 0, .slice none 0 0, .int .i64 0, .int .i64 0, .slice none 0 0]) (by repeat (first | exact Del.head | apply Del.tail))
 clear S
 have S := kp S1
 have AL := kp A1
 clear S1 A1
 apply wp_region_zipV (XS.rel _ [rb] []) (fun L _ w' => Px rb 6 30 #[.int .i64 0, .int .i64 0, .slice none 0 0, .int .i64 0, .int .i64 0, .slice none 0 0] (fun w' cs => ∃ v, cs = #[.int .i64 R, .int .i64 C, .slice p1 x1.length m1, .int .i64 er, .int .i64 ec, v] ∧ Own w9.heap.size w' v es) L w') [isv _, isv _, isv _, matV (by decide) er ec es, matW (by decide) R C (.slice p1 x1.length m1) er ec es, isv _, anyV] _ ?hJ (by kernel_rfl)
 case hJ => exact ⟨fun _ => AL.out.blk.keep ⟨rfl, rfl, rfl, Nat.le_refl _, fun _ _ => rfl⟩, fun h => by cases h⟩
 case hA => intro V; simp [putAll, dstOf, Act.put]; exact rfl
 case hsl => intro V; exact rfl
 case step =>
  intro V lo up w' hr L hj
  have S := kp (S.o.xs1 AL.out hr)
  simp only [zipOkV, depsImp, isv, matV, matW, anyV, modeNg, newb, waits, Region.binds, List.map_nil, List.map_cons, List.headD_cons, List.nil_append, List.cons_append, List.filterMap_cons, List.filterMap_nil, ↓reduceIte, modeNe, Bool.false_eq_true, true_implies, List.getD_cons_zero, List.getD_cons_succ, and_true, Nat.zero_add, Nat.reduceAdd]
  refine ⟨?_, ?_, ?_, ?_, ?_, ?_, ?_⟩
  ·intro hl hw hd
   intros
   (try simp only [*])
   go_wp2_with (first | (refine ldiM S.o ?_) | (refine stiM S.o ?_; clear S; intro w9 S) | (refine stiS S.o ?_; clear S; intro w9 S) | (refine aliM S.o ?_; clear S; intro b9 w9 S) | (refine aliS S.o ?_; clear S; intro b9 w9 S) | (refine bxiM S.o ?_; clear S; intro b9 w9 S) | fail)
   refine sS ?_
   exact ⟨XS.refl _, rfl, hj.ext (fun _ h => h) (fun _ => rfl) (by decide)⟩
  ·intro hl hw hd
   intros
   (try simp only [*])
   go_wp2_with (first | (refine ldiM S.o ?_) | (refine stiM S.o ?_; clear S; intro w9 S) | (refine stiS S.o ?_; clear S; intro w9 S) | (refine aliM S.o ?_; clear S; intro b9 w9 S) | (refine aliS S.o ?_; clear S; intro b9 w9 S) | (refine bxiM S.o ?_; clear S; intro b9 w9 S) | fail)
   refine sS ?_
   exact ⟨XS.refl _, rfl, hj.ext (fun _ h => h) (fun _ => rfl) (by decide)⟩
  ·intro hl hw hd
   intros
   (try simp only [*])
   go_wp2_with (first | (refine ldiM S.o ?_) | (refine stiM S.o ?_; clear S; intro w9 S) | (refine stiS S.o ?_; clear S; intro w9 S) | (refine aliM S.o ?_; clear S; intro b9 w9 S) | (refine aliS S.o ?_; clear S; intro b9 w9 S) | (refine bxiM S.o ?_; clear S; intro b9 w9 S) | fail)
   refine sS ?_
   exact ⟨XS.refl _, rfl, hj.ext (fun _ h => h) (fun _ => rfl) (by decide)⟩
  ·intro hl hw hd
   intros
   (try simp only [*])
   go_wp2_with (fail)
   (with_reducible refine (SB.out _ _ _ (S.o.grp.o1.arg L0.out) (S.o.grp.o0.arg L1.out)).mono ?_)
   rintro e w9 ⟨v9, rfl, o9, x9⟩
   go_wp2
   refine sS ?_
   exact ⟨XS.of_ext x9, ⟨v9, rfl, o9.mono hr.size⟩, hj.ext (fun cs ⟨v, e, o⟩ => ⟨v, e, o.keep x9⟩) (fun hk => Below.block x9 _ hk) (by decide)⟩
  ·intro hl hw hd
   intro _ _ _ e0 _ _ _ ⟨v9, e3, o9⟩
   intros
   (try simp only [*])
   go_wp2_with (first | (refine stiM S.o ?_; clear S; intro w9 S) | (refine stiS S.o ?_; clear S; intro w9 S) | (refine aliM S.o ?_; clear S; intro b9 w9 S) | (refine aliS S.o ?_; clear S; intro b9 w9 S) | (refine bxiM S.o ?_; clear S; intro b9 w9 S) | fail)
   refine sS ?_
   exact ⟨XS.refl _, ⟨v9, rfl, o9⟩, hj.ext (fun _ h => h) (fun _ => rfl) (by decide)⟩
  ·intro hl hw hd
   intros
   (try simp only [*])
   go_wp2_with (first | (refine stiM S.o ?_; clear S; intro w9 S) | (refine stiS S.o ?_; clear S; intro w9 S) | (refine aliM S.o ?_; clear S; intro b9 w9 S) | (refine aliS S.o ?_; clear S; intro b9 w9 S) | (refine bxiM S.o ?_; clear S; intro b9 w9 S) | fail)
   refine sS ?_
   exact ⟨XS.refl _, rfl, hj.ext (fun _ h => h) (fun _ => rfl) (by decide)⟩
  intro hl hw hd
  obtain ⟨kz⟩ : Kept (Blk w' rb #[.int .i64 0, .int .i64 0, .slice none 0 0, .int .i64 0, .int .i64 0, .slice none 0 0] 30) := ⟨hj.no hl⟩
  intros
  obtain ⟨v9, e4, o9⟩ := ‹∃ v, V 4 = _ ∧ Own _ _ v es›
  obtain ⟨p9, m9, hu9, -, -⟩ := id o9.ints
  try simp only at hu9
  subst hu9
  exact wpList_putX rfl rfl _ _ rfl rb _ _ rfl e4 kz (by kernel_rfl) rfl (by simp [Value.oneCell']) (.inl ⟨by simp, AL.out.blk.lt⟩) (fun w'' f k hoth hsz u => ⟨f, trivial, Px.put k ⟨_, rfl, o9.xs f (Nat.le_refl _) (by decide)⟩⟩)
 case hB => kernel_rfl
 intro V lo up w' hr L hj hL hf ha
 simp only [factsOk, isv, matV, matW, anyV, modeNg, newb, List.map_nil, List.map_cons, List.headD_cons, and_true, Nat.zero_add, Nat.reduceAdd] at hf
 simp only [List.length_cons, List.length_nil, Nat.zero_add, Nat.reduceAdd, List.drop_succ_cons, List.drop_zero]
 obtain ⟨-, -, -, -, -, ⟨-, -, -, e5⟩, -⟩ := hf
 clear ha
 rw [e5]
 clear e5
 obtain ⟨cs, kb, v9, rfl, o9⟩ := hj.yes (hL 6 (by simp))
 obtain ⟨p9, m9, hu9, -, -⟩ := id o9.ints
 try simp only at hu9
 subst hu9
 replace S := kp (S.o.fill1 (cs := [.int .i64 R, .int .i64 C, .slice p1 x1.length m1, .int .i64 er, .int .i64 ec, .slice p9 es.length m9]) AL.out hr (Grp.one o9) kb)
 clear kb hr AL hj
 go_wp2_with (first | (refine ldiM S.o ?_) | (refine ldI S.o ?_) | (refine stiM S.o ?_; clear S; intro w9 S) | (refine stiS S.o ?_; clear S; intro w9 S) | (refine aliM S.o ?_; clear S; intro b9 w9 S) | (refine aliS S.o ?_; clear S; intro b9 w9 S) | (refine bxiM S.o ?_; clear S; intro b9 w9 S) | (refine wW ?_; dsimp only) | fail)
 exact bodyPost_ret (v := .tuple #[.agg #[.int .i64 R, .int .i64 C, .slice p1 x1.length m1, .int .i64 er, .int .i64 ec, .slice p9 es.length m9], .int .i64 t1]) (by exact res2 rfl (by exact (rsiS S.o)) rfl) rfl ⟨_, _, rfl, ⟨_, _, _, _, _, _, _, _, rfl, (Grp.two S.o.grp.o1 S.o.grp.o0 (Apt.symm ((List.pairwise_cons.1 S.o.grp.apt).1 _ (by simp)))), L1.out, L9.out⟩, S.o.ext⟩
set_option maxHeartbeats 4000000 in
set_option maxRecDepth 4000 in
theorem sh20M (g P R C : Nat) (n : Int) (hR : Sd R) (hC : Sd C) (HN : Bnd n) (HP : Room (P + 13000)) (w : World) (hr : Rdr g P w) : Calls Tryz.prog 43 #[.pointer (some ⟨g, 0, none⟩), .int .i64 R, .int .i64 C, .int .i64 n] w fun e w' => ∃ v, e = .returned v ∧ IsShM w.heap.size w' v ∧ Rdr g (P + 13000) w' ∧ Mod g w w' := by
 have S := kp (St.startR hr)
 clear hr
 go_enter Tryz.func43, Tryz.ntmps43
 go_wp2_with (first | (refine ldiS S.o ?_) | (refine stiM S.o ?_; clear S; intro w9 S) | (refine stiS S.o ?_; clear S; intro w9 S) | (refine aliS S.o ?_; clear S; intro b9 w9 S) | fail)
 (with_reducible refine (mat20 g _ R C 0 hR hC ⟨by omega, by omega⟩ (HP.le (by omega)) _ S.o.rdr).mono ?_)
 rintro e u9 ⟨v7, rfl, ⟨ra, ca, va, xa, rfl, oa, la⟩, hr7, hm7⟩
 replace S := kp (S.o.madeR oa hr7 hm7)
 clear hr7 hm7
 obtain ⟨pa, ma, hu9, -, -⟩ := id oa.ints
 try simp only at hu9
 subst hu9
 clear oa
 go_wp2_with (first | (refine ldiS S.o ?_) | (refine stiM S.o ?_; clear S; intro w9 S) | (refine stiS S.o ?_; clear S; intro w9 S) | (refine aliS S.o ?_; clear S; intro b9 w9 S) | fail)
 (with_reducible refine (seed20 g _ 0 ⟨by omega, by omega⟩ (HP.le (by omega)) _ S.o.rdr).mono ?_)
 rintro e u9 ⟨v7, rfl, ⟨s, rfl, -⟩, hr7, hm7⟩
 replace S := kp (S.o.read hr7 hm7)
 clear hr7 hm7
 go_wp2_with (first | (refine ldiS S.o ?_) | (refine stiM S.o ?_; clear S; intro w9 S) | (refine stiS S.o ?_; clear S; intro w9 S) | (refine aliS S.o ?_; clear S; intro b9 w9 S) | fail)
 (with_reducible refine (spec_SplitMatrix _ _ _ xa s _ (S.o.own.arg la)).mono ?_)
 rintro e u9 ⟨u7, n7, rfl, ⟨r0, c0, r1, c1, v0, v1, x0, x1, rfl, gg, l0, l1⟩, x9⟩
 obtain ⟨p0, m0, hu9, -, -⟩ := id gg.o0.ints
 try simp only at hu9
 subst hu9
 obtain ⟨p1, m1, hu9, -, -⟩ := id gg.o1.ints
 try simp only at hu9
 subst hu9
 replace S := kp (S.o.made2 gg x9)
 clear x9 gg
 go_wp2_with (first | (refine ldiS S.o ?_) | (refine stiM S.o ?_; clear S; intro w9 S) | (refine stiS S.o ?_; clear S; intro w9 S) | (refine aliS S.o ?_; clear S; intro b9 w9 S) | fail)
 (with_reducible refine (odd g _ n HN (HP.le (by omega)) _ S.o.rdr).mono ?_)
 rintro e u9 ⟨v7, rfl, ⟨b7, rfl⟩, hr7, hm7⟩
 replace S := kp (S.o.read hr7 hm7)
 clear hr7 hm7
 cases b7
 ·go_wp2_with (first | (refine ldiS S.o ?_) | (refine stiM S.o ?_; clear S; intro w9 S) | (refine stiS S.o ?_; clear S; intro w9 S) | (refine aliS S.o ?_; clear S; intro b9 w9 S) | fail)
  exact bodyPost_ret (v := .agg #[.int .i64 r0, .int .i64 c0, .slice p0 x0.length m0, .int .i64 r1, .int .i64 c1, .slice p1 x1.length m1]) (by exact res1 rfl (by exact (rsiS S.o))) rfl ⟨_, rfl, ⟨_, _, _, _, _, _, _, _, rfl, (Grp.two S.o.grp.o0 S.o.grp.o1 ((List.pairwise_cons.1 S.o.grp.apt).1 _ (by simp))), l0, l1⟩, S.o.rdr.mono (by omega) HP, S.o.mod⟩
 go_wp2_with (first | (refine ldiS S.o ?_) | (refine stiM S.o ?_; clear S; intro w9 S) | (refine stiS S.o ?_; clear S; intro w9 S) | (refine aliS S.o ?_; clear S; intro b9 w9 S) | fail)
 (with_reducible refine (pick g _ _ (HP.le (by omega)) _ S.o.rdr).mono ?_)
 rintro e u9 ⟨v7, rfl, ⟨x7, rfl, h7, -⟩, hr7, hm7⟩
 replace S := kp (S.o.read hr7 hm7)
 clear hr7 hm7
 have l7 : (x7 : Int) < 3 := h7 (by omega)
 clear h7
 by_cases e0 : x7 = 0
 ·subst e0
  go_wp2_with (first | (refine ldiS S.o ?_) | (refine stiM S.o ?_; clear S; intro w9 S) | (refine stiS S.o ?_; clear S; intro w9 S) | (refine aliS S.o ?_; clear S; intro b9 w9 S) | fail)
  (with_reducible refine (mat20 g _ R C 1 hR hC ⟨by omega, by omega⟩ (HP.le (by omega)) _ S.o.rdr).mono ?_)
  rintro e u9 ⟨v7, rfl, ⟨r2, c2, v2, x2, rfl, o2, l2⟩, hr7, hm7⟩
  replace S := kp (S.o.madeR o2 hr7 hm7)
  clear hr7 hm7
  obtain ⟨p2, m2, hu9, -, -⟩ := id o2.ints
  try simp only at hu9
  subst hu9
  clear o2
  go_wp2_with (first | (refine ldiS S.o ?_) | (refine stiM S.o ?_; clear S; intro w9 S) | (refine stiS S.o ?_; clear S; intro w9 S) | (refine aliS S.o ?_; clear S; intro b9 w9 S) | fail)
  exact bodyPost_ret (v := .agg #[.int .i64 r2, .int .i64 c2, .slice p2 x2.length m2, .int .i64 r1, .int .i64 c1, .slice p1 x1.length m1]) (by exact res1 rfl (by exact (rsiS S.o))) rfl ⟨_, rfl, ⟨_, _, _, _, _, _, _, _, rfl, (Grp.two S.o.grp.o0 S.o.grp.o2 ((List.pairwise_cons.1 S.o.grp.apt).1 _ (by simp))), l2, l1⟩, S.o.rdr.mono (by omega) HP, S.o.mod⟩
 have n0 : ((x7 : Int) == 0) = false := by simp; omega
 by_cases e1 : x7 = 1
 ·subst e1
  obtain ⟨R2, hR2⟩ : ∃ R2 : Nat, R2 = 1 + R % 5 := ⟨_, rfl⟩
  have sR2 : Sd R2 := ⟨by omega, by omega⟩
  have q1 : wrap64 (1 + (R : Int) % 5) = (R2 : Int) := by unfold wrap64; omega
  have q2 : 1 + (R : Int) % 5 = (R2 : Int) := by omega
  clear hR2
  go_wp2_with (first | (refine ldiS S.o ?_) | (refine stiM S.o ?_; clear S; intro w9 S) | (refine stiS S.o ?_; clear S; intro w9 S) | (refine aliS S.o ?_; clear S; intro b9 w9 S) | fail)
  (with_reducible refine (mat20 g _ R2 C 0 sR2 hC ⟨by omega, by omega⟩ (HP.le (by omega)) _ S.o.rdr).mono ?_)
  rintro e u9 ⟨v7, rfl, ⟨r2, c2, v2, x2, rfl, o2, l2⟩, hr7, hm7⟩
  replace S := kp (S.o.madeR o2 hr7 hm7)
  clear hr7 hm7
  obtain ⟨p2, m2, hu9, -, -⟩ := id o2.ints
  try simp only at hu9
  subst hu9
  clear o2
  go_wp2_with (first | (refine ldiS S.o ?_) | (refine stiM S.o ?_; clear S; intro w9 S) | (refine stiS S.o ?_; clear S; intro w9 S) | (refine aliS S.o ?_; clear S; intro b9 w9 S) | fail)
  exact bodyPost_ret (v := .agg #[.int .i64 r0, .int .i64 c0, .slice p0 x0.length m0, .int .i64 r2, .int .i64 c2, .slice p2 x2.length m2]) (by exact res1 rfl (by exact (rsiS S.o))) rfl ⟨_, rfl, ⟨_, _, _, _, _, _, _, _, rfl, (Grp.two S.o.grp.o1 S.o.grp.o0 (Apt.symm ((List.pairwise_cons.1 S.o.grp.apt).1 _ (by simp)))), l0, l2⟩, S.o.rdr.mono (by omega) HP, S.o.mod⟩
 have n1 : ((x7 : Int) == 1) = false := by simp; omega
 go_wp2_with (first | (refine ldiS S.o ?_) | (refine stiM S.o ?_; clear S; intro w9 S) | (refine stiS S.o ?_; clear S; intro w9 S) | (refine aliS S.o ?_; clear S; intro b9 w9 S) | fail)
 exact bodyPost_ret (v := .agg #[.int .i64 0, .int .i64 0, .slice none 0 0, .int .i64 0, .int .i64 0, .slice none 0 0]) (by exact res1 rfl (by exact (rsiS S.o))) rfl ⟨_, rfl, ⟨_, _, _, _, _, _, [], [], rfl, (Grp.two (Own.nil _ _) (Own.nil _ _) (Apt.nil _ _ rfl)), (Nat.zero_le _), (Nat.zero_le _)⟩, S.o.rdr.mono (by omega) HP, S.o.mod⟩
end Go.Proofs.YtkkdikoknegpjaaGreat
