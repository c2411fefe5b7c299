/- The walk through FnExactMakeMatrixTriple. -/
import Derived.Test.YtijbfkiljkpebaaExM
import Derived.Test.YtijbfkiljkpebaaMTriV
import Derived.Test.YtijbfkiljkpebaaMTriW
import Derived.Test.YtijbfkiljkpebaaStT
namespace Go.Proofs.Ytijbfkiljkpebaa
set_option linter.unusedSimpArgs false
set_option linter.unusedVariables false
open Go.RowKit

set_option maxHeartbeats 8000000 in
set_option maxRecDepth 4000 in
theorem walk_FnExactMakeMatrixTriple (r k c s : Int) (w : World) : Calls Try.prog 5 #[.int .i64 r, .int .i64 k, .int .i64 c, .int .i64 s] w fun e w' => e = .returned (.bool true) ∧ Ext w w' := by
  have SP : Kept (∀ w', Calls Try.prog 22 #[.int .i64 r, .int .i64 k, .int .i64 c, .int .i64 s] w' (TrNPost (tripM r k c s) (tripS r k c s) w')) := ⟨fun w' => spec_MakeMatrixTriple r k c s w'⟩
  have IP : Kept (∀ w', Calls Try.prog 23 #[.int .i64 r, .int .i64 k, .int .i64 c, .int .i64 s] w' (TrNPost (tripM r k c s) (tripS r k c s) w')) := ⟨fun w' => impl_MakeMatrixTriple r k c s w'⟩
  have NL := tripM_short r k c s
  generalize tripM r k c s = D at *
  generalize tripS r k c s = N at *
  unfold TrNPost at SP IP
  obtain ⟨⟨⟨r0, c0, x0⟩, ⟨r1, c1, x1⟩⟩, ⟨⟨r2, c2, x2⟩, ⟨r3, c3, x3⟩⟩, ⟨⟨r4, c4, x4⟩, ⟨r5, c5, x5⟩⟩⟩ := D
  simp only at SP IP NL
  have L0 := Kept.mk NL.l0
  simp only at L0
  have L1 := Kept.mk NL.l1
  simp only at L1
  have L2 := Kept.mk NL.l2
  simp only at L2
  have L3 := Kept.mk NL.l3
  simp only at L3
  have L4 := Kept.mk NL.l4
  simp only at L4
  have L5 := Kept.mk NL.l5
  simp only at L5
  clear NL
  have S := Kept.mk (St.start w)
  go_enter Try.func5, Try.ntmps5
  go_wp2_with (first | (refine ldiT S.out rfl _ rfl _ _ rfl _ _ _ (by repeat (first | exact List.Mem.head _ | refine List.Mem.tail _ ?_)) (by simp only [List.drop_succ_cons, List.drop_zero, List.take_succ_cons, List.take_zero]; exact rfl) (by exact rfl) ?_) | (refine stiT S.out rfl rfl _ _ rfl _ _ rfl _ rfl (by exact rfl) (by exact rfl) _ _ _ _ (by repeat (first | exact List.Mem.head _ | refine List.Mem.tail _ ?_)) (by simp only [splice, List.take_succ_cons, List.take_zero, List.drop_succ_cons, List.drop_zero, List.drop_nil, List.length_cons, List.length_nil, List.cons_append, List.nil_append, Nat.zero_add, Nat.add_zero, Nat.reduceAdd]; exact rfl) (by repeat (first | exact Put.head | apply Put.tail)) (by exact Nat.le_of_ble_eq_true rfl) ?_; clear S; intro w9 S9; have S := Kept.mk S9; clear S9) | (refine aliT S.out rfl rfl ?_; clear S; intro b9 w9 S9; have S := Kept.mk S9; clear S9) | fail)
  (with_reducible refine (SP.out _).mono ?_)
  rintro e u9 ⟨vW0, vW1, vW2, vW3, vW4, vW5, rfl, gg, x9⟩
  obtain ⟨pW0, mW0, hu9, -, -⟩ := id gg.o0.ints
  try simp only at hu9
  subst hu9
  obtain ⟨pW1, mW1, hu9, -, -⟩ := id gg.o1.ints
  try simp only at hu9
  subst hu9
  obtain ⟨pW2, mW2, hu9, -, -⟩ := id gg.o2.ints
  try simp only at hu9
  subst hu9
  obtain ⟨pW3, mW3, hu9, -, -⟩ := id gg.o3.ints
  try simp only at hu9
  subst hu9
  obtain ⟨pW4, mW4, hu9, -, -⟩ := id gg.o4.ints
  try simp only at hu9
  subst hu9
  obtain ⟨pW5, mW5, hu9, -, -⟩ := id gg.o5.ints
  try simp only at hu9
  subst hu9
  replace S := Kept.mk (S.out.made6 gg x9)
  clear gg x9
  go_wp2_with (first | (refine ldiT S.out rfl _ rfl _ _ rfl _ _ _ (by repeat (first | exact List.Mem.head _ | refine List.Mem.tail _ ?_)) (by simp only [List.drop_succ_cons, List.drop_zero, List.take_succ_cons, List.take_zero]; exact rfl) (by exact rfl) ?_) | (refine stiT S.out rfl rfl _ _ rfl _ _ rfl _ rfl (by exact rfl) (by exact rfl) _ _ _ _ (by repeat (first | exact List.Mem.head _ | refine List.Mem.tail _ ?_)) (by simp only [splice, List.take_succ_cons, List.take_zero, List.drop_succ_cons, List.drop_zero, List.drop_nil, List.length_cons, List.length_nil, List.cons_append, List.nil_append, Nat.zero_add, Nat.add_zero, Nat.reduceAdd]; exact rfl) (by repeat (first | exact Put.head | apply Put.tail)) (by exact Nat.le_of_ble_eq_true rfl) ?_; clear S; intro w9 S9; have S := Kept.mk S9; clear S9) | (refine aliT S.out rfl rfl ?_; clear S; intro b9 w9 S9; have S := Kept.mk S9; clear S9) | fail)
  (with_reducible refine (IP.out _).mono ?_)
  rintro e u9 ⟨vG0, vG1, vG2, vG3, vG4, vG5, rfl, gg, x9⟩
  obtain ⟨pG0, mG0, hu9, -, -⟩ := id gg.o0.ints
  try simp only at hu9
  subst hu9
  obtain ⟨pG1, mG1, hu9, -, -⟩ := id gg.o1.ints
  try simp only at hu9
  subst hu9
  obtain ⟨pG2, mG2, hu9, -, -⟩ := id gg.o2.ints
  try simp only at hu9
  subst hu9
  obtain ⟨pG3, mG3, hu9, -, -⟩ := id gg.o3.ints
  try simp only at hu9
  subst hu9
  obtain ⟨pG4, mG4, hu9, -, -⟩ := id gg.o4.ints
  try simp only at hu9
  subst hu9
  obtain ⟨pG5, mG5, hu9, -, -⟩ := id gg.o5.ints
  try simp only at hu9
  subst hu9
  replace S := Kept.mk (S.out.made6 gg x9)
  clear gg x9
  go_wp2_with (first | (refine ldiT S.out rfl _ rfl _ _ rfl _ _ _ (by repeat (first | exact List.Mem.head _ | refine List.Mem.tail _ ?_)) (by simp only [List.drop_succ_cons, List.drop_zero, List.take_succ_cons, List.take_zero]; exact rfl) (by exact rfl) ?_) | (refine stiT S.out rfl rfl _ _ rfl _ _ rfl _ rfl (by exact rfl) (by exact rfl) _ _ _ _ (by repeat (first | exact List.Mem.head _ | refine List.Mem.tail _ ?_)) (by simp only [splice, List.take_succ_cons, List.take_zero, List.drop_succ_cons, List.drop_zero, List.drop_nil, List.length_cons, List.length_nil, List.cons_append, List.nil_append, Nat.zero_add, Nat.add_zero, Nat.reduceAdd]; exact rfl) (by repeat (first | exact Put.head | apply Put.tail)) (by exact Nat.le_of_ble_eq_true rfl) ?_; clear S; intro w9 S9; have S := Kept.mk S9; clear S9) | (refine aliT S.out rfl rfl ?_; clear S; intro b9 w9 S9; have S := Kept.mk S9; clear S9) | fail)
  (with_reducible refine (laws_eqMatrixTriple r0 c0 r1 c1 r2 c2 r3 c3 r4 c4 r5 c5 _ _ _ _ _ _ _ _ _ _ _ _ x0 x1 x2 x3 x4 x5 _ (S.out.grp.get 0 rfl rfl).ints (S.out.grp.get 1 rfl rfl).ints (S.out.grp.get 2 rfl rfl).ints (S.out.grp.get 3 rfl rfl).ints (S.out.grp.get 4 rfl rfl).ints (S.out.grp.get 5 rfl rfl).ints (S.out.grp.get 6 rfl rfl).ints (S.out.grp.get 7 rfl rfl).ints (S.out.grp.get 8 rfl rfl).ints (S.out.grp.get 9 rfl rfl).ints (S.out.grp.get 10 rfl rfl).ints (S.out.grp.get 11 rfl rfl).ints).mono ?_)
  rintro e u9 ⟨rfl, x9⟩
  replace S := Kept.mk (S.out.quiet x9)
  clear x9
  go_wp2_with (first | (refine ldiT S.out rfl _ rfl _ _ rfl _ _ _ (by repeat (first | exact List.Mem.head _ | refine List.Mem.tail _ ?_)) (by simp only [List.drop_succ_cons, List.drop_zero, List.take_succ_cons, List.take_zero]; exact rfl) (by exact rfl) ?_) | (refine stiT S.out rfl rfl _ _ rfl _ _ rfl _ rfl (by exact rfl) (by exact rfl) _ _ _ _ (by repeat (first | exact List.Mem.head _ | refine List.Mem.tail _ ?_)) (by simp only [splice, List.take_succ_cons, List.take_zero, List.drop_succ_cons, List.drop_zero, List.drop_nil, List.length_cons, List.length_nil, List.cons_append, List.nil_append, Nat.zero_add, Nat.add_zero, Nat.reduceAdd]; exact rfl) (by repeat (first | exact Put.head | apply Put.tail)) (by exact Nat.le_of_ble_eq_true rfl) ?_; clear S; intro w9 S9; have S := Kept.mk S9; clear S9) | (refine aliT S.out rfl rfl ?_; clear S; intro b9 w9 S9; have S := Kept.mk S9; clear S9) | fail)
  obtain ⟨K, hK⟩ : ∃ K : Int, K = 1 + (totL [x0.length, x1.length, x2.length, x3.length, x4.length, x5.length] : Nat) := ⟨_, rfl⟩
  have hk0 : decide (K < 0) = false := by rw [hK]; simp; omega
  (with_reducible refine (laws_markMatrixTriple _ r0 c0 r1 c1 r2 c2 r3 c3 r4 c4 r5 c5 _ _ _ _ _ _ x0 x1 x2 x3 x4 x5 1 _ _ _ _ _ _ rfl rfl rfl rfl rfl rfl _ (Grp.mid (hs_ := []) (us := [(.slice pG0 x0.length mG0), (.slice pG1 x1.length mG1), (.slice pG2 x2.length mG2), (.slice pG3 x3.length mG3), (.slice pG4 x4.length mG4), (.slice pG5 x5.length mG5)]) (bs := [(.slice pW0 x0.length mW0), (.slice pW1 x1.length mW1), (.slice pW2 x2.length mW2), (.slice pW3 x3.length mW3), (.slice pW4 x4.length mW4), (.slice pW5 x5.length mW5)]) (xs := []) (ys := [x0, x1, x2, x3, x4, x5]) (zs := [x0, x1, x2, x3, x4, x5]) S.out.grp rfl rfl) (by omega) (by have := L0.out; have := L1.out; have := L2.out; have := L3.out; have := L4.out; have := L5.out; omega)).mono ?_)
  rintro e u9 ⟨e9, mk9, t9⟩
  rw [← hK] at e9
  subst e9
  have S9 := St.marked (hs_ := []) (us := [(.slice pG0 x0.length mG0), (.slice pG1 x1.length mG1), (.slice pG2 x2.length mG2), (.slice pG3 x3.length mG3), (.slice pG4 x4.length mG4), (.slice pG5 x5.length mG5)]) (bs := [(.slice pW0 x0.length mW0), (.slice pW1 x1.length mW1), (.slice pW2 x2.length mW2), (.slice pW3 x3.length mW3), (.slice pW4 x4.length mW4), (.slice pW5 x5.length mW5)]) (xs := []) (ys := [x0, x1, x2, x3, x4, x5]) (zs := [x0, x1, x2, x3, x4, x5]) S.out rfl rfl rfl t9 mk9
  simp only [marksL, List.cons_append, List.nil_append] at S9
  replace S := Kept.mk S9
  clear S9 t9 mk9
  go_wp2_with (first | (refine ldiT S.out rfl _ rfl _ _ rfl _ _ _ (by repeat (first | exact List.Mem.head _ | refine List.Mem.tail _ ?_)) (by simp only [List.drop_succ_cons, List.drop_zero, List.take_succ_cons, List.take_zero]; exact rfl) (by exact rfl) ?_) | (refine stiT S.out rfl rfl _ _ rfl _ _ rfl _ rfl (by exact rfl) (by exact rfl) _ _ _ _ (by repeat (first | exact List.Mem.head _ | refine List.Mem.tail _ ?_)) (by simp only [splice, List.take_succ_cons, List.take_zero, List.drop_succ_cons, List.drop_zero, List.drop_nil, List.length_cons, List.length_nil, List.cons_append, List.nil_append, Nat.zero_add, Nat.add_zero, Nat.reduceAdd]; exact rfl) (by repeat (first | exact Put.head | apply Put.tail)) (by exact Nat.le_of_ble_eq_true rfl) ?_; clear S; intro w9 S9; have S := Kept.mk S9; clear S9) | (refine aliT S.out rfl rfl ?_; clear S; intro b9 w9 S9; have S := Kept.mk S9; clear S9) | fail)
  (with_reducible refine (laws_heldMatrixTriple r0 c0 r1 c1 r2 c2 r3 c3 r4 c4 r5 c5 _ _ _ _ _ _ 1 x0.length x1.length x2.length x3.length x4.length x5.length _ (show IntsL _ _ (marksL 1 [x0.length, x1.length, x2.length, x3.length, x4.length, x5.length]) from (Grp.mid (hs_ := []) (us := [(.slice pG0 x0.length mG0), (.slice pG1 x1.length mG1), (.slice pG2 x2.length mG2), (.slice pG3 x3.length mG3), (.slice pG4 x4.length mG4), (.slice pG5 x5.length mG5)]) (bs := [(.slice pW0 x0.length mW0), (.slice pW1 x1.length mW1), (.slice pW2 x2.length mW2), (.slice pW3 x3.length mW3), (.slice pW4 x4.length mW4), (.slice pW5 x5.length mW5)]) (xs := []) (ys := [(marks 1 x0.length), (marks (1 + (x0.length : Nat)) x1.length), (marks (1 + (x0.length : Nat) + (x1.length : Nat)) x2.length), (marks (1 + (x0.length : Nat) + (x1.length : Nat) + (x2.length : Nat)) x3.length), (marks (1 + (x0.length : Nat) + (x1.length : Nat) + (x2.length : Nat) + (x3.length : Nat)) x4.length), (marks (1 + (x0.length : Nat) + (x1.length : Nat) + (x2.length : Nat) + (x3.length : Nat) + (x4.length : Nat)) x5.length)]) (zs := [x0, x1, x2, x3, x4, x5]) S.out.grp rfl rfl).own.ints) (by omega) (by have := L0.out; have := L1.out; have := L2.out; have := L3.out; have := L4.out; have := L5.out; omega)).mono ?_)
  rintro e u9 ⟨e9, x9⟩
  rw [← hK] at e9
  subst e9
  replace S := Kept.mk (S.out.quiet x9)
  clear x9
  go_wp2_with (first | (refine ldiT S.out rfl _ rfl _ _ rfl _ _ _ (by repeat (first | exact List.Mem.head _ | refine List.Mem.tail _ ?_)) (by simp only [List.drop_succ_cons, List.drop_zero, List.take_succ_cons, List.take_zero]; exact rfl) (by exact rfl) ?_) | (refine stiT S.out rfl rfl _ _ rfl _ _ rfl _ rfl (by exact rfl) (by exact rfl) _ _ _ _ (by repeat (first | exact List.Mem.head _ | refine List.Mem.tail _ ?_)) (by simp only [splice, List.take_succ_cons, List.take_zero, List.drop_succ_cons, List.drop_zero, List.drop_nil, List.length_cons, List.length_nil, List.cons_append, List.nil_append, Nat.zero_add, Nat.add_zero, Nat.reduceAdd]; exact rfl) (by repeat (first | exact Put.head | apply Put.tail)) (by exact Nat.le_of_ble_eq_true rfl) ?_; clear S; intro w9 S9; have S := Kept.mk S9; clear S9) | (refine aliT S.out rfl rfl ?_; clear S; intro b9 w9 S9; have S := Kept.mk S9; clear S9) | fail)
  (with_reducible refine (IP.out _).mono ?_)
  rintro e u9 ⟨vH0, vH1, vH2, vH3, vH4, vH5, rfl, gg, x9⟩
  obtain ⟨pH0, mH0, hu9, -, -⟩ := id gg.o0.ints
  try simp only at hu9
  subst hu9
  obtain ⟨pH1, mH1, hu9, -, -⟩ := id gg.o1.ints
  try simp only at hu9
  subst hu9
  obtain ⟨pH2, mH2, hu9, -, -⟩ := id gg.o2.ints
  try simp only at hu9
  subst hu9
  obtain ⟨pH3, mH3, hu9, -, -⟩ := id gg.o3.ints
  try simp only at hu9
  subst hu9
  obtain ⟨pH4, mH4, hu9, -, -⟩ := id gg.o4.ints
  try simp only at hu9
  subst hu9
  obtain ⟨pH5, mH5, hu9, -, -⟩ := id gg.o5.ints
  try simp only at hu9
  subst hu9
  replace S := Kept.mk (S.out.made6 gg x9)
  clear gg x9
  go_wp2_with (first | (refine ldiT S.out rfl _ rfl _ _ rfl _ _ _ (by repeat (first | exact List.Mem.head _ | refine List.Mem.tail _ ?_)) (by simp only [List.drop_succ_cons, List.drop_zero, List.take_succ_cons, List.take_zero]; exact rfl) (by exact rfl) ?_) | (refine stiT S.out rfl rfl _ _ rfl _ _ rfl _ rfl (by exact rfl) (by exact rfl) _ _ _ _ (by repeat (first | exact List.Mem.head _ | refine List.Mem.tail _ ?_)) (by simp only [splice, List.take_succ_cons, List.take_zero, List.drop_succ_cons, List.drop_zero, List.drop_nil, List.length_cons, List.length_nil, List.cons_append, List.nil_append, Nat.zero_add, Nat.add_zero, Nat.reduceAdd]; exact rfl) (by repeat (first | exact Put.head | apply Put.tail)) (by exact Nat.le_of_ble_eq_true rfl) ?_; clear S; intro w9 S9; have S := Kept.mk S9; clear S9) | (refine aliT S.out rfl rfl ?_; clear S; intro b9 w9 S9; have S := Kept.mk S9; clear S9) | fail)
  (with_reducible refine (laws_eqMatrixTriple r0 c0 r1 c1 r2 c2 r3 c3 r4 c4 r5 c5 _ _ _ _ _ _ _ _ _ _ _ _ x0 x1 x2 x3 x4 x5 _ (S.out.grp.get 0 rfl rfl).ints (S.out.grp.get 1 rfl rfl).ints (S.out.grp.get 2 rfl rfl).ints (S.out.grp.get 3 rfl rfl).ints (S.out.grp.get 4 rfl rfl).ints (S.out.grp.get 5 rfl rfl).ints (S.out.grp.get 12 rfl rfl).ints (S.out.grp.get 13 rfl rfl).ints (S.out.grp.get 14 rfl rfl).ints (S.out.grp.get 15 rfl rfl).ints (S.out.grp.get 16 rfl rfl).ints (S.out.grp.get 17 rfl rfl).ints).mono ?_)
  rintro e u9 ⟨rfl, x9⟩
  replace S := Kept.mk (S.out.quiet x9)
  clear x9
  go_wp2_with (first | (refine ldiT S.out rfl _ rfl _ _ rfl _ _ _ (by repeat (first | exact List.Mem.head _ | refine List.Mem.tail _ ?_)) (by simp only [List.drop_succ_cons, List.drop_zero, List.take_succ_cons, List.take_zero]; exact rfl) (by exact rfl) ?_) | (refine stiT S.out rfl rfl _ _ rfl _ _ rfl _ rfl (by exact rfl) (by exact rfl) _ _ _ _ (by repeat (first | exact List.Mem.head _ | refine List.Mem.tail _ ?_)) (by simp only [splice, List.take_succ_cons, List.take_zero, List.drop_succ_cons, List.drop_zero, List.drop_nil, List.length_cons, List.length_nil, List.cons_append, List.nil_append, Nat.zero_add, Nat.add_zero, Nat.reduceAdd]; exact rfl) (by repeat (first | exact Put.head | apply Put.tail)) (by exact Nat.le_of_ble_eq_true rfl) ?_; clear S; intro w9 S9; have S := Kept.mk S9; clear S9) | (refine aliT S.out rfl rfl ?_; clear S; intro b9 w9 S9; have S := Kept.mk S9; clear S9) | fail)
  (with_reducible refine (laws_heldMatrixTriple r0 c0 r1 c1 r2 c2 r3 c3 r4 c4 r5 c5 _ _ _ _ _ _ 1 x0.length x1.length x2.length x3.length x4.length x5.length _ (show IntsL _ _ (marksL 1 [x0.length, x1.length, x2.length, x3.length, x4.length, x5.length]) from (Grp.mid (hs_ := [(.slice pH0 x0.length mH0), (.slice pH1 x1.length mH1), (.slice pH2 x2.length mH2), (.slice pH3 x3.length mH3), (.slice pH4 x4.length mH4), (.slice pH5 x5.length mH5)]) (us := [(.slice pG0 x0.length mG0), (.slice pG1 x1.length mG1), (.slice pG2 x2.length mG2), (.slice pG3 x3.length mG3), (.slice pG4 x4.length mG4), (.slice pG5 x5.length mG5)]) (bs := [(.slice pW0 x0.length mW0), (.slice pW1 x1.length mW1), (.slice pW2 x2.length mW2), (.slice pW3 x3.length mW3), (.slice pW4 x4.length mW4), (.slice pW5 x5.length mW5)]) (xs := [x0, x1, x2, x3, x4, x5]) (ys := [(marks 1 x0.length), (marks (1 + (x0.length : Nat)) x1.length), (marks (1 + (x0.length : Nat) + (x1.length : Nat)) x2.length), (marks (1 + (x0.length : Nat) + (x1.length : Nat) + (x2.length : Nat)) x3.length), (marks (1 + (x0.length : Nat) + (x1.length : Nat) + (x2.length : Nat) + (x3.length : Nat)) x4.length), (marks (1 + (x0.length : Nat) + (x1.length : Nat) + (x2.length : Nat) + (x3.length : Nat) + (x4.length : Nat)) x5.length)]) (zs := [x0, x1, x2, x3, x4, x5]) S.out.grp rfl rfl).own.ints) (by omega) (by have := L0.out; have := L1.out; have := L2.out; have := L3.out; have := L4.out; have := L5.out; omega)).mono ?_)
  rintro e u9 ⟨e9, x9⟩
  rw [← hK] at e9
  subst e9
  replace S := Kept.mk (S.out.quiet x9)
  clear x9
  go_wp2_with (first | (refine ldiT S.out rfl _ rfl _ _ rfl _ _ _ (by repeat (first | exact List.Mem.head _ | refine List.Mem.tail _ ?_)) (by simp only [List.drop_succ_cons, List.drop_zero, List.take_succ_cons, List.take_zero]; exact rfl) (by exact rfl) ?_) | (refine stiT S.out rfl rfl _ _ rfl _ _ rfl _ rfl (by exact rfl) (by exact rfl) _ _ _ _ (by repeat (first | exact List.Mem.head _ | refine List.Mem.tail _ ?_)) (by simp only [splice, List.take_succ_cons, List.take_zero, List.drop_succ_cons, List.drop_zero, List.drop_nil, List.length_cons, List.length_nil, List.cons_append, List.nil_append, Nat.zero_add, Nat.add_zero, Nat.reduceAdd]; exact rfl) (by repeat (first | exact Put.head | apply Put.tail)) (by exact Nat.le_of_ble_eq_true rfl) ?_; clear S; intro w9 S9; have S := Kept.mk S9; clear S9) | (refine aliT S.out rfl rfl ?_; clear S; intro b9 w9 S9; have S := Kept.mk S9; clear S9) | fail)
  go_ret
  exact ⟨rfl, S.out.ext⟩
end Go.Proofs.Ytijbfkiljkpebaa
