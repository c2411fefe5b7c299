/- The walk through FnMakeMatrixTriple. -/
import Derived.Test.YtijbfkiljkpebaaExM
import Derived.Test.YtijbfkiljkpebaaMTriV
import Derived.Test.YtijbfkiljkpebaaMTriW
import Derived.Test.YtijbfkiljkpebaaTriP
import Derived.Test.YtijbfkiljkpebaaDrawMT
namespace Go.Proofs.Ytijbfkiljkpebaa
set_option linter.unusedSimpArgs false
set_option linter.unusedVariables false
open Go.RowKit
theorem laws_alive (w : World) : Calls Try.prog 20 #[] w fun e w' => e = .returned (.bool true) ∧ w = w' := by
  go_enter Try.func20, Try.ntmps20
  go_wp2_with (go_at_call 66; (with_reducible refine (impl_RingValid 5 true (by decide) _).mono ?_); rintro e w1 ⟨rfl, rfl⟩)
  go_ret
  exact ⟨rfl, rfl⟩---
theorem seed_sd5 {s : Int} (h : Seed s) (R K C : Nat) : Seed (sd5 R K C s) := ((((h.strm _).strm _).strm _).strm _).strm _

set_option maxHeartbeats 8000000 in
set_option maxRecDepth 4000 in
theorem walk_FnMakeMatrixTriple (v : Value) (w : World) (hb : Bytes w v) : Calls Try.prog 6 #[v] w fun e w' => e = .returned (.bool true) ∧ Ext w w' := by
  obtain ⟨a, n, cap, rfl, hn, hm, hc⟩ := id hb
  clear hc
  have HB := Kept.mk hb
  clear hb
  have S := Kept.mk (St.start w)
  by_cases hl : (n : Int) ≤ 1048576
  · go_enter Try.func6, Try.ntmps6
    go_wp2_with (fail)
    clear hl
    (with_reducible refine (spec_DrawMakeMatrixTriple _ _ (HB.out.ext S.out.ext)).mono ?_)
    rintro e u9 ⟨r, k, c, s, rfl, x9⟩
    replace S := Kept.mk (S.out.quiet x9)
    clear x9
    have SP : Kept (∀ w', Calls Try.prog 22 #[.int .i64 r, .int .i64 k, .int .i64 c, .int .i64 s] w' (TrNPost (tripM r k c s) (tripS r k c s) w')) := ⟨fun w' => spec_MakeMatrixTriple r k c s w'⟩
    have IP : Kept (∀ w', Calls Try.prog 23 #[.int .i64 r, .int .i64 k, .int .i64 c, .int .i64 s] w' (TrNPost (tripM r k c s) (tripS r k c s) w')) := ⟨fun w' => impl_MakeMatrixTriple r k c s w'⟩
    cases g : mkOkM r k c s
    · rw [show tripM r k c s = trZ by unfold tripM; rw [g]; rfl, show tripS r k c s = 0 by unfold tripS; rw [g]; rfl] at SP IP
      clear g
      unfold TrNPost trZ shZ matZ at SP IP
      simp only at SP IP
      obtain ⟨x0, hx0⟩ : ∃ x, x = ([] : List Int) := ⟨_, rfl⟩
      obtain ⟨x1, hx1⟩ : ∃ x, x = ([] : List Int) := ⟨_, rfl⟩
      obtain ⟨x2, hx2⟩ : ∃ x, x = ([] : List Int) := ⟨_, rfl⟩
      obtain ⟨x3, hx3⟩ : ∃ x, x = ([] : List Int) := ⟨_, rfl⟩
      obtain ⟨x4, hx4⟩ : ∃ x, x = ([] : List Int) := ⟨_, rfl⟩
      obtain ⟨x5, hx5⟩ : ∃ x, x = ([] : List Int) := ⟨_, rfl⟩
      have SP : Kept (∀ w', Calls Try.prog 22 #[.int .i64 r, .int .i64 k, .int .i64 c, .int .i64 s] w' fun e w'' => ∃ v0 v1 v2 v3 v4 v5, e = .returned (.tuple #[.agg #[.int .i64 0, .int .i64 0, v0, .int .i64 0, .int .i64 0, v1, .int .i64 0, .int .i64 0, v2, .int .i64 0, .int .i64 0, v3, .int .i64 0, .int .i64 0, v4, .int .i64 0, .int .i64 0, v5], .int .i64 0]) ∧ Grp w'.heap.size w'' [v0, v1, v2, v3, v4, v5] [x0, x1, x2, x3, x4, x5] ∧ Ext w' w'') := ⟨by rw [hx0, hx1, hx2, hx3, hx4, hx5]; exact SP.out⟩
      have IP : Kept (∀ w', Calls Try.prog 23 #[.int .i64 r, .int .i64 k, .int .i64 c, .int .i64 s] w' fun e w'' => ∃ v0 v1 v2 v3 v4 v5, e = .returned (.tuple #[.agg #[.int .i64 0, .int .i64 0, v0, .int .i64 0, .int .i64 0, v1, .int .i64 0, .int .i64 0, v2, .int .i64 0, .int .i64 0, v3, .int .i64 0, .int .i64 0, v4, .int .i64 0, .int .i64 0, v5], .int .i64 0]) ∧ Grp w'.heap.size w'' [v0, v1, v2, v3, v4, v5] [x0, x1, x2, x3, x4, x5] ∧ Ext w' w'') := ⟨by rw [hx0, hx1, hx2, hx3, hx4, hx5]; exact IP.out⟩
      clear hx0 hx1 hx2 hx3 hx4 hx5
      go_wp2_with (first | (refine ldiT S.out rfl _ rfl _ _ rfl _ _ _ (by repeat (first | exact List.Mem.head _ | refine List.Mem.tail _ ?_)) (by simp only [List.drop_succ_cons, List.drop_zero, List.take_succ_cons, List.take_zero]; exact rfl) (by exact rfl) ?_) | (refine ldI S.out rfl _ rfl _ _ rfl _ _ _ (by repeat (first | exact List.Mem.head _ | refine List.Mem.tail _ ?_)) (by simp only [List.getElem?_cons_succ, List.getElem?_cons_zero]; exact rfl) ?_) | (refine stiT S.out rfl rfl _ _ rfl _ _ rfl _ rfl (by exact rfl) (by exact rfl) _ _ _ _ (by repeat (first | exact List.Mem.head _ | refine List.Mem.tail _ ?_)) (by simp only [splice, List.take_succ_cons, List.take_zero, List.drop_succ_cons, List.drop_zero, List.drop_nil, List.length_cons, List.length_nil, List.cons_append, List.nil_append, Nat.zero_add, Nat.add_zero, Nat.reduceAdd]; exact rfl) (by repeat (first | exact Put.head | apply Put.tail)) (by exact Nat.le_of_ble_eq_true rfl) ?_; clear S; intro w9 S9; have S := Kept.mk S9; clear S9) | (refine aliT S.out rfl rfl ?_; clear S; intro b9 w9 S9; have S := Kept.mk S9; clear S9) | (refine wpList_want rfl rfl ?_; dsimp only) | fail)
      (with_reducible refine (IP.out _).mono ?_)
      rintro e u9 ⟨vG0, vG1, vG2, vG3, vG4, vG5, rfl, gg, x9⟩
      obtain ⟨pG0, mG0, hu9, -, -⟩ := id gg.o0.ints
      try simp only at hu9
      subst hu9
      obtain ⟨pG1, mG1, hu9, -, -⟩ := id gg.o1.ints
      try simp only at hu9
      subst hu9
      obtain ⟨pG2, mG2, hu9, -, -⟩ := id gg.o2.ints
      try simp only at hu9
      subst hu9
      obtain ⟨pG3, mG3, hu9, -, -⟩ := id gg.o3.ints
      try simp only at hu9
      subst hu9
      obtain ⟨pG4, mG4, hu9, -, -⟩ := id gg.o4.ints
      try simp only at hu9
      subst hu9
      obtain ⟨pG5, mG5, hu9, -, -⟩ := id gg.o5.ints
      try simp only at hu9
      subst hu9
      replace S := Kept.mk (S.out.made6 gg x9)
      clear gg x9
      go_wp2_with (first | (refine ldiT S.out rfl _ rfl _ _ rfl _ _ _ (by repeat (first | exact List.Mem.head _ | refine List.Mem.tail _ ?_)) (by simp only [List.drop_succ_cons, List.drop_zero, List.take_succ_cons, List.take_zero]; exact rfl) (by exact rfl) ?_) | (refine ldI S.out rfl _ rfl _ _ rfl _ _ _ (by repeat (first | exact List.Mem.head _ | refine List.Mem.tail _ ?_)) (by simp only [List.getElem?_cons_succ, List.getElem?_cons_zero]; exact rfl) ?_) | (refine stiT S.out rfl rfl _ _ rfl _ _ rfl _ rfl (by exact rfl) (by exact rfl) _ _ _ _ (by repeat (first | exact List.Mem.head _ | refine List.Mem.tail _ ?_)) (by simp only [splice, List.take_succ_cons, List.take_zero, List.drop_succ_cons, List.drop_zero, List.drop_nil, List.length_cons, List.length_nil, List.cons_append, List.nil_append, Nat.zero_add, Nat.add_zero, Nat.reduceAdd]; exact rfl) (by repeat (first | exact Put.head | apply Put.tail)) (by exact Nat.le_of_ble_eq_true rfl) ?_; clear S; intro w9 S9; have S := Kept.mk S9; clear S9) | (refine aliT S.out rfl rfl ?_; clear S; intro b9 w9 S9; have S := Kept.mk S9; clear S9) | (refine wpList_want rfl rfl ?_; dsimp only) | fail)
      (with_reducible refine (SP.out _).mono ?_)
      rintro e u9 ⟨vW0, vW1, vW2, vW3, vW4, vW5, rfl, gg, x9⟩
      obtain ⟨pW0, mW0, hu9, -, -⟩ := id gg.o0.ints
      try simp only at hu9
      subst hu9
      obtain ⟨pW1, mW1, hu9, -, -⟩ := id gg.o1.ints
      try simp only at hu9
      subst hu9
      obtain ⟨pW2, mW2, hu9, -, -⟩ := id gg.o2.ints
      try simp only at hu9
      subst hu9
      obtain ⟨pW3, mW3, hu9, -, -⟩ := id gg.o3.ints
      try simp only at hu9
      subst hu9
      obtain ⟨pW4, mW4, hu9, -, -⟩ := id gg.o4.ints
      try simp only at hu9
      subst hu9
      obtain ⟨pW5, mW5, hu9, -, -⟩ := id gg.o5.ints
      try simp only at hu9
      subst hu9
      replace S := Kept.mk (S.out.made6 gg x9)
      clear gg x9
      go_wp2_with (first | (refine ldiT S.out rfl _ rfl _ _ rfl _ _ _ (by repeat (first | exact List.Mem.head _ | refine List.Mem.tail _ ?_)) (by simp only [List.drop_succ_cons, List.drop_zero, List.take_succ_cons, List.take_zero]; exact rfl) (by exact rfl) ?_) | (refine ldI S.out rfl _ rfl _ _ rfl _ _ _ (by repeat (first | exact List.Mem.head _ | refine List.Mem.tail _ ?_)) (by simp only [List.getElem?_cons_succ, List.getElem?_cons_zero]; exact rfl) ?_) | (refine stiT S.out rfl rfl _ _ rfl _ _ rfl _ rfl (by exact rfl) (by exact rfl) _ _ _ _ (by repeat (first | exact List.Mem.head _ | refine List.Mem.tail _ ?_)) (by simp only [splice, List.take_succ_cons, List.take_zero, List.drop_succ_cons, List.drop_zero, List.drop_nil, List.length_cons, List.length_nil, List.cons_append, List.nil_append, Nat.zero_add, Nat.add_zero, Nat.reduceAdd]; exact rfl) (by repeat (first | exact Put.head | apply Put.tail)) (by exact Nat.le_of_ble_eq_true rfl) ?_; clear S; intro w9 S9; have S := Kept.mk S9; clear S9) | (refine aliT S.out rfl rfl ?_; clear S; intro b9 w9 S9; have S := Kept.mk S9; clear S9) | (refine wpList_want rfl rfl ?_; dsimp only) | fail)
      (with_reducible refine (laws_sameTriple 0 0 0 0 0 0 0 0 0 0 0 0 _ _ _ _ _ _ _ _ _ _ _ _ x0 x1 x2 x3 x4 x5 _ (S.out.grp.get 6 rfl rfl).ints (S.out.grp.get 7 rfl rfl).ints (S.out.grp.get 8 rfl rfl).ints (S.out.grp.get 9 rfl rfl).ints (S.out.grp.get 10 rfl rfl).ints (S.out.grp.get 11 rfl rfl).ints (S.out.grp.get 0 rfl rfl).ints (S.out.grp.get 1 rfl rfl).ints (S.out.grp.get 2 rfl rfl).ints (S.out.grp.get 3 rfl rfl).ints (S.out.grp.get 4 rfl rfl).ints (S.out.grp.get 5 rfl rfl).ints).mono ?_)
      rintro e u9 ⟨rfl, x9⟩
      replace S := Kept.mk (S.out.quiet x9)
      clear x9
      go_wp2_with (first | (refine ldiT S.out rfl _ rfl _ _ rfl _ _ _ (by repeat (first | exact List.Mem.head _ | refine List.Mem.tail _ ?_)) (by simp only [List.drop_succ_cons, List.drop_zero, List.take_succ_cons, List.take_zero]; exact rfl) (by exact rfl) ?_) | (refine ldI S.out rfl _ rfl _ _ rfl _ _ _ (by repeat (first | exact List.Mem.head _ | refine List.Mem.tail _ ?_)) (by simp only [List.getElem?_cons_succ, List.getElem?_cons_zero]; exact rfl) ?_) | (refine stiT S.out rfl rfl _ _ rfl _ _ rfl _ rfl (by exact rfl) (by exact rfl) _ _ _ _ (by repeat (first | exact List.Mem.head _ | refine List.Mem.tail _ ?_)) (by simp only [splice, List.take_succ_cons, List.take_zero, List.drop_succ_cons, List.drop_zero, List.drop_nil, List.length_cons, List.length_nil, List.cons_append, List.nil_append, Nat.zero_add, Nat.add_zero, Nat.reduceAdd]; exact rfl) (by repeat (first | exact Put.head | apply Put.tail)) (by exact Nat.le_of_ble_eq_true rfl) ?_; clear S; intro w9 S9; have S := Kept.mk S9; clear S9) | (refine aliT S.out rfl rfl ?_; clear S; intro b9 w9 S9; have S := Kept.mk S9; clear S9) | (refine wpList_want rfl rfl ?_; dsimp only) | fail)
      (with_reducible refine (laws_alive _).mono ?_)
      rintro e u9 ⟨rfl, rfl⟩
      go_wp2_with (first | (refine ldiT S.out rfl _ rfl _ _ rfl _ _ _ (by repeat (first | exact List.Mem.head _ | refine List.Mem.tail _ ?_)) (by simp only [List.drop_succ_cons, List.drop_zero, List.take_succ_cons, List.take_zero]; exact rfl) (by exact rfl) ?_) | (refine ldI S.out rfl _ rfl _ _ rfl _ _ _ (by repeat (first | exact List.Mem.head _ | refine List.Mem.tail _ ?_)) (by simp only [List.getElem?_cons_succ, List.getElem?_cons_zero]; exact rfl) ?_) | (refine stiT S.out rfl rfl _ _ rfl _ _ rfl _ rfl (by exact rfl) (by exact rfl) _ _ _ _ (by repeat (first | exact List.Mem.head _ | refine List.Mem.tail _ ?_)) (by simp only [splice, List.take_succ_cons, List.take_zero, List.drop_succ_cons, List.drop_zero, List.drop_nil, List.length_cons, List.length_nil, List.cons_append, List.nil_append, Nat.zero_add, Nat.add_zero, Nat.reduceAdd]; exact rfl) (by repeat (first | exact Put.head | apply Put.tail)) (by exact Nat.le_of_ble_eq_true rfl) ?_; clear S; intro w9 S9; have S := Kept.mk S9; clear S9) | (refine aliT S.out rfl rfl ?_; clear S; intro b9 w9 S9; have S := Kept.mk S9; clear S9) | (refine wpList_want rfl rfl ?_; dsimp only) | fail)
      go_ret
      exact ⟨rfl, S.out.ext⟩
    · obtain ⟨⟨⟨gr, gk⟩, gc⟩, gs⟩ : ((sideB r = true ∧ sideB k = true) ∧ sideB c = true) ∧ seedOk s = true := by simpa only [mkOkM, Bool.and_eq_true] using g
      rw [show tripM r k c s = tripN r.toNat k.toNat c.toNat s by unfold tripM; rw [g]; rfl, show tripS r k c s = sd5 r.toNat k.toNat c.toNat s by unfold tripS; rw [g]; rfl] at SP IP
      clear g
      obtain ⟨R, rfl, hR⟩ := Side.of_int gr
      obtain ⟨K, rfl, hK⟩ := Side.of_int gk
      obtain ⟨C, rfl, hC⟩ := Side.of_int gc
      simp only [Int.toNat_natCast] at SP IP
      have OK := tripN_ok hR hK hC s
      have HN := seed_sd5 (seed_of gs) R K C
      generalize sd5 R K C s = N at *
      have n0 : (N == 0) = false := by have := HN.lo; simp; omega
      clear gr gk gc gs HN hR hK hC
      unfold TrNPost tripN tripA tripB tripC at SP IP
      unfold tripN tripA tripB tripC at OK
      simp only at SP IP
      generalize subM _ _ = DE at *
      obtain ⟨r5, c5, x5⟩ := DE
      simp only at SP IP
      generalize rlist s (R * K) = x0 at *
      generalize rlist (sd1 R K s) (R * K) = x1 at *
      generalize rlist (sd2 R K s) (K * C) = x2 at *
      generalize rlist (sd3 R K C s) (K * C) = x3 at *
      generalize rlist (sd4 R K C s) (R * C) = x4 at *
      have HOK := Kept.mk OK
      clear OK
      go_wp2_with (first | (refine ldiT S.out rfl _ rfl _ _ rfl _ _ _ (by repeat (first | exact List.Mem.head _ | refine List.Mem.tail _ ?_)) (by simp only [List.drop_succ_cons, List.drop_zero, List.take_succ_cons, List.take_zero]; exact rfl) (by exact rfl) ?_) | (refine ldI S.out rfl _ rfl _ _ rfl _ _ _ (by repeat (first | exact List.Mem.head _ | refine List.Mem.tail _ ?_)) (by simp only [List.getElem?_cons_succ, List.getElem?_cons_zero]; exact rfl) ?_) | (refine stiT S.out rfl rfl _ _ rfl _ _ rfl _ rfl (by exact rfl) (by exact rfl) _ _ _ _ (by repeat (first | exact List.Mem.head _ | refine List.Mem.tail _ ?_)) (by simp only [splice, List.take_succ_cons, List.take_zero, List.drop_succ_cons, List.drop_zero, List.drop_nil, List.length_cons, List.length_nil, List.cons_append, List.nil_append, Nat.zero_add, Nat.add_zero, Nat.reduceAdd]; exact rfl) (by repeat (first | exact Put.head | apply Put.tail)) (by exact Nat.le_of_ble_eq_true rfl) ?_; clear S; intro w9 S9; have S := Kept.mk S9; clear S9) | (refine aliT S.out rfl rfl ?_; clear S; intro b9 w9 S9; have S := Kept.mk S9; clear S9) | (refine wpList_want rfl rfl ?_; dsimp only) | fail)
      (with_reducible refine (IP.out _).mono ?_)
      rintro e u9 ⟨vG0, vG1, vG2, vG3, vG4, vG5, rfl, gg, x9⟩
      obtain ⟨pG0, mG0, hu9, -, -⟩ := id gg.o0.ints
      try simp only at hu9
      subst hu9
      obtain ⟨pG1, mG1, hu9, -, -⟩ := id gg.o1.ints
      try simp only at hu9
      subst hu9
      obtain ⟨pG2, mG2, hu9, -, -⟩ := id gg.o2.ints
      try simp only at hu9
      subst hu9
      obtain ⟨pG3, mG3, hu9, -, -⟩ := id gg.o3.ints
      try simp only at hu9
      subst hu9
      obtain ⟨pG4, mG4, hu9, -, -⟩ := id gg.o4.ints
      try simp only at hu9
      subst hu9
      obtain ⟨pG5, mG5, hu9, -, -⟩ := id gg.o5.ints
      try simp only at hu9
      subst hu9
      replace S := Kept.mk (S.out.made6 gg x9)
      clear gg x9
      go_wp2_with (first | (refine ldiT S.out rfl _ rfl _ _ rfl _ _ _ (by repeat (first | exact List.Mem.head _ | refine List.Mem.tail _ ?_)) (by simp only [List.drop_succ_cons, List.drop_zero, List.take_succ_cons, List.take_zero]; exact rfl) (by exact rfl) ?_) | (refine ldI S.out rfl _ rfl _ _ rfl _ _ _ (by repeat (first | exact List.Mem.head _ | refine List.Mem.tail _ ?_)) (by simp only [List.getElem?_cons_succ, List.getElem?_cons_zero]; exact rfl) ?_) | (refine stiT S.out rfl rfl _ _ rfl _ _ rfl _ rfl (by exact rfl) (by exact rfl) _ _ _ _ (by repeat (first | exact List.Mem.head _ | refine List.Mem.tail _ ?_)) (by simp only [splice, List.take_succ_cons, List.take_zero, List.drop_succ_cons, List.drop_zero, List.drop_nil, List.length_cons, List.length_nil, List.cons_append, List.nil_append, Nat.zero_add, Nat.add_zero, Nat.reduceAdd]; exact rfl) (by repeat (first | exact Put.head | apply Put.tail)) (by exact Nat.le_of_ble_eq_true rfl) ?_; clear S; intro w9 S9; have S := Kept.mk S9; clear S9) | (refine aliT S.out rfl rfl ?_; clear S; intro b9 w9 S9; have S := Kept.mk S9; clear S9) | (refine wpList_want rfl rfl ?_; dsimp only) | fail)
      (with_reducible refine (SP.out _).mono ?_)
      rintro e u9 ⟨vW0, vW1, vW2, vW3, vW4, vW5, rfl, gg, x9⟩
      obtain ⟨pW0, mW0, hu9, -, -⟩ := id gg.o0.ints
      try simp only at hu9
      subst hu9
      obtain ⟨pW1, mW1, hu9, -, -⟩ := id gg.o1.ints
      try simp only at hu9
      subst hu9
      obtain ⟨pW2, mW2, hu9, -, -⟩ := id gg.o2.ints
      try simp only at hu9
      subst hu9
      obtain ⟨pW3, mW3, hu9, -, -⟩ := id gg.o3.ints
      try simp only at hu9
      subst hu9
      obtain ⟨pW4, mW4, hu9, -, -⟩ := id gg.o4.ints
      try simp only at hu9
      subst hu9
      obtain ⟨pW5, mW5, hu9, -, -⟩ := id gg.o5.ints
      try simp only at hu9
      subst hu9
      replace S := Kept.mk (S.out.made6 gg x9)
      clear gg x9
      go_wp2_with (first | (refine ldiT S.out rfl _ rfl _ _ rfl _ _ _ (by repeat (first | exact List.Mem.head _ | refine List.Mem.tail _ ?_)) (by simp only [List.drop_succ_cons, List.drop_zero, List.take_succ_cons, List.take_zero]; exact rfl) (by exact rfl) ?_) | (refine ldI S.out rfl _ rfl _ _ rfl _ _ _ (by repeat (first | exact List.Mem.head _ | refine List.Mem.tail _ ?_)) (by simp only [List.getElem?_cons_succ, List.getElem?_cons_zero]; exact rfl) ?_) | (refine stiT S.out rfl rfl _ _ rfl _ _ rfl _ rfl (by exact rfl) (by exact rfl) _ _ _ _ (by repeat (first | exact List.Mem.head _ | refine List.Mem.tail _ ?_)) (by simp only [splice, List.take_succ_cons, List.take_zero, List.drop_succ_cons, List.drop_zero, List.drop_nil, List.length_cons, List.length_nil, List.cons_append, List.nil_append, Nat.zero_add, Nat.add_zero, Nat.reduceAdd]; exact rfl) (by repeat (first | exact Put.head | apply Put.tail)) (by exact Nat.le_of_ble_eq_true rfl) ?_; clear S; intro w9 S9; have S := Kept.mk S9; clear S9) | (refine aliT S.out rfl rfl ?_; clear S; intro b9 w9 S9; have S := Kept.mk S9; clear S9) | (refine wpList_want rfl rfl ?_; dsimp only) | fail)
      (with_reducible refine (laws_sameTriple R K R K K C K C R C r5 c5 _ _ _ _ _ _ _ _ _ _ _ _ x0 x1 x2 x3 x4 x5 _ (S.out.grp.get 6 rfl rfl).ints (S.out.grp.get 7 rfl rfl).ints (S.out.grp.get 8 rfl rfl).ints (S.out.grp.get 9 rfl rfl).ints (S.out.grp.get 10 rfl rfl).ints (S.out.grp.get 11 rfl rfl).ints (S.out.grp.get 0 rfl rfl).ints (S.out.grp.get 1 rfl rfl).ints (S.out.grp.get 2 rfl rfl).ints (S.out.grp.get 3 rfl rfl).ints (S.out.grp.get 4 rfl rfl).ints (S.out.grp.get 5 rfl rfl).ints).mono ?_)
      rintro e u9 ⟨rfl, x9⟩
      replace S := Kept.mk (S.out.quiet x9)
      clear x9
      go_wp2_with (first | (refine ldiT S.out rfl _ rfl _ _ rfl _ _ _ (by repeat (first | exact List.Mem.head _ | refine List.Mem.tail _ ?_)) (by simp only [List.drop_succ_cons, List.drop_zero, List.take_succ_cons, List.take_zero]; exact rfl) (by exact rfl) ?_) | (refine ldI S.out rfl _ rfl _ _ rfl _ _ _ (by repeat (first | exact List.Mem.head _ | refine List.Mem.tail _ ?_)) (by simp only [List.getElem?_cons_succ, List.getElem?_cons_zero]; exact rfl) ?_) | (refine stiT S.out rfl rfl _ _ rfl _ _ rfl _ rfl (by exact rfl) (by exact rfl) _ _ _ _ (by repeat (first | exact List.Mem.head _ | refine List.Mem.tail _ ?_)) (by simp only [splice, List.take_succ_cons, List.take_zero, List.drop_succ_cons, List.drop_zero, List.drop_nil, List.length_cons, List.length_nil, List.cons_append, List.nil_append, Nat.zero_add, Nat.add_zero, Nat.reduceAdd]; exact rfl) (by repeat (first | exact Put.head | apply Put.tail)) (by exact Nat.le_of_ble_eq_true rfl) ?_; clear S; intro w9 S9; have S := Kept.mk S9; clear S9) | (refine aliT S.out rfl rfl ?_; clear S; intro b9 w9 S9; have S := Kept.mk S9; clear S9) | (refine wpList_want rfl rfl ?_; dsimp only) | fail)
      (with_reducible refine (impl_MatrixTripleRight R K R K K C K C R C r5 c5 _ _ _ _ _ _ x0 x1 x2 x3 x4 x5 _ (S.out.grp.get 6 rfl rfl).ints (S.out.grp.get 7 rfl rfl).ints (S.out.grp.get 8 rfl rfl).ints (S.out.grp.get 9 rfl rfl).ints (S.out.grp.get 10 rfl rfl).ints (S.out.grp.get 11 rfl rfl).ints true HOK.out).mono ?_)
      rintro e u9 ⟨rfl, x9⟩
      replace S := Kept.mk (S.out.quiet x9)
      clear x9
      go_wp2_with (first | (refine ldiT S.out rfl _ rfl _ _ rfl _ _ _ (by repeat (first | exact List.Mem.head _ | refine List.Mem.tail _ ?_)) (by simp only [List.drop_succ_cons, List.drop_zero, List.take_succ_cons, List.take_zero]; exact rfl) (by exact rfl) ?_) | (refine ldI S.out rfl _ rfl _ _ rfl _ _ _ (by repeat (first | exact List.Mem.head _ | refine List.Mem.tail _ ?_)) (by simp only [List.getElem?_cons_succ, List.getElem?_cons_zero]; exact rfl) ?_) | (refine stiT S.out rfl rfl _ _ rfl _ _ rfl _ rfl (by exact rfl) (by exact rfl) _ _ _ _ (by repeat (first | exact List.Mem.head _ | refine List.Mem.tail _ ?_)) (by simp only [splice, List.take_succ_cons, List.take_zero, List.drop_succ_cons, List.drop_zero, List.drop_nil, List.length_cons, List.length_nil, List.cons_append, List.nil_append, Nat.zero_add, Nat.add_zero, Nat.reduceAdd]; exact rfl) (by repeat (first | exact Put.head | apply Put.tail)) (by exact Nat.le_of_ble_eq_true rfl) ?_; clear S; intro w9 S9; have S := Kept.mk S9; clear S9) | (refine aliT S.out rfl rfl ?_; clear S; intro b9 w9 S9; have S := Kept.mk S9; clear S9) | (refine wpList_want rfl rfl ?_; dsimp only) | fail)
      go_ret
      exact ⟨rfl, S.out.ext⟩
  · have hl' : ¬ (n : Int) ≤ 1048576 := hl
    have hg : (1048576 : Int) < n := by omega
    clear hl
    go_enter Try.func6, Try.ntmps6
    go_wp2_with (fail)
    go_ret
    exact ⟨rfl, S.out.ext⟩
end Go.Proofs.Ytijbfkiljkpebaa
