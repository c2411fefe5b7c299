/- The walk through FnExactMatrixTripleRight. -/
import Derived.Test.YtijbfkiljkpebaaTrS
import Derived.Test.YtijbfkiljkpebaaTriT
import Derived.Test.YtijbfkiljkpebaaExL
namespace Go.Proofs.Ytijbfkiljkpebaa
set_option linter.unusedSimpArgs false
set_option linter.unusedVariables false
open Go.RowKit
/-- An operation in a drawn region that leaves a struct of 6 new matrices. -/
def grpR6 {n0 : Nat} (r0 c0 r1 c1 r2 c2 r3 c3 r4 c4 r5 c5 : Int) (x0 x1 x2 x3 x4 x5 : List Int) : OpSpec Ext n0 :=
  ⟨[], fun _ u lo up w => ∃ v0 v1 v2 v3 v4 v5, u = .agg #[.int .i64 r0, .int .i64 c0, v0, .int .i64 r1, .int .i64 c1, v1, .int .i64 r2, .int .i64 c2, v2, .int .i64 r3, .int .i64 c3, v3, .int .i64 r4, .int .i64 c4, v4, .int .i64 r5, .int .i64 c5, v5] ∧ Grp lo w [v0, v1, v2, v3, v4, v5] [x0, x1, x2, x3, x4, x5], fun _ _ _ _ _ _ _ _ _ hx ⟨v0, v1, v2, v3, v4, v5, h1, h2⟩ => ⟨v0, v1, v2, v3, v4, v5, h1, h2.keep hx⟩⟩

set_option maxHeartbeats 8000000 in
set_option maxRecDepth 4000 in
theorem walk_FnExactMatrixTripleRight (r0 c0 : Int) (v0 : Value) (x0 : List Int) (r1 c1 : Int) (v1 : Value) (x1 : List Int) (r2 c2 : Int) (v2 : Value) (x2 : List Int) (r3 c3 : Int) (v3 : Value) (x3 : List Int) (r4 c4 : Int) (v4 : Value) (x4 : List Int) (r5 c5 : Int) (v5 : Value) (x5 : List Int) (w : World) (h0 : Ints w v0 x0) (h1 : Ints w v1 x1) (h2 : Ints w v2 x2) (h3 : Ints w v3 x3) (h4 : Ints w v4 x4) (h5 : Ints w v5 x5) : Calls Try.prog 3 #[.agg #[.int .i64 r0, .int .i64 c0, v0, .int .i64 r1, .int .i64 c1, v1, .int .i64 r2, .int .i64 c2, v2, .int .i64 r3, .int .i64 c3, v3, .int .i64 r4, .int .i64 c4, v4, .int .i64 r5, .int .i64 c5, v5]] w fun e w' => e = .returned (.bool true) ∧ Ext w w' := by
  obtain ⟨s0, n0, rfl, hm9, hc9⟩ := id h0
  clear hm9 hc9
  have H0 := Kept.mk h0
  clear h0
  obtain ⟨s1, n1, rfl, hm9, hc9⟩ := id h1
  clear hm9 hc9
  have H1 := Kept.mk h1
  clear h1
  obtain ⟨s2, n2, rfl, hm9, hc9⟩ := id h2
  clear hm9 hc9
  have H2 := Kept.mk h2
  clear h2
  obtain ⟨s3, n3, rfl, hm9, hc9⟩ := id h3
  clear hm9 hc9
  have H3 := Kept.mk h3
  clear h3
  obtain ⟨s4, n4, rfl, hm9, hc9⟩ := id h4
  clear hm9 hc9
  have H4 := Kept.mk h4
  clear h4
  obtain ⟨s5, n5, rfl, hm9, hc9⟩ := id h5
  clear hm9 hc9
  have H5 := Kept.mk h5
  clear h5
  obtain ⟨T, hT⟩ : ∃ T : Nat, T = x0.length + x1.length + x2.length + x3.length + x4.length + x5.length := ⟨_, rfl⟩
  by_cases d : (1048576 : Int) - (T : Int) < 0
  · have SZ : Kept (∀ w', Ext w w' → Calls Try.prog 14 #[.agg #[.int .i64 r0, .int .i64 c0, .slice s0 x0.length n0, .int .i64 r1, .int .i64 c1, .slice s1 x1.length n1, .int .i64 r2, .int .i64 c2, .slice s2 x2.length n2, .int .i64 r3, .int .i64 c3, .slice s3 x3.length n3, .int .i64 r4, .int .i64 c4, .slice s4 x4.length n4, .int .i64 r5, .int .i64 c5, .slice s5 x5.length n5], .int .i64 1048576] w' fun e w'' => e = .returned (.int .i64 (-1)) ∧ Ext w' w'') := by
      refine ⟨fun w' hx => ?_⟩
      have h := laws_szMatrixTriple r0 c0 r1 c1 r2 c2 r3 c3 r4 c4 r5 c5 _ _ _ _ _ _ x0 x1 x2 x3 x4 x5 1048576 w' (H0.out.keep hx) (H1.out.keep hx) (H2.out.keep hx) (H3.out.keep hx) (H4.out.keep hx) (H5.out.keep hx) (by omega) (by omega)
      rw [← hT] at h
      unfold leftL at h
      rw [if_pos d] at h
      exact h
    clear d hT
    have S := Kept.mk (St.start w)
    go_enter Try.func3, Try.ntmps3
    go_wp2_with (first | (refine ldiT S.out rfl _ rfl _ _ rfl _ _ _ (by repeat (first | exact List.Mem.head _ | refine List.Mem.tail _ ?_)) (by simp only [List.drop_succ_cons, List.drop_zero, List.take_succ_cons, List.take_zero]; exact rfl) (by exact rfl) ?_) | (refine ldlT S.out rfl _ rfl _ _ rfl _ _ _ (by repeat (first | exact List.Mem.head _ | refine List.Mem.tail _ ?_)) (by simp only [List.drop_succ_cons, List.drop_zero, List.take_succ_cons, List.take_zero]; exact rfl) (by exact rfl) ?_) | (refine stiT S.out rfl rfl _ _ rfl _ _ rfl _ rfl (by exact rfl) (by exact rfl) _ _ _ _ (by repeat (first | exact List.Mem.head _ | refine List.Mem.tail _ ?_)) (by simp only [splice, List.take_succ_cons, List.take_zero, List.drop_succ_cons, List.drop_zero, List.drop_nil, List.length_cons, List.length_nil, List.cons_append, List.nil_append, Nat.zero_add, Nat.add_zero, Nat.reduceAdd]; exact rfl) (by repeat (first | exact Put.head | apply Put.tail)) (by exact Nat.le_of_ble_eq_true rfl) ?_; clear S; intro w9 S9; have S := Kept.mk S9; clear S9) | (refine aliT S.out rfl rfl ?_; clear S; intro b9 w9 S9; have S := Kept.mk S9; clear S9) | (refine bxlT S.out rfl _ rfl _ rfl ?_; clear S; intro b9 w9 S9; have S := Kept.mk S9; clear S9) | (refine wpList_want rfl rfl ?_; dsimp only) | fail)
    (with_reducible refine (SZ.out _ S.out.ext).mono ?_)
    rintro e u9 ⟨rfl, x9⟩
    replace S := Kept.mk (S.out.quiet x9)
    clear x9
    go_wp2_with (first | (refine ldiT S.out rfl _ rfl _ _ rfl _ _ _ (by repeat (first | exact List.Mem.head _ | refine List.Mem.tail _ ?_)) (by simp only [List.drop_succ_cons, List.drop_zero, List.take_succ_cons, List.take_zero]; exact rfl) (by exact rfl) ?_) | (refine ldlT S.out rfl _ rfl _ _ rfl _ _ _ (by repeat (first | exact List.Mem.head _ | refine List.Mem.tail _ ?_)) (by simp only [List.drop_succ_cons, List.drop_zero, List.take_succ_cons, List.take_zero]; exact rfl) (by exact rfl) ?_) | (refine stiT S.out rfl rfl _ _ rfl _ _ rfl _ rfl (by exact rfl) (by exact rfl) _ _ _ _ (by repeat (first | exact List.Mem.head _ | refine List.Mem.tail _ ?_)) (by simp only [splice, List.take_succ_cons, List.take_zero, List.drop_succ_cons, List.drop_zero, List.drop_nil, List.length_cons, List.length_nil, List.cons_append, List.nil_append, Nat.zero_add, Nat.add_zero, Nat.reduceAdd]; exact rfl) (by repeat (first | exact Put.head | apply Put.tail)) (by exact Nat.le_of_ble_eq_true rfl) ?_; clear S; intro w9 S9; have S := Kept.mk S9; clear S9) | (refine aliT S.out rfl rfl ?_; clear S; intro b9 w9 S9; have S := Kept.mk S9; clear S9) | (refine bxlT S.out rfl _ rfl _ rfl ?_; clear S; intro b9 w9 S9; have S := Kept.mk S9; clear S9) | (refine wpList_want rfl rfl ?_; dsimp only) | fail)
    go_ret
    exact ⟨rfl, S.out.ext⟩
  · have SZ : Kept (∀ w', Ext w w' → Calls Try.prog 14 #[.agg #[.int .i64 r0, .int .i64 c0, .slice s0 x0.length n0, .int .i64 r1, .int .i64 c1, .slice s1 x1.length n1, .int .i64 r2, .int .i64 c2, .slice s2 x2.length n2, .int .i64 r3, .int .i64 c3, .slice s3 x3.length n3, .int .i64 r4, .int .i64 c4, .slice s4 x4.length n4, .int .i64 r5, .int .i64 c5, .slice s5 x5.length n5], .int .i64 1048576] w' fun e w'' => e = .returned (.int .i64 (1048576 - (T : Int))) ∧ Ext w' w'') := by
      refine ⟨fun w' hx => ?_⟩
      have h := laws_szMatrixTriple r0 c0 r1 c1 r2 c2 r3 c3 r4 c4 r5 c5 _ _ _ _ _ _ x0 x1 x2 x3 x4 x5 1048576 w' (H0.out.keep hx) (H1.out.keep hx) (H2.out.keep hx) (H3.out.keep hx) (H4.out.keep hx) (H5.out.keep hx) (by omega) (by omega)
      rw [← hT] at h
      unfold leftL at h
      rw [if_neg d] at h
      exact h
    have dn : decide (1048576 - (T : Int) < 0) = false := by simpa using d
    have L0 : Kept (x0.length ≤ 1048576) := ⟨by omega⟩
    have L1 : Kept (x1.length ≤ 1048576) := ⟨by omega⟩
    have L2 : Kept (x2.length ≤ 1048576) := ⟨by omega⟩
    have L3 : Kept (x3.length ≤ 1048576) := ⟨by omega⟩
    have L4 : Kept (x4.length ≤ 1048576) := ⟨by omega⟩
    have L5 : Kept (x5.length ≤ 1048576) := ⟨by omega⟩
    have TO : Kept (∀ w', Ext w w' → Calls Try.prog 16 #[.agg #[.int .i64 r0, .int .i64 c0, .slice s0 x0.length n0, .int .i64 r1, .int .i64 c1, .slice s1 x1.length n1, .int .i64 r2, .int .i64 c2, .slice s2 x2.length n2, .int .i64 r3, .int .i64 c3, .slice s3 x3.length n3, .int .i64 r4, .int .i64 c4, .slice s4 x4.length n4, .int .i64 r5, .int .i64 c5, .slice s5 x5.length n5]] w' (TrGrp r0 c0 r1 c1 r2 c2 r3 c3 r4 c4 r5 c5 x0 x1 x2 x3 x4 x5 w')) := ⟨fun w' hx => laws_toMatrixTriple r0 c0 r1 c1 r2 c2 r3 c3 r4 c4 r5 c5 _ _ _ _ _ _ x0 x1 x2 x3 x4 x5 w' (H0.out.keep hx) (H1.out.keep hx) (H2.out.keep hx) (H3.out.keep hx) (H4.out.keep hx) (H5.out.keep hx) L0.out L1.out L2.out L3.out L4.out L5.out⟩
    unfold TrGrp at TO
    obtain ⟨B, hB⟩ : ∃ B : Bool, TrM.ok ⟨⟨⟨r0, c0, x0⟩, ⟨r1, c1, x1⟩⟩, ⟨⟨r2, c2, x2⟩, ⟨r3, c3, x3⟩⟩, ⟨⟨r4, c4, x4⟩, ⟨r5, c5, x5⟩⟩⟩ = B := ⟨_, rfl⟩
    have HBB := Kept.mk hB
    clear hB d hT
    have S := Kept.mk (St.start w)
    go_enter Try.func3, Try.ntmps3
    go_wp2_with (first | (refine ldiT S.out rfl _ rfl _ _ rfl _ _ _ (by repeat (first | exact List.Mem.head _ | refine List.Mem.tail _ ?_)) (by simp only [List.drop_succ_cons, List.drop_zero, List.take_succ_cons, List.take_zero]; exact rfl) (by exact rfl) ?_) | (refine ldlT S.out rfl _ rfl _ _ rfl _ _ _ (by repeat (first | exact List.Mem.head _ | refine List.Mem.tail _ ?_)) (by simp only [List.drop_succ_cons, List.drop_zero, List.take_succ_cons, List.take_zero]; exact rfl) (by exact rfl) ?_) | (refine stiT S.out rfl rfl _ _ rfl _ _ rfl _ rfl (by exact rfl) (by exact rfl) _ _ _ _ (by repeat (first | exact List.Mem.head _ | refine List.Mem.tail _ ?_)) (by simp only [splice, List.take_succ_cons, List.take_zero, List.drop_succ_cons, List.drop_zero, List.drop_nil, List.length_cons, List.length_nil, List.cons_append, List.nil_append, Nat.zero_add, Nat.add_zero, Nat.reduceAdd]; exact rfl) (by repeat (first | exact Put.head | apply Put.tail)) (by exact Nat.le_of_ble_eq_true rfl) ?_; clear S; intro w9 S9; have S := Kept.mk S9; clear S9) | (refine aliT S.out rfl rfl ?_; clear S; intro b9 w9 S9; have S := Kept.mk S9; clear S9) | (refine bxlT S.out rfl _ rfl _ rfl ?_; clear S; intro b9 w9 S9; have S := Kept.mk S9; clear S9) | (refine wpList_want rfl rfl ?_; dsimp only) | fail)
    (with_reducible refine (SZ.out _ S.out.ext).mono ?_)
    rintro e u9 ⟨rfl, x9⟩
    replace S := Kept.mk (S.out.quiet x9)
    clear x9
    go_wp2_with (first | (refine ldiT S.out rfl _ rfl _ _ rfl _ _ _ (by repeat (first | exact List.Mem.head _ | refine List.Mem.tail _ ?_)) (by simp only [List.drop_succ_cons, List.drop_zero, List.take_succ_cons, List.take_zero]; exact rfl) (by exact rfl) ?_) | (refine ldlT S.out rfl _ rfl _ _ rfl _ _ _ (by repeat (first | exact List.Mem.head _ | refine List.Mem.tail _ ?_)) (by simp only [List.drop_succ_cons, List.drop_zero, List.take_succ_cons, List.take_zero]; exact rfl) (by exact rfl) ?_) | (refine stiT S.out rfl rfl _ _ rfl _ _ rfl _ rfl (by exact rfl) (by exact rfl) _ _ _ _ (by repeat (first | exact List.Mem.head _ | refine List.Mem.tail _ ?_)) (by simp only [splice, List.take_succ_cons, List.take_zero, List.drop_succ_cons, List.drop_zero, List.drop_nil, List.length_cons, List.length_nil, List.cons_append, List.nil_append, Nat.zero_add, Nat.add_zero, Nat.reduceAdd]; exact rfl) (by repeat (first | exact Put.head | apply Put.tail)) (by exact Nat.le_of_ble_eq_true rfl) ?_; clear S; intro w9 S9; have S := Kept.mk S9; clear S9) | (refine aliT S.out rfl rfl ?_; clear S; intro b9 w9 S9; have S := Kept.mk S9; clear S9) | (refine bxlT S.out rfl _ rfl _ rfl ?_; clear S; intro b9 w9 S9; have S := Kept.mk S9; clear S9) | (refine wpList_want rfl rfl ?_; dsimp only) | fail)
    (with_reducible refine (TO.out _ S.out.ext).mono ?_)
    rintro e u9 ⟨vW0, vW1, vW2, vW3, vW4, vW5, rfl, gg, x9⟩
    obtain ⟨pW0, mW0, hu9, -, -⟩ := id gg.o0.ints
    try simp only at hu9
    subst hu9
    obtain ⟨pW1, mW1, hu9, -, -⟩ := id gg.o1.ints
    try simp only at hu9
    subst hu9
    obtain ⟨pW2, mW2, hu9, -, -⟩ := id gg.o2.ints
    try simp only at hu9
    subst hu9
    obtain ⟨pW3, mW3, hu9, -, -⟩ := id gg.o3.ints
    try simp only at hu9
    subst hu9
    obtain ⟨pW4, mW4, hu9, -, -⟩ := id gg.o4.ints
    try simp only at hu9
    subst hu9
    obtain ⟨pW5, mW5, hu9, -, -⟩ := id gg.o5.ints
    try simp only at hu9
    subst hu9
    replace S := Kept.mk (S.out.made6 gg x9)
    clear gg x9
    go_wp2_with (first | (refine ldiT S.out rfl _ rfl _ _ rfl _ _ _ (by repeat (first | exact List.Mem.head _ | refine List.Mem.tail _ ?_)) (by simp only [List.drop_succ_cons, List.drop_zero, List.take_succ_cons, List.take_zero]; exact rfl) (by exact rfl) ?_) | (refine ldlT S.out rfl _ rfl _ _ rfl _ _ _ (by repeat (first | exact List.Mem.head _ | refine List.Mem.tail _ ?_)) (by simp only [List.drop_succ_cons, List.drop_zero, List.take_succ_cons, List.take_zero]; exact rfl) (by exact rfl) ?_) | (refine stiT S.out rfl rfl _ _ rfl _ _ rfl _ rfl (by exact rfl) (by exact rfl) _ _ _ _ (by repeat (first | exact List.Mem.head _ | refine List.Mem.tail _ ?_)) (by simp only [splice, List.take_succ_cons, List.take_zero, List.drop_succ_cons, List.drop_zero, List.drop_nil, List.length_cons, List.length_nil, List.cons_append, List.nil_append, Nat.zero_add, Nat.add_zero, Nat.reduceAdd]; exact rfl) (by repeat (first | exact Put.head | apply Put.tail)) (by exact Nat.le_of_ble_eq_true rfl) ?_; clear S; intro w9 S9; have S := Kept.mk S9; clear S9) | (refine aliT S.out rfl rfl ?_; clear S; intro b9 w9 S9; have S := Kept.mk S9; clear S9) | (refine bxlT S.out rfl _ rfl _ rfl ?_; clear S; intro b9 w9 S9; have S := Kept.mk S9; clear S9) | (refine wpList_want rfl rfl ?_; dsimp only) | fail)
    (with_reducible refine (spec_MatrixTripleRight r0 c0 r1 c1 r2 c2 r3 c3 r4 c4 r5 c5 _ _ _ _ _ _ x0 x1 x2 x3 x4 x5 _ ((S.out.grp.get 0 rfl rfl).arg L0.out) ((S.out.grp.get 1 rfl rfl).arg L1.out) ((S.out.grp.get 2 rfl rfl).arg L2.out) ((S.out.grp.get 3 rfl rfl).arg L3.out) ((S.out.grp.get 4 rfl rfl).arg L4.out) ((S.out.grp.get 5 rfl rfl).arg L5.out) B HBB.out).mono ?_)
    rintro e u9 ⟨rfl, x9⟩
    replace S := Kept.mk (S.out.quiet x9)
    clear x9
    go_wp2_with (first | (refine ldiT S.out rfl _ rfl _ _ rfl _ _ _ (by repeat (first | exact List.Mem.head _ | refine List.Mem.tail _ ?_)) (by simp only [List.drop_succ_cons, List.drop_zero, List.take_succ_cons, List.take_zero]; exact rfl) (by exact rfl) ?_) | (refine ldlT S.out rfl _ rfl _ _ rfl _ _ _ (by repeat (first | exact List.Mem.head _ | refine List.Mem.tail _ ?_)) (by simp only [List.drop_succ_cons, List.drop_zero, List.take_succ_cons, List.take_zero]; exact rfl) (by exact rfl) ?_) | (refine stiT S.out rfl rfl _ _ rfl _ _ rfl _ rfl (by exact rfl) (by exact rfl) _ _ _ _ (by repeat (first | exact List.Mem.head _ | refine List.Mem.tail _ ?_)) (by simp only [splice, List.take_succ_cons, List.take_zero, List.drop_succ_cons, List.drop_zero, List.drop_nil, List.length_cons, List.length_nil, List.cons_append, List.nil_append, Nat.zero_add, Nat.add_zero, Nat.reduceAdd]; exact rfl) (by repeat (first | exact Put.head | apply Put.tail)) (by exact Nat.le_of_ble_eq_true rfl) ?_; clear S; intro w9 S9; have S := Kept.mk S9; clear S9) | (refine aliT S.out rfl rfl ?_; clear S; intro b9 w9 S9; have S := Kept.mk S9; clear S9) | (refine bxlT S.out rfl _ rfl _ rfl ?_; clear S; intro b9 w9 S9; have S := Kept.mk S9; clear S9) | (refine wpList_want rfl rfl ?_; dsimp only) | fail)
    (with_reducible refine (TO.out _ S.out.ext).mono ?_)
    rintro e u9 ⟨vG0, vG1, vG2, vG3, vG4, vG5, rfl, gg, x9⟩
    obtain ⟨pG0, mG0, hu9, -, -⟩ := id gg.o0.ints
    try simp only at hu9
    subst hu9
    obtain ⟨pG1, mG1, hu9, -, -⟩ := id gg.o1.ints
    try simp only at hu9
    subst hu9
    obtain ⟨pG2, mG2, hu9, -, -⟩ := id gg.o2.ints
    try simp only at hu9
    subst hu9
    obtain ⟨pG3, mG3, hu9, -, -⟩ := id gg.o3.ints
    try simp only at hu9
    subst hu9
    obtain ⟨pG4, mG4, hu9, -, -⟩ := id gg.o4.ints
    try simp only at hu9
    subst hu9
    obtain ⟨pG5, mG5, hu9, -, -⟩ := id gg.o5.ints
    try simp only at hu9
    subst hu9
    replace S := Kept.mk (S.out.made6 gg x9)
    clear gg x9
    go_wp2_with (first | (refine ldiT S.out rfl _ rfl _ _ rfl _ _ _ (by repeat (first | exact List.Mem.head _ | refine List.Mem.tail _ ?_)) (by simp only [List.drop_succ_cons, List.drop_zero, List.take_succ_cons, List.take_zero]; exact rfl) (by exact rfl) ?_) | (refine ldlT S.out rfl _ rfl _ _ rfl _ _ _ (by repeat (first | exact List.Mem.head _ | refine List.Mem.tail _ ?_)) (by simp only [List.drop_succ_cons, List.drop_zero, List.take_succ_cons, List.take_zero]; exact rfl) (by exact rfl) ?_) | (refine stiT S.out rfl rfl _ _ rfl _ _ rfl _ rfl (by exact rfl) (by exact rfl) _ _ _ _ (by repeat (first | exact List.Mem.head _ | refine List.Mem.tail _ ?_)) (by simp only [splice, List.take_succ_cons, List.take_zero, List.drop_succ_cons, List.drop_zero, List.drop_nil, List.length_cons, List.length_nil, List.cons_append, List.nil_append, Nat.zero_add, Nat.add_zero, Nat.reduceAdd]; exact rfl) (by repeat (first | exact Put.head | apply Put.tail)) (by exact Nat.le_of_ble_eq_true rfl) ?_; clear S; intro w9 S9; have S := Kept.mk S9; clear S9) | (refine aliT S.out rfl rfl ?_; clear S; intro b9 w9 S9; have S := Kept.mk S9; clear S9) | (refine bxlT S.out rfl _ rfl _ rfl ?_; clear S; intro b9 w9 S9; have S := Kept.mk S9; clear S9) | (refine wpList_want rfl rfl ?_; dsimp only) | fail)
    (with_reducible refine (impl_MatrixTripleRight r0 c0 r1 c1 r2 c2 r3 c3 r4 c4 r5 c5 _ _ _ _ _ _ x0 x1 x2 x3 x4 x5 _ (S.out.grp.get 0 rfl rfl).ints (S.out.grp.get 1 rfl rfl).ints (S.out.grp.get 2 rfl rfl).ints (S.out.grp.get 3 rfl rfl).ints (S.out.grp.get 4 rfl rfl).ints (S.out.grp.get 5 rfl rfl).ints B HBB.out).mono ?_)
    rintro e u9 ⟨rfl, x9⟩
    replace S := Kept.mk (S.out.quiet x9)
    clear x9
    go_wp2_with (first | (refine ldiT S.out rfl _ rfl _ _ rfl _ _ _ (by repeat (first | exact List.Mem.head _ | refine List.Mem.tail _ ?_)) (by simp only [List.drop_succ_cons, List.drop_zero, List.take_succ_cons, List.take_zero]; exact rfl) (by exact rfl) ?_) | (refine ldlT S.out rfl _ rfl _ _ rfl _ _ _ (by repeat (first | exact List.Mem.head _ | refine List.Mem.tail _ ?_)) (by simp only [List.drop_succ_cons, List.drop_zero, List.take_succ_cons, List.take_zero]; exact rfl) (by exact rfl) ?_) | (refine stiT S.out rfl rfl _ _ rfl _ _ rfl _ rfl (by exact rfl) (by exact rfl) _ _ _ _ (by repeat (first | exact List.Mem.head _ | refine List.Mem.tail _ ?_)) (by simp only [splice, List.take_succ_cons, List.take_zero, List.drop_succ_cons, List.drop_zero, List.drop_nil, List.length_cons, List.length_nil, List.cons_append, List.nil_append, Nat.zero_add, Nat.add_zero, Nat.reduceAdd]; exact rfl) (by repeat (first | exact Put.head | apply Put.tail)) (by exact Nat.le_of_ble_eq_true rfl) ?_; clear S; intro w9 S9; have S := Kept.mk S9; clear S9) | (refine aliT S.out rfl rfl ?_; clear S; intro b9 w9 S9; have S := Kept.mk S9; clear S9) | (refine bxlT S.out rfl _ rfl _ rfl ?_; clear S; intro b9 w9 S9; have S := Kept.mk S9; clear S9) | (refine wpList_want rfl rfl ?_; dsimp only) | fail)
    apply wp_region_zip [isv _, isv _, grpR6 r0 c0 r1 c1 r2 c2 r3 c3 r4 c4 r5 c5 x0 x1 x2 x3 x4 x5, isv _, isv _] _ (by kernel_rfl)
    case hA => intro V; simp [putAll, dstOf, Act.put]; exact rfl
    case hsl => intro V; exact rfl
    case step =>
      intro V lo up w' hr
      have S := Kept.mk (S.out.quiet hr)
      simp only [zipOk, depsImp, isv, grpR6, modeNg, newb, waits, Region.binds, List.map_nil, List.map_cons, List.headD_cons, List.nil_append, List.cons_append, List.filterMap_cons, List.filterMap_nil, ↓reduceIte, modeNe, Bool.false_eq_true, true_implies, List.getD_cons_zero, List.getD_cons_succ, and_true]
      refine ⟨?_, ?_, ?_, ?_, ?_⟩
      · intros
        (try simp only [*])
        go_wp2_with (first | (refine ldiT S.out rfl _ rfl _ _ rfl _ _ _ (by repeat (first | exact List.Mem.head _ | refine List.Mem.tail _ ?_)) (by simp only [List.drop_succ_cons, List.drop_zero, List.take_succ_cons, List.take_zero]; exact rfl) (by exact rfl) ?_) | (refine ldlT S.out rfl _ rfl _ _ rfl _ _ _ (by repeat (first | exact List.Mem.head _ | refine List.Mem.tail _ ?_)) (by simp only [List.drop_succ_cons, List.drop_zero, List.take_succ_cons, List.take_zero]; exact rfl) (by exact rfl) ?_) | (refine stiT S.out rfl rfl _ _ rfl _ _ rfl _ rfl (by exact rfl) (by exact rfl) _ _ _ _ (by repeat (first | exact List.Mem.head _ | refine List.Mem.tail _ ?_)) (by simp only [splice, List.take_succ_cons, List.take_zero, List.drop_succ_cons, List.drop_zero, List.drop_nil, List.length_cons, List.length_nil, List.cons_append, List.nil_append, Nat.zero_add, Nat.add_zero, Nat.reduceAdd]; exact rfl) (by repeat (first | exact Put.head | apply Put.tail)) (by exact Nat.le_of_ble_eq_true rfl) ?_; clear S; intro w9 S9; have S := Kept.mk S9; clear S9) | (refine aliT S.out rfl rfl ?_; clear S; intro b9 w9 S9; have S := Kept.mk S9; clear S9) | (refine bxlT S.out rfl _ rfl _ rfl ?_; clear S; intro b9 w9 S9; have S := Kept.mk S9; clear S9) | (refine wpList_want rfl rfl ?_; dsimp only) | fail)
        refine stepQ_mk rfl (by simp only [List.getElem?_toArray, List.getElem?_cons_succ, List.getElem?_cons_zero]; exact rfl) ?_
        exact ⟨Ext.refl _, rfl⟩
      · intros
        (try simp only [*])
        go_wp2_with (first | (refine ldiT S.out rfl _ rfl _ _ rfl _ _ _ (by repeat (first | exact List.Mem.head _ | refine List.Mem.tail _ ?_)) (by simp only [List.drop_succ_cons, List.drop_zero, List.take_succ_cons, List.take_zero]; exact rfl) (by exact rfl) ?_) | (refine ldlT S.out rfl _ rfl _ _ rfl _ _ _ (by repeat (first | exact List.Mem.head _ | refine List.Mem.tail _ ?_)) (by simp only [List.drop_succ_cons, List.drop_zero, List.take_succ_cons, List.take_zero]; exact rfl) (by exact rfl) ?_) | (refine stiT S.out rfl rfl _ _ rfl _ _ rfl _ rfl (by exact rfl) (by exact rfl) _ _ _ _ (by repeat (first | exact List.Mem.head _ | refine List.Mem.tail _ ?_)) (by simp only [splice, List.take_succ_cons, List.take_zero, List.drop_succ_cons, List.drop_zero, List.drop_nil, List.length_cons, List.length_nil, List.cons_append, List.nil_append, Nat.zero_add, Nat.add_zero, Nat.reduceAdd]; exact rfl) (by repeat (first | exact Put.head | apply Put.tail)) (by exact Nat.le_of_ble_eq_true rfl) ?_; clear S; intro w9 S9; have S := Kept.mk S9; clear S9) | (refine aliT S.out rfl rfl ?_; clear S; intro b9 w9 S9; have S := Kept.mk S9; clear S9) | (refine bxlT S.out rfl _ rfl _ rfl ?_; clear S; intro b9 w9 S9; have S := Kept.mk S9; clear S9) | (refine wpList_want rfl rfl ?_; dsimp only) | fail)
        refine stepQ_mk rfl (by simp only [List.getElem?_toArray, List.getElem?_cons_succ, List.getElem?_cons_zero]; exact rfl) ?_
        exact ⟨Ext.refl _, rfl⟩
      · intros
        (try simp only [*])
        go_wp2_with (fail)
        (with_reducible refine (TO.out _ S.out.ext).mono ?_)
        rintro e w9 ⟨v90, v91, v92, v93, v94, v95, rfl, g9, x9⟩
        go_wp2
        refine stepQ_mk rfl (by simp only [List.getElem?_toArray, List.getElem?_cons_succ, List.getElem?_cons_zero]; exact rfl) ?_
        exact ⟨x9, v90, v91, v92, v93, v94, v95, rfl, g9⟩
      · intro _ _ _ e0 _ _ _ ⟨v90, v91, v92, v93, v94, v95, e2, g2⟩
        intros
        (try simp only [*])
        go_wp2_with (fail)
        (with_reducible refine (laws_eqMatrixTriple r0 c0 r1 c1 r2 c2 r3 c3 r4 c4 r5 c5 _ _ _ _ _ _ _ _ _ _ _ _ x0 x1 x2 x3 x4 x5 _ (S.out.grp.get 0 rfl rfl).ints (S.out.grp.get 1 rfl rfl).ints (S.out.grp.get 2 rfl rfl).ints (S.out.grp.get 3 rfl rfl).ints (S.out.grp.get 4 rfl rfl).ints (S.out.grp.get 5 rfl rfl).ints g2.o0.ints g2.o1.ints g2.o2.ints g2.o3.ints g2.o4.ints g2.o5.ints).mono ?_)
        rintro e w9 ⟨rfl, x9⟩
        go_wp2
        refine stepQ_mk rfl (by simp only [List.getElem?_toArray, List.getElem?_cons_succ, List.getElem?_cons_zero]; exact rfl) ?_
        exact ⟨x9, rfl⟩
      · intros
        (try simp only [*])
        go_wp2_with (first | (refine ldiT S.out rfl _ rfl _ _ rfl _ _ _ (by repeat (first | exact List.Mem.head _ | refine List.Mem.tail _ ?_)) (by simp only [List.drop_succ_cons, List.drop_zero, List.take_succ_cons, List.take_zero]; exact rfl) (by exact rfl) ?_) | (refine ldlT S.out rfl _ rfl _ _ rfl _ _ _ (by repeat (first | exact List.Mem.head _ | refine List.Mem.tail _ ?_)) (by simp only [List.drop_succ_cons, List.drop_zero, List.take_succ_cons, List.take_zero]; exact rfl) (by exact rfl) ?_) | (refine stiT S.out rfl rfl _ _ rfl _ _ rfl _ rfl (by exact rfl) (by exact rfl) _ _ _ _ (by repeat (first | exact List.Mem.head _ | refine List.Mem.tail _ ?_)) (by simp only [splice, List.take_succ_cons, List.take_zero, List.drop_succ_cons, List.drop_zero, List.drop_nil, List.length_cons, List.length_nil, List.cons_append, List.nil_append, Nat.zero_add, Nat.add_zero, Nat.reduceAdd]; exact rfl) (by repeat (first | exact Put.head | apply Put.tail)) (by exact Nat.le_of_ble_eq_true rfl) ?_; clear S; intro w9 S9; have S := Kept.mk S9; clear S9) | (refine aliT S.out rfl rfl ?_; clear S; intro b9 w9 S9; have S := Kept.mk S9; clear S9) | (refine bxlT S.out rfl _ rfl _ rfl ?_; clear S; intro b9 w9 S9; have S := Kept.mk S9; clear S9) | (refine wpList_want rfl rfl ?_; dsimp only) | fail)
        refine stepQ_mk rfl (by simp only [List.getElem?_toArray, List.getElem?_cons_succ, List.getElem?_cons_zero]; exact rfl) ?_
        exact ⟨Ext.refl _, rfl⟩
    case hB => kernel_rfl
    case fin =>
      intro V lo up w' hr hf ha
      simp only [factsOk, isv, grpR6, modeNg, newb, List.map_nil, List.map_cons, List.headD_cons, and_true, Nat.zero_add, Nat.reduceAdd] at hf
      simp only [List.length_cons, List.length_nil, Nat.zero_add, Nat.reduceAdd, List.drop_succ_cons, List.drop_zero]
      obtain ⟨-, -, -, -, ⟨-, -, -, e4⟩⟩ := hf
      clear ha
      rw [e4]
      clear e4
      replace S := Kept.mk (S.out.quiet hr)
      clear hr
      go_wp2_with (first | (refine ldiT S.out rfl _ rfl _ _ rfl _ _ _ (by repeat (first | exact List.Mem.head _ | refine List.Mem.tail _ ?_)) (by simp only [List.drop_succ_cons, List.drop_zero, List.take_succ_cons, List.take_zero]; exact rfl) (by exact rfl) ?_) | (refine ldlT S.out rfl _ rfl _ _ rfl _ _ _ (by repeat (first | exact List.Mem.head _ | refine List.Mem.tail _ ?_)) (by simp only [List.drop_succ_cons, List.drop_zero, List.take_succ_cons, List.take_zero]; exact rfl) (by exact rfl) ?_) | (refine stiT S.out rfl rfl _ _ rfl _ _ rfl _ rfl (by exact rfl) (by exact rfl) _ _ _ _ (by repeat (first | exact List.Mem.head _ | refine List.Mem.tail _ ?_)) (by simp only [splice, List.take_succ_cons, List.take_zero, List.drop_succ_cons, List.drop_zero, List.drop_nil, List.length_cons, List.length_nil, List.cons_append, List.nil_append, Nat.zero_add, Nat.add_zero, Nat.reduceAdd]; exact rfl) (by repeat (first | exact Put.head | apply Put.tail)) (by exact Nat.le_of_ble_eq_true rfl) ?_; clear S; intro w9 S9; have S := Kept.mk S9; clear S9) | (refine aliT S.out rfl rfl ?_; clear S; intro b9 w9 S9; have S := Kept.mk S9; clear S9) | (refine bxlT S.out rfl _ rfl _ rfl ?_; clear S; intro b9 w9 S9; have S := Kept.mk S9; clear S9) | (refine wpList_want rfl rfl ?_; dsimp only) | fail)
      go_ret
      exact ⟨rfl, S.out.ext⟩
end Go.Proofs.Ytijbfkiljkpebaa
