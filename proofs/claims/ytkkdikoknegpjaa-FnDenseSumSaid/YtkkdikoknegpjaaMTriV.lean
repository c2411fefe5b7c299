/- The contracts of MakeMatrixTriple for all arguments. -/
import Derived.Test.YtkkdikoknegpjaaMTriS
import Derived.Test.YtkkdikoknegpjaaKM
namespace Go.Proofs.Ytkkdikoknegpjaa
set_option linter.unusedSimpArgs false
set_option linter.unusedVariables false
open Go.RowKit

set_option maxHeartbeats 4000000 in
set_option maxRecDepth 4000 in
theorem spec_MakeMatrixTriple (r k c s : Int) (w : World) : Calls Try.prog 73 #[.int .i64 r, .int .i64 k, .int .i64 c, .int .i64 s] w (TrNPost (tripM r k c s) (tripS r k c s) w) := by
  cases g0 : sideB r
  · have hz : mkOkM r k c s = false := by unfold mkOkM; simp [g0]
    rw [show tripM r k c s = trZ by unfold tripM; rw [hz]; rfl, show tripS r k c s = 0 by unfold tripS; rw [hz]; rfl]
    clear hz
    unfold TrNPost trZ shZ matZ
    simp only
    have S0 : Kept ((decide (1 ≤ r) && decide (r ≤ 5)) = false) := ⟨g0⟩
    clear g0
    have X := Kept.mk ((Ext.refl w).alloc (.cells #[.int .i64 0, .int .i64 0, .slice none 0 0, .int .i64 0, .int .i64 0, .slice none 0 0, .int .i64 0, .int .i64 0, .slice none 0 0, .int .i64 0, .int .i64 0, .slice none 0 0, .int .i64 0, .int .i64 0, .slice none 0 0, .int .i64 0, .int .i64 0, .slice none 0 0] 38))
    have kR := Blk.new w #[.int .i64 0, .int .i64 0, .slice none 0 0, .int .i64 0, .int .i64 0, .slice none 0 0, .int .i64 0, .int .i64 0, .slice none 0 0, .int .i64 0, .int .i64 0, .slice none 0 0, .int .i64 0, .int .i64 0, .slice none 0 0, .int .i64 0, .int .i64 0, .slice none 0 0] 38
    go_enter Try.func73, Try.ntmps73
    go_wp2_with (fail)
    (with_reducible refine (spec_l1In r 1 5 false S0.out _).mono ?_)
    rintro e u1 ⟨rfl, rfl⟩
    have KR := Kept.mk kR
    clear kR
    go_wp2_with (refine wpList_store_blk rfl rfl 38 (.tmp 8) (.tmp 39) rfl (w.heap.size) _ rfl rfl 38 _ KR.out (by kernel_rfl) rfl (by simp [Value.oneCell']) X.out (Nat.le_refl _) ?_; intro w9 hy kR9 hoth hsz; have HY := Kept.mk hy; have K9 := Kept.mk kR9; clear hy hoth hsz KR X kR9)
    exact bodyPost_ret (v := .tuple #[.agg #[.int .i64 0, .int .i64 0, .slice none 0 0, .int .i64 0, .int .i64 0, .slice none 0 0, .int .i64 0, .int .i64 0, .slice none 0 0, .int .i64 0, .int .i64 0, .slice none 0 0, .int .i64 0, .int .i64 0, .slice none 0 0, .int .i64 0, .int .i64 0, .slice none 0 0], .int .i64 0]) (by rw [results_row_tmp rfl _ _ (w.heap.size) 38 _ _ _ rfl K9.out Try.underlying38 rfl (by kernel_rfl)]; rfl) rfl ⟨_, _, _, _, _, _, rfl, Grp.zero6 _ _, HY.out⟩
  · cases g1 : sideB k
    · have hz : mkOkM r k c s = false := by unfold mkOkM; simp [g0, g1]
      rw [show tripM r k c s = trZ by unfold tripM; rw [hz]; rfl, show tripS r k c s = 0 by unfold tripS; rw [hz]; rfl]
      clear hz
      unfold TrNPost trZ shZ matZ
      simp only
      have S0 : Kept ((decide (1 ≤ r) && decide (r ≤ 5)) = true) := ⟨g0⟩
      have S1 : Kept ((decide (1 ≤ k) && decide (k ≤ 5)) = false) := ⟨g1⟩
      clear g0 g1
      have X := Kept.mk ((Ext.refl w).alloc (.cells #[.int .i64 0, .int .i64 0, .slice none 0 0, .int .i64 0, .int .i64 0, .slice none 0 0, .int .i64 0, .int .i64 0, .slice none 0 0, .int .i64 0, .int .i64 0, .slice none 0 0, .int .i64 0, .int .i64 0, .slice none 0 0, .int .i64 0, .int .i64 0, .slice none 0 0] 38))
      have kR := Blk.new w #[.int .i64 0, .int .i64 0, .slice none 0 0, .int .i64 0, .int .i64 0, .slice none 0 0, .int .i64 0, .int .i64 0, .slice none 0 0, .int .i64 0, .int .i64 0, .slice none 0 0, .int .i64 0, .int .i64 0, .slice none 0 0, .int .i64 0, .int .i64 0, .slice none 0 0] 38
      go_enter Try.func73, Try.ntmps73
      go_wp2_with (fail)
      (with_reducible refine (spec_l1In r 1 5 true S0.out _).mono ?_)
      rintro e u1 ⟨rfl, rfl⟩
      go_wp2_with (fail)
      (with_reducible refine (spec_l1In k 1 5 false S1.out _).mono ?_)
      rintro e u2 ⟨rfl, rfl⟩
      have KR := Kept.mk kR
      clear kR
      go_wp2_with (refine wpList_store_blk rfl rfl 38 (.tmp 8) (.tmp 39) rfl (w.heap.size) _ rfl rfl 38 _ KR.out (by kernel_rfl) rfl (by simp [Value.oneCell']) X.out (Nat.le_refl _) ?_; intro w9 hy kR9 hoth hsz; have HY := Kept.mk hy; have K9 := Kept.mk kR9; clear hy hoth hsz KR X kR9)
      exact bodyPost_ret (v := .tuple #[.agg #[.int .i64 0, .int .i64 0, .slice none 0 0, .int .i64 0, .int .i64 0, .slice none 0 0, .int .i64 0, .int .i64 0, .slice none 0 0, .int .i64 0, .int .i64 0, .slice none 0 0, .int .i64 0, .int .i64 0, .slice none 0 0, .int .i64 0, .int .i64 0, .slice none 0 0], .int .i64 0]) (by rw [results_row_tmp rfl _ _ (w.heap.size) 38 _ _ _ rfl K9.out Try.underlying38 rfl (by kernel_rfl)]; rfl) rfl ⟨_, _, _, _, _, _, rfl, Grp.zero6 _ _, HY.out⟩
    · cases g2 : sideB c
      · have hz : mkOkM r k c s = false := by unfold mkOkM; simp [g0, g1, g2]
        rw [show tripM r k c s = trZ by unfold tripM; rw [hz]; rfl, show tripS r k c s = 0 by unfold tripS; rw [hz]; rfl]
        clear hz
        unfold TrNPost trZ shZ matZ
        simp only
        have S0 : Kept ((decide (1 ≤ r) && decide (r ≤ 5)) = true) := ⟨g0⟩
        have S1 : Kept ((decide (1 ≤ k) && decide (k ≤ 5)) = true) := ⟨g1⟩
        have S2 : Kept ((decide (1 ≤ c) && decide (c ≤ 5)) = false) := ⟨g2⟩
        clear g0 g1 g2
        have X := Kept.mk ((Ext.refl w).alloc (.cells #[.int .i64 0, .int .i64 0, .slice none 0 0, .int .i64 0, .int .i64 0, .slice none 0 0, .int .i64 0, .int .i64 0, .slice none 0 0, .int .i64 0, .int .i64 0, .slice none 0 0, .int .i64 0, .int .i64 0, .slice none 0 0, .int .i64 0, .int .i64 0, .slice none 0 0] 38))
        have kR := Blk.new w #[.int .i64 0, .int .i64 0, .slice none 0 0, .int .i64 0, .int .i64 0, .slice none 0 0, .int .i64 0, .int .i64 0, .slice none 0 0, .int .i64 0, .int .i64 0, .slice none 0 0, .int .i64 0, .int .i64 0, .slice none 0 0, .int .i64 0, .int .i64 0, .slice none 0 0] 38
        go_enter Try.func73, Try.ntmps73
        go_wp2_with (fail)
        (with_reducible refine (spec_l1In r 1 5 true S0.out _).mono ?_)
        rintro e u1 ⟨rfl, rfl⟩
        go_wp2_with (fail)
        (with_reducible refine (spec_l1In k 1 5 true S1.out _).mono ?_)
        rintro e u2 ⟨rfl, rfl⟩
        go_wp2_with (fail)
        (with_reducible refine (spec_l1In c 1 5 false S2.out _).mono ?_)
        rintro e u3 ⟨rfl, rfl⟩
        have KR := Kept.mk kR
        clear kR
        go_wp2_with (refine wpList_store_blk rfl rfl 38 (.tmp 8) (.tmp 39) rfl (w.heap.size) _ rfl rfl 38 _ KR.out (by kernel_rfl) rfl (by simp [Value.oneCell']) X.out (Nat.le_refl _) ?_; intro w9 hy kR9 hoth hsz; have HY := Kept.mk hy; have K9 := Kept.mk kR9; clear hy hoth hsz KR X kR9)
        exact bodyPost_ret (v := .tuple #[.agg #[.int .i64 0, .int .i64 0, .slice none 0 0, .int .i64 0, .int .i64 0, .slice none 0 0, .int .i64 0, .int .i64 0, .slice none 0 0, .int .i64 0, .int .i64 0, .slice none 0 0, .int .i64 0, .int .i64 0, .slice none 0 0, .int .i64 0, .int .i64 0, .slice none 0 0], .int .i64 0]) (by rw [results_row_tmp rfl _ _ (w.heap.size) 38 _ _ _ rfl K9.out Try.underlying38 rfl (by kernel_rfl)]; rfl) rfl ⟨_, _, _, _, _, _, rfl, Grp.zero6 _ _, HY.out⟩
      · cases g3 : seedOk s
        · have hz : mkOkM r k c s = false := by unfold mkOkM; simp [g0, g1, g2, g3]
          rw [show tripM r k c s = trZ by unfold tripM; rw [hz]; rfl, show tripS r k c s = 0 by unfold tripS; rw [hz]; rfl]
          clear hz
          unfold TrNPost trZ shZ matZ
          simp only
          have S0 : Kept ((decide (1 ≤ r) && decide (r ≤ 5)) = true) := ⟨g0⟩
          have S1 : Kept ((decide (1 ≤ k) && decide (k ≤ 5)) = true) := ⟨g1⟩
          have S2 : Kept ((decide (1 ≤ c) && decide (c ≤ 5)) = true) := ⟨g2⟩
          have S3 : Kept ((decide (1 ≤ s) && decide (s ≤ 2147483646)) = false) := ⟨g3⟩
          clear g0 g1 g2 g3
          have X := Kept.mk ((Ext.refl w).alloc (.cells #[.int .i64 0, .int .i64 0, .slice none 0 0, .int .i64 0, .int .i64 0, .slice none 0 0, .int .i64 0, .int .i64 0, .slice none 0 0, .int .i64 0, .int .i64 0, .slice none 0 0, .int .i64 0, .int .i64 0, .slice none 0 0, .int .i64 0, .int .i64 0, .slice none 0 0] 38))
          have kR := Blk.new w #[.int .i64 0, .int .i64 0, .slice none 0 0, .int .i64 0, .int .i64 0, .slice none 0 0, .int .i64 0, .int .i64 0, .slice none 0 0, .int .i64 0, .int .i64 0, .slice none 0 0, .int .i64 0, .int .i64 0, .slice none 0 0, .int .i64 0, .int .i64 0, .slice none 0 0] 38
          go_enter Try.func73, Try.ntmps73
          go_wp2_with (fail)
          (with_reducible refine (spec_l1In r 1 5 true S0.out _).mono ?_)
          rintro e u1 ⟨rfl, rfl⟩
          go_wp2_with (fail)
          (with_reducible refine (spec_l1In k 1 5 true S1.out _).mono ?_)
          rintro e u2 ⟨rfl, rfl⟩
          go_wp2_with (fail)
          (with_reducible refine (spec_l1In c 1 5 true S2.out _).mono ?_)
          rintro e u3 ⟨rfl, rfl⟩
          go_wp2_with (fail)
          (with_reducible refine (spec_l1In s 1 2147483646 false S3.out _).mono ?_)
          rintro e u4 ⟨rfl, rfl⟩
          have KR := Kept.mk kR
          clear kR
          go_wp2_with (refine wpList_store_blk rfl rfl 38 (.tmp 8) (.tmp 39) rfl (w.heap.size) _ rfl rfl 38 _ KR.out (by kernel_rfl) rfl (by simp [Value.oneCell']) X.out (Nat.le_refl _) ?_; intro w9 hy kR9 hoth hsz; have HY := Kept.mk hy; have K9 := Kept.mk kR9; clear hy hoth hsz KR X kR9)
          exact bodyPost_ret (v := .tuple #[.agg #[.int .i64 0, .int .i64 0, .slice none 0 0, .int .i64 0, .int .i64 0, .slice none 0 0, .int .i64 0, .int .i64 0, .slice none 0 0, .int .i64 0, .int .i64 0, .slice none 0 0, .int .i64 0, .int .i64 0, .slice none 0 0, .int .i64 0, .int .i64 0, .slice none 0 0], .int .i64 0]) (by rw [results_row_tmp rfl _ _ (w.heap.size) 38 _ _ _ rfl K9.out Try.underlying38 rfl (by kernel_rfl)]; rfl) rfl ⟨_, _, _, _, _, _, rfl, Grp.zero6 _ _, HY.out⟩
        · obtain ⟨R, rfl, hR⟩ := Side.of_int g0
          obtain ⟨K, rfl, hK⟩ := Side.of_int g1
          obtain ⟨C, rfl, hC⟩ := Side.of_int g2
          have hz : mkOkM R K C s = true := by unfold mkOkM; simp [g0, g1, g2, g3]
          rw [show tripM R K C s = tripN R K C s by unfold tripM; rw [hz]; rfl, show tripS R K C s = sd5 R K C s by unfold tripS; rw [hz]; rfl]
          exact spec_MakeTripleN R K C hR hK hC s (seed_of g3) w
end Go.Proofs.Ytkkdikoknegpjaa
