/- Random matrices. -/
import Derived.Test.YtkkdikoknegpjaaPairT
import Derived.Test.YtkkdikoknegpjaaRList
namespace Go.Proofs.Ytkkdikoknegpjaa
set_option linter.unusedSimpArgs false
set_option linter.unusedVariables false
open Go.RowKit
/-- A call that leaves a matrix of random numbers and the next seed. -/
def RmPost (R C : Nat) (s : Int) (w : World) (e : Ending) (w' : World) : Prop :=
  ∃ v, e = .returned (.tuple #[.agg #[.int .i64 R, .int .i64 C, v], .int .i64 (strm s (R * C))]) ∧ Own w.heap.size w' v (rlist s (R * C)) ∧ Ext w w'
theorem side_mul' {R C : Nat} (hR : Side R) (hC : Side C) : R * C ≤ 25 := by have := Nat.mul_le_mul hR.hi hC.hi; omega
theorem wrap_mul {R C : Nat} (hR : Side R) (hC : Side C) : wrap64 ((R : Int) * (C : Int)) = ((R * C : Nat) : Int) := by
  have h := side_mul' hR hC
  rw [← Int.natCast_mul]
  generalize R * C = L at *
  unfold wrap64; omega

set_option maxHeartbeats 2000000 in
theorem impl_RandomMatrix (R C : Nat) (hR : Side R) (hC : Side C) (s : Int) (hs : Seed s) (w : World) : Calls Try.prog 106 #[.int .i64 R, .int .i64 C, .int .i64 s] w (RmPost R C s w) := by
  have SR := Kept.mk hR.ok
  have SC := Kept.mk hC.ok
  have WM := wrap_mul hR hC
  have L25 := side_mul' hR hC
  obtain ⟨L, hL⟩ : ∃ L, L = R * C := ⟨_, rfl⟩
  unfold RmPost
  rw [← hL] at WM L25 ⊢
  clear hL
  have RL := Kept.mk (fun w' => impl_RandomList s L hs (by omega) w')
  unfold ListPost at RL
  have hl : (rlist s L).length = L := rlist_len _ _
  generalize rlist s L = xs at *
  generalize strm s L = nx at *
  subst hl
  have SD : Kept ((decide (1 ≤ s) && decide (s ≤ 2147483646)) = true) := ⟨hs.ok⟩
  clear hs L25
  have X := Kept.mk ((Ext.refl w).alloc (.cells #[.int .i64 0, .int .i64 0, .slice none 0 0] 31))
  have kR := Blk.new w #[.int .i64 0, .int .i64 0, .slice none 0 0] 31
  go_enter Try.func106, Try.ntmps106
  go_wp2_with (fail)
  (with_reducible refine (impl_sideValid R true SR.out _).mono ?_)
  rintro e u1 ⟨rfl, rfl⟩
  go_wp2_with (fail)
  (with_reducible refine (impl_sideValid C true SC.out _).mono ?_)
  rintro e u2 ⟨rfl, rfl⟩
  go_wp2_with (fail)
  (with_reducible refine (impl_seedValid s true SD.out _).mono ?_)
  rintro e u3 ⟨rfl, rfl⟩
  go_wp2_with (fail)
  (with_reducible refine (RL.out _).mono ?_)
  rintro e u4 ⟨vL, rfl, oL, x9⟩
  obtain ⟨pL, mL, huL, -, -⟩ := id oL.ints
  try simp only at huL
  subst huL
  replace oL := oL.mono X.out.size
  replace X := Kept.mk (X.out.trans x9)
  replace kR := kR.keep x9
  clear x9
  have neoLkR := Kept.mk (oL.ne kR (by decide))
  have KoL := Kept.mk oL
  obtain ⟨akR0, akR1, akR2⟩ := kR.three
  have fkR := kR.free
  clear kR oL
  go_wp2
  exact bodyPost_ret (v := .tuple #[.agg #[.int .i64 R, .int .i64 C, .slice pL xs.length mL], .int .i64 nx]) (by simp [results, Try.results106, go_sem, *]) rfl ⟨_, rfl, (KoL.out.oth neoLkR.out 0 1 2 _ _ _), (X.out.oth (g := w.heap.size) (by omega) 0 1 2 _ _ _)⟩
set_option maxHeartbeats 2000000 in
theorem spec_RandomMatrix (R C : Nat) (hR : Side R) (hC : Side C) (s : Int) (hs : Seed s) (w : World) : Calls Try.prog 105 #[.int .i64 R, .int .i64 C, .int .i64 s] w (RmPost R C s w) := by
  have SR := Kept.mk hR.ok
  have SC := Kept.mk hC.ok
  have WM := wrap_mul hR hC
  have L25 := side_mul' hR hC
  obtain ⟨L, hL⟩ : ∃ L, L = R * C := ⟨_, rfl⟩
  unfold RmPost
  rw [← hL] at WM L25 ⊢
  clear hL
  have RL := Kept.mk (fun w' => spec_l4List s L hs ⟨by omega⟩ w')
  unfold ListPost at RL
  have hl : (rlist s L).length = L := rlist_len _ _
  generalize rlist s L = xs at *
  generalize strm s L = nx at *
  subst hl
  have SD : Kept ((decide (1 ≤ s) && decide (s ≤ 2147483646)) = true) := ⟨hs.ok⟩
  clear hs L25
  have X := Kept.mk ((Ext.refl w).alloc (.cells #[.int .i64 0, .int .i64 0, .slice none 0 0] 31))
  have kR := Blk.new w #[.int .i64 0, .int .i64 0, .slice none 0 0] 31
  go_enter Try.func105, Try.ntmps105
  go_wp2_with (fail)
  (with_reducible refine (spec_l1In s 1 2147483646 true SD.out _).mono ?_)
  rintro e u1 ⟨rfl, rfl⟩
  go_wp2_with (fail)
  (with_reducible refine (spec_l1In R 1 5 true (side_dec SR.out) _).mono ?_)
  rintro e u2 ⟨rfl, rfl⟩
  go_wp2_with (fail)
  (with_reducible refine (spec_l1In C 1 5 true (side_dec SC.out) _).mono ?_)
  rintro e u3 ⟨rfl, rfl⟩
  go_wp2_with (fail)
  (with_reducible refine (RL.out _).mono ?_)
  rintro e u4 ⟨vL, rfl, oL, x9⟩
  obtain ⟨pL, mL, huL, -, -⟩ := id oL.ints
  try simp only at huL
  subst huL
  replace oL := oL.mono X.out.size
  replace X := Kept.mk (X.out.trans x9)
  replace kR := kR.keep x9
  clear x9
  have neoLkR := Kept.mk (oL.ne kR (by decide))
  have KoL := Kept.mk oL
  obtain ⟨akR0, akR1, akR2⟩ := kR.three
  have fkR := kR.free
  clear kR oL
  go_wp2
  exact bodyPost_ret (v := .tuple #[.agg #[.int .i64 R, .int .i64 C, .slice pL xs.length mL], .int .i64 nx]) (by simp [results, Try.results105, go_sem, *]) rfl ⟨_, rfl, (KoL.out.oth neoLkR.out 0 1 2 _ _ _), (X.out.oth (g := w.heap.size) (by omega) 0 1 2 _ _ _)⟩
end Go.Proofs.Ytkkdikoknegpjaa
