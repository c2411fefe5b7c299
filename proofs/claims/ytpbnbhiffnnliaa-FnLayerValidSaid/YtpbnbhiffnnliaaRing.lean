/- The contracts of the ring numbers' functions, each from its own walk: for all whole numbers, nothing in memory turns. -/
import Derived.Test.YtpbnbhiffnnliaaRows
import Derived.Test.YtpbnbhiffnnliaaKA
import Derived.WalkSpells
import Derived.WalkLawsBesides
import Derived.Lib.Hide
namespace Go.Proofs.Ytpbnbhiffnnliaa
set_option linter.unusedSimpArgs false
set_option linter.unusedVariables false
open Go.RowKit

set_option maxHeartbeats 400000 in
theorem impl_RingOf (n : Int) (w : World) : Calls Try.prog 42 #[.int .i64 n] w fun e w' => e = .returned (.int .i64 (ring n)) ∧ w = w' := by
  have hb := Lib.hid (bits_4095 n)
  go_enter Try.func42, Try.ntmps42
  go_wp2
  rw [hb.out]
  go_ret
  exact ⟨rfl, rfl⟩

set_option maxHeartbeats 400000 in
theorem impl_RingValid (n : Int) (b : Bool) (h : rv n = b) (w : World) : Calls Try.prog 36 #[.int .i64 n] w fun e w' => e = .returned (.bool b) ∧ w = w' := by
  have hb := Lib.hid (bits_4095 n)
  have hr := Lib.hid (ring_eq n)
  have h := Lib.hid h
  go_enter Try.func36, Try.ntmps36
  go_wp2
  rw [hb.out, hr.out, h.out]
  go_ret
  exact ⟨rfl, rfl⟩

set_option maxHeartbeats 400000 in
theorem spec_l1Ring (n : Int) (w : World) : Calls Try.prog 49 #[.int .i64 n] w fun e w' => e = .returned (.int .i64 (ring n)) ∧ w = w' := by
  have hb := Lib.hid (tmod_ring64 n)
  go_enter Try.func49, Try.ntmps49
  go_wp2
  rw [hb.out]
  go_ret
  exact ⟨rfl, rfl⟩

set_option maxHeartbeats 400000 in
theorem spec_l1In (n lo hi : Int) (b : Bool) (h : (decide (lo ≤ n) && decide (n ≤ hi)) = b) (w : World) : Calls Try.prog 55 #[.int .i64 n, .int .i64 lo, .int .i64 hi] w fun e w' => e = .returned (.bool b) ∧ w = w' := by
  by_cases h1 : lo ≤ n <;> by_cases h2 : n ≤ hi
  · obtain rfl : true = b := by rw [← h]; simp [h1, h2]
    clear h
    go_enter Try.func55, Try.ntmps55
    go_wp2
    go_ret
    exact ⟨rfl, rfl⟩
  all_goals
    obtain rfl : false = b := by rw [← h]; simp [h1, h2]
    clear h
    go_enter Try.func55, Try.ntmps55
    go_wp2
    go_ret
    exact ⟨rfl, rfl⟩
set_option maxHeartbeats 400000 in
theorem impl_AddRing (a b : Int) (w : World) : Calls Try.prog 13 #[.int .i64 a, .int .i64 b] w fun e w' => e = .returned (.int .i64 (addR a b)) ∧ w = w' := by
  have h3 := Lib.hid (show addR a b = if rv a = true ∧ rv b = true then ring (a + b) else -1 from rfl)
  have h4 := Lib.hid (ring_wrap64 (a + b))
  cases h1 : rv a <;> cases h2 : rv b
  all_goals
    have h1 := Lib.hid h1; have h2 := Lib.hid h2
    go_enter Try.func13, Try.ntmps13
    go_wp2_with (first | (go_at_call 36; (with_reducible refine (impl_RingValid a _ h1.out _).mono ?_); rintro e w' ⟨rfl, rfl⟩) | (go_at_call 36; (with_reducible refine (impl_RingValid b _ h2.out _).mono ?_); rintro e w' ⟨rfl, rfl⟩) | (go_at_call 42; (with_reducible refine (impl_RingOf _ _).mono ?_); rintro e w' ⟨rfl, rfl⟩))
    go_ret
    rw [h3.out, h1.out, h2.out]
    first | exact ⟨rfl, rfl⟩ | exact ⟨by rw [h4.out]; rfl, rfl⟩

set_option maxHeartbeats 400000 in
theorem spec_RingValid (n : Int) (b : Bool) (h : rv n = b) (w : World) : Calls Try.prog 54 #[.int .i64 n] w fun e w' => e = .returned (.bool b) ∧ w = w' := by
  have h := rv_ge b h
  go_enter Try.func54, Try.ntmps54
  go_wp2_with (go_at_call 55; (with_reducible refine (spec_l1In _ _ _ b h _).mono ?_); rintro e w' ⟨rfl, rfl⟩)
  go_ret
  exact ⟨rfl, rfl⟩

set_option maxHeartbeats 400000 in
theorem spec_AddRing (a b : Int) (w : World) : Calls Try.prog 56 #[.int .i64 a, .int .i64 b] w fun e w' => e = .returned (.int .i64 (addR a b)) ∧ w = w' := by
  have h3 := Lib.hid (show addR a b = if rv a = true ∧ rv b = true then ring (a + b) else -1 from rfl)
  have h4 := Lib.hid (ring_wrap64 (a + b))
  cases h1 : rv a <;> cases h2 : rv b
  all_goals
    have h1 := Lib.hid h1; have h2 := Lib.hid h2
    go_enter Try.func56, Try.ntmps56
    go_wp2_with (first | (go_at_call 54; (with_reducible refine (spec_RingValid a _ h1.out _).mono ?_); rintro e w' ⟨rfl, rfl⟩) | (go_at_call 54; (with_reducible refine (spec_RingValid b _ h2.out _).mono ?_); rintro e w' ⟨rfl, rfl⟩) | (go_at_call 49; (with_reducible refine (spec_l1Ring _ _).mono ?_); rintro e w' ⟨rfl, rfl⟩))
    go_ret
    rw [h3.out, h1.out, h2.out]
    first | exact ⟨rfl, rfl⟩ | exact ⟨by rw [h4.out]; rfl, rfl⟩

end Go.Proofs.Ytpbnbhiffnnliaa
