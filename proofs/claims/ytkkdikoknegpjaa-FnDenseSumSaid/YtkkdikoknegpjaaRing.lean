/- The contracts of the ring numbers' functions, each from its own walk: for all whole numbers, nothing in memory turns. -/
import Derived.Test.YtkkdikoknegpjaaRows
import Derived.Test.YtkkdikoknegpjaaKA
import Derived.WalkSpells
import Derived.WalkLawsBesides
import Derived.Lib.Hide
namespace Go.Proofs.Ytkkdikoknegpjaa
set_option linter.unusedSimpArgs false
set_option linter.unusedVariables false
open Go.RowKit

set_option maxHeartbeats 400000 in
theorem impl_RingOf (n : Int) (w : World) : Calls Try.prog 69 #[.int .i64 n] w fun e w' => e = .returned (.int .i64 (ring n)) ∧ w = w' := by
  have hb := Lib.hid (bits_4095 n)
  go_enter Try.func69, Try.ntmps69
  go_wp2
  rw [hb.out]
  go_ret
  exact ⟨rfl, rfl⟩

set_option maxHeartbeats 400000 in
theorem impl_RingValid (n : Int) (b : Bool) (h : rv n = b) (w : World) : Calls Try.prog 63 #[.int .i64 n] w fun e w' => e = .returned (.bool b) ∧ w = w' := by
  have hb := Lib.hid (bits_4095 n)
  have hr := Lib.hid (ring_eq n)
  have h := Lib.hid h
  go_enter Try.func63, Try.ntmps63
  go_wp2
  rw [hb.out, hr.out, h.out]
  go_ret
  exact ⟨rfl, rfl⟩

set_option maxHeartbeats 400000 in
theorem spec_l1Ring (n : Int) (w : World) : Calls Try.prog 96 #[.int .i64 n] w fun e w' => e = .returned (.int .i64 (ring n)) ∧ w = w' := by
  have hb := Lib.hid (tmod_ring64 n)
  go_enter Try.func96, Try.ntmps96
  go_wp2
  rw [hb.out]
  go_ret
  exact ⟨rfl, rfl⟩

set_option maxHeartbeats 400000 in
theorem spec_l1In (n lo hi : Int) (b : Bool) (h : (decide (lo ≤ n) && decide (n ≤ hi)) = b) (w : World) : Calls Try.prog 72 #[.int .i64 n, .int .i64 lo, .int .i64 hi] w fun e w' => e = .returned (.bool b) ∧ w = w' := by
  by_cases h1 : lo ≤ n <;> by_cases h2 : n ≤ hi
  · obtain rfl : true = b := by rw [← h]; simp [h1, h2]
    clear h
    go_enter Try.func72, Try.ntmps72
    go_wp2
    go_ret
    exact ⟨rfl, rfl⟩
  all_goals
    obtain rfl : false = b := by rw [← h]; simp [h1, h2]
    clear h
    go_enter Try.func72, Try.ntmps72
    go_wp2
    go_ret
    exact ⟨rfl, rfl⟩
set_option maxHeartbeats 400000 in
theorem impl_AddRing (a b : Int) (w : World) : Calls Try.prog 102 #[.int .i64 a, .int .i64 b] w fun e w' => e = .returned (.int .i64 (addR a b)) ∧ w = w' := by
  have h3 := Lib.hid (show addR a b = if rv a = true ∧ rv b = true then ring (a + b) else -1 from rfl)
  have h4 := Lib.hid (ring_wrap64 (a + b))
  cases h1 : rv a <;> cases h2 : rv b
  all_goals
    have h1 := Lib.hid h1; have h2 := Lib.hid h2
    go_enter Try.func102, Try.ntmps102
    go_wp2_with (first | (go_at_call 63; (with_reducible refine (impl_RingValid a _ h1.out _).mono ?_); rintro e w' ⟨rfl, rfl⟩) | (go_at_call 63; (with_reducible refine (impl_RingValid b _ h2.out _).mono ?_); rintro e w' ⟨rfl, rfl⟩) | (go_at_call 69; (with_reducible refine (impl_RingOf _ _).mono ?_); rintro e w' ⟨rfl, rfl⟩))
    go_ret
    rw [h3.out, h1.out, h2.out]
    first | exact ⟨rfl, rfl⟩ | exact ⟨by rw [h4.out]; rfl, rfl⟩

set_option maxHeartbeats 400000 in
theorem impl_SubRing (a b : Int) (w : World) : Calls Try.prog 71 #[.int .i64 a, .int .i64 b] w fun e w' => e = .returned (.int .i64 (subR a b)) ∧ w = w' := by
  have h3 := Lib.hid (show subR a b = if rv a = true ∧ rv b = true then ring (a - b) else -1 from rfl)
  have h4 := Lib.hid (ring_wrap64 (a - b))
  cases h1 : rv a <;> cases h2 : rv b
  all_goals
    have h1 := Lib.hid h1; have h2 := Lib.hid h2
    go_enter Try.func71, Try.ntmps71
    go_wp2_with (first | (go_at_call 63; (with_reducible refine (impl_RingValid a _ h1.out _).mono ?_); rintro e w' ⟨rfl, rfl⟩) | (go_at_call 63; (with_reducible refine (impl_RingValid b _ h2.out _).mono ?_); rintro e w' ⟨rfl, rfl⟩) | (go_at_call 69; (with_reducible refine (impl_RingOf _ _).mono ?_); rintro e w' ⟨rfl, rfl⟩))
    go_ret
    rw [h3.out, h1.out, h2.out]
    first | exact ⟨rfl, rfl⟩ | exact ⟨by rw [h4.out]; rfl, rfl⟩

set_option maxHeartbeats 400000 in
theorem spec_RingValid (n : Int) (b : Bool) (h : rv n = b) (w : World) : Calls Try.prog 122 #[.int .i64 n] w fun e w' => e = .returned (.bool b) ∧ w = w' := by
  have h := rv_ge b h
  go_enter Try.func122, Try.ntmps122
  go_wp2_with (go_at_call 72; (with_reducible refine (spec_l1In _ _ _ b h _).mono ?_); rintro e w' ⟨rfl, rfl⟩)
  go_ret
  exact ⟨rfl, rfl⟩

set_option maxHeartbeats 400000 in
theorem spec_AddRing (a b : Int) (w : World) : Calls Try.prog 95 #[.int .i64 a, .int .i64 b] w fun e w' => e = .returned (.int .i64 (addR a b)) ∧ w = w' := by
  have h3 := Lib.hid (show addR a b = if rv a = true ∧ rv b = true then ring (a + b) else -1 from rfl)
  have h4 := Lib.hid (ring_wrap64 (a + b))
  cases h1 : rv a <;> cases h2 : rv b
  all_goals
    have h1 := Lib.hid h1; have h2 := Lib.hid h2
    go_enter Try.func95, Try.ntmps95
    go_wp2_with (first | (go_at_call 122; (with_reducible refine (spec_RingValid a _ h1.out _).mono ?_); rintro e w' ⟨rfl, rfl⟩) | (go_at_call 122; (with_reducible refine (spec_RingValid b _ h2.out _).mono ?_); rintro e w' ⟨rfl, rfl⟩) | (go_at_call 96; (with_reducible refine (spec_l1Ring _ _).mono ?_); rintro e w' ⟨rfl, rfl⟩))
    go_ret
    rw [h3.out, h1.out, h2.out]
    first | exact ⟨rfl, rfl⟩ | exact ⟨by rw [h4.out]; rfl, rfl⟩

set_option maxHeartbeats 400000 in
theorem spec_SubRing (a b : Int) (w : World) : Calls Try.prog 94 #[.int .i64 a, .int .i64 b] w fun e w' => e = .returned (.int .i64 (subR a b)) ∧ w = w' := by
  have h3 := Lib.hid (show subR a b = if rv a = true ∧ rv b = true then ring (a - b) else -1 from rfl)
  have h4 := Lib.hid (ring_wrap64 (a - b))
  cases h1 : rv a <;> cases h2 : rv b
  all_goals
    have h1 := Lib.hid h1; have h2 := Lib.hid h2
    go_enter Try.func94, Try.ntmps94
    go_wp2_with (first | (go_at_call 122; (with_reducible refine (spec_RingValid a _ h1.out _).mono ?_); rintro e w' ⟨rfl, rfl⟩) | (go_at_call 122; (with_reducible refine (spec_RingValid b _ h2.out _).mono ?_); rintro e w' ⟨rfl, rfl⟩) | (go_at_call 96; (with_reducible refine (spec_l1Ring _ _).mono ?_); rintro e w' ⟨rfl, rfl⟩))
    go_ret
    rw [h3.out, h1.out, h2.out]
    first | exact ⟨rfl, rfl⟩ | exact ⟨by rw [h4.out]; rfl, rfl⟩

end Go.Proofs.Ytkkdikoknegpjaa
