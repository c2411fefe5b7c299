import Derived.Test.YtkkdikoknegpjaaGreatRows
import Derived.Test.YtkkdikoknegpjaaGreatKA
import Derived.WalkSpells
import Derived.WalkLawsBesides
import Derived.Lib.Hide
namespace Go.Proofs.YtkkdikoknegpjaaGreat
set_option linter.unusedSimpArgs false
set_option linter.unusedVariables false
open Go.RowKit
set_option maxHeartbeats 400000 in
theorem impl_RingOf (n : Int) (w : World) : Calls Tryz.prog 97 #[.int .i64 n] w fun e w' => e = .returned (.int .i64 (ring n)) ∧ w = w' := by
 have hb := Lib.hid (bits_4095 n)
 go_enter Tryz.func97, Tryz.ntmps97
 go_wp2
 rw [hb.out]
 go_ret
 exact ⟨rfl, rfl⟩
set_option maxHeartbeats 400000 in
theorem impl_RingValid (n : Int) (b : Bool) (h : rv n = b) (w : World) : Calls Tryz.prog 46 #[.int .i64 n] w fun e w' => e = .returned (.bool b) ∧ w = w' := by
 have hb := Lib.hid (bits_4095 n)
 have hr := Lib.hid (ring_eq n)
 have h := Lib.hid h
 go_enter Tryz.func46, Tryz.ntmps46
 go_wp2
 rw [hb.out, hr.out, h.out]
 go_ret
 exact ⟨rfl, rfl⟩
set_option maxHeartbeats 400000 in
theorem spec_l1Ring (n : Int) (w : World) : Calls Tryz.prog 86 #[.int .i64 n] w fun e w' => e = .returned (.int .i64 (ring n)) ∧ w = w' := by
 have hb := Lib.hid (tmod_ring64 n)
 go_enter Tryz.func86, Tryz.ntmps86
 go_wp2
 rw [hb.out]
 go_ret
 exact ⟨rfl, rfl⟩
set_option maxHeartbeats 400000 in
theorem spec_l1In (n lo hi : Int) (b : Bool) (h : (decide (lo ≤ n) && decide (n ≤ hi)) = b) (w : World) : Calls Tryz.prog 53 #[.int .i64 n, .int .i64 lo, .int .i64 hi] w fun e w' => e = .returned (.bool b) ∧ w = w' := by
 by_cases h1 : lo ≤ n <;> by_cases h2 : n ≤ hi
 ·obtain rfl : true = b := by rw [← h]; simp [h1, h2]
  clear h
  go_enter Tryz.func53, Tryz.ntmps53
  go_wp2
  go_ret
  exact ⟨rfl, rfl⟩
 all_goals
  obtain rfl : false = b := by rw [← h]; simp [h1, h2]
  clear h
  go_enter Tryz.func53, Tryz.ntmps53
  go_wp2
  go_ret
  exact ⟨rfl, rfl⟩
set_option maxHeartbeats 400000 in
theorem impl_AddRing (a b : Int) (w : World) : Calls Tryz.prog 70 #[.int .i64 a, .int .i64 b] w fun e w' => e = .returned (.int .i64 (addR a b)) ∧ w = w' := by
 have h3 := Lib.hid (show addR a b = if rv a = true ∧ rv b = true then ring (a + b) else -1 from rfl)
 have h4 := Lib.hid (ring_wrap64 (a + b))
 cases h1 : rv a <;> cases h2 : rv b
 all_goals
  have h1 := Lib.hid h1; have h2 := Lib.hid h2
  go_enter Tryz.func70, Tryz.ntmps70
  go_wp2_with (first | (go_at_call 46; (with_reducible refine (impl_RingValid a _ h1.out _).mono ?_); rintro e w' ⟨rfl, rfl⟩) | (go_at_call 46; (with_reducible refine (impl_RingValid b _ h2.out _).mono ?_); rintro e w' ⟨rfl, rfl⟩) | (go_at_call 97; (with_reducible refine (impl_RingOf _ _).mono ?_); rintro e w' ⟨rfl, rfl⟩))
  go_ret
  rw [h3.out, h1.out, h2.out]
  first | exact ⟨rfl, rfl⟩ | exact ⟨by rw [h4.out]; rfl, rfl⟩
set_option maxHeartbeats 400000 in
theorem impl_SubRing (a b : Int) (w : World) : Calls Tryz.prog 123 #[.int .i64 a, .int .i64 b] w fun e w' => e = .returned (.int .i64 (subR a b)) ∧ w = w' := by
 have h3 := Lib.hid (show subR a b = if rv a = true ∧ rv b = true then ring (a - b) else -1 from rfl)
 have h4 := Lib.hid (ring_wrap64 (a - b))
 cases h1 : rv a <;> cases h2 : rv b
 all_goals
  have h1 := Lib.hid h1; have h2 := Lib.hid h2
  go_enter Tryz.func123, Tryz.ntmps123
  go_wp2_with (first | (go_at_call 46; (with_reducible refine (impl_RingValid a _ h1.out _).mono ?_); rintro e w' ⟨rfl, rfl⟩) | (go_at_call 46; (with_reducible refine (impl_RingValid b _ h2.out _).mono ?_); rintro e w' ⟨rfl, rfl⟩) | (go_at_call 97; (with_reducible refine (impl_RingOf _ _).mono ?_); rintro e w' ⟨rfl, rfl⟩))
  go_ret
  rw [h3.out, h1.out, h2.out]
  first | exact ⟨rfl, rfl⟩ | exact ⟨by rw [h4.out]; rfl, rfl⟩
set_option maxHeartbeats 400000 in
theorem spec_RingValid (n : Int) (b : Bool) (h : rv n = b) (w : World) : Calls Tryz.prog 102 #[.int .i64 n] w fun e w' => e = .returned (.bool b) ∧ w = w' := by
 have h := rv_ge b h
 go_enter Tryz.func102, Tryz.ntmps102
 go_wp2_with (go_at_call 53; (with_reducible refine (spec_l1In _ _ _ b h _).mono ?_); rintro e w' ⟨rfl, rfl⟩)
 go_ret
 exact ⟨rfl, rfl⟩
set_option maxHeartbeats 400000 in
theorem spec_AddRing (a b : Int) (w : World) : Calls Tryz.prog 91 #[.int .i64 a, .int .i64 b] w fun e w' => e = .returned (.int .i64 (addR a b)) ∧ w = w' := by
 have h3 := Lib.hid (show addR a b = if rv a = true ∧ rv b = true then ring (a + b) else -1 from rfl)
 have h4 := Lib.hid (ring_wrap64 (a + b))
 cases h1 : rv a <;> cases h2 : rv b
 all_goals
  have h1 := Lib.hid h1; have h2 := Lib.hid h2
  go_enter Tryz.func91, Tryz.ntmps91
  go_wp2_with (first | (go_at_call 102; (with_reducible refine (spec_RingValid a _ h1.out _).mono ?_); rintro e w' ⟨rfl, rfl⟩) | (go_at_call 102; (with_reducible refine (spec_RingValid b _ h2.out _).mono ?_); rintro e w' ⟨rfl, rfl⟩) | (go_at_call 86; (with_reducible refine (spec_l1Ring _ _).mono ?_); rintro e w' ⟨rfl, rfl⟩))
  go_ret
  rw [h3.out, h1.out, h2.out]
  first | exact ⟨rfl, rfl⟩ | exact ⟨by rw [h4.out]; rfl, rfl⟩
set_option maxHeartbeats 400000 in
theorem spec_SubRing (a b : Int) (w : World) : Calls Tryz.prog 103 #[.int .i64 a, .int .i64 b] w fun e w' => e = .returned (.int .i64 (subR a b)) ∧ w = w' := by
 have h3 := Lib.hid (show subR a b = if rv a = true ∧ rv b = true then ring (a - b) else -1 from rfl)
 have h4 := Lib.hid (ring_wrap64 (a - b))
 cases h1 : rv a <;> cases h2 : rv b
 all_goals
  have h1 := Lib.hid h1; have h2 := Lib.hid h2
  go_enter Tryz.func103, Tryz.ntmps103
  go_wp2_with (first | (go_at_call 102; (with_reducible refine (spec_RingValid a _ h1.out _).mono ?_); rintro e w' ⟨rfl, rfl⟩) | (go_at_call 102; (with_reducible refine (spec_RingValid b _ h2.out _).mono ?_); rintro e w' ⟨rfl, rfl⟩) | (go_at_call 86; (with_reducible refine (spec_l1Ring _ _).mono ?_); rintro e w' ⟨rfl, rfl⟩))
  go_ret
  rw [h3.out, h1.out, h2.out]
  first | exact ⟨rfl, rfl⟩ | exact ⟨by rw [h4.out]; rfl, rfl⟩
end Go.Proofs.YtkkdikoknegpjaaGreat
