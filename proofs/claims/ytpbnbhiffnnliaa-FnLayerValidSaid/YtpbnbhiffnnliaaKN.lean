/- The contracts of the signed numbers, of cutting, and of the functions that are looked up. -/
import Derived.Test.YtpbnbhiffnnliaaRing
import Derived.Test.YtpbnbhiffnnliaaKI
namespace Go.Proofs.Ytpbnbhiffnnliaa
set_option linter.unusedSimpArgs false
set_option linter.unusedVariables false
open Go.RowKit

/-- The signed number of a ring number. -/
def sgn (x : Int) : Int := if x < 2048 then x else x - 4096
def sgnOf (x : Int) : Int := if rv x = true then sgn x else -4096
theorem xor_2048 (x : Nat) (h : x < 4096) : x ^^^ 2048 = if x < 2048 then x + 2048 else x - 2048 := by
  have h1 : (x ^^^ 2048) % 2 ^ 11 = x % 2 ^ 11 ^^^ 2048 % 2 ^ 11 := Nat.xor_mod_two_pow
  have h2 : (x ^^^ 2048) / 2 ^ 11 = x / 2 ^ 11 ^^^ 2048 / 2 ^ 11 := Nat.xor_div_two_pow
  simp at h1 h2
  have h3 : x / 2048 = 0 ∨ x / 2048 = 1 := by omega
  rcases h3 with h3 | h3 <;> rw [h3] at h2 <;> simp at h2 <;> split <;> omega
theorem bits_2048 (x : Int) (h0 : 0 ≤ x) (h1 : x < 4096) : bits .xor .i64 x 2048 = sgn x + 2048 := by
  obtain ⟨a, rfl⟩ := Int.eq_ofNat_of_zero_le h0
  have e : (BitVec.ofInt 64 (a : Int) ^^^ BitVec.ofInt 64 2048).toNat = a ^^^ 2048 := by
    rw [show (2048 : Int) = ((2048 : Nat) : Int) from rfl, BitVec.ofInt_natCast, BitVec.ofInt_natCast, BitVec.toNat_xor, BitVec.toNat_ofNat, BitVec.toNat_ofNat, Nat.mod_eq_of_lt (by omega), Nat.mod_eq_of_lt (by omega)]
  show IntKind.i64.wrap ((BitVec.ofInt 64 (a : Int) ^^^ BitVec.ofInt 64 2048).toNat : Int) = _
  rw [e, xor_2048 a (by omega), IntKind.wrap_i64]
  unfold sgn
  split <;> split <;> omega
theorem sgn_bd {x : Int} (h : rv x = true) : -2048 ≤ sgn x ∧ sgn x ≤ 2047 := by rw [rv_iff] at h; unfold sgn; split <;> omega
/-- The quotient by 16, rounded down. -/
theorem floor_neg (n : Int) : -((-n + 16 - 1) / 16) = n / 16 := by omega
/-- CutRing. -/
def cutR (x : Int) : Int := if rv x = true then ring (sgn x / 16) else -1
def fKnown (k : Int) : Bool := decide (1 ≤ k) && decide (k ≤ 5)
theorem fk {k : Int} {b : Bool} (h : fKnown k = b) : (decide (1 ≤ k) && decide (k ≤ 5)) = b := h
def grow (n : Int) : Int := if n < -48 then 1 else if n < -32 then 2 else if n < -16 then 4 else if n < 0 then 8 else if n < 16 then 16 else if n < 32 then 32 else 64
/-- FunctionAt. -/
def fAt (k x : Int) : Int :=
  if rv x = true ∧ fKnown k = true then
    if k = 1 then ring (sgn x / 16) else if k = 2 then max (sgn x) 0 else if k = 3 then (if sgn x < 0 then 1 else 0) else if k = 4 then grow (sgn x) else (if sgn x ≤ 0 then 0 else 256 / sgn x)
  else -1

set_option maxHeartbeats 1000000 in
theorem impl_SignedOf (x : Int) (w : World) : Calls Try.prog 58 #[.int .i64 x] w fun e w' => e = .returned (.int .i64 (sgnOf x)) ∧ w = w' := by
  cases h : rv x
  · rw [show sgnOf x = -4096 by simp [sgnOf, h]]
    have H := Lib.hid h; clear h
    go_enter Try.func58, Try.ntmps58
    go_wp2_with (go_at_call 36; (with_reducible refine (impl_RingValid x _ H.out _).mono ?_); rintro e w1 ⟨rfl, rfl⟩)
    go_ret
    exact ⟨rfl, rfl⟩
  · rw [show sgnOf x = sgn x by simp [sgnOf, h]]
    have ⟨l, u⟩ := rv_iff.1 h
    have HB := Lib.hid (bits_2048 x l u)
    have ⟨b1, b2⟩ := sgn_bd h
    have H := Lib.hid h; clear h
    have HW := Lib.hid (show wrap64 (sgn x + 2048 - 2048) = sgn x by rw [show sgn x + 2048 - 2048 = sgn x by omega]; unfold wrap64; omega)
    go_enter Try.func58, Try.ntmps58
    go_wp2_with (go_at_call 36; (with_reducible refine (impl_RingValid x _ H.out _).mono ?_); rintro e w1 ⟨rfl, rfl⟩)
    rw [HB.out]
    go_ret
    first | exact ⟨rfl, rfl⟩ | exact ⟨(by rw [HW.out]; rfl), rfl⟩ | exact ⟨(by rw [show sgn x + 2048 - 2048 = sgn x by omega]; rfl), rfl⟩
set_option maxHeartbeats 1000000 in
theorem spec_SignedOf (x : Int) (w : World) : Calls Try.prog 65 #[.int .i64 x] w fun e w' => e = .returned (.int .i64 (sgnOf x)) ∧ w = w' := by
  cases h : rv x
  · rw [show sgnOf x = -4096 by simp [sgnOf, h]]
    have H := Lib.hid h; clear h
    go_enter Try.func65, Try.ntmps65
    go_wp2_with (go_at_call 54; (with_reducible refine (spec_RingValid x _ H.out _).mono ?_); rintro e w1 ⟨rfl, rfl⟩)
    go_ret
    exact ⟨rfl, rfl⟩
  · have ⟨l, u⟩ := rv_iff.1 h
    by_cases hx : x < 2048
    · rw [show sgnOf x = x by simp [sgnOf, h, sgn, hx]]
      have H := Lib.hid h; clear h
      go_enter Try.func65, Try.ntmps65
      go_wp2_with (go_at_call 54; (with_reducible refine (spec_RingValid x _ H.out _).mono ?_); rintro e w1 ⟨rfl, rfl⟩)
      go_ret
      exact ⟨rfl, rfl⟩
    · rw [show sgnOf x = x - 4096 by simp [sgnOf, h, sgn, hx]]
      have H := Lib.hid h; clear h
      go_enter Try.func65, Try.ntmps65
      go_wp2_with (go_at_call 54; (with_reducible refine (spec_RingValid x _ H.out _).mono ?_); rintro e w1 ⟨rfl, rfl⟩)
      go_ret
      exact ⟨rfl, rfl⟩
set_option maxHeartbeats 1000000 in
theorem spec_l2Floor (n : Int) (h1 : -4611686018427387904 ≤ n) (h2 : n ≤ 4611686018427387904) (w : World) : Calls Try.prog 67 #[.int .i64 n] w fun e w' => e = .returned (.int .i64 (n / 16)) ∧ w = w' := by
  by_cases hn : n < 0
  · have HF := Lib.hid (floor_neg n)
    go_enter Try.func67, Try.ntmps67
    go_wp2
    go_ret
    first | exact ⟨rfl, rfl⟩ | exact ⟨(by rw [HF.out]; rfl), rfl⟩
  · go_enter Try.func67, Try.ntmps67
    go_wp2
    go_ret
    exact ⟨rfl, rfl⟩
set_option maxHeartbeats 1000000 in
theorem impl_CutRing (x : Int) (w : World) : Calls Try.prog 59 #[.int .i64 x] w fun e w' => e = .returned (.int .i64 (cutR x)) ∧ w = w' := by
  cases h : rv x
  · rw [show cutR x = -1 by simp [cutR, h]]
    have H := Lib.hid h; clear h
    go_enter Try.func59, Try.ntmps59
    go_wp2_with (go_at_call 36; (with_reducible refine (impl_RingValid x _ H.out _).mono ?_); rintro e w1 ⟨rfl, rfl⟩)
    go_ret
    exact ⟨rfl, rfl⟩
  · rw [show cutR x = ring (sgn x / 16) by simp [cutR, h]]
    have ⟨b1, b2⟩ := sgn_bd h
    have HS := Lib.hid (show sgnOf x = sgn x by simp [sgnOf, h])
    have H := Lib.hid h; clear h
    go_enter Try.func59, Try.ntmps59
    go_wp2_with (first | (go_at_call 36; (with_reducible refine (impl_RingValid x _ H.out _).mono ?_); rintro e w1 ⟨rfl, rfl⟩) | (go_at_call 58; (with_reducible refine (impl_SignedOf x _).mono ?_); rintro e w1 ⟨rfl, rfl⟩; rw [HS.out]) | (go_at_call 42; (with_reducible refine (impl_RingOf _ _).mono ?_); rintro e w1 ⟨rfl, rfl⟩))
    go_ret
    exact ⟨rfl, rfl⟩
set_option maxHeartbeats 1000000 in
theorem spec_CutRing (x : Int) (w : World) : Calls Try.prog 66 #[.int .i64 x] w fun e w' => e = .returned (.int .i64 (cutR x)) ∧ w = w' := by
  cases h : rv x
  · rw [show cutR x = -1 by simp [cutR, h]]
    have H := Lib.hid h; clear h
    go_enter Try.func66, Try.ntmps66
    go_wp2_with (go_at_call 54; (with_reducible refine (spec_RingValid x _ H.out _).mono ?_); rintro e w1 ⟨rfl, rfl⟩)
    go_ret
    exact ⟨rfl, rfl⟩
  · rw [show cutR x = ring (sgn x / 16) by simp [cutR, h]]
    have ⟨b1, b2⟩ := sgn_bd h
    have HS := Lib.hid (show sgnOf x = sgn x by simp [sgnOf, h])
    have H := Lib.hid h; clear h
    go_enter Try.func66, Try.ntmps66
    go_wp2_with (first | (go_at_call 54; (with_reducible refine (spec_RingValid x _ H.out _).mono ?_); rintro e w1 ⟨rfl, rfl⟩) | (go_at_call 65; (with_reducible refine (spec_SignedOf x _).mono ?_); rintro e w1 ⟨rfl, rfl⟩; rw [HS.out]) | (go_at_call 49; (with_reducible refine (spec_l1Ring _ _).mono ?_); rintro e w1 ⟨rfl, rfl⟩) | (go_at_call 67; (with_reducible refine (spec_l2Floor _ (by omega) (by omega) _).mono ?_); rintro e w1 ⟨rfl, rfl⟩))
    go_ret
    exact ⟨rfl, rfl⟩
set_option maxHeartbeats 1000000 in
theorem impl_functionKnown (k : Int) (b : Bool) (h : fKnown k = b) (w : World) : Calls Try.prog 37 #[.int .i64 k] w fun e w' => e = .returned (.bool b) ∧ w = w' := by
  unfold fKnown at h
  by_cases h1 : 1 ≤ k <;> by_cases h2 : k ≤ 5
  · obtain rfl : true = b := by rw [← h]; simp [h1, h2]
    clear h
    go_enter Try.func37, Try.ntmps37
    go_wp2
    go_ret
    exact ⟨rfl, rfl⟩
  all_goals
    obtain rfl : false = b := by rw [← h]; simp [h1, h2]
    clear h
    go_enter Try.func37, Try.ntmps37
    go_wp2
    go_ret
    exact ⟨rfl, rfl⟩
set_option maxHeartbeats 4000000 in
theorem impl_FunctionAt (k x : Int) (w : World) : Calls Try.prog 39 #[.int .i64 k, .int .i64 x] w fun e w' => e = .returned (.int .i64 (fAt k x)) ∧ w = w' := by
  cases hx : rv x
  · rw [show fAt k x = -1 by simp [fAt, hx]]
    cases hk : fKnown k
    all_goals
      have HX := Lib.hid hx; have HK := Lib.hid hk; clear hx hk
      go_enter Try.func39, Try.ntmps39
      go_wp2_with (first | (go_at_call 37; (with_reducible refine (impl_functionKnown k false HK.out _).mono ?_); rintro e w1 ⟨rfl, rfl⟩) | (go_at_call 37; (with_reducible refine (impl_functionKnown k true HK.out _).mono ?_); rintro e w1 ⟨rfl, rfl⟩) | (go_at_call 36; (with_reducible refine (impl_RingValid x false HX.out _).mono ?_); rintro e w1 ⟨rfl, rfl⟩))
      go_ret
      exact ⟨rfl, rfl⟩
  cases hk : fKnown k
  · rw [show fAt k x = -1 by simp [fAt, hk]]
    have HX := Lib.hid hx; have HK := Lib.hid hk; clear hx hk
    go_enter Try.func39, Try.ntmps39
    go_wp2_with (go_at_call 37; (with_reducible refine (impl_functionKnown k false HK.out _).mono ?_); rintro e w1 ⟨rfl, rfl⟩)
    go_ret
    exact ⟨rfl, rfl⟩
  have ⟨b1, b2⟩ := sgn_bd hx
  have HS := Lib.hid (show sgnOf x = sgn x by simp [sgnOf, hx])
  have HC := Lib.hid (show cutR x = ring (sgn x / 16) by simp [cutR, hx])
  have HX := Lib.hid hx
  obtain ⟨k1, k5⟩ : 1 ≤ k ∧ k ≤ 5 := by simpa [fKnown] using hk
  have HF := Lib.hid (show fAt k x = if k = 1 then ring (sgn x / 16) else if k = 2 then max (sgn x) 0 else if k = 3 then (if sgn x < 0 then 1 else 0) else if k = 4 then grow (sgn x) else (if sgn x ≤ 0 then 0 else 256 / sgn x) by simp [fAt, hx, hk])
  clear hx
  generalize sgn x = n at *
  rcases (by omega : k = 1 ∨ k = 2 ∨ k = 3 ∨ k = 4 ∨ k = 5) with e | e | e | e | e
  · subst e
    have HK := Lib.hid hk; clear hk
    rw [show fAt _ x = ring (n / 16) by rw [HF.out]; simp]
    clear HF
    go_enter Try.func39, Try.ntmps39
    go_wp2_with (first | (go_at_call 37; (with_reducible refine (impl_functionKnown _ true HK.out _).mono ?_); rintro e w1 ⟨rfl, rfl⟩) | (go_at_call 36; (with_reducible refine (impl_RingValid x true HX.out _).mono ?_); rintro e w1 ⟨rfl, rfl⟩) | (go_at_call 58; (with_reducible refine (impl_SignedOf x _).mono ?_); rintro e w1 ⟨rfl, rfl⟩; rw [HS.out]) | (go_at_call 59; (with_reducible refine (impl_CutRing x _).mono ?_); rintro e w1 ⟨rfl, rfl⟩; rw [HC.out]))
    go_ret
    exact ⟨rfl, rfl⟩
  · rcases (by omega : n < 0 ∨ n = 0 ∨ 0 < n) with hn | hn | hn
    · subst e
      have HK := Lib.hid hk; clear hk
      rw [show fAt _ x = 0 by rw [HF.out]; simp; omega]
      clear HF
      go_enter Try.func39, Try.ntmps39
      go_wp2_with (first | (go_at_call 37; (with_reducible refine (impl_functionKnown _ true HK.out _).mono ?_); rintro e w1 ⟨rfl, rfl⟩) | (go_at_call 36; (with_reducible refine (impl_RingValid x true HX.out _).mono ?_); rintro e w1 ⟨rfl, rfl⟩) | (go_at_call 58; (with_reducible refine (impl_SignedOf x _).mono ?_); rintro e w1 ⟨rfl, rfl⟩; rw [HS.out]) | (go_at_call 59; (with_reducible refine (impl_CutRing x _).mono ?_); rintro e w1 ⟨rfl, rfl⟩; rw [HC.out]))
      go_ret
      exact ⟨rfl, rfl⟩
    · subst hn
      subst e
      have HK := Lib.hid hk; clear hk
      rw [show fAt _ x = 0 by rw [HF.out]; simp]
      clear HF
      go_enter Try.func39, Try.ntmps39
      go_wp2_with (first | (go_at_call 37; (with_reducible refine (impl_functionKnown _ true HK.out _).mono ?_); rintro e w1 ⟨rfl, rfl⟩) | (go_at_call 36; (with_reducible refine (impl_RingValid x true HX.out _).mono ?_); rintro e w1 ⟨rfl, rfl⟩) | (go_at_call 58; (with_reducible refine (impl_SignedOf x _).mono ?_); rintro e w1 ⟨rfl, rfl⟩; rw [HS.out]) | (go_at_call 59; (with_reducible refine (impl_CutRing x _).mono ?_); rintro e w1 ⟨rfl, rfl⟩; rw [HC.out]))
      go_ret
      exact ⟨rfl, rfl⟩
    · subst e
      have HK := Lib.hid hk; clear hk
      rw [show fAt _ x = n by rw [HF.out]; simp; omega]
      clear HF
      go_enter Try.func39, Try.ntmps39
      go_wp2_with (first | (go_at_call 37; (with_reducible refine (impl_functionKnown _ true HK.out _).mono ?_); rintro e w1 ⟨rfl, rfl⟩) | (go_at_call 36; (with_reducible refine (impl_RingValid x true HX.out _).mono ?_); rintro e w1 ⟨rfl, rfl⟩) | (go_at_call 58; (with_reducible refine (impl_SignedOf x _).mono ?_); rintro e w1 ⟨rfl, rfl⟩; rw [HS.out]) | (go_at_call 59; (with_reducible refine (impl_CutRing x _).mono ?_); rintro e w1 ⟨rfl, rfl⟩; rw [HC.out]))
      go_ret
      exact ⟨rfl, rfl⟩
  · by_cases hn : n < 0
    · subst e
      have HK := Lib.hid hk; clear hk
      rw [show fAt _ x = 1 by rw [HF.out]; simp [hn]]
      clear HF
      go_enter Try.func39, Try.ntmps39
      go_wp2_with (first | (go_at_call 37; (with_reducible refine (impl_functionKnown _ true HK.out _).mono ?_); rintro e w1 ⟨rfl, rfl⟩) | (go_at_call 36; (with_reducible refine (impl_RingValid x true HX.out _).mono ?_); rintro e w1 ⟨rfl, rfl⟩) | (go_at_call 58; (with_reducible refine (impl_SignedOf x _).mono ?_); rintro e w1 ⟨rfl, rfl⟩; rw [HS.out]) | (go_at_call 59; (with_reducible refine (impl_CutRing x _).mono ?_); rintro e w1 ⟨rfl, rfl⟩; rw [HC.out]))
      go_ret
      exact ⟨rfl, rfl⟩
    · subst e
      have HK := Lib.hid hk; clear hk
      rw [show fAt _ x = 0 by rw [HF.out]; simp [hn]]
      clear HF
      go_enter Try.func39, Try.ntmps39
      go_wp2_with (first | (go_at_call 37; (with_reducible refine (impl_functionKnown _ true HK.out _).mono ?_); rintro e w1 ⟨rfl, rfl⟩) | (go_at_call 36; (with_reducible refine (impl_RingValid x true HX.out _).mono ?_); rintro e w1 ⟨rfl, rfl⟩) | (go_at_call 58; (with_reducible refine (impl_SignedOf x _).mono ?_); rintro e w1 ⟨rfl, rfl⟩; rw [HS.out]) | (go_at_call 59; (with_reducible refine (impl_CutRing x _).mono ?_); rintro e w1 ⟨rfl, rfl⟩; rw [HC.out]))
      go_ret
      exact ⟨rfl, rfl⟩
  · rcases (by omega : (n < -64) ∨ (-64 ≤ n ∧ n < -48) ∨ (-48 ≤ n ∧ n < -32) ∨ (-32 ≤ n ∧ n < -16) ∨ (-16 ≤ n ∧ n < 0) ∨ (0 ≤ n ∧ n < 16) ∨ (16 ≤ n ∧ n < 32) ∨ (32 ≤ n ∧ n < 48) ∨ (48 ≤ n)) with hn | hn | hn | hn | hn | hn | hn | hn | hn
    · subst e
      have HK := Lib.hid hk; clear hk
      have q1 : n / 16 < -4 := by omega
      have q2 : -200 ≤ n / 16 := by omega
      have q3 : ¬ 2 < n / 16 := by omega
      rw [show fAt _ x = 1 by rw [HF.out]; simp [grow]; omega]
      clear HF
      go_enter Try.func39, Try.ntmps39
      go_wp2_with (first | (go_at_call 37; (with_reducible refine (impl_functionKnown _ true HK.out _).mono ?_); rintro e w1 ⟨rfl, rfl⟩) | (go_at_call 36; (with_reducible refine (impl_RingValid x true HX.out _).mono ?_); rintro e w1 ⟨rfl, rfl⟩) | (go_at_call 58; (with_reducible refine (impl_SignedOf x _).mono ?_); rintro e w1 ⟨rfl, rfl⟩; rw [HS.out]) | (go_at_call 59; (with_reducible refine (impl_CutRing x _).mono ?_); rintro e w1 ⟨rfl, rfl⟩; rw [HC.out]))
      go_ret
      first | exact ⟨rfl, rfl⟩ | exact ⟨(by unfold wrap64; rfl), rfl⟩
    · subst e
      have HK := Lib.hid hk; clear hk
      obtain ⟨hn1, hn2⟩ := hn
      have q1 : n / 16 = -4 := by omega
      rw [show fAt _ x = 1 by rw [HF.out]; simp [grow]; omega]
      clear HF
      go_enter Try.func39, Try.ntmps39
      go_wp2_with (first | (go_at_call 37; (with_reducible refine (impl_functionKnown _ true HK.out _).mono ?_); rintro e w1 ⟨rfl, rfl⟩) | (go_at_call 36; (with_reducible refine (impl_RingValid x true HX.out _).mono ?_); rintro e w1 ⟨rfl, rfl⟩) | (go_at_call 58; (with_reducible refine (impl_SignedOf x _).mono ?_); rintro e w1 ⟨rfl, rfl⟩; rw [HS.out]) | (go_at_call 59; (with_reducible refine (impl_CutRing x _).mono ?_); rintro e w1 ⟨rfl, rfl⟩; rw [HC.out]))
      go_ret
      first | exact ⟨rfl, rfl⟩ | exact ⟨(by unfold wrap64; rfl), rfl⟩
    · subst e
      have HK := Lib.hid hk; clear hk
      obtain ⟨hn1, hn2⟩ := hn
      have q1 : n / 16 = -3 := by omega
      rw [show fAt _ x = 2 by rw [HF.out]; simp [grow]; omega]
      clear HF
      go_enter Try.func39, Try.ntmps39
      go_wp2_with (first | (go_at_call 37; (with_reducible refine (impl_functionKnown _ true HK.out _).mono ?_); rintro e w1 ⟨rfl, rfl⟩) | (go_at_call 36; (with_reducible refine (impl_RingValid x true HX.out _).mono ?_); rintro e w1 ⟨rfl, rfl⟩) | (go_at_call 58; (with_reducible refine (impl_SignedOf x _).mono ?_); rintro e w1 ⟨rfl, rfl⟩; rw [HS.out]) | (go_at_call 59; (with_reducible refine (impl_CutRing x _).mono ?_); rintro e w1 ⟨rfl, rfl⟩; rw [HC.out]))
      go_ret
      first | exact ⟨rfl, rfl⟩ | exact ⟨(by unfold wrap64; rfl), rfl⟩
    · subst e
      have HK := Lib.hid hk; clear hk
      obtain ⟨hn1, hn2⟩ := hn
      have q1 : n / 16 = -2 := by omega
      rw [show fAt _ x = 4 by rw [HF.out]; simp [grow]; omega]
      clear HF
      go_enter Try.func39, Try.ntmps39
      go_wp2_with (first | (go_at_call 37; (with_reducible refine (impl_functionKnown _ true HK.out _).mono ?_); rintro e w1 ⟨rfl, rfl⟩) | (go_at_call 36; (with_reducible refine (impl_RingValid x true HX.out _).mono ?_); rintro e w1 ⟨rfl, rfl⟩) | (go_at_call 58; (with_reducible refine (impl_SignedOf x _).mono ?_); rintro e w1 ⟨rfl, rfl⟩; rw [HS.out]) | (go_at_call 59; (with_reducible refine (impl_CutRing x _).mono ?_); rintro e w1 ⟨rfl, rfl⟩; rw [HC.out]))
      go_ret
      first | exact ⟨rfl, rfl⟩ | exact ⟨(by unfold wrap64; rfl), rfl⟩
    · subst e
      have HK := Lib.hid hk; clear hk
      obtain ⟨hn1, hn2⟩ := hn
      have q1 : n / 16 = -1 := by omega
      rw [show fAt _ x = 8 by rw [HF.out]; simp [grow]; omega]
      clear HF
      go_enter Try.func39, Try.ntmps39
      go_wp2_with (first | (go_at_call 37; (with_reducible refine (impl_functionKnown _ true HK.out _).mono ?_); rintro e w1 ⟨rfl, rfl⟩) | (go_at_call 36; (with_reducible refine (impl_RingValid x true HX.out _).mono ?_); rintro e w1 ⟨rfl, rfl⟩) | (go_at_call 58; (with_reducible refine (impl_SignedOf x _).mono ?_); rintro e w1 ⟨rfl, rfl⟩; rw [HS.out]) | (go_at_call 59; (with_reducible refine (impl_CutRing x _).mono ?_); rintro e w1 ⟨rfl, rfl⟩; rw [HC.out]))
      go_ret
      first | exact ⟨rfl, rfl⟩ | exact ⟨(by unfold wrap64; rfl), rfl⟩
    · subst e
      have HK := Lib.hid hk; clear hk
      obtain ⟨hn1, hn2⟩ := hn
      have q1 : n / 16 = 0 := by omega
      rw [show fAt _ x = 16 by rw [HF.out]; simp [grow]; omega]
      clear HF
      go_enter Try.func39, Try.ntmps39
      go_wp2_with (first | (go_at_call 37; (with_reducible refine (impl_functionKnown _ true HK.out _).mono ?_); rintro e w1 ⟨rfl, rfl⟩) | (go_at_call 36; (with_reducible refine (impl_RingValid x true HX.out _).mono ?_); rintro e w1 ⟨rfl, rfl⟩) | (go_at_call 58; (with_reducible refine (impl_SignedOf x _).mono ?_); rintro e w1 ⟨rfl, rfl⟩; rw [HS.out]) | (go_at_call 59; (with_reducible refine (impl_CutRing x _).mono ?_); rintro e w1 ⟨rfl, rfl⟩; rw [HC.out]))
      go_ret
      first | exact ⟨rfl, rfl⟩ | exact ⟨(by unfold wrap64; rfl), rfl⟩
    · subst e
      have HK := Lib.hid hk; clear hk
      obtain ⟨hn1, hn2⟩ := hn
      have q1 : n / 16 = 1 := by omega
      rw [show fAt _ x = 32 by rw [HF.out]; simp [grow]; omega]
      clear HF
      go_enter Try.func39, Try.ntmps39
      go_wp2_with (first | (go_at_call 37; (with_reducible refine (impl_functionKnown _ true HK.out _).mono ?_); rintro e w1 ⟨rfl, rfl⟩) | (go_at_call 36; (with_reducible refine (impl_RingValid x true HX.out _).mono ?_); rintro e w1 ⟨rfl, rfl⟩) | (go_at_call 58; (with_reducible refine (impl_SignedOf x _).mono ?_); rintro e w1 ⟨rfl, rfl⟩; rw [HS.out]) | (go_at_call 59; (with_reducible refine (impl_CutRing x _).mono ?_); rintro e w1 ⟨rfl, rfl⟩; rw [HC.out]))
      go_ret
      first | exact ⟨rfl, rfl⟩ | exact ⟨(by unfold wrap64; rfl), rfl⟩
    · subst e
      have HK := Lib.hid hk; clear hk
      obtain ⟨hn1, hn2⟩ := hn
      have q1 : n / 16 = 2 := by omega
      rw [show fAt _ x = 64 by rw [HF.out]; simp [grow]; omega]
      clear HF
      go_enter Try.func39, Try.ntmps39
      go_wp2_with (first | (go_at_call 37; (with_reducible refine (impl_functionKnown _ true HK.out _).mono ?_); rintro e w1 ⟨rfl, rfl⟩) | (go_at_call 36; (with_reducible refine (impl_RingValid x true HX.out _).mono ?_); rintro e w1 ⟨rfl, rfl⟩) | (go_at_call 58; (with_reducible refine (impl_SignedOf x _).mono ?_); rintro e w1 ⟨rfl, rfl⟩; rw [HS.out]) | (go_at_call 59; (with_reducible refine (impl_CutRing x _).mono ?_); rintro e w1 ⟨rfl, rfl⟩; rw [HC.out]))
      go_ret
      first | exact ⟨rfl, rfl⟩ | exact ⟨(by unfold wrap64; rfl), rfl⟩
    · subst e
      have HK := Lib.hid hk; clear hk
      have q1 : 2 < n / 16 := by omega
      have q2 : n / 16 ≤ 200 := by omega
      have q3 : ¬ n / 16 < -4 := by omega
      have q4 : ¬ n / 16 ≤ 2 := by omega
      rw [show fAt _ x = 64 by rw [HF.out]; simp [grow]; omega]
      clear HF
      go_enter Try.func39, Try.ntmps39
      go_wp2_with (first | (go_at_call 37; (with_reducible refine (impl_functionKnown _ true HK.out _).mono ?_); rintro e w1 ⟨rfl, rfl⟩) | (go_at_call 36; (with_reducible refine (impl_RingValid x true HX.out _).mono ?_); rintro e w1 ⟨rfl, rfl⟩) | (go_at_call 58; (with_reducible refine (impl_SignedOf x _).mono ?_); rintro e w1 ⟨rfl, rfl⟩; rw [HS.out]) | (go_at_call 59; (with_reducible refine (impl_CutRing x _).mono ?_); rintro e w1 ⟨rfl, rfl⟩; rw [HC.out]))
      go_ret
      first | exact ⟨rfl, rfl⟩ | exact ⟨(by unfold wrap64; rfl), rfl⟩
  · by_cases hn : n ≤ 0
    · subst e
      have HK := Lib.hid hk; clear hk
      rw [show fAt _ x = 0 by rw [HF.out]; simp [hn]]
      clear HF
      go_enter Try.func39, Try.ntmps39
      go_wp2_with (first | (go_at_call 37; (with_reducible refine (impl_functionKnown _ true HK.out _).mono ?_); rintro e w1 ⟨rfl, rfl⟩) | (go_at_call 36; (with_reducible refine (impl_RingValid x true HX.out _).mono ?_); rintro e w1 ⟨rfl, rfl⟩) | (go_at_call 58; (with_reducible refine (impl_SignedOf x _).mono ?_); rintro e w1 ⟨rfl, rfl⟩; rw [HS.out]) | (go_at_call 59; (with_reducible refine (impl_CutRing x _).mono ?_); rintro e w1 ⟨rfl, rfl⟩; rw [HC.out]))
      go_ret
      exact ⟨rfl, rfl⟩
    · subst e
      have HK := Lib.hid hk; clear hk
      rw [show fAt _ x = 256 / n by rw [HF.out]; simp [hn]]
      clear HF
      go_enter Try.func39, Try.ntmps39
      go_wp2_with (first | (go_at_call 37; (with_reducible refine (impl_functionKnown _ true HK.out _).mono ?_); rintro e w1 ⟨rfl, rfl⟩) | (go_at_call 36; (with_reducible refine (impl_RingValid x true HX.out _).mono ?_); rintro e w1 ⟨rfl, rfl⟩) | (go_at_call 58; (with_reducible refine (impl_SignedOf x _).mono ?_); rintro e w1 ⟨rfl, rfl⟩; rw [HS.out]) | (go_at_call 59; (with_reducible refine (impl_CutRing x _).mono ?_); rintro e w1 ⟨rfl, rfl⟩; rw [HC.out]))
      go_ret
      exact ⟨rfl, rfl⟩
set_option maxHeartbeats 4000000 in
theorem spec_FunctionAt (k x : Int) (w : World) : Calls Try.prog 57 #[.int .i64 k, .int .i64 x] w fun e w' => e = .returned (.int .i64 (fAt k x)) ∧ w = w' := by
  cases hx : rv x
  · rw [show fAt k x = -1 by simp [fAt, hx]]
    cases hk : fKnown k
    all_goals
      have HX := Lib.hid hx; have HK := Lib.hid hk; clear hx hk
      go_enter Try.func57, Try.ntmps57
      go_wp2_with (go_at_call 54; (with_reducible refine (spec_RingValid x false HX.out _).mono ?_); rintro e w1 ⟨rfl, rfl⟩)
      go_ret
      exact ⟨rfl, rfl⟩
  cases hk : fKnown k
  · rw [show fAt k x = -1 by simp [fAt, hk]]
    have HX := Lib.hid hx; have HK := Lib.hid hk; clear hx hk
    go_enter Try.func57, Try.ntmps57
    go_wp2_with (first | (go_at_call 54; (with_reducible refine (spec_RingValid x true HX.out _).mono ?_); rintro e w1 ⟨rfl, rfl⟩) | (go_at_call 55; (with_reducible refine (spec_l1In k 1 5 false (fk HK.out) _).mono ?_); rintro e w1 ⟨rfl, rfl⟩))
    go_ret
    exact ⟨rfl, rfl⟩
  have ⟨b1, b2⟩ := sgn_bd hx
  have HS := Lib.hid (show sgnOf x = sgn x by simp [sgnOf, hx])
  have HC := Lib.hid (show cutR x = ring (sgn x / 16) by simp [cutR, hx])
  have HX := Lib.hid hx
  obtain ⟨k1, k5⟩ : 1 ≤ k ∧ k ≤ 5 := by simpa [fKnown] using hk
  have HF := Lib.hid (show fAt k x = if k = 1 then ring (sgn x / 16) else if k = 2 then max (sgn x) 0 else if k = 3 then (if sgn x < 0 then 1 else 0) else if k = 4 then grow (sgn x) else (if sgn x ≤ 0 then 0 else 256 / sgn x) by simp [fAt, hx, hk])
  clear hx
  generalize sgn x = n at *
  rcases (by omega : k = 1 ∨ k = 2 ∨ k = 3 ∨ k = 4 ∨ k = 5) with e | e | e | e | e
  · subst e
    have HK := Lib.hid hk; clear hk
    rw [show fAt _ x = ring (n / 16) by rw [HF.out]; simp]
    clear HF
    go_enter Try.func57, Try.ntmps57
    go_wp2_with (first | (go_at_call 54; (with_reducible refine (spec_RingValid x true HX.out _).mono ?_); rintro e w1 ⟨rfl, rfl⟩) | (go_at_call 55; (with_reducible refine (spec_l1In _ 1 5 true (fk HK.out) _).mono ?_); rintro e w1 ⟨rfl, rfl⟩) | (go_at_call 65; (with_reducible refine (spec_SignedOf x _).mono ?_); rintro e w1 ⟨rfl, rfl⟩; rw [HS.out]) | (go_at_call 66; (with_reducible refine (spec_CutRing x _).mono ?_); rintro e w1 ⟨rfl, rfl⟩; rw [HC.out]) | (go_at_call 67; (with_reducible refine (spec_l2Floor _ (by omega) (by omega) _).mono ?_); rintro e w1 ⟨rfl, rfl⟩))
    go_ret
    exact ⟨rfl, rfl⟩
  · rcases (by omega : n < 0 ∨ n = 0 ∨ 0 < n) with hn | hn | hn
    · subst e
      have HK := Lib.hid hk; clear hk
      rw [show fAt _ x = 0 by rw [HF.out]; simp; omega]
      clear HF
      go_enter Try.func57, Try.ntmps57
      go_wp2_with (first | (go_at_call 54; (with_reducible refine (spec_RingValid x true HX.out _).mono ?_); rintro e w1 ⟨rfl, rfl⟩) | (go_at_call 55; (with_reducible refine (spec_l1In _ 1 5 true (fk HK.out) _).mono ?_); rintro e w1 ⟨rfl, rfl⟩) | (go_at_call 65; (with_reducible refine (spec_SignedOf x _).mono ?_); rintro e w1 ⟨rfl, rfl⟩; rw [HS.out]) | (go_at_call 66; (with_reducible refine (spec_CutRing x _).mono ?_); rintro e w1 ⟨rfl, rfl⟩; rw [HC.out]) | (go_at_call 67; (with_reducible refine (spec_l2Floor _ (by omega) (by omega) _).mono ?_); rintro e w1 ⟨rfl, rfl⟩))
      go_ret
      exact ⟨rfl, rfl⟩
    · subst hn
      subst e
      have HK := Lib.hid hk; clear hk
      rw [show fAt _ x = 0 by rw [HF.out]; simp]
      clear HF
      go_enter Try.func57, Try.ntmps57
      go_wp2_with (first | (go_at_call 54; (with_reducible refine (spec_RingValid x true HX.out _).mono ?_); rintro e w1 ⟨rfl, rfl⟩) | (go_at_call 55; (with_reducible refine (spec_l1In _ 1 5 true (fk HK.out) _).mono ?_); rintro e w1 ⟨rfl, rfl⟩) | (go_at_call 65; (with_reducible refine (spec_SignedOf x _).mono ?_); rintro e w1 ⟨rfl, rfl⟩; rw [HS.out]) | (go_at_call 66; (with_reducible refine (spec_CutRing x _).mono ?_); rintro e w1 ⟨rfl, rfl⟩; rw [HC.out]) | (go_at_call 67; (with_reducible refine (spec_l2Floor _ (by omega) (by omega) _).mono ?_); rintro e w1 ⟨rfl, rfl⟩))
      go_ret
      exact ⟨rfl, rfl⟩
    · subst e
      have HK := Lib.hid hk; clear hk
      rw [show fAt _ x = n by rw [HF.out]; simp; omega]
      clear HF
      go_enter Try.func57, Try.ntmps57
      go_wp2_with (first | (go_at_call 54; (with_reducible refine (spec_RingValid x true HX.out _).mono ?_); rintro e w1 ⟨rfl, rfl⟩) | (go_at_call 55; (with_reducible refine (spec_l1In _ 1 5 true (fk HK.out) _).mono ?_); rintro e w1 ⟨rfl, rfl⟩) | (go_at_call 65; (with_reducible refine (spec_SignedOf x _).mono ?_); rintro e w1 ⟨rfl, rfl⟩; rw [HS.out]) | (go_at_call 66; (with_reducible refine (spec_CutRing x _).mono ?_); rintro e w1 ⟨rfl, rfl⟩; rw [HC.out]) | (go_at_call 67; (with_reducible refine (spec_l2Floor _ (by omega) (by omega) _).mono ?_); rintro e w1 ⟨rfl, rfl⟩))
      go_ret
      exact ⟨rfl, rfl⟩
  · by_cases hn : n < 0
    · subst e
      have HK := Lib.hid hk; clear hk
      rw [show fAt _ x = 1 by rw [HF.out]; simp [hn]]
      clear HF
      go_enter Try.func57, Try.ntmps57
      go_wp2_with (first | (go_at_call 54; (with_reducible refine (spec_RingValid x true HX.out _).mono ?_); rintro e w1 ⟨rfl, rfl⟩) | (go_at_call 55; (with_reducible refine (spec_l1In _ 1 5 true (fk HK.out) _).mono ?_); rintro e w1 ⟨rfl, rfl⟩) | (go_at_call 65; (with_reducible refine (spec_SignedOf x _).mono ?_); rintro e w1 ⟨rfl, rfl⟩; rw [HS.out]) | (go_at_call 66; (with_reducible refine (spec_CutRing x _).mono ?_); rintro e w1 ⟨rfl, rfl⟩; rw [HC.out]) | (go_at_call 67; (with_reducible refine (spec_l2Floor _ (by omega) (by omega) _).mono ?_); rintro e w1 ⟨rfl, rfl⟩))
      go_ret
      exact ⟨rfl, rfl⟩
    · subst e
      have HK := Lib.hid hk; clear hk
      rw [show fAt _ x = 0 by rw [HF.out]; simp [hn]]
      clear HF
      go_enter Try.func57, Try.ntmps57
      go_wp2_with (first | (go_at_call 54; (with_reducible refine (spec_RingValid x true HX.out _).mono ?_); rintro e w1 ⟨rfl, rfl⟩) | (go_at_call 55; (with_reducible refine (spec_l1In _ 1 5 true (fk HK.out) _).mono ?_); rintro e w1 ⟨rfl, rfl⟩) | (go_at_call 65; (with_reducible refine (spec_SignedOf x _).mono ?_); rintro e w1 ⟨rfl, rfl⟩; rw [HS.out]) | (go_at_call 66; (with_reducible refine (spec_CutRing x _).mono ?_); rintro e w1 ⟨rfl, rfl⟩; rw [HC.out]) | (go_at_call 67; (with_reducible refine (spec_l2Floor _ (by omega) (by omega) _).mono ?_); rintro e w1 ⟨rfl, rfl⟩))
      go_ret
      exact ⟨rfl, rfl⟩
  · rcases (by omega : (n < -64) ∨ (-64 ≤ n ∧ n < -48) ∨ (-48 ≤ n ∧ n < -32) ∨ (-32 ≤ n ∧ n < -16) ∨ (-16 ≤ n ∧ n < 0) ∨ (0 ≤ n ∧ n < 16) ∨ (16 ≤ n ∧ n < 32) ∨ (32 ≤ n ∧ n < 48) ∨ (48 ≤ n)) with hn | hn | hn | hn | hn | hn | hn | hn | hn
    · subst e
      have HK := Lib.hid hk; clear hk
      have q1 : n / 16 < -4 := by omega
      have q2 : -200 ≤ n / 16 := by omega
      have q3 : ¬ 2 < n / 16 := by omega
      rw [show fAt _ x = 1 by rw [HF.out]; simp [grow]; omega]
      clear HF
      go_enter Try.func57, Try.ntmps57
      go_wp2_with (first | (go_at_call 54; (with_reducible refine (spec_RingValid x true HX.out _).mono ?_); rintro e w1 ⟨rfl, rfl⟩) | (go_at_call 55; (with_reducible refine (spec_l1In _ 1 5 true (fk HK.out) _).mono ?_); rintro e w1 ⟨rfl, rfl⟩) | (go_at_call 65; (with_reducible refine (spec_SignedOf x _).mono ?_); rintro e w1 ⟨rfl, rfl⟩; rw [HS.out]) | (go_at_call 66; (with_reducible refine (spec_CutRing x _).mono ?_); rintro e w1 ⟨rfl, rfl⟩; rw [HC.out]) | (go_at_call 67; (with_reducible refine (spec_l2Floor _ (by omega) (by omega) _).mono ?_); rintro e w1 ⟨rfl, rfl⟩))
      go_ret
      first | exact ⟨rfl, rfl⟩ | exact ⟨(by unfold wrap64; rfl), rfl⟩
    · subst e
      have HK := Lib.hid hk; clear hk
      obtain ⟨hn1, hn2⟩ := hn
      have q1 : n / 16 = -4 := by omega
      rw [show fAt _ x = 1 by rw [HF.out]; simp [grow]; omega]
      clear HF
      go_enter Try.func57, Try.ntmps57
      go_wp2_with (first | (go_at_call 54; (with_reducible refine (spec_RingValid x true HX.out _).mono ?_); rintro e w1 ⟨rfl, rfl⟩) | (go_at_call 55; (with_reducible refine (spec_l1In _ 1 5 true (fk HK.out) _).mono ?_); rintro e w1 ⟨rfl, rfl⟩) | (go_at_call 65; (with_reducible refine (spec_SignedOf x _).mono ?_); rintro e w1 ⟨rfl, rfl⟩; rw [HS.out]) | (go_at_call 66; (with_reducible refine (spec_CutRing x _).mono ?_); rintro e w1 ⟨rfl, rfl⟩; rw [HC.out]) | (go_at_call 67; (with_reducible refine (spec_l2Floor _ (by omega) (by omega) _).mono ?_); rintro e w1 ⟨rfl, rfl⟩))
      go_ret
      first | exact ⟨rfl, rfl⟩ | exact ⟨(by unfold wrap64; rfl), rfl⟩
    · subst e
      have HK := Lib.hid hk; clear hk
      obtain ⟨hn1, hn2⟩ := hn
      have q1 : n / 16 = -3 := by omega
      rw [show fAt _ x = 2 by rw [HF.out]; simp [grow]; omega]
      clear HF
      go_enter Try.func57, Try.ntmps57
      go_wp2_with (first | (go_at_call 54; (with_reducible refine (spec_RingValid x true HX.out _).mono ?_); rintro e w1 ⟨rfl, rfl⟩) | (go_at_call 55; (with_reducible refine (spec_l1In _ 1 5 true (fk HK.out) _).mono ?_); rintro e w1 ⟨rfl, rfl⟩) | (go_at_call 65; (with_reducible refine (spec_SignedOf x _).mono ?_); rintro e w1 ⟨rfl, rfl⟩; rw [HS.out]) | (go_at_call 66; (with_reducible refine (spec_CutRing x _).mono ?_); rintro e w1 ⟨rfl, rfl⟩; rw [HC.out]) | (go_at_call 67; (with_reducible refine (spec_l2Floor _ (by omega) (by omega) _).mono ?_); rintro e w1 ⟨rfl, rfl⟩))
      go_ret
      first | exact ⟨rfl, rfl⟩ | exact ⟨(by unfold wrap64; rfl), rfl⟩
    · subst e
      have HK := Lib.hid hk; clear hk
      obtain ⟨hn1, hn2⟩ := hn
      have q1 : n / 16 = -2 := by omega
      rw [show fAt _ x = 4 by rw [HF.out]; simp [grow]; omega]
      clear HF
      go_enter Try.func57, Try.ntmps57
      go_wp2_with (first | (go_at_call 54; (with_reducible refine (spec_RingValid x true HX.out _).mono ?_); rintro e w1 ⟨rfl, rfl⟩) | (go_at_call 55; (with_reducible refine (spec_l1In _ 1 5 true (fk HK.out) _).mono ?_); rintro e w1 ⟨rfl, rfl⟩) | (go_at_call 65; (with_reducible refine (spec_SignedOf x _).mono ?_); rintro e w1 ⟨rfl, rfl⟩; rw [HS.out]) | (go_at_call 66; (with_reducible refine (spec_CutRing x _).mono ?_); rintro e w1 ⟨rfl, rfl⟩; rw [HC.out]) | (go_at_call 67; (with_reducible refine (spec_l2Floor _ (by omega) (by omega) _).mono ?_); rintro e w1 ⟨rfl, rfl⟩))
      go_ret
      first | exact ⟨rfl, rfl⟩ | exact ⟨(by unfold wrap64; rfl), rfl⟩
    · subst e
      have HK := Lib.hid hk; clear hk
      obtain ⟨hn1, hn2⟩ := hn
      have q1 : n / 16 = -1 := by omega
      rw [show fAt _ x = 8 by rw [HF.out]; simp [grow]; omega]
      clear HF
      go_enter Try.func57, Try.ntmps57
      go_wp2_with (first | (go_at_call 54; (with_reducible refine (spec_RingValid x true HX.out _).mono ?_); rintro e w1 ⟨rfl, rfl⟩) | (go_at_call 55; (with_reducible refine (spec_l1In _ 1 5 true (fk HK.out) _).mono ?_); rintro e w1 ⟨rfl, rfl⟩) | (go_at_call 65; (with_reducible refine (spec_SignedOf x _).mono ?_); rintro e w1 ⟨rfl, rfl⟩; rw [HS.out]) | (go_at_call 66; (with_reducible refine (spec_CutRing x _).mono ?_); rintro e w1 ⟨rfl, rfl⟩; rw [HC.out]) | (go_at_call 67; (with_reducible refine (spec_l2Floor _ (by omega) (by omega) _).mono ?_); rintro e w1 ⟨rfl, rfl⟩))
      go_ret
      first | exact ⟨rfl, rfl⟩ | exact ⟨(by unfold wrap64; rfl), rfl⟩
    · subst e
      have HK := Lib.hid hk; clear hk
      obtain ⟨hn1, hn2⟩ := hn
      have q1 : n / 16 = 0 := by omega
      rw [show fAt _ x = 16 by rw [HF.out]; simp [grow]; omega]
      clear HF
      go_enter Try.func57, Try.ntmps57
      go_wp2_with (first | (go_at_call 54; (with_reducible refine (spec_RingValid x true HX.out _).mono ?_); rintro e w1 ⟨rfl, rfl⟩) | (go_at_call 55; (with_reducible refine (spec_l1In _ 1 5 true (fk HK.out) _).mono ?_); rintro e w1 ⟨rfl, rfl⟩) | (go_at_call 65; (with_reducible refine (spec_SignedOf x _).mono ?_); rintro e w1 ⟨rfl, rfl⟩; rw [HS.out]) | (go_at_call 66; (with_reducible refine (spec_CutRing x _).mono ?_); rintro e w1 ⟨rfl, rfl⟩; rw [HC.out]) | (go_at_call 67; (with_reducible refine (spec_l2Floor _ (by omega) (by omega) _).mono ?_); rintro e w1 ⟨rfl, rfl⟩))
      go_ret
      first | exact ⟨rfl, rfl⟩ | exact ⟨(by unfold wrap64; rfl), rfl⟩
    · subst e
      have HK := Lib.hid hk; clear hk
      obtain ⟨hn1, hn2⟩ := hn
      have q1 : n / 16 = 1 := by omega
      rw [show fAt _ x = 32 by rw [HF.out]; simp [grow]; omega]
      clear HF
      go_enter Try.func57, Try.ntmps57
      go_wp2_with (first | (go_at_call 54; (with_reducible refine (spec_RingValid x true HX.out _).mono ?_); rintro e w1 ⟨rfl, rfl⟩) | (go_at_call 55; (with_reducible refine (spec_l1In _ 1 5 true (fk HK.out) _).mono ?_); rintro e w1 ⟨rfl, rfl⟩) | (go_at_call 65; (with_reducible refine (spec_SignedOf x _).mono ?_); rintro e w1 ⟨rfl, rfl⟩; rw [HS.out]) | (go_at_call 66; (with_reducible refine (spec_CutRing x _).mono ?_); rintro e w1 ⟨rfl, rfl⟩; rw [HC.out]) | (go_at_call 67; (with_reducible refine (spec_l2Floor _ (by omega) (by omega) _).mono ?_); rintro e w1 ⟨rfl, rfl⟩))
      go_ret
      first | exact ⟨rfl, rfl⟩ | exact ⟨(by unfold wrap64; rfl), rfl⟩
    · subst e
      have HK := Lib.hid hk; clear hk
      obtain ⟨hn1, hn2⟩ := hn
      have q1 : n / 16 = 2 := by omega
      rw [show fAt _ x = 64 by rw [HF.out]; simp [grow]; omega]
      clear HF
      go_enter Try.func57, Try.ntmps57
      go_wp2_with (first | (go_at_call 54; (with_reducible refine (spec_RingValid x true HX.out _).mono ?_); rintro e w1 ⟨rfl, rfl⟩) | (go_at_call 55; (with_reducible refine (spec_l1In _ 1 5 true (fk HK.out) _).mono ?_); rintro e w1 ⟨rfl, rfl⟩) | (go_at_call 65; (with_reducible refine (spec_SignedOf x _).mono ?_); rintro e w1 ⟨rfl, rfl⟩; rw [HS.out]) | (go_at_call 66; (with_reducible refine (spec_CutRing x _).mono ?_); rintro e w1 ⟨rfl, rfl⟩; rw [HC.out]) | (go_at_call 67; (with_reducible refine (spec_l2Floor _ (by omega) (by omega) _).mono ?_); rintro e w1 ⟨rfl, rfl⟩))
      go_ret
      first | exact ⟨rfl, rfl⟩ | exact ⟨(by unfold wrap64; rfl), rfl⟩
    · subst e
      have HK := Lib.hid hk; clear hk
      have q1 : 2 < n / 16 := by omega
      have q2 : n / 16 ≤ 200 := by omega
      have q3 : ¬ n / 16 < -4 := by omega
      have q4 : ¬ n / 16 ≤ 2 := by omega
      rw [show fAt _ x = 64 by rw [HF.out]; simp [grow]; omega]
      clear HF
      go_enter Try.func57, Try.ntmps57
      go_wp2_with (first | (go_at_call 54; (with_reducible refine (spec_RingValid x true HX.out _).mono ?_); rintro e w1 ⟨rfl, rfl⟩) | (go_at_call 55; (with_reducible refine (spec_l1In _ 1 5 true (fk HK.out) _).mono ?_); rintro e w1 ⟨rfl, rfl⟩) | (go_at_call 65; (with_reducible refine (spec_SignedOf x _).mono ?_); rintro e w1 ⟨rfl, rfl⟩; rw [HS.out]) | (go_at_call 66; (with_reducible refine (spec_CutRing x _).mono ?_); rintro e w1 ⟨rfl, rfl⟩; rw [HC.out]) | (go_at_call 67; (with_reducible refine (spec_l2Floor _ (by omega) (by omega) _).mono ?_); rintro e w1 ⟨rfl, rfl⟩))
      go_ret
      first | exact ⟨rfl, rfl⟩ | exact ⟨(by unfold wrap64; rfl), rfl⟩
  · by_cases hn : n ≤ 0
    · subst e
      have HK := Lib.hid hk; clear hk
      rw [show fAt _ x = 0 by rw [HF.out]; simp [hn]]
      clear HF
      go_enter Try.func57, Try.ntmps57
      go_wp2_with (first | (go_at_call 54; (with_reducible refine (spec_RingValid x true HX.out _).mono ?_); rintro e w1 ⟨rfl, rfl⟩) | (go_at_call 55; (with_reducible refine (spec_l1In _ 1 5 true (fk HK.out) _).mono ?_); rintro e w1 ⟨rfl, rfl⟩) | (go_at_call 65; (with_reducible refine (spec_SignedOf x _).mono ?_); rintro e w1 ⟨rfl, rfl⟩; rw [HS.out]) | (go_at_call 66; (with_reducible refine (spec_CutRing x _).mono ?_); rintro e w1 ⟨rfl, rfl⟩; rw [HC.out]) | (go_at_call 67; (with_reducible refine (spec_l2Floor _ (by omega) (by omega) _).mono ?_); rintro e w1 ⟨rfl, rfl⟩))
      go_ret
      exact ⟨rfl, rfl⟩
    · subst e
      have HK := Lib.hid hk; clear hk
      rw [show fAt _ x = 256 / n by rw [HF.out]; simp [hn]]
      clear HF
      go_enter Try.func57, Try.ntmps57
      go_wp2_with (first | (go_at_call 54; (with_reducible refine (spec_RingValid x true HX.out _).mono ?_); rintro e w1 ⟨rfl, rfl⟩) | (go_at_call 55; (with_reducible refine (spec_l1In _ 1 5 true (fk HK.out) _).mono ?_); rintro e w1 ⟨rfl, rfl⟩) | (go_at_call 65; (with_reducible refine (spec_SignedOf x _).mono ?_); rintro e w1 ⟨rfl, rfl⟩; rw [HS.out]) | (go_at_call 66; (with_reducible refine (spec_CutRing x _).mono ?_); rintro e w1 ⟨rfl, rfl⟩; rw [HC.out]) | (go_at_call 67; (with_reducible refine (spec_l2Floor _ (by omega) (by omega) _).mono ?_); rintro e w1 ⟨rfl, rfl⟩))
      go_ret
      exact ⟨rfl, rfl⟩
end Go.Proofs.Ytpbnbhiffnnliaa
namespace Go.Proofs.Ytpbnbhiffnnliaa
set_option linter.unusedSimpArgs false
set_option linter.unusedVariables false
open Go.RowKit
def valsTo (k : Int) (j : Nat) : List Int := (List.range j).map fun (i : Nat) => fAt k (i : Int)
def fVals (k : Int) : List Int := if fKnown k = true then valsTo k 4096 else []
theorem valsTo_len (k : Int) (j : Nat) : (valsTo k j).length = j := by simp [valsTo]
theorem valsTo_succ (k : Int) (j : Nat) : valsTo k (j + 1) = valsTo k j ++ [fAt k (j : Int)] := by simp [valsTo, List.range_succ]
theorem rangeMap_get (f : Nat → Int) (n i : Nat) (h : i < n) : ((List.range n).map f).getD i 0 = f i := by simp [h]
theorem valsTo_get (k : Int) (n i : Nat) (h : i < n) : (valsTo k n).getD i 0 = fAt k (i : Int) := rangeMap_get _ n i h
/-- A list that is known place by place. -/
theorem list_ext {xs ys : List Int} (hl : xs.length = ys.length) (h : ∀ i, i < xs.length → xs.getD i 0 = ys.getD i 0) : xs = ys := by
  apply List.ext_getElem hl
  intro i h1 h2
  have := h i h1
  simpa [h1, h2] using this
theorem getD_set (xs : List Int) (j i : Nat) (y : Int) (hj : j < xs.length) : (xs.set j y).getD i 0 = if i = j then y else xs.getD i 0 := by
  by_cases h : i = j
  · subst h; simp [hj]
  · simp [List.getElem?_set, Ne.symm h, h]
end Go.Proofs.Ytpbnbhiffnnliaa
