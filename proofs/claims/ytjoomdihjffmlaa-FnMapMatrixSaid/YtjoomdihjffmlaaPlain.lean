/- Plain arithmetic of ring numbers: what the program's small functions compute, as functions on whole numbers. No program in sight. -/
import Derived.WalkKit
import Derived.IntWalk
namespace Go.Proofs.Ytjoomdihjffmlaa
set_option linter.unusedSimpArgs false
set_option linter.unusedVariables false
open Go.RowKit

/-- n modulo 4096. -/
def ring (n : Int) : Int := n % 4096
/-- n is in 0..4095. -/
def rv (n : Int) : Bool := decide (0 ≤ n ∧ n < 4096)

theorem rv_iff {n : Int} : rv n = true ↔ 0 ≤ n ∧ n < 4096 := by simp [rv]
theorem rv_not {n : Int} (h : rv n = false) : n < 0 ∨ 4096 ≤ n := by simp [rv] at h; omega
theorem ring_lo (n : Int) : 0 ≤ ring n := by unfold ring; omega
theorem ring_hi (n : Int) : ring n < 4096 := by unfold ring; omega
theorem rv_ring (n : Int) : rv (ring n) = true := rv_iff.2 ⟨ring_lo n, ring_hi n⟩
theorem ring_of {n : Int} (h : rv n = true) : ring n = n := by rw [rv_iff] at h; unfold ring; omega
theorem ring_eq (n : Int) : (ring n == n) = rv n := by
  cases h : rv n
  · have := rv_not h; have := ring_lo n; have := ring_hi n; simp; omega
  · simp [ring_of h]
theorem rv_ge {n : Int} (b : Bool) (h : rv n = b) : (decide (n ≥ 0) && decide (n ≤ 4095)) = b := by
  subst h; unfold rv
  rw [← Bool.decide_and, decide_eq_decide]; omega

theorem toNat_and (n : Int) : (BitVec.ofInt 64 n &&& BitVec.ofInt 64 4095).toNat = (n % 4096).toNat := by
  have h1 : (BitVec.ofInt 64 4095).toNat = 2 ^ 12 - 1 := by decide
  rw [BitVec.toNat_and, h1, Nat.and_two_pow_sub_one_eq_mod, BitVec.toNat_ofInt]
  simp
  omega
theorem bits_4095 (n : Int) : bits .and .i64 n 4095 = ring n := by
  have := toNat_and n
  simp only [bits]
  show IntKind.i64.wrap ((BitVec.ofInt 64 n &&& BitVec.ofInt 64 4095).toNat : Int) = _
  rw [this, IntKind.wrap_i64]; unfold ring; omega
theorem wrap_ring (n : Int) : ring (IntKind.i64.wrap n) = ring n := by rw [IntKind.wrap_i64]; unfold ring; omega
theorem tmod_ring (n : Int) : Int.tmod (Int.tmod n 4096 + 4096) 4096 = ring n := by
  have h : -4096 < n.tmod 4096 ∧ n.tmod 4096 < 4096 ∧ (n.tmod 4096) % 4096 = n % 4096 := by
    rw [Int.tmod_eq_emod]; split <;> simp <;> omega
  unfold ring
  rw [Int.tmod_eq_emod_of_nonneg (by omega)]
  omega
theorem ring_wrap64 (n : Int) : ring (wrap64 n) = ring n := by unfold wrap64 ring; omega
theorem tmod_ring64 (n : Int) : Int.tmod (wrap64 (Int.tmod n 4096 + 4096)) 4096 = ring n := by
  have h : -4096 < n.tmod 4096 ∧ n.tmod 4096 < 4096 := by
    rw [Int.tmod_eq_emod]; split <;> simp <;> omega
  rw [show wrap64 (Int.tmod n 4096 + 4096) = Int.tmod n 4096 + 4096 by unfold wrap64; omega]
  exact tmod_ring n

/-- The sum, the difference, the product of two ring numbers; -1 for other numbers. -/
def addR (a b : Int) : Int := if rv a = true ∧ rv b = true then ring (a + b) else -1
def subR (a b : Int) : Int := if rv a = true ∧ rv b = true then ring (a - b) else -1
def mulR (a b : Int) : Int := if rv a = true ∧ rv b = true then ring (a * b) else -1
end Go.Proofs.Ytjoomdihjffmlaa
