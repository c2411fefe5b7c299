/- Plain laws of the shared product: joined it is the product of both numbers; the order of both does not matter. No program in sight. -/
import Derived.Test.YtbkallacblkmpaaMul
namespace Go.Proofs.Ytbkallacblkmpaa
set_option linter.unusedSimpArgs false
set_option linter.unusedVariables false
open Go.RowKit

theorem growM (x : Int) : ∃ k, ring x = x + 4096 * k := ⟨-(x / 4096), by unfold ring; omega⟩
theorem ring_off (x k : Int) : ring (x + 4096 * k) = ring x := by unfold ring; omega
theorem ring_ring2 (x y : Int) : ring (ring x + ring y) = ring (x + y) := by unfold ring; omega
theorem ring_sub2 (x y : Int) : ring (ring x - ring y) = ring (x - y) := by unfold ring; omega
theorem ring_mul2 (x y : Int) : ring (ring x * ring y) = ring (x * y) := by
  obtain ⟨k1, h1⟩ := growM x
  obtain ⟨k2, h2⟩ := growM y
  rw [h1, h2, ← ring_off (x * y) (x * k2 + y * k1 + 4096 * k1 * k2)]
  congr 1
  grind
theorem mul_ring {X Y A B C D E : Int} (hD : D = ring (X - A)) (hE : E = ring (Y - B)) (hC : ring C = ring (A * B)) : ring (C + D * B + E * A + D * E) = ring (X * Y) := by
  obtain ⟨k1, h1⟩ := growM (X - A)
  obtain ⟨k2, h2⟩ := growM (Y - B)
  obtain ⟨k3, h3⟩ := growM C
  obtain ⟨k4, h4⟩ := growM (A * B)
  rw [hD, hE, h1, h2]
  have hc : C = A * B + 4096 * (k4 - k3) := by omega
  rw [← ring_off (X * Y) (k4 - k3 + X * k2 + Y * k1 + 4096 * k1 * k2)]
  congr 1
  rw [hc]
  grind
theorem okM_parts {x y u v a b c d e f : Int} (h : okM x y u v a b c d e f = true) : rv x = true ∧ rv y = true ∧ rv u = true ∧ rv v = true ∧ rv a = true ∧ rv b = true ∧ rv c = true ∧ rv d = true ∧ rv e = true ∧ rv f = true ∧ addR e f = mulR (addR a b) (addR c d) := by
  simp only [okM, triR, okT, prodT, Bool.and_eq_true, beq_iff_eq] at h
  obtain ⟨⟨h1, h2⟩, ⟨h3, h4⟩, ⟨⟨h5, h6⟩, ⟨h7, h8⟩, h9, h10⟩, h11⟩ := h
  exact ⟨h1, h2, h3, h4, h5, h6, h7, h8, h9, h10, h11⟩
/-- Joined it is the product. -/
theorem join_mul {x y u v a b c d e f : Int} (h : okM x y u v a b c d e f = true) : addR (mulF x y u v a b c d e f) (mulL x y u v a b c d e f) = mulR (addR x y) (addR u v) := by
  obtain ⟨h1, h2, h3, h4, h5, h6, h7, h8, h9, h10, h11⟩ := okM_parts h
  have hD : opX x y a b = ring ((x + y) - (a + b)) := by simp only [opX, addR_ok, subR_ok, rv_ring, h1, h2, h5, h6, ring_sub2]
  have hE : opX u v c d = ring ((u + v) - (c + d)) := by simp only [opX, addR_ok, subR_ok, rv_ring, h3, h4, h7, h8, ring_sub2]
  have hC : ring (e + f) = ring ((a + b) * (c + d)) := by
    have : mulR (addR a b) (addR c d) = ring (ring (a + b) * ring (c + d)) := by simp [mulR, addR_ok, rv_ring, h5, h6, h7, h8]
    rw [this, ring_mul2, addR_ok h9 h10] at h11
    exact h11
  simp only [mulF, mulL, h, if_true, addR_ok, rv_ring, h1, h2, h3, h4]
  rw [ring_ring2, show mulR (ring (x + y)) (ring (u + v)) = ring (ring (x + y) * ring (u + v)) by simp [mulR, rv_ring], ring_mul2, ← mul_ring hD hE hC]
  congr 1
  grind
/-- Exchanged numbers. -/
theorem okM_swap (x y u v a b c d e f : Int) : okM u v x y a b c d e f = okM x y u v a b c d e f := by
  unfold okM
  cases rv x <;> cases rv y <;> cases rv u <;> cases rv v <;> simp
theorem mulR_swap (x y : Int) : mulR x y = mulR y x := by
  cases hx : rv x <;> cases hy : rv y <;> simp [mulR, hx, hy, Int.mul_comm]
theorem join_swap {x y u v a b c d e f : Int} (h : okM x y u v a b c d e f = true) : addR (mulF u v x y a b c d e f) (mulL u v x y a b c d e f) = addR (mulF x y u v a b c d e f) (mulL x y u v a b c d e f) := by
  rw [join_mul h, join_mul (by rw [okM_swap]; exact h), mulR_swap]
end Go.Proofs.Ytbkallacblkmpaa
