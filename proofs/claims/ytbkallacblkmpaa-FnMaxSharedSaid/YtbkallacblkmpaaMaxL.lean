/- Plain law: MaxShared returns the greater number. No program in sight. -/
import Derived.Test.YtbkallacblkmpaaMaxT
namespace Go.Proofs.Ytbkallacblkmpaa
set_option linter.unusedSimpArgs false
set_option linter.unusedVariables false
open Go.RowKit
theorem max_law {x y p q s : Int} (h : lsOk x y p q s = true) : ∃ X Y Z : Int, addR x y = X ∧ addR p q = Y ∧ rv X = true ∧ rv Y = true ∧ addR (mxF x y p q s) (mxL x y p q s) = Z ∧ rv Z = true ∧
    (2 * (sgn X - sgn Y) < 4096 → 2 * (sgn Y - sgn X) < 4096 → sgn Z = if sgn X < sgn Y then sgn Y else sgn X) ∧ mxN x y p q s ≠ 0 ∧ (mxO x y p q s).length = 3 := by
  have h1 : (rv x && rv y) = true := by simp only [lsOk, Bool.and_eq_true] at h ⊢; exact h.1.1
  have h2 : (rv p && rv q) = true := by simp only [lsOk, Bool.and_eq_true] at h ⊢; exact h.1.2
  have ok := mx_ok h
  obtain ⟨X, Y, J, aX, aY, rX, rY, rFL, aJ, cJ, nJ, n0, c0, sN⟩ := less_law h
  obtain ⟨rs, js⟩ := sub_join h2 h1
  rw [aX, aY] at js
  have jm := join_mul ok
  have rG : rv (mxG x y p q s) = true := by simp only [mxG, mulF, ok, if_true, rv_ring]
  have rH : rv (mxH x y p q s) = true := by simp only [mxH, mulL, ok, if_true, rv_ring]
  have rGH : (rv (mxG x y p q s) && rv (mxH x y p q s)) = true := by rw [rG, rH]; rfl
  have eZ := join_add' h1 rGH
  have eG : addR (mxG x y p q s) (mxH x y p q s) = ring (J * ring (Y - X)) := by
    have : addR (mxG x y p q s) (mxH x y p q s) = mulR (addR (lsF x y p q s) (lsL x y p q s)) (addR (subF p q x y) (subL p q x y)) := jm
    rw [this, aJ, js]
    have rJ : rv J = true := by rcases cJ with rfl | rfl <;> rfl
    simp only [mulR, rJ, rv_ring]
    rfl
  rw [aX, eG, addR_ok rX (rv_ring _)] at eZ
  have rX' := rX
  have rY' := rY
  rw [rv_iff] at rX' rY'
  rw [max_near (by omega) (by omega) J cJ] at eZ
  refine ⟨X, Y, if J = 1 then Y else X, aX, aY, rX, rY, ?_, ?_, ?_, ?_, ?_⟩
  · rw [← eZ]; simp only [mxF, mxL, h, if_true]
  · split <;> assumption
  · intro d1 d2
    have := nJ d1 d2
    by_cases c : J = 1
    · rw [if_pos c, if_pos (this.1 c)]
    · rw [if_neg c, if_neg (fun k => c (this.2 k))]
  · simp only [mxN, h, if_true, tN, sN]
    have := (seed_of sN).strm 5
    have := this.lo
    omega
  · simp [mxO, h]
end Go.Proofs.Ytbkallacblkmpaa
