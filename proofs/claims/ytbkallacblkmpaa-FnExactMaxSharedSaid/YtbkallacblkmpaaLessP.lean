/- Plain laws of comparisons: what a table for 'less' tells; which number is the greater one. No program in sight. -/
import Derived.Test.YtbkallacblkmpaaMkTab
import Derived.Test.YtbkallacblkmpaaFnVals
namespace Go.Proofs.Ytbkallacblkmpaa
set_option linter.unusedSimpArgs false
set_option linter.unusedVariables false
open Go.RowKit

theorem sgn_or (x : Int) : (x < 2048 ∧ sgn x = x) ∨ (2048 ≤ x ∧ sgn x = x - 4096) := by unfold sgn; split <;> omega
theorem less_near {X Y : Int} (hX : 0 ≤ X ∧ X < 4096) (hY : 0 ≤ Y ∧ Y < 4096) (h1 : 2 * (sgn X - sgn Y) < 4096) (h2 : 2 * (sgn Y - sgn X) < 4096) : (sgn (ring (X - Y)) < 0) ↔ sgn X < sgn Y := by
  have a := sgn_or X
  have b := sgn_or Y
  have c := sgn_or (ring (X - Y))
  unfold ring at *
  omega
theorem max_near {X Y : Int} (hX : 0 ≤ X ∧ X < 4096) (hY : 0 ≤ Y ∧ Y < 4096) (b : Int) (hb : b = 0 ∨ b = 1) : ring (X + ring (b * ring (Y - X))) = if b = 1 then Y else X := by
  rcases hb with rfl | rfl
  · simp [ring]; omega
  · simp [ring]; omega
end Go.Proofs.Ytbkallacblkmpaa
