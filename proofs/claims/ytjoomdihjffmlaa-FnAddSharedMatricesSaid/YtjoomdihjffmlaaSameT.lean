/- Whether lists and matrices are equal. -/
import Derived.Test.YtjoomdihjffmlaaPairT
namespace Go.Proofs.Ytjoomdihjffmlaa
set_option linter.unusedSimpArgs false
set_option linter.unusedVariables false
open Go.RowKit
theorem ne_at {xs ys : List Int} {k : Nat} (h : xs.getD k 0 ≠ ys.getD k 0) : xs ≠ ys := fun e => h (by rw [e])

end Go.Proofs.Ytjoomdihjffmlaa
