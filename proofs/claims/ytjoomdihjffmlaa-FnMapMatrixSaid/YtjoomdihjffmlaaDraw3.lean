/- Shares and seeds that are drawn from a code. -/
import Derived.Test.YtjoomdihjffmlaaDraw2
namespace Go.Proofs.Ytjoomdihjffmlaa
set_option linter.unusedSimpArgs false
set_option linter.unusedVariables false
open Go.RowKit
/-- A pair of shares. -/
def IsSh (v : Value) : Prop := ∃ a b : Int, v = .agg #[.int .i64 a, .int .i64 b] ∧ In40 a ∧ In40 b

end Go.Proofs.Ytjoomdihjffmlaa
