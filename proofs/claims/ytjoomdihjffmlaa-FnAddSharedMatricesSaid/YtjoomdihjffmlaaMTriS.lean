/- Made triples of shared matrices: the reference. -/
import Derived.Test.YtjoomdihjffmlaaMTriD
import Derived.Test.YtjoomdihjffmlaaKF
namespace Go.Proofs.Ytjoomdihjffmlaa
set_option linter.unusedSimpArgs false
set_option linter.unusedVariables false
open Go.RowKit

end Go.Proofs.Ytjoomdihjffmlaa
