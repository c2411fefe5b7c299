/- Seeds and triples that are drawn from a code. -/
import Derived.Test.YtkkdikoknegpjaaGreatQA
import Derived.Test.YtkkdikoknegpjaaGreatQB
import Derived.Test.YtkkdikoknegpjaaGreatPairT
namespace Go.Proofs.YtkkdikoknegpjaaGreat
set_option linter.unusedSimpArgs false
set_option linter.unusedVariables false
open Go.RowKit
end Go.Proofs.YtkkdikoknegpjaaGreat
namespace Go.Proofs.YtkkdikoknegpjaaGreat
set_option linter.unusedSimpArgs false
set_option linter.unusedVariables false
open Go.RowKit
end Go.Proofs.YtkkdikoknegpjaaGreat
