/- The program's MakeTriple; the law's own comparison of triples; the seed that is drawn for it. -/
import Derived.Test.YtkkdikoknegpjaaKY
import Derived.Test.YtkkdikoknegpjaaKZ
namespace Go.Proofs.Ytkkdikoknegpjaa
set_option linter.unusedSimpArgs false
set_option linter.unusedVariables false
open Go.RowKit

end Go.Proofs.Ytkkdikoknegpjaa
