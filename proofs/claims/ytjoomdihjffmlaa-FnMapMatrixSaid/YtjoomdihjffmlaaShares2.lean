/- The contracts of a shared number with a known one, of triples: what each returns, for all whole numbers; nothing that was in memory turns. -/
import Derived.Test.YtjoomdihjffmlaaShares
namespace Go.Proofs.Ytjoomdihjffmlaa
set_option linter.unusedSimpArgs false
set_option linter.unusedVariables false
open Go.RowKit
def okT (a b c d e f : Int) : Bool := rv a && rv b && (rv c && rv d && (rv e && rv f))
/-- The product of what is shared. -/
def prodT (a b c d : Int) : Int := mulR (addR a b) (addR c d)
def triR (a b c d e f : Int) : Bool := okT a b c d e f && (addR e f == prodT a b c d)

end Go.Proofs.Ytjoomdihjffmlaa
