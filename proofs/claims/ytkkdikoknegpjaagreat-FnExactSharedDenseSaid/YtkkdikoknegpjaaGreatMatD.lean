/- Matrices that are drawn from a code. -/
import Derived.Test.YtkkdikoknegpjaaGreatKF
import Derived.Test.YtkkdikoknegpjaaGreatKZ
import Derived.Test.YtkkdikoknegpjaaGreatQA
namespace Go.Proofs.YtkkdikoknegpjaaGreat
set_option linter.unusedSimpArgs false
set_option linter.unusedVariables false
open Go.RowKit
/-- A side, or one more. -/
structure Sd (n : Nat) : Prop where
  lo : 1 ≤ n
  hi : n ≤ 6
theorem Side.sd {n : Nat} (h : Side n) : Sd n := ⟨h.lo, Nat.le_trans h.hi (by decide)⟩
end Go.Proofs.YtkkdikoknegpjaaGreat
