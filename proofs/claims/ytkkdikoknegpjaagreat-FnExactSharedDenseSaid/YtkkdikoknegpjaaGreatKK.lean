/- Shared matrices that are drawn from a code. -/
import Derived.Test.YtkkdikoknegpjaaGreatMatD
import Derived.Test.YtkkdikoknegpjaaGreatKG
import Derived.Test.YtkkdikoknegpjaaGreatSPair
import Derived.Test.YtkkdikoknegpjaaGreatTriT
import Derived.Test.YtkkdikoknegpjaaGreatQE
import Derived.Test.YtkkdikoknegpjaaGreatQF
namespace Go.Proofs.YtkkdikoknegpjaaGreat
set_option linter.unusedSimpArgs false
set_option linter.unusedVariables false
open Go.RowKit
/-- A new matrix, its list from B on. -/
def matV {n0 m : Nat} {rs : List Nat} {Ts : List TypeId} (hT : 3 ∉ Ts) (r c : Int) (xs : List Int) : OpSpec (XS n0 rs Ts) m :=
  ⟨[], fun _ u _ _ w => ∃ v, u = .agg #[.int .i64 r, .int .i64 c, v] ∧ Own n0 w v xs, fun _ _ _ _ _ _ _ _ _ hx ⟨v, h1, h2⟩ => ⟨v, h1, h2.xs hx (Nat.le_refl _) hT⟩⟩
/-- Nothing is asked. -/
def anyV {X : World → World → Prop} {m : Nat} : OpSpec X m := ⟨[], fun _ _ _ _ _ => True, fun _ _ _ _ _ _ _ _ _ _ h => h⟩
end Go.Proofs.YtkkdikoknegpjaaGreat
namespace Go.Proofs.YtkkdikoknegpjaaGreat
set_option linter.unusedSimpArgs false
set_option linter.unusedVariables false
open Go.RowKit
end Go.Proofs.YtkkdikoknegpjaaGreat
namespace Go.Proofs.YtkkdikoknegpjaaGreat
set_option linter.unusedSimpArgs false
set_option linter.unusedVariables false
open Go.RowKit
end Go.Proofs.YtkkdikoknegpjaaGreat
