/- Lists of different calls lie apart; new matrices in drawn regions. -/
import Derived.Test.YtjoomdihjffmlaaMat2
import Derived.Test.YtjoomdihjffmlaaRgnM
namespace Go.Proofs.Ytjoomdihjffmlaa
set_option linter.unusedSimpArgs false
set_option linter.unusedVariables false
open Go.RowKit
theorem apart {B : Nat} {w w' : World} {v u : Value} {xs ys : List Int} (h : Own B w v xs) (k : Own w.heap.size w' u ys) : (∀ q, u.ownBlock = some q → v.ownBlock ≠ some q) ∧ (∀ q, v.ownBlock = some q → u.ownBlock ≠ some q) := by
  refine ⟨fun q h1 h2 => ?_, fun q h2 h1 => ?_⟩ <;>
  · have a := (k.block q h1).1
    have b := (h.block q h2).2
    omega
/-- A matrix with these values. -/
def MatIs (r c : Int) (xs : List Int) (u : Value) (w : World) : Prop := ∃ v, u = .agg #[.int .i64 r, .int .i64 c, v] ∧ Own 0 w v xs
def matS {n0 : Nat} (r c : Int) (xs : List Int) : OpSpec Ext n0 :=
  ⟨[], fun _ u _ _ w => MatIs r c xs u w, fun _ _ _ _ _ _ _ _ _ hx ⟨v, h1, h2⟩ => ⟨v, h1, h2.keep hx⟩⟩
/-- A call that leaves a matrix with these sides and values. -/
def MkPost (r c : Int) (xs : List Int) (w : World) (e : Ending) (w' : World) : Prop := ∃ v, e = .returned (.agg #[.int .i64 r, .int .i64 c, v]) ∧ Own w.heap.size w' v xs ∧ Ext w w'
theorem MatPost.mk' {m : Mat} {w : World} {e : Ending} {w' : World} (h : MatPost m w e w') : MkPost m.r m.c m.xs w e w' := h
end Go.Proofs.Ytjoomdihjffmlaa
