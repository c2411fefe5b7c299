/- Shared matrices: small laws of memory; copies; sums of shares; whether they are valid. -/
import Derived.Test.YtpbnbhiffnnliaaSPair
import Derived.Test.YtpbnbhiffnnliaaKE
namespace Go.Proofs.Ytpbnbhiffnnliaa
set_option linter.unusedSimpArgs false
set_option linter.unusedVariables false
open Go.RowKit
/-- A call that leaves a new shared matrix. -/
def ShPost (m : ShM) (w : World) (e : Ending) (w' : World) : Prop :=
  ∃ v1 v2, e = .returned (.agg #[.int .i64 m.f.r, .int .i64 m.f.c, v1, .int .i64 m.s.r, .int .i64 m.s.c, v2]) ∧ Own w.heap.size w' v1 m.f.xs ∧ Own w.heap.size w' v2 m.s.xs ∧ Apt v1 v2 ∧ Ext w w'
/-- A new matrix of an operation in a drawn region: its list lies in what the operation has made. -/
def matR {n0 : Nat} (r c : Int) (xs : List Int) : OpSpec Ext n0 :=
  ⟨[], fun _ u lo up w => ∃ v, u = .agg #[.int .i64 r, .int .i64 c, v] ∧ Own lo w v xs ∧ ∀ q, v.ownBlock = some q → q < up, fun _ _ _ _ _ _ _ _ _ hx ⟨v, h1, h2, h3⟩ => ⟨v, h1, h2.keep hx, h3⟩⟩
theorem Apt.drawn {w w' : World} {v u : Value} {xs ys : List Int} {l1 u1 l2 u2 : Nat} (h : Own l1 w v xs) (hb : ∀ q, v.ownBlock = some q → q < u1) (k : Own l2 w' u ys) (kb : ∀ q, u.ownBlock = some q → q < u2) (ha : u1 ≤ l2 ∨ u2 ≤ l1) : Apt v u := by
  refine ⟨fun q h1 h2 => ?_, fun q h2 h1 => ?_⟩ <;>
  · have a := hb q h2
    have b := (h.block q h2).1
    have c := kb q h1
    have d := (k.block q h1).1
    omega

end Go.Proofs.Ytpbnbhiffnnliaa
