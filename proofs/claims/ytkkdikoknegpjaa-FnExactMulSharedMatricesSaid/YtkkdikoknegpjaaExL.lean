/- Groups of the laws' own functions on single matrices. -/
import Derived.Test.YtkkdikoknegpjaaKF
import Derived.Test.YtkkdikoknegpjaaKE
namespace Go.Proofs.Ytkkdikoknegpjaa
set_option linter.unusedSimpArgs false
set_option linter.unusedVariables false
open Go.RowKit
theorem MatPost.grp {m : Mat} {w : World} {e : Ending} {w' : World} (h : MatPost m w e w') : ∃ v, e = .returned (.agg #[.int .i64 m.r, .int .i64 m.c, v]) ∧ Grp w.heap.size w' [v] [m.xs] ∧ Ext w w' := by
  obtain ⟨v, h1, h2, h3⟩ := h
  exact ⟨v, h1, Grp.one h2, h3⟩
/-- An operation in a drawn region that leaves a struct of 1 new matrices. -/
def grpR1 {n0 : Nat} (r0 c0 : Int) (x0 : List Int) : OpSpec Ext n0 :=
  ⟨[], fun _ u lo up w => ∃ v0, u = .agg #[.int .i64 r0, .int .i64 c0, v0] ∧ Grp lo w [v0] [x0], fun _ _ _ _ _ _ _ _ _ hx ⟨v0, h1, h2⟩ => ⟨v0, h1, h2.keep hx⟩⟩
/-- An operation in a drawn region that leaves a struct of 2 new matrices. -/
def grpR2 {n0 : Nat} (r0 c0 r1 c1 : Int) (x0 x1 : List Int) : OpSpec Ext n0 :=
  ⟨[], fun _ u lo up w => ∃ v0 v1, u = .agg #[.int .i64 r0, .int .i64 c0, v0, .int .i64 r1, .int .i64 c1, v1] ∧ Grp lo w [v0, v1] [x0, x1], fun _ _ _ _ _ _ _ _ _ hx ⟨v0, v1, h1, h2⟩ => ⟨v0, v1, h1, h2.keep hx⟩⟩
theorem laws_markMatrixG (B : Nat) (r c : Int) (v : Value) (xs : List Int) (k : Int) (n : Nat) (hn : xs.length = n) (w : World) (h : Grp B w [v] [xs]) (h0 : 0 ≤ k) (hk : k + n ≤ 1099511627776) : Calls Try.prog 21 #[.agg #[.int .i64 r, .int .i64 c, v], .int .i64 k] w (MarkL B [v] k [n] w) :=
  (laws_markMatrix B r c v xs k n hn w h.own.1 h0 hk).mono fun e w' ⟨h1, h2, h3⟩ => ⟨by rw [h1]; simp [totL], Grp.one h2, h3.toL⟩
theorem laws_heldMatrixG (r c : Int) (v : Value) (k : Int) (n : Nat) (w : World) (h : IntsL w [v] (marksL k [n])) (h0 : 0 ≤ k) (hk : k + n ≤ 1099511627776) : Calls Try.prog 23 #[.agg #[.int .i64 r, .int .i64 c, v], .int .i64 k] w fun e w' => e = .returned (.int .i64 (k + totL [n])) ∧ Ext w w' :=
  (laws_heldMatrix r c v k n w h.1 h0 hk).mono fun e w' ⟨h1, h2⟩ => ⟨by rw [h1]; simp [totL], h2⟩
end Go.Proofs.Ytkkdikoknegpjaa
