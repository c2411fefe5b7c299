/- The contracts of MapMatrix. -/
import Derived.Test.YtkkdikoknegpjaaGreatKD
import Derived.Test.YtkkdikoknegpjaaGreatKN
import Derived.Test.YtkkdikoknegpjaaGreatQA
namespace Go.Proofs.YtkkdikoknegpjaaGreat
set_option linter.unusedSimpArgs false
set_option linter.unusedVariables false
open Go.RowKit
/-- A new slice of one integer. -/
def oneS {n0 : Nat} (c : Int) : OpSpec Ext n0 := ⟨[], fun _ u lo up w => u = .slice (some ⟨lo, 0, none⟩) 1 1 ∧ up = lo + 1 ∧ Blk w lo #[.int .i64 c] 3, fun _ _ _ _ _ _ _ _ _ hx ⟨h1, h2, h3⟩ => ⟨h1, h2, h3.keep hx⟩⟩
/-- MapMatrix. -/
def mapM (k r c : Int) (xs : List Int) : Mat := if (fKnown k && mOk r c xs) = true then ⟨r, c, mapTo (fun i => fAt k (xs.getD i 0)) xs.length⟩ else matZ
/-- The place of a list's number, its length known otherwise. -/
theorem at_len {w : World} {s : Option Addr} {k L : Nat} {xs : List Int} (h : Ints w (.slice s L k) xs) (hL : xs.length = L) {n : Nat} (hn : n < L) : ∃ b off, s = some ⟨b, off, none⟩ ∧ b < w.heap.size ∧ w.cell? ⟨b, off + n, none⟩ = some (.int .i64 (xs.getD n 0)) := by
  obtain ⟨a, c, e, _, hc⟩ := h
  simp at e
  obtain ⟨rfl, _, rfl⟩ := e
  exact hc n (by omega)
end Go.Proofs.YtkkdikoknegpjaaGreat
