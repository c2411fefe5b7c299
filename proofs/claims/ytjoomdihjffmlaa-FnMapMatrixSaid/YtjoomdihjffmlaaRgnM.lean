/- Regions that draw their order and read a code: specifications for their operations. -/
import Derived.Test.YtjoomdihjffmlaaRgnJ
import Derived.Test.YtjoomdihjffmlaaDraw2
namespace Go.Proofs.Ytjoomdihjffmlaa
set_option linter.unusedSimpArgs false
set_option linter.unusedVariables false
open Go.RowKit
theorem Mod.rel (g : Nat) : WRel (Mod g) where
  refl := Mod.refl g
  trans := Mod.trans
  size := Mod.size
  draw := fun w => Mod.of_ext ⟨rfl, rfl, rfl, Nat.le_refl _, fun _ _ => rfl⟩
theorem modeNe : (Region.Mode.any == Region.Mode.text) = false := rfl
/-- The value is as p says. -/
def isP {X : World → World → Prop} {n0 : Nat} (p : Value → Prop) : OpSpec X n0 := ⟨[], fun _ u _ _ _ => p u, fun _ _ _ _ _ _ _ _ _ _ h => h⟩
/-- A new slice of n cells. -/
def newS {g n0 : Nat} (hg : g < n0) (n : Nat) (cs : Array Value) (T : TypeId) : OpSpec (Mod g) n0 :=
  ⟨[], fun _ u lo up w => u = .slice (some ⟨lo, 0, none⟩) n n ∧ up = lo + 1 ∧ Blk w lo cs T, fun _ _ _ _ _ _ h0 _ _ hx ⟨h1, h2, h3⟩ => ⟨h1, h2, hx.blk h3 (by omega)⟩⟩
/-- The address of one of the n cells of such a slice. -/
def ixS {g n0 : Nat} (hg : g < n0) (n : Nat) (cs : Array Value) (T : TypeId) : OpSpec (Mod g) n0 :=
  ⟨[], fun _ u _ _ w => ∃ b x : Nat, u = .pointer (some ⟨b, x, none⟩) ∧ x < n ∧ n0 ≤ b ∧ Blk w b cs T, fun _ _ _ _ _ _ _ _ _ hx ⟨b, x, h1, h2, h3, h4⟩ => ⟨b, x, h1, h2, h3, hx.blk h4 (by omega)⟩⟩
/-- An integer below n. -/
def Lt (n : Int) (u : Value) : Prop := ∃ x : Nat, u = .int .i64 x ∧ (x : Int) < n
def AnInt (u : Value) : Prop := ∃ x : Int, u = .int .i64 x
theorem Blk.at {w : World} {b : Nat} {cs : Array Value} {T : TypeId} (h : Blk w b cs T) {n x : Nat} (hx : x < n) (hall : ∀ i : Nat, i < n → ∃ v : Int, cs[i]? = some (.int .i64 v)) : ∃ v : Int, w.cell? ⟨b, x, none⟩ = some (.int .i64 v) := by
  obtain ⟨v, hv⟩ := hall x hx
  exact ⟨v, by rw [h.cell]; exact hv⟩
end Go.Proofs.Ytjoomdihjffmlaa

