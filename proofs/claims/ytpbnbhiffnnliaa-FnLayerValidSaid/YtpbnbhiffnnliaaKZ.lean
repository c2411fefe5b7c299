/- Seeds and triples that are drawn from a code. -/
import Derived.Test.YtpbnbhiffnnliaaKC
import Derived.Test.YtpbnbhiffnnliaaRand
import Derived.Test.YtpbnbhiffnnliaaPairT
namespace Go.Proofs.Ytpbnbhiffnnliaa
set_option linter.unusedSimpArgs false
set_option linter.unusedVariables false
open Go.RowKit
set_option maxHeartbeats 2000000 in
theorem odd0 (g P : Nat) (hp : Room (P + 1)) (w : World) (hr : Rdr g P w) : Calls Try.prog 23 #[.pointer (some ⟨g, 0, none⟩), .int .i64 0] w fun e w' => e = .returned (.bool false) ∧ w' = w := by
  go_enter Try.func23, Try.ntmps23
  go_wp2_with (fail)
  go_ret
  exact ⟨rfl, rfl⟩
/-- A number; a seed, where no invalid one was asked for. -/
def IsSd (n : Int) (v : Value) : Prop := ∃ x : Int, v = .int .i64 x ∧ (n = 0 → Seed x)
theorem pick_of {g : Nat} {w w' : World} (m : Mod g w w') {b : Nat} {cs : Array Value} {T : TypeId} (k : Blk w b cs T) (hne : b ≠ g) : Blk w' b cs T := m.blk k hne

/-- The slices of a valid seed. -/
theorem seed_at {w : World} {b z : Nat} {T : TypeId} {u : Int} (hu : 1 ≤ u) (hu' : u ≤ 2147483646) (k : Blk w b #[.int .i64 u, .int .i64 1, .int .i64 2147483646] T) (hz : z ≤ 2) : ∃ x : Int, w.cell? ⟨b, z, none⟩ = some (.int .i64 x) ∧ Seed x := by
  have hz' : z = 0 ∨ z = 1 ∨ z = 2 := by omega
  rw [k.cell]
  rcases hz' with rfl | rfl | rfl
  · exact ⟨u, rfl, ⟨hu, hu'⟩⟩
  · exact ⟨1, rfl, ⟨by omega, by omega⟩⟩
  · exact ⟨2147483646, rfl, ⟨by omega, by omega⟩⟩

end Go.Proofs.Ytpbnbhiffnnliaa
namespace Go.Proofs.Ytpbnbhiffnnliaa
set_option linter.unusedSimpArgs false
set_option linter.unusedVariables false
open Go.RowKit
/-- A side. -/
def IsSide (v : Value) : Prop := ∃ n : Nat, v = .int .i64 n ∧ Side n

end Go.Proofs.Ytpbnbhiffnnliaa
