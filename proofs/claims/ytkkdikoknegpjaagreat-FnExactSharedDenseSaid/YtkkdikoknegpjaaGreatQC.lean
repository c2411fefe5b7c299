/- The program's MakeTriple; the law's own comparison of triples; the seed that is drawn for it. -/
import Derived.Test.YtkkdikoknegpjaaGreatQB
import Derived.Test.YtkkdikoknegpjaaGreatKZ
import Derived.Test.YtkkdikoknegpjaaGreatMkTab
import Derived.Test.YtkkdikoknegpjaaGreatUTab
import Derived.Test.YtkkdikoknegpjaaGreatKN
import Derived.Test.YtkkdikoknegpjaaGreatQA
namespace Go.Proofs.YtkkdikoknegpjaaGreat
set_option linter.unusedSimpArgs false
set_option linter.unusedVariables false
open Go.RowKit
end Go.Proofs.YtkkdikoknegpjaaGreat

namespace Go.Proofs.YtkkdikoknegpjaaGreat
set_option linter.unusedSimpArgs false
set_option linter.unusedVariables false
open Go.RowKit
end Go.Proofs.YtkkdikoknegpjaaGreat

namespace Go.Proofs.YtkkdikoknegpjaaGreat
set_option linter.unusedSimpArgs false
set_option linter.unusedVariables false
open Go.RowKit
/-- The slice v reads as xs, in a block from B on. -/
structure IntsF (B : Nat) (w : World) (v : Value) (xs : List Int) : Prop where
  ints : Ints w v xs
  from' : ∀ s n c, v = .slice (some s) n c → B ≤ s.block
  room : ∀ s n c, v = .slice s n c → n ≤ c
theorem IntsF.mono {B B' : Nat} {w : World} {v : Value} {xs : List Int} (h : IntsF B w v xs) (hB : B' ≤ B) : IntsF B' w v xs := ⟨h.ints, fun s n c e => Nat.le_trans hB (h.from' s n c e), h.room⟩
theorem IntsF.set {B : Nat} {w : World} {v : Value} {xs : List Int} (h : IntsF B w v xs) {b : Nat} (hb : b < B) (i : Nat) (u : Value) : IntsF B (w.setCell ⟨b, i, none⟩ u) v xs := by
  refine ⟨?_, h.from', h.room⟩
  obtain ⟨a, cap, hv, hm, hc⟩ := h.ints
  refine ⟨a, cap, hv, hm, fun j hj => ?_⟩
  obtain ⟨c, off, ha, hlt, hcell⟩ := hc j hj
  subst ha
  have hB := h.from' _ _ _ hv
  refine ⟨c, off, rfl, by simpa [World.setCell] using hlt, ?_⟩
  rw [World.cell?_of_block (a := ⟨c, off + j, none⟩) (Below.heap_setCell _ _ _ _ (by show c ≠ b; simp at hB; omega))]
  exact hcell
theorem IntsF.keep {B : Nat} {w w' : World} {v : Value} {xs : List Int} (h : IntsF B w v xs) (hx : Ext w w') : IntsF B w' v xs := ⟨h.ints.keep hx, h.from', h.room⟩
theorem IntsF.mod {B g : Nat} {w w' : World} {v : Value} {xs : List Int} (h : IntsF B w v xs) (m : Mod g w w') (hg : g < B) : IntsF B w' v xs := by
  refine ⟨?_, h.from', h.room⟩
  obtain ⟨a, cap, hv, hm, hc⟩ := h.ints
  refine ⟨a, cap, hv, hm, fun j hj => ?_⟩
  obtain ⟨c, off, ha, hlt, hcell⟩ := hc j hj
  subst ha
  have hB := h.from' _ _ _ hv
  refine ⟨c, off, rfl, Nat.lt_of_lt_of_le hlt m.size, ?_⟩
  rw [m.cells.1 c _ hlt (by simp at hB; omega)]
  exact hcell
/-- All but the first. -/
theorem Own.tail {B : Nat} {w : World} {g n cap : Nat} {xs : List Int} (h : Own B w (.slice (some ⟨g, 0, none⟩) n cap) xs) (hn : xs.length = n) (h1 : 1 ≤ n) (c : Nat) (hc : n - 1 ≤ c) : IntsF B w (.slice (some ⟨g, 1, none⟩) (n - 1) c) (xs.drop 1) := by
  have hl := h.len
  refine ⟨⟨_, c, by simp [hn], by simp; omega, fun i hi => ⟨g, 1, rfl, (h.block g rfl).2, ?_⟩⟩, ?_, ?_⟩
  · rw [List.length_drop] at hi
    have := (h.cell hn (1 + i) (by omega)).1
    rw [this]
    simp [Nat.add_comm]
  · intro s n c e; cases e; exact (h.block g rfl).1
  intro s n c e; cases e; exact hc
end Go.Proofs.YtkkdikoknegpjaaGreat
