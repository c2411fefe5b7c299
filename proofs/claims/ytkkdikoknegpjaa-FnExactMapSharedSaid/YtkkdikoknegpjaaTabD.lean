/- Tables that are drawn from a code. -/
import Derived.Test.YtkkdikoknegpjaaMkTab
import Derived.Test.YtkkdikoknegpjaaKN
import Derived.Test.YtkkdikoknegpjaaKZ
import Derived.Test.YtkkdikoknegpjaaKB
namespace Go.Proofs.Ytkkdikoknegpjaa
set_option linter.unusedSimpArgs false
set_option linter.unusedVariables false
open Go.RowKit
theorem rv_fAt' {k x : Int} (hk : fKnown k = true) (hx : rv x = true) : rv (fAt k x) = true := by
  have hs := sgn_bd hx
  unfold fAt
  rw [if_pos ⟨hx, hk⟩]
  split
  · exact rv_ring _
  · rw [rv_iff]
    split
    · omega
    · split
      · split <;> omega
      · split
        · unfold grow; repeat' split
          all_goals omega
        · split
          · omega
          · have h1 : 0 < sgn x := by omega
            have h2 : 0 ≤ 256 / sgn x := Int.ediv_nonneg (by omega) (by omega)
            have h3 : 256 / sgn x ≤ 256 := Int.ediv_le_self _ (by omega)
            omega
theorem good_fVals {k : Int} (hk : fKnown k = true) : goodL (fVals k) = true := by
  have e : fVals k = valsTo k 4096 := by rw [fVals, if_pos hk]
  rw [e]
  simp only [goodL, valsTo_len, Bool.and_eq_true, decide_eq_true_eq, List.all_eq_true]
  refine ⟨fun x hx => ?_, by omega⟩
  simp only [valsTo, List.mem_map, List.mem_range] at hx
  obtain ⟨i, hi, rfl⟩ := hx
  exact rv_fAt' hk (by rw [rv_iff]; omega)
/-- The slice v reads as xs, in a block from B on. -/
structure IntsF (B : Nat) (w : World) (v : Value) (xs : List Int) : Prop where
  ints : Ints w v xs
  from' : ∀ s n c, v = .slice (some s) n c → B ≤ s.block
  room : ∀ s n c, v = .slice s n c → n ≤ c
theorem IntsF.mono {B B' : Nat} {w : World} {v : Value} {xs : List Int} (h : IntsF B w v xs) (hB : B' ≤ B) : IntsF B' w v xs := ⟨h.ints, fun s n c e => Nat.le_trans hB (h.from' s n c e), h.room⟩
theorem IntsF.set {B : Nat} {w : World} {v : Value} {xs : List Int} (h : IntsF B w v xs) {b : Nat} (hb : b < B) (i : Nat) (u : Value) : IntsF B (w.setCell ⟨b, i, none⟩ u) v xs := by
  refine ⟨?_, h.from', h.room⟩
  obtain ⟨a, cap, hv, hm, hc⟩ := h.ints
  refine ⟨a, cap, hv, hm, fun j hj => ?_⟩
  obtain ⟨c, off, ha, hlt, hcell⟩ := hc j hj
  subst ha
  have hB := h.from' _ _ _ hv
  refine ⟨c, off, rfl, by simpa [World.setCell] using hlt, ?_⟩
  rw [World.cell?_of_block (a := ⟨c, off + j, none⟩) (Below.heap_setCell _ _ _ _ (by show c ≠ b; simp at hB; omega))]
  exact hcell
theorem IntsF.keep {B : Nat} {w w' : World} {v : Value} {xs : List Int} (h : IntsF B w v xs) (hx : Ext w w') : IntsF B w' v xs := ⟨h.ints.keep hx, h.from', h.room⟩
theorem IntsF.mod {B g : Nat} {w w' : World} {v : Value} {xs : List Int} (h : IntsF B w v xs) (m : Mod g w w') (hg : g < B) : IntsF B w' v xs := by
  refine ⟨?_, h.from', h.room⟩
  obtain ⟨a, cap, hv, hm, hc⟩ := h.ints
  refine ⟨a, cap, hv, hm, fun j hj => ?_⟩
  obtain ⟨c, off, ha, hlt, hcell⟩ := hc j hj
  subst ha
  have hB := h.from' _ _ _ hv
  refine ⟨c, off, rfl, Nat.lt_of_lt_of_le hlt m.size, ?_⟩
  rw [m.cells.1 c _ hlt (by simp at hB; omega)]
  exact hcell
theorem Own.intsF {B : Nat} {w : World} {v : Value} {xs : List Int} (h : Own B w v xs) : IntsF B w v xs := by
  refine ⟨h.ints, fun s n c e => ?_, fun s n c e => ?_⟩
  · obtain ⟨_, ⟨h2, _⟩ | ⟨g, cap, cur, hv, hg, _⟩⟩ := h
    · rw [h2] at e; cases e
    · rw [hv] at e; cases e; exact hg
  · obtain ⟨_, ⟨h2, _⟩ | ⟨g, cap, cur, hv, hg, _, hn, _⟩⟩ := h
    · rw [h2] at e; cases e; exact Nat.le_refl _
    · rw [hv] at e; cases e; exact hn
/-- A table whose lists lie from B on. -/
def IsTab (B : Nat) (w : World) (v : Value) : Prop := ∃ (a b : Int) (xs ys : List Int) (v1 v2 : Value), v = .agg #[.int .i64 a, .int .i64 b, v1, v2] ∧ IntsF B w v1 xs ∧ IntsF B w v2 ys
theorem Own.modO {B g : Nat} {w w' : World} {v : Value} {xs : List Int} (h : Own B w v xs) (m : Mod g w w') (hne : v.ownBlock ≠ some g) : Own B w' v xs := by
  obtain ⟨h1, h2⟩ := h
  refine ⟨h1, h2.imp id ?_⟩
  rintro ⟨k, cap, cur, rfl, hg, hh, r⟩
  exact ⟨k, cap, cur, rfl, hg, by rw [m.block k (lt_of_block hh) (fun e => hne (by simp [Value.ownBlock, e]))]; exact hh, r⟩
/-- All but the first. -/
theorem Own.tail {B : Nat} {w : World} {g n cap : Nat} {xs : List Int} (h : Own B w (.slice (some ⟨g, 0, none⟩) n cap) xs) (hn : xs.length = n) (h1 : 1 ≤ n) (c : Nat) (hc : n - 1 ≤ c) : IntsF B w (.slice (some ⟨g, 1, none⟩) (n - 1) c) (xs.drop 1) := by
  have hl := h.len
  refine ⟨⟨_, c, by simp [hn], by simp; omega, fun i hi => ⟨g, 1, rfl, (h.block g rfl).2, ?_⟩⟩, ?_, ?_⟩
  · rw [List.length_drop] at hi
    have := (h.cell hn (1 + i) (by omega)).1
    rw [this]
    simp [Nat.add_comm]
  · intro s n c e; cases e; exact (h.block g rfl).1
  · intro s n c e; cases e; exact hc
theorem mk_parts {vs : List Int} {s : Int} (h : mkOk vs s = true) : (mtF vs s).length = 4096 ∧ (mtS vs s).length = 4096 := by simp [mtF, mtS, h, rlist_len, secL_len]

def tabM {m : Nat} (g : Nat) : OpSpec (Mod g) m := ⟨[], fun _ u _ _ w => ∃ B, g < B ∧ m ≤ B ∧ IsTab B w u, fun _ _ _ _ _ _ _ _ _ hx ⟨B, h1, h2, a, b, xs, ys, v1, v2, e, i1, i2⟩ => ⟨B, h1, h2, a, b, xs, ys, v1, v2, e, i1.mod hx h1, i2.mod hx h1⟩⟩

end Go.Proofs.Ytkkdikoknegpjaa
