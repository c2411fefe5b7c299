import Derived.Test.YtkkdikoknegpjaaGreatQB
import Derived.Test.YtkkdikoknegpjaaGreatKZ
import Derived.Test.YtkkdikoknegpjaaGreatMkTab
import Derived.Test.YtkkdikoknegpjaaGreatUTab
import Derived.Test.YtkkdikoknegpjaaGreatKN
import Derived.Test.YtkkdikoknegpjaaGreatQA
namespace Go.Proofs.YtkkdikoknegpjaaGreat
set_option linter.unusedSimpArgs false
set_option linter.unusedVariables false
open Go.RowKit
theorem made_tab {vs : List Int} {s : Int} (h : mkOk vs s = true) : tabV (mtA vs s) (mtB vs s) (mtF vs s) (mtS vs s) = true := by
 have hA : mtA vs s = rnd s 0 := by simp [mtA, h]
 have hB : mtB vs s = rnd s 1 := by simp [mtB, h]
 have hF : mtF vs s = rlist (strm s 2) 4096 := by simp [mtF, h]
 have hS : mtS vs s = secL vs s 4096 := by simp [mtS, h]
 rw [hA, hB, hF, hS]
 have g1 : goodL (rlist (strm s 2) 4096) = true := by
  simp only [goodL, rlist_len, Bool.and_eq_true, decide_eq_true_eq, List.all_eq_true]
  refine ⟨fun x hx => ?_, by omega⟩
  simp only [rlist, List.mem_map, List.mem_range] at hx
  obtain ⟨i, _, rfl⟩ := hx
  exact rnd_rv _ _
 have g2 : goodL (secL vs s 4096) = true := by
  simp only [goodL, secL_len, Bool.and_eq_true, decide_eq_true_eq, List.all_eq_true]
  refine ⟨fun x hx => ?_, by omega⟩
  simp only [secL, List.mem_map, List.mem_range] at hx
  obtain ⟨i, _, rfl⟩ := hx
  exact rv_ring _
 simp [tabV, g1, g2, rnd_rv]
theorem made_look {vs : List Int} {s x y : Int} (h : mkOk vs s = true) (hx : (rv x && rv y) = true) : ∃ n m : Nat, addR x y = (n : Int) ∧ n < vs.length ∧ addR (n : Int) (addR (mtA vs s) (mtB vs s)) = (m : Int) ∧ addR ((mtF vs s).getD m 0) ((mtS vs s).getD m 0) = vs.getD n 0 := by
 have hg : goodL vs = true := by simp only [mkOk, Bool.and_eq_true] at h; exact h.1
 have hl := good_len hg
 simp only [Bool.and_eq_true] at hx
 have hA : mtA vs s = rnd s 0 := by simp [mtA, h]
 have hB : mtB vs s = rnd s 1 := by simp [mtB, h]
 have hF : mtF vs s = rlist (strm s 2) 4096 := by simp [mtF, h]
 have hS : mtS vs s = secL vs s 4096 := by simp [mtS, h]
 have a1 := ring_lo (x + y)
 have a2 := ring_hi (x + y)
 have hsh : addR (rnd s 0) (rnd s 1) = ring (rnd s 0 + rnd s 1) := addR_ok (rnd_rv s 0) (rnd_rv s 1)
 have b1 := ring_lo (ring (x + y) + ring (rnd s 0 + rnd s 1))
 have b2 := ring_hi (ring (x + y) + ring (rnd s 0 + rnd s 1))
 obtain ⟨n, hn⟩ := Int.eq_ofNat_of_zero_le a1
 obtain ⟨m, hm⟩ := Int.eq_ofNat_of_zero_le b1
 have hm4 : m < 4096 := by omega
 refine ⟨n, m, by rw [addR_ok hx.1 hx.2, hn], by omega, ?_, ?_⟩
 ·rw [hA, hB, hsh, ← hn, addR_ok (rv_ring _) (rv_ring _), hm]
 rw [hF, hS, rlist_get _ _ _ hm4, secL_get _ _ _ _ hm4]
 have e : ring ((m : Int) - shT s) = (n : Int) := by
  rw [shT, hsh, ← hm, ← hn]
  unfold ring; omega
 rw [sec_at e, addR_ok (rnd_rv _ _) (rv_ring _)]
 have hr := good_rv hg n (by omega)
 rw [rv_iff] at hr
 unfold ring; omega
theorem rv_fAt' {k x : Int} (hk : fKnown k = true) (hx : rv x = true) : rv (fAt k x) = true := by
 have hs := sgn_bd hx
 unfold fAt
 rw [if_pos ⟨hx, hk⟩]
 split
 ·exact rv_ring _
 rw [rv_iff]
 split
 ·omega
 split
 ·split <;> omega
 split
 ·unfold grow; repeat' split
  all_goals omega
 split
 ·omega
 have h1 : 0 < sgn x := by omega
 have h2 : 0 ≤ 256 / sgn x := Int.ediv_nonneg (by omega) (by omega)
 have h3 : 256 / sgn x ≤ 256 := Int.ediv_le_self _ (by omega)
 omega
theorem good_fVals {k : Int} (hk : fKnown k = true) : goodL (fVals k) = true := by
 have e : fVals k = valsTo k 4096 := by rw [fVals, if_pos hk]
 rw [e]
 simp only [goodL, valsTo_len, Bool.and_eq_true, decide_eq_true_eq, List.all_eq_true]
 refine ⟨fun x hx => ?_, by omega⟩
 simp only [valsTo, List.mem_map, List.mem_range] at hx
 obtain ⟨i, hi, rfl⟩ := hx
 exact rv_fAt' hk (by rw [rv_iff]; omega)
structure IntsF (B : Nat) (w : World) (v : Value) (xs : List Int) : Prop where
 ints : Ints w v xs
 from' : ∀ s n c, v = .slice (some s) n c → B ≤ s.block
 room : ∀ s n c, v = .slice s n c → n ≤ c
theorem IntsF.mono {B B' : Nat} {w : World} {v : Value} {xs : List Int} (h : IntsF B w v xs) (hB : B' ≤ B) : IntsF B' w v xs := ⟨h.ints, fun s n c e => Nat.le_trans hB (h.from' s n c e), h.room⟩
theorem IntsF.set {B : Nat} {w : World} {v : Value} {xs : List Int} (h : IntsF B w v xs) {b : Nat} (hb : b < B) (i : Nat) (u : Value) : IntsF B (w.setCell ⟨b, i, none⟩ u) v xs := by
 refine ⟨?_, h.from', h.room⟩
 obtain ⟨a, cap, hv, hm, hc⟩ := h.ints
 refine ⟨a, cap, hv, hm, fun j hj => ?_⟩
 obtain ⟨c, off, ha, hlt, hcell⟩ := hc j hj
 subst ha
 have hB := h.from' _ _ _ hv
 refine ⟨c, off, rfl, by simpa [World.setCell] using hlt, ?_⟩
 rw [World.cell?_of_block (a := ⟨c, off + j, none⟩) (Below.heap_setCell _ _ _ _ (by show c ≠ b; simp at hB; omega))]
 exact hcell
theorem IntsF.keep {B : Nat} {w w' : World} {v : Value} {xs : List Int} (h : IntsF B w v xs) (hx : Ext w w') : IntsF B w' v xs := ⟨h.ints.keep hx, h.from', h.room⟩
theorem IntsF.mod {B g : Nat} {w w' : World} {v : Value} {xs : List Int} (h : IntsF B w v xs) (m : Mod g w w') (hg : g < B) : IntsF B w' v xs := by
 refine ⟨?_, h.from', h.room⟩
 obtain ⟨a, cap, hv, hm, hc⟩ := h.ints
 refine ⟨a, cap, hv, hm, fun j hj => ?_⟩
 obtain ⟨c, off, ha, hlt, hcell⟩ := hc j hj
 subst ha
 have hB := h.from' _ _ _ hv
 refine ⟨c, off, rfl, Nat.lt_of_lt_of_le hlt m.size, ?_⟩
 rw [m.cells.1 c _ hlt (by simp at hB; omega)]
 exact hcell
theorem Own.tail {B : Nat} {w : World} {g n cap : Nat} {xs : List Int} (h : Own B w (.slice (some ⟨g, 0, none⟩) n cap) xs) (hn : xs.length = n) (h1 : 1 ≤ n) (c : Nat) (hc : n - 1 ≤ c) : IntsF B w (.slice (some ⟨g, 1, none⟩) (n - 1) c) (xs.drop 1) := by
 have hl := h.len
 refine ⟨⟨_, c, by simp [hn], by simp; omega, fun i hi => ⟨g, 1, rfl, (h.block g rfl).2, ?_⟩⟩, ?_, ?_⟩
 ·rw [List.length_drop] at hi
  have := (h.cell hn (1 + i) (by omega)).1
  rw [this]
  simp [Nat.add_comm]
 ·intro s n c e; cases e; exact (h.block g rfl).1
 intro s n c e; cases e; exact hc
end Go.Proofs.YtkkdikoknegpjaaGreat
