/- What is made is right: tables, triples. No program in sight. -/
import Derived.Test.YtkkdikoknegpjaaMkTab
import Derived.Test.YtkkdikoknegpjaaMkT
import Derived.Test.YtkkdikoknegpjaaUTab
namespace Go.Proofs.Ytkkdikoknegpjaa
set_option linter.unusedSimpArgs false
set_option linter.unusedVariables false
open Go.RowKit
theorem made_tab {vs : List Int} {s : Int} (h : mkOk vs s = true) : tabV (mtA vs s) (mtB vs s) (mtF vs s) (mtS vs s) = true := by
  have hA : mtA vs s = rnd s 0 := by simp [mtA, h]
  have hB : mtB vs s = rnd s 1 := by simp [mtB, h]
  have hF : mtF vs s = rlist (strm s 2) 4096 := by simp [mtF, h]
  have hS : mtS vs s = secL vs s 4096 := by simp [mtS, h]
  rw [hA, hB, hF, hS]
  have g1 : goodL (rlist (strm s 2) 4096) = true := by
    simp only [goodL, rlist_len, Bool.and_eq_true, decide_eq_true_eq, List.all_eq_true]
    refine ⟨fun x hx => ?_, by omega⟩
    simp only [rlist, List.mem_map, List.mem_range] at hx
    obtain ⟨i, _, rfl⟩ := hx
    exact rnd_rv _ _
  have g2 : goodL (secL vs s 4096) = true := by
    simp only [goodL, secL_len, Bool.and_eq_true, decide_eq_true_eq, List.all_eq_true]
    refine ⟨fun x hx => ?_, by omega⟩
    simp only [secL, List.mem_map, List.mem_range] at hx
    obtain ⟨i, _, rfl⟩ := hx
    exact rv_ring _
  simp [tabV, g1, g2, rnd_rv]
theorem made_seed {vs : List Int} {s : Int} (h : mkOk vs s = true) : mtN vs s ≠ 0 := by
  have hs : seedOk s = true := by simp only [mkOk, Bool.and_eq_true] at h; exact h.2
  have := (((seed_of hs).strm 2).strm 4096).lo
  have e : mtN vs s = strm (strm s 2) 4096 := by simp [mtN, h]
  rw [e]; omega
/-- A number that is looked up is the value at it. -/
theorem made_look {vs : List Int} {s x y : Int} (h : mkOk vs s = true) (hx : (rv x && rv y) = true) : ∃ n m : Nat, addR x y = (n : Int) ∧ n < vs.length ∧ addR (n : Int) (addR (mtA vs s) (mtB vs s)) = (m : Int) ∧ addR ((mtF vs s).getD m 0) ((mtS vs s).getD m 0) = vs.getD n 0 := by
  have hg : goodL vs = true := by simp only [mkOk, Bool.and_eq_true] at h; exact h.1
  have hl := good_len hg
  simp only [Bool.and_eq_true] at hx
  have hA : mtA vs s = rnd s 0 := by simp [mtA, h]
  have hB : mtB vs s = rnd s 1 := by simp [mtB, h]
  have hF : mtF vs s = rlist (strm s 2) 4096 := by simp [mtF, h]
  have hS : mtS vs s = secL vs s 4096 := by simp [mtS, h]
  have a1 := ring_lo (x + y)
  have a2 := ring_hi (x + y)
  have hsh : addR (rnd s 0) (rnd s 1) = ring (rnd s 0 + rnd s 1) := addR_ok (rnd_rv s 0) (rnd_rv s 1)
  have b1 := ring_lo (ring (x + y) + ring (rnd s 0 + rnd s 1))
  have b2 := ring_hi (ring (x + y) + ring (rnd s 0 + rnd s 1))
  obtain ⟨n, hn⟩ := Int.eq_ofNat_of_zero_le a1
  obtain ⟨m, hm⟩ := Int.eq_ofNat_of_zero_le b1
  have hm4 : m < 4096 := by omega
  refine ⟨n, m, by rw [addR_ok hx.1 hx.2, hn], by omega, ?_, ?_⟩
  · rw [hA, hB, hsh, ← hn, addR_ok (rv_ring _) (rv_ring _), hm]
  · rw [hF, hS, rlist_get _ _ _ hm4, secL_get _ _ _ _ hm4]
    have e : ring ((m : Int) - shT s) = (n : Int) := by
      rw [shT, hsh, ← hm, ← hn]
      unfold ring; omega
    rw [sec_at e, addR_ok (rnd_rv _ _) (rv_ring _)]
    have hr := good_rv hg n (by omega)
    rw [rv_iff] at hr
    unfold ring; omega
theorem addR_bad {x y : Int} (h : (rv x && rv y) = false) : addR x y = -1 := by
  unfold addR
  rw [if_neg (by intro k; rw [k.1, k.2] at h; cases h)]
theorem made_right {s : Int} (h : seedOk s = true) : triR (tA s) (tB s) (tC s) (tD s) (tE s) (tF s) = true := by
  have r0 := rnd_rv s 0
  have r1 := rnd_rv s 1
  have r2 := rnd_rv s 2
  have r3 := rnd_rv s 3
  have r4 := rnd_rv s 4
  have hp : rv (prodT (rnd s 0) (rnd s 1) (rnd s 2) (rnd s 3)) = true := by
    simp [prodT, addR_ok, mulR, r0, r1, r2, r3, rv_ring]
  have e : addR (rnd s 4) (ring (prodT (rnd s 0) (rnd s 1) (rnd s 2) (rnd s 3) - rnd s 4)) = prodT (rnd s 0) (rnd s 1) (rnd s 2) (rnd s 3) := by
    rw [addR_ok r4 (rv_ring _)]
    rw [rv_iff] at hp
    unfold ring; omega
  have hA : tA s = rnd s 0 := by simp [tA, h]
  have hB : tB s = rnd s 1 := by simp [tB, h]
  have hC : tC s = rnd s 2 := by simp [tC, h]
  have hD : tD s = rnd s 3 := by simp [tD, h]
  have hE : tE s = rnd s 4 := by
    have hp' : rv (mulR (addR (rnd s 0) (rnd s 1)) (addR (rnd s 2) (rnd s 3))) = true := hp
    simp [tE, h, splF, hp', r4]
  have hF : tF s = ring (prodT (rnd s 0) (rnd s 1) (rnd s 2) (rnd s 3) - rnd s 4) := by
    have hp' : rv (mulR (addR (rnd s 0) (rnd s 1)) (addR (rnd s 2) (rnd s 3))) = true := hp
    simp [tF, h, splL, hp', r4, prodT]
  rw [hA, hB, hC, hD, hE, hF]
  simp [triR, okT, r0, r1, r2, r3, r4, rv_ring, e]

end Go.Proofs.Ytkkdikoknegpjaa
