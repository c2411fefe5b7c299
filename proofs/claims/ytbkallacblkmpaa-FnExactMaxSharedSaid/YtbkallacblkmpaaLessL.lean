/- Plain law of comparisons: what LessShared returns tells what is less. No program in sight. -/
import Derived.Test.YtbkallacblkmpaaLessT
namespace Go.Proofs.Ytbkallacblkmpaa
set_option linter.unusedSimpArgs false
set_option linter.unusedVariables false
open Go.RowKit
theorem sgnOf_rv {x : Int} (h : rv x = true) : sgnOf x = sgn x := by simp [sgnOf, h]
theorem sub_join {x y u v : Int} (h1 : (rv x && rv y) = true) (h2 : (rv u && rv v) = true) : (rv (subF x y u v) && rv (subL x y u v)) = true ∧ addR (subF x y u v) (subL x y u v) = ring (addR x y - addR u v) := by
  have h : okS x y u v = true := by simp [okS, h1, h2]
  simp only [Bool.and_eq_true] at h1 h2
  refine ⟨by simp [subF, subL, h, rv_ring], ?_⟩
  simp only [subF, subL, h, if_true, h1.1, h1.2, h2.1, h2.2, addR_ok, rv_ring]
  unfold ring; omega
theorem less_law {x y p q s : Int} (h : lsOk x y p q s = true) : ∃ X Y J : Int, addR x y = X ∧ addR p q = Y ∧ rv X = true ∧ rv Y = true ∧ (rv (lsF x y p q s) && rv (lsL x y p q s)) = true ∧ addR (lsF x y p q s) (lsL x y p q s) = J ∧ (J = 0 ∨ J = 1) ∧
    (2 * (sgn X - sgn Y) < 4096 → 2 * (sgn Y - sgn X) < 4096 → (J = 1 ↔ sgn X < sgn Y)) ∧ lsN x y p q s ≠ 0 ∧ 0 ≤ lsC x y p q s ∧ seedOk (lsN x y p q s) = true := by
  have h1 : (rv x && rv y) = true := by simp only [lsOk, Bool.and_eq_true] at h ⊢; exact h.1.1
  have h2 : (rv p && rv q) = true := by simp only [lsOk, Bool.and_eq_true] at h ⊢; exact h.1.2
  have h3 : seedOk s = true := by simp only [lsOk, Bool.and_eq_true] at h; exact h.2
  have mk : mkOk (fVals 3) s = true := by simp [mkOk, good_fVals (show fKnown 3 = true from rfl), h3]
  obtain ⟨r, j⟩ := sub_join h1 h2
  have tv := made_tab mk
  have uo : useOk (subF x y p q) (subL x y p q) (mtA (fVals 3) s) (mtB (fVals 3) s) (mtF (fVals 3) s) (mtS (fVals 3) s) = true := by
    simp only [Bool.and_eq_true] at r
    simp [useOk, r, tv]
  obtain ⟨n, m, en, ln, em, el⟩ := made_look mk r
  obtain ⟨k, ek, lk1, lk2⟩ := useC_nat uo
  have hmk : k = m := by rw [en, em] at ek; omega
  subst hmk
  have eF : lsF x y p q s = (mtF (fVals 3) s).getD k 0 := by simp only [lsF, h, if_true, useF, uo, ek]; rfl
  have eL : lsL x y p q s = (mtS (fVals 3) s).getD k 0 := by simp only [lsL, h, if_true, useL, uo, ek]; rfl
  have eC : lsC x y p q s = (k : Int) := by simp only [lsC, h, if_true, useC, uo, ek]
  have eN : lsN x y p q s = mtN (fVals 3) s := by simp only [lsN, h, if_true]
  have gl : goodL (mtF (fVals 3) s) = true ∧ goodL (mtS (fVals 3) s) = true := by simp only [tabV, Bool.and_eq_true] at tv; exact tv.2
  have ev : (fVals 3).getD n 0 = if sgn (n : Int) < 0 then 1 else 0 := by
    have e : fVals 3 = valsTo 3 4096 := by rw [fVals, if_pos (show fKnown 3 = true from rfl)]
    rw [e, valsTo_len] at ln
    rw [e, valsTo_get _ _ _ ln]
    have hr : rv (n : Int) = true := by rw [rv_iff]; omega
    unfold fAt
    rw [if_pos ⟨hr, rfl⟩, if_neg (by decide), if_neg (by decide), if_pos rfl]
  simp only [Bool.and_eq_true] at h1 h2
  have aX : addR x y = ring (x + y) := addR_ok h1.1 h1.2
  have aY : addR p q = ring (p + q) := addR_ok h2.1 h2.2
  have rX : rv (ring (x + y)) = true := rv_ring _
  have rY : rv (ring (p + q)) = true := rv_ring _
  rw [aX, aY] at j
  generalize ring (x + y) = X at *
  generalize ring (p + q) = Y at *
  have hs : Seed (mtN (fVals 3) s) := by
    have e : mtN (fVals 3) s = strm (strm s 2) 4096 := by simp only [mtN, mk, if_true]
    rw [e]; exact ((seed_of h3).strm 2).strm 4096
  refine ⟨X, Y, if sgn (n : Int) < 0 then 1 else 0, aX, aY, rX, rY, ?_, ?_, ?_, ?_, ?_, ?_, ?_⟩
  · rw [eF, eL, good_rv gl.1 k lk1, good_rv gl.2 k lk2]; rfl
  · rw [eF, eL, el, ev]
  · split <;> simp
  · intro c1 c2
    rw [rv_iff] at rX rY
    have hn := less_near (X := X) (Y := Y) (by omega) (by omega) c1 c2
    rw [← j, en] at hn
    rw [← hn]
    split <;> simp_all
  · rw [eN]; have := hs.lo; omega
  · rw [eC]; omega
  · rw [eN]; exact hs.ok
end Go.Proofs.Ytbkallacblkmpaa
