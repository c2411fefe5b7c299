/- Triples of shared matrices: the product; whether they are right. -/
import Derived.Test.YtjoomdihjffmlaaShA
import Derived.Test.YtjoomdihjffmlaaSMul
import Derived.Test.YtjoomdihjffmlaaSameT
namespace Go.Proofs.Ytjoomdihjffmlaa
set_option linter.unusedSimpArgs false
set_option linter.unusedVariables false
open Go.RowKit
theorem mat_dec {r c p q : Int} {xs ys : List Int} : (decide (r = p) && decide (c = q) && decide (xs = ys)) = decide ((Mat.mk r c xs) = Mat.mk p q ys) := by
  rw [← Bool.decide_and, ← Bool.decide_and, decide_eq_decide, Mat.mk.injEq, and_assoc]

theorem pairM_len (op : Int → Int → Int) (a b : Mat) : (pairM op a b).xs.length ≤ 1048576 := by
  unfold pairM
  split
  · rename_i h
    simp only [Bool.and_eq_true] at h
    obtain ⟨R, C, f, rfl, hR, hC, _⟩ := Mat.ok_form h.1.1
    simp only [mapTo_len, Fm_len]
    have := Nat.mul_le_mul hR.hi hC.hi
    omega
  · exact Nat.zero_le _
theorem join_len (a : ShM) : (joinM a).xs.length ≤ 1048576 := pairM_len _ _ _
theorem triple_apart {r0 c0 r1 c1 r2 c2 r3 c3 r4 c4 r5 c5 : Int} {x0 x1 x2 x3 x4 x5 : List Int} (g1 : (mOk r0 c0 x0 && mOk r1 c1 x1 && (decide (r0 = r1) && decide (c0 = c1))) = true) (g2 : (mOk r2 c2 x2 && mOk r3 c3 x3 && (decide (r2 = r3) && decide (c2 = c3))) = true) (g3 : (mOk r4 c4 x4 && mOk r5 c5 x5 && (decide (r4 = r5) && decide (c4 = c5))) = true) (g4 : ¬ c0 = r2) : ¬ joinM ⟨⟨r4, c4, x4⟩, ⟨r5, c5, x5⟩⟩ = prodM ⟨⟨⟨r0, c0, x0⟩, ⟨r1, c1, x1⟩⟩, ⟨⟨r2, c2, x2⟩, ⟨r3, c3, x3⟩⟩, ⟨⟨r4, c4, x4⟩, ⟨r5, c5, x5⟩⟩⟩ := by
  have a1 : ShM.ok ⟨⟨r0, c0, x0⟩, ⟨r1, c1, x1⟩⟩ = true := g1
  have a2 : ShM.ok ⟨⟨r2, c2, x2⟩, ⟨r3, c3, x3⟩⟩ = true := g2
  have a3 : ShM.ok ⟨⟨r4, c4, x4⟩, ⟨r5, c5, x5⟩⟩ = true := g3
  obtain ⟨R, C, f, g, e1, hR, hC, hf, hg⟩ := ShM.ok_form a1
  obtain ⟨R', C', f', g', e2, hR', hC', hf', hg'⟩ := ShM.ok_form a2
  obtain ⟨R2, C2, f2, g2', e3, hR2, hC2, hf2, hg2⟩ := ShM.ok_form a3
  unfold prodM
  simp only
  have q1 : c0 = (C : Int) := congrArg (fun s => s.f.c) e1
  have q2 : r2 = (R' : Int) := congrArg (fun s => s.f.r) e2
  rw [e1, e2, e3]
  unfold joinM
  simp only
  rw [addM_Fm hR hC hf hg, addM_Fm hR' hC' hf' hg', addM_Fm hR2 hC2 hf2 hg2]
  intro e
  have hz : mulM (Fm R C fun i => ring (f i + g i)) (Fm R' C' fun i => ring (f' i + g' i)) = matZ := by
    unfold mulM
    rw [if_neg]
    intro h9
    simp only [Bool.and_eq_true, decide_eq_true_eq] at h9
    have h8 : (C : Int) = R' := h9.2
    omega
  rw [hz] at e
  have h1 : (R2 : Int) = 0 := congrArg Mat.r e
  have := hR2.lo
  omega

end Go.Proofs.Ytjoomdihjffmlaa
