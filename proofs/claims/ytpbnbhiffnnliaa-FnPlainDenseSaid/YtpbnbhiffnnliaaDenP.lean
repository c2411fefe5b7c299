/- Dense layers: the plain law. -/
import Derived.Test.YtpbnbhiffnnliaaDenT
import Derived.Test.YtpbnbhiffnnliaaKE
import Derived.Test.YtpbnbhiffnnliaaTabD
namespace Go.Proofs.Ytpbnbhiffnnliaa
set_option linter.unusedSimpArgs false
set_option linter.unusedVariables false
open Go.RowKit
/-- A list of zeros. -/
def zerosL (n : Nat) : List Int := mapTo (fun _ => 0) n
theorem cut_form {A X : Mat} (hA : A.ok = true) (hX : X.ok = true) (h : A.c = X.r) : ∃ (R C : Nat) (f : Nat → Int), Side R ∧ Side C ∧ A.r = R ∧ X.c = C ∧ cutM A X = Fm R C f ∧ ∀ i, i < R * C → rv (f i) = true := by
  obtain ⟨R, K, a, rfl, hR, hK, ha⟩ := Mat.ok_form hA
  obtain ⟨K', C, x, rfl, hK', hC, hx⟩ := Mat.ok_form hX
  have e : K' = K := by
    have : (K : Int) = (K' : Int) := h
    omega
  subst e
  unfold cutM
  rw [mulM_Fm hR hK hC ha hx]
  simp only [Fm_r, Fm_c]
  generalize hF : (fun p => ring (sumTo (fun k => a (p / C * K' + k) * x (k * C + p % C)) K')) = F
  have hrv : ∀ i, i < R * C → rv (F i) = true := fun i _ => by rw [← hF]; exact rv_ring _
  have hok : mOk R C (Fm R C F).xs = true := Fm_ok hR hC hrv
  refine ⟨R, C, fun i => fAt 1 (F i), hR, hC, rfl, rfl, ?_, fun i hi => rv_fAt' (by decide) (hrv i hi)⟩
  rw [mapM_ok (by decide) hok]
  unfold Fm
  simp only [mapTo_len]
  congr 1
  exact mapTo_congr _ _ _ fun i hi => by rw [mapTo_get _ _ _ hi]
theorem dense_law {A B X : Mat} (h : (X.ok && fitsB A B && decide (A.c = X.r)) = true) : ∃ (R C : Nat) (f : Nat → Int), Side R ∧ Side C ∧ A.r = R ∧ X.c = C ∧ B.r = R ∧ B.c = 1 ∧ B.xs.length = R ∧ (∀ i, i < R * C → rv (f i) = true) ∧ (∀ i, i < R → rv (B.xs.getD i 0) = true) ∧ cutM A X = Fm R C f ∧ denseM A B X = Fm R C (fun i => ring (f i + B.xs.getD (i / C) 0)) ∧ denseM A ⟨R, 1, zerosL R⟩ X = Fm R C f := by
  have h0 := h
  unfold fitsB at h
  simp only [Bool.and_eq_true, decide_eq_true_eq] at h
  obtain ⟨⟨hX, ⟨⟨hA, hB⟩, hB1⟩, hBr⟩, hc⟩ := h
  obtain ⟨R, C, f, hR, hC, eR, eC, ef, hf⟩ := cut_form hA hX hc
  obtain ⟨R', k, b, rfl, hR', hk, hb⟩ := Mat.ok_form hB
  have e1 : k = 1 := by
    have : (k : Int) = 1 := hB1
    omega
  have e2 : R' = R := by
    have : (R' : Int) = A.r := hBr
    omega
  subst e1 e2
  have hlen : (Fm R' 1 b).xs.length = R' := by rw [Fm_len, Nat.mul_one]
  have hget : ∀ i, i < R' → (Fm R' 1 b).xs.getD i 0 = b i := fun i hi => Fm_get b (by omega)
  have hdiv : ∀ i, i < R' * C → i / C < R' := fun i hi => Nat.div_lt_of_lt_mul (by rw [Nat.mul_comm]; exact hi)
  refine ⟨R', C, f, hR, hC, eR, eC, rfl, rfl, hlen, hf, fun i hi => by rw [hget i hi]; exact hb i (by omega), ef, ?_, ?_⟩
  · unfold denseM
    rw [if_pos h0, ef, eR, eC]
    simp only [Int.toNat_natCast]
    unfold wideM
    rw [show (⟨(R' : Int), (C : Int), mapTo (fun p => (Fm R' 1 b).xs.getD (p / C) 0) (R' * C)⟩ : Mat) = Fm R' C (fun p => (Fm R' 1 b).xs.getD (p / C) 0) from rfl]
    rw [addM_Fm hR hC hf (fun i hi => by rw [hget _ (hdiv i hi)]; exact hb _ (by have := hdiv i hi; omega))]
  · have hz : (⟨R', 1, zerosL R'⟩ : Mat) = Fm R' 1 (fun _ => 0) := by unfold Fm zerosL; rw [Nat.mul_one]; rfl
    have hzo : (Fm R' 1 (fun _ => 0)).ok = true := Fm_ok hR hk fun _ _ => by decide
    rw [hz]
    unfold denseM fitsB
    rw [if_pos (by rw [hX, hA, hzo, hc, Fm_r, Fm_c, eR]; simp), ef, eR, eC]
    simp only [Int.toNat_natCast]
    rw [show wideM R' C (Fm R' 1 fun _ => 0).xs = Fm R' C (fun _ => 0) by
      unfold wideM
      refine Fm_congr fun i hi => Fm_get (fun _ => 0) (by have := hdiv i hi; omega)]
    exact add_zero_Fm hR hC hf
end Go.Proofs.Ytpbnbhiffnnliaa
