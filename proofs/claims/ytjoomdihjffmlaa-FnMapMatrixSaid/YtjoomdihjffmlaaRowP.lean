/- Plain laws: sums of rows are products with a column of ones; ramps; layers. No program in sight. -/
import Derived.Test.YtjoomdihjffmlaaRowT
import Derived.Test.YtjoomdihjffmlaaDenT
namespace Go.Proofs.Ytjoomdihjffmlaa
set_option linter.unusedSimpArgs false
set_option linter.unusedVariables false
open Go.RowKit
theorem rowSums_mul {R C : Nat} {xs : List Int} (h : mOk R C xs = true) : mulM ⟨R, C, xs⟩ (Fm C 1 (fun _ => 1)) = rowSums R C xs := by
  have hk : (Mat.mk R C xs).ok = true := h
  obtain ⟨R', C', f, e, hR, hC, hf⟩ := Mat.ok_form hk
  obtain rfl : R = R' := by have : (R : Int) = R' := congrArg Mat.r e; omega
  obtain rfl : C = C' := by have : (C : Int) = C' := congrArg Mat.c e; omega
  have hx : ∀ i, i < R * C → xs.getD i 0 = f i := fun i hi => by
    have : xs = (Fm R C f).xs := congrArg Mat.xs e
    rw [this, Fm_get _ hi]
  rw [e, mulM_Fm hR hC ⟨by decide, by decide⟩ hf (fun _ _ => (by decide : rv 1 = true))]
  have e2 : rowSums R C xs = Fm R 1 (fun i => rsTo xs C i C) := by rw [rowSums_ok h]; unfold Fm; rw [Nat.mul_one]; rfl
  rw [e2]
  refine Fm_congr fun p hp => ?_
  rw [Nat.mul_one] at hp
  unfold rsTo
  rw [Nat.div_one, sumTo_congr (g := fun k => xs.getD (p * C + k) 0)]
  intro k hk
  rw [Int.mul_one, hx _ (place_lt hp hk)]
theorem ramp_twice {x : Int} (h : rv x = true) : fAt 2 (fAt 2 x) = fAt 2 x := by
  have hs := sgn_bd h
  have e : ∀ y, rv y = true → fAt 2 y = max (sgn y) 0 := fun y hy => by
    unfold fAt; rw [if_pos ⟨hy, by decide⟩, if_neg (by decide), if_pos rfl]
  rw [e x h]
  have hv : rv (max (sgn x) 0) = true := by rw [rv_iff]; omega
  rw [e _ hv]
  have h2 : sgn (max (sgn x) 0) = max (sgn x) 0 := by
    have hb : max (sgn x) 0 < 2048 := by omega
    unfold sgn at hb ⊢
    rw [if_pos hb]
  rw [h2]; omega
end Go.Proofs.Ytjoomdihjffmlaa
