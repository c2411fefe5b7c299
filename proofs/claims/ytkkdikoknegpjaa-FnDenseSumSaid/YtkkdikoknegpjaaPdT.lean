/- Shared products with a doubled matrix: the plain law. No program in sight. -/
import Derived.Test.YtkkdikoknegpjaaKP
namespace Go.Proofs.Ytkkdikoknegpjaa
set_option linter.unusedSimpArgs false
set_option linter.unusedVariables false
open Go.RowKit
theorem addSh_twice {y : ShM} (h : y.ok = true) : shAddOk y y = true ∧ (addSh y y).f.r = y.f.r ∧ (addSh y y).f.c = y.f.c := by
  have h0 : shAddOk y y = true := by simp only [shAddOk, h, sameS, decide_true, Bool.and_self]
  obtain ⟨R, C, f, g, rfl, hR, hC, hf, hg⟩ := ShM.ok_form h
  refine ⟨h0, ?_⟩
  simp only [addSh, h0, if_true]
  rw [addM_Fm hR hC hf hf]
  exact ⟨rfl, rfl⟩
theorem pd_twice {x y : ShM} {s : Int} (h : pdOk x y s = true) : pdS x (addSh y y) s = pdS x y s ∧ joinM (pdSh x (addSh y y) s) = joinM (addSh (pdSh x y s) (pdSh x y s)) := by
  have h0 := h
  simp only [pdOk, Bool.and_eq_true, decide_eq_true_eq] at h
  obtain ⟨⟨⟨hx, hy⟩, hc⟩, hs⟩ := h
  obtain ⟨a1, a2, a3⟩ := addSh_twice hy
  obtain ⟨b1, b2⟩ := join_addSh a1
  have h2 : pdOk x (addSh y y) s = true := by simp only [pdOk, hx, b1, a2, hc, hs, decide_true, Bool.and_self]
  obtain ⟨z1, z2, z3⟩ := pdSh_ok h0
  obtain ⟨y1, y2, y3⟩ := pdSh_ok h2
  obtain ⟨c1, c2⟩ := join_mulSh (pd_mul h0).1
  obtain ⟨d1, d2⟩ := join_mulSh (pd_mul h2).1
  rw [z3, y3, a3]
  refine ⟨rfl, ?_⟩
  rw [y1, d2, b2, z1]
  obtain ⟨e1, e2, e3⟩ := addSh_twice c1
  rw [(join_addSh e1).2, c2]
  obtain ⟨jx, jx1, jx2⟩ := join_ok hx
  obtain ⟨jy, jy1, jy2⟩ := join_ok hy
  exact (mul_twice jx jy (by rw [jx2, jy1]; exact hc)).2
end Go.Proofs.Ytkkdikoknegpjaa
