/- Shared layers: what they are, and the plain law. No program in sight. -/
import Derived.Test.YtkkdikoknegpjaaGreatKX
import Derived.Test.YtkkdikoknegpjaaGreatKL
import Derived.Test.YtkkdikoknegpjaaGreatMapP
import Derived.Test.YtkkdikoknegpjaaGreatKP
import Derived.Test.YtkkdikoknegpjaaGreatKS
import Derived.Test.YtkkdikoknegpjaaGreatDenT
namespace Go.Proofs.YtkkdikoknegpjaaGreat
set_option linter.unusedSimpArgs false
set_option linter.unusedVariables false
open Go.RowKit
def sdOk (w b x : ShM) (s : Int) : Bool := w.ok && b.ok && x.ok && seedOk s && (decide (b.f.c = 1) && decide (b.f.r = w.f.r)) && decide (w.f.c = x.f.r)
/-- The cut product. -/
def sdM (w x : ShM) (s : Int) : ShM := mpSh 1 (pdSh w x s) (pdS w x s)
def sdO (w b x : ShM) : ShM := ⟨wideM w.f.r.toNat x.f.c.toNat b.f.xs, wideM w.f.r.toNat x.f.c.toNat b.s.xs⟩
def sdSh (w b x : ShM) (s : Int) : ShM := if sdOk w b x s = true then addSh (sdM w x s) (sdO w b x) else shZ
def sdL (w b x : ShM) (s : Int) : List Int := if sdOk w b x s = true then pdL w x s ++ mpO 1 (pdSh w x s) (pdS w x s) else []
def sdS (w b x : ShM) (s : Int) : Int := if sdOk w b x s = true then mpS 1 (pdSh w x s) (pdS w x s) else 0
theorem sdSh_bad {w b x : ShM} {s : Int} (h : sdOk w b x s = false) : sdSh w b x s = shZ ∧ sdL w b x s = [] ∧ sdS w b x s = 0 := by
  refine ⟨?_, ?_, ?_⟩
  · unfold sdSh; rw [h]; rfl
  · unfold sdL; rw [h]; rfl
  unfold sdS; rw [h]; rfl
theorem sdSh_ok {w b x : ShM} {s : Int} (h : sdOk w b x s = true) : sdSh w b x s = addSh (sdM w x s) (sdO w b x) ∧ sdL w b x s = pdL w x s ++ mpO 1 (pdSh w x s) (pdS w x s) ∧ sdS w b x s = mpS 1 (pdSh w x s) (pdS w x s) := by
  refine ⟨?_, ?_, ?_⟩
  · unfold sdSh; rw [h]; rfl
  · unfold sdL; rw [h]; rfl
  unfold sdS; rw [h]; rfl
theorem pd_len (x y : ShM) (s : Int) : (pdL x y s).length ≤ 2097152 := by
  cases h : pdOk x y s
  · obtain ⟨_, b, _⟩ := pdSh_bad h
    rw [b]; exact Nat.zero_le _
  obtain ⟨_, b, _⟩ := pdSh_ok h
  rw [b, List.length_append]
  have := mulShD_len x y (pdT x y s)
  have := mulShE_len x y (pdT x y s)
  omega
theorem pd_lenS (x y : ShM) (s : Int) : (pdSh x y s).f.xs.length ≤ 1048576 ∧ (pdSh x y s).s.xs.length ≤ 1048576 := by
  cases h : pdOk x y s
  · obtain ⟨b, _, _⟩ := pdSh_bad h
    rw [b]; exact ⟨Nat.zero_le _, Nat.zero_le _⟩
  obtain ⟨b, _, _⟩ := pdSh_ok h
  rw [b]
  unfold mulSh mulShF mulShS
  split
  · exact ⟨pairM_len _ _ _, pairM_len _ _ _⟩
  exact ⟨Nat.zero_le _, Nat.zero_le _⟩
theorem addM_len' (a b : Mat) : (addM a b).xs.length ≤ 1048576 := pairM_len _ _ _
theorem sd_lens (w b x : ShM) (s : Int) : (sdSh w b x s).f.xs.length ≤ 1048576 ∧ (sdSh w b x s).s.xs.length ≤ 1048576 ∧ (sdL w b x s).length ≤ 3145728 := by
  cases h : sdOk w b x s
  · obtain ⟨a, b, _⟩ := sdSh_bad h
    rw [a, b]
    exact ⟨Nat.zero_le _, Nat.zero_le _, Nat.zero_le _⟩
  obtain ⟨a, b, _⟩ := sdSh_ok h
  rw [a, b, List.length_append]
  have l1 := pd_len w x s
  have l2 := (mp_lens 1 (pdSh w x s) (pdS w x s)).2.2
  refine ⟨?_, ?_, by omega⟩
  · unfold addSh; split
    · exact addM_len' _ _
    exact Nat.zero_le _
  unfold addSh; split
  · exact addM_len' _ _
  exact Nat.zero_le _
end Go.Proofs.YtkkdikoknegpjaaGreat
