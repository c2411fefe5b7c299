/- Shared functions: the plain law. No program in sight. -/
import Derived.Test.YtkkdikoknegpjaaGreatKL
import Derived.Test.YtkkdikoknegpjaaGreatQC
import Derived.Test.YtkkdikoknegpjaaGreatMapT
namespace Go.Proofs.YtkkdikoknegpjaaGreat
set_option linter.unusedSimpArgs false
set_option linter.unusedVariables false
open Go.RowKit
theorem mp_lens (k : Int) (m : ShM) (s : Int) : (mpSh k m s).f.xs.length ≤ 25 ∧ (mpSh k m s).s.xs.length ≤ 25 ∧ (mpO k m s).length ≤ 25 := by
  cases h : mpOk k m s
  · obtain ⟨a, b, _⟩ := mpSh_bad h
    rw [a, b]
    exact ⟨Nat.zero_le _, Nat.zero_le _, Nat.zero_le _⟩
  obtain ⟨a, b, _⟩ := mpSh_ok h
  simp only [mpOk, ShM.ok, Bool.and_eq_true] at h
  obtain ⟨R, C, _, _, _, _, _, _, hl, l25, _⟩ := mOk_nat h.1.2.1.1
  rw [a, b]
  simp only [mapTo_len]
  omega
end Go.Proofs.YtkkdikoknegpjaaGreat
