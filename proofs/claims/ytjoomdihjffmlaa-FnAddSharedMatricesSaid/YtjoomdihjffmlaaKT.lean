/- The laws' own functions on triples of shared matrices. -/
import Derived.Test.YtjoomdihjffmlaaShL
namespace Go.Proofs.Ytjoomdihjffmlaa
set_option linter.unusedSimpArgs false
set_option linter.unusedVariables false
open Go.RowKit
theorem Grp.six {B : Nat} {w : World} {v0 v1 v2 v3 v4 v5 : Value} {x0 x1 x2 x3 x4 x5 : List Int} (h : Grp B w [v0, v1, v2, v3, v4, v5] [x0, x1, x2, x3, x4, x5]) :
    Grp B w [v0, v1] [x0, x1] ∧ Grp B w [v2, v3] [x2, x3] ∧ Grp B w [v4, v5] [x4, x5] ∧ SepL [v0, v1] [v2, v3] ∧ SepL [v0, v1] [v4, v5] ∧ SepL [v2, v3] [v4, v5] := by
  have hp := h.apt
  simp only [List.pairwise_cons, List.mem_cons, List.not_mem_nil, or_false, forall_eq_or_imp, forall_eq] at hp
  obtain ⟨⟨a01, a02, a03, a04, a05⟩, ⟨a12, a13, a14, a15⟩, ⟨a23, a24, a25⟩, ⟨a34, a35⟩, a45, -⟩ := hp
  refine ⟨Grp.two h.o0 h.o1 a01, Grp.two h.o2 h.o3 a23, Grp.two h.o4 h.o5 a45, ⟨?_⟩, ⟨?_⟩, ⟨?_⟩⟩ <;>
  · intro v hv u hu
    simp only [List.mem_cons, List.not_mem_nil, or_false] at hv hu
    rcases hv with rfl | rfl <;> rcases hu with rfl | rfl <;> assumption
theorem IntsL.six {w : World} {v0 v1 v2 v3 v4 v5 : Value} {x0 x1 x2 x3 x4 x5 : List Int} (h : IntsL w [v0, v1, v2, v3, v4, v5] [x0, x1, x2, x3, x4, x5]) :
    Ints w v0 x0 ∧ Ints w v1 x1 ∧ Ints w v2 x2 ∧ Ints w v3 x3 ∧ Ints w v4 x4 ∧ Ints w v5 x5 := by
  obtain ⟨h0, h1, h2, h3, h4, h5, -⟩ := h
  exact ⟨h0, h1, h2, h3, h4, h5⟩

end Go.Proofs.Ytjoomdihjffmlaa
namespace Go.Proofs.Ytjoomdihjffmlaa
set_option linter.unusedSimpArgs false
set_option linter.unusedVariables false
open Go.RowKit
theorem SepL.app {vs us ws : List Value} (h : SepL vs ws) (k : SepL us ws) : SepL (vs ++ us) ws :=
  ⟨fun v hv => (List.mem_append.1 hv).elim (fun q => h.all v q) (fun q => k.all v q)⟩

end Go.Proofs.Ytjoomdihjffmlaa
