import Derived.Test.YtkkdikoknegpjaaGreatKW
import Derived.Test.YtkkdikoknegpjaaGreatKF
namespace Go.Proofs.YtkkdikoknegpjaaGreat
set_option linter.unusedSimpArgs false
set_option linter.unusedVariables false
open Go.RowKit
theorem SepL.app {vs us ws : List Value} (h : SepL vs ws) (k : SepL us ws) : SepL (vs ++ us) ws :=
 ⟨fun v hv => (List.mem_append.1 hv).elim (fun q => h.all v q) (fun q => k.all v q)⟩
def TrGrp (r0 c0 r1 c1 r2 c2 r3 c3 r4 c4 r5 c5 : Int) (x0 x1 x2 x3 x4 x5 : List Int) (w : World) (e : Ending) (w' : World) : Prop :=
 ∃ v0 v1 v2 v3 v4 v5, e = .returned (.agg #[.int .i64 r0, .int .i64 c0, v0, .int .i64 r1, .int .i64 c1, v1, .int .i64 r2, .int .i64 c2, v2, .int .i64 r3, .int .i64 c3, v3, .int .i64 r4, .int .i64 c4, v4, .int .i64 r5, .int .i64 c5, v5]) ∧ Grp w.heap.size w' [v0, v1, v2, v3, v4, v5] [x0, x1, x2, x3, x4, x5] ∧ Ext w w'
theorem Grp.swap6 {B : Nat} {w : World} {v0 v1 v2 v3 v4 v5 : Value} {x0 x1 x2 x3 x4 x5 : List Int} (h : Grp B w [v4, v5, v2, v3, v0, v1] [x4, x5, x2, x3, x0, x1]) : Grp B w [v0, v1, v2, v3, v4, v5] [x0, x1, x2, x3, x4, x5] := by
 obtain ⟨⟨a4, a5, a2, a3, a0, a1, -⟩, ap⟩ := h
 simp only [List.pairwise_cons, List.mem_cons, List.not_mem_nil, or_false, forall_eq_or_imp, forall_eq, List.Pairwise.nil, and_true, false_imp_iff, implies_true] at ap
 obtain ⟨⟨b45, b42, b43, b40, b41⟩, ⟨b52, b53, b50, b51⟩, ⟨b23, b20, b21⟩, ⟨b30, b31⟩, b01⟩ := ap
 refine ⟨⟨a0, a1, a2, a3, a4, a5, trivial⟩, ?_⟩
 simp only [List.pairwise_cons, List.mem_cons, List.not_mem_nil, or_false, forall_eq_or_imp, forall_eq, List.Pairwise.nil, and_true, false_imp_iff, implies_true]
 exact ⟨⟨b01, b20.symm, b30.symm, b40.symm, b50.symm⟩, ⟨b21.symm, b31.symm, b41.symm, b51.symm⟩, ⟨b23, b42.symm, b52.symm⟩, ⟨b43.symm, b53.symm⟩, b45⟩
end Go.Proofs.YtkkdikoknegpjaaGreat
