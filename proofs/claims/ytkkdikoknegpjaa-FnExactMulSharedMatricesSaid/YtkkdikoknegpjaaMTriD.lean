/- Made triples of shared matrices. -/
import Derived.Test.YtkkdikoknegpjaaTriT
import Derived.Test.YtkkdikoknegpjaaRandM
import Derived.Test.YtkkdikoknegpjaaKF
namespace Go.Proofs.Ytkkdikoknegpjaa
set_option linter.unusedSimpArgs false
set_option linter.unusedVariables false
open Go.RowKit
def sd1 (R K : Nat) (s : Int) : Int := strm s (R * K)
def sd2 (R K : Nat) (s : Int) : Int := strm (sd1 R K s) (R * K)
def sd3 (R K C : Nat) (s : Int) : Int := strm (sd2 R K s) (K * C)
def sd4 (R K C : Nat) (s : Int) : Int := strm (sd3 R K C s) (K * C)
def sd5 (R K C : Nat) (s : Int) : Int := strm (sd4 R K C s) (R * C)
def tripA (R K : Nat) (s : Int) : ShM := ⟨⟨R, K, rlist s (R * K)⟩, ⟨R, K, rlist (sd1 R K s) (R * K)⟩⟩
def tripB (R K C : Nat) (s : Int) : ShM := ⟨⟨K, C, rlist (sd2 R K s) (K * C)⟩, ⟨K, C, rlist (sd3 R K C s) (K * C)⟩⟩
def tripC (R K C : Nat) (s : Int) : Mat := ⟨R, C, rlist (sd4 R K C s) (R * C)⟩
/-- The triple of a dealer with these sides and this seed. -/
def tripN (R K C : Nat) (s : Int) : TrM := ⟨tripA R K s, tripB R K C s, ⟨tripC R K C s, subM (mulM (joinM (tripA R K s)) (joinM (tripB R K C s))) (tripC R K C s)⟩⟩
def mkOkM (r k c s : Int) : Bool := sideB r && sideB k && sideB c && seedOk s
def tripM (r k c s : Int) : TrM := if mkOkM r k c s = true then tripN r.toNat k.toNat c.toNat s else trZ
def tripS (r k c s : Int) : Int := if mkOkM r k c s = true then sd5 r.toNat k.toNat c.toNat s else 0
def TrNPost (t : TrM) (n : Int) (w : World) (e : Ending) (w' : World) : Prop :=
  ∃ v0 v1 v2 v3 v4 v5, e = .returned (.tuple #[.agg #[.int .i64 t.a.f.r, .int .i64 t.a.f.c, v0, .int .i64 t.a.s.r, .int .i64 t.a.s.c, v1, .int .i64 t.b.f.r, .int .i64 t.b.f.c, v2, .int .i64 t.b.s.r, .int .i64 t.b.s.c, v3, .int .i64 t.c.f.r, .int .i64 t.c.f.c, v4, .int .i64 t.c.s.r, .int .i64 t.c.s.c, v5], .int .i64 n]) ∧
    Grp w.heap.size w' [v0, v1, v2, v3, v4, v5] [t.a.f.xs, t.a.s.xs, t.b.f.xs, t.b.s.xs, t.c.f.xs, t.c.s.xs] ∧ Ext w w'
theorem Side.of_int {r : Int} (h : sideB r = true) : ∃ R : Nat, r = (R : Int) ∧ Side R := by
  have h' := h
  rw [side_iff] at h
  obtain ⟨R, rfl⟩ := Int.eq_ofNat_of_zero_le (show 0 ≤ r by omega)
  exact ⟨R, rfl, Side.of h'⟩

theorem results_row_tmp {P : Program} {fn : Func} {p u : Tmp} {ty : TypeId} (h : fn.results = #[.cell p ty, .tmp u]) (tmps : Array Value) (w : World) (g : Nat) (t : TypeId) (cs : Array Value) (fr : Nat × Nat) (d : TypeDesc)
    (hp : tmps.getD p undef = .pointer (some ⟨g, 0, none⟩)) (hg : w.heap[g]? = some (.cells cs t fr))
    (hu : P.underlying ty = some d) (hd : (match d with | .struct _ | .array _ _ => true | _ => false) = true) (hi : (P.info? ty).map (·.size) = some cs.size) :
    (results fn tmps).run P w = .ok (.tuple #[.agg cs, tmps.getD u undef]) w := by
  have hp' : tmps[p]?.getD undef = .pointer (some ⟨g, 0, none⟩) := by simpa using hp
  simp [results, h, hp', asAddr, run_loadVar_row w g t ty cs fr d hg hu hd hi]
theorem mulM_len (a b : Mat) : (mulM a b).xs.length ≤ 1048576 := by
  unfold mulM
  split
  · rename_i h
    simp only [Bool.and_eq_true] at h
    obtain ⟨R, K, f, rfl, hR, hK, _⟩ := Mat.ok_form h.1.1
    obtain ⟨K', C, g, rfl, hK', hC, _⟩ := Mat.ok_form h.1.2
    simp only [mapTo_len, Fm_r, Fm_c, Int.toNat_natCast]
    exact Nat.le_trans (Nat.mul_le_mul hR.hi hC.hi) (by decide)
  · exact Nat.zero_le _
end Go.Proofs.Ytkkdikoknegpjaa
