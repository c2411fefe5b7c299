/- Random matrices. -/
import Derived.Test.YtkkdikoknegpjaaPairT
import Derived.Test.YtkkdikoknegpjaaKY
import Derived.Test.YtkkdikoknegpjaaTriT
import Derived.Test.YtkkdikoknegpjaaKF
namespace Go.Proofs.Ytkkdikoknegpjaa
set_option linter.unusedSimpArgs false
set_option linter.unusedVariables false
open Go.RowKit
/-- A call that leaves a matrix of random numbers and the next seed. -/
def RmPost (R C : Nat) (s : Int) (w : World) (e : Ending) (w' : World) : Prop :=
  ∃ v, e = .returned (.tuple #[.agg #[.int .i64 R, .int .i64 C, v], .int .i64 (strm s (R * C))]) ∧ Own w.heap.size w' v (rlist s (R * C)) ∧ Ext w w'
theorem side_mul' {R C : Nat} (hR : Side R) (hC : Side C) : R * C ≤ 25 := by have := Nat.mul_le_mul hR.hi hC.hi; omega
theorem wrap_mul {R C : Nat} (hR : Side R) (hC : Side C) : wrap64 ((R : Int) * (C : Int)) = ((R * C : Nat) : Int) := by
  have h := side_mul' hR hC
  rw [← Int.natCast_mul]
  generalize R * C = L at *
  unfold wrap64; omega

set_option maxHeartbeats 2000000 in
theorem impl_RandomMatrix (R C : Nat) (hR : Side R) (hC : Side C) (s : Int) (hs : Seed s) (w : World) : Calls Try.prog 106 #[.int .i64 R, .int .i64 C, .int .i64 s] w (RmPost R C s w) := by
  have SR := Kept.mk hR.ok
  have SC := Kept.mk hC.ok
  have WM := wrap_mul hR hC
  have L25 := side_mul' hR hC
  obtain ⟨L, hL⟩ : ∃ L, L = R * C := ⟨_, rfl⟩
  unfold RmPost
  rw [← hL] at WM L25 ⊢
  clear hL
  have RL := Kept.mk (fun w' => impl_RandomList s L hs (by omega) w')
  unfold ListPost at RL
  have hl : (rlist s L).length = L := rlist_len _ _
  generalize rlist s L = xs at *
  generalize strm s L = nx at *
  subst hl
  have SD : Kept ((decide (1 ≤ s) && decide (s ≤ 2147483646)) = true) := ⟨hs.ok⟩
  clear hs L25
  have X := Kept.mk ((Ext.refl w).alloc (.cells #[.int .i64 0, .int .i64 0, .slice none 0 0] 31))
  have kR := Blk.new w #[.int .i64 0, .int .i64 0, .slice none 0 0] 31
  go_enter Try.func106, Try.ntmps106
  go_wp2_with (fail)
  (with_reducible refine (impl_sideValid R true SR.out _).mono ?_)
  rintro e u1 ⟨rfl, rfl⟩
  go_wp2_with (fail)
  (with_reducible refine (impl_sideValid C true SC.out _).mono ?_)
  rintro e u2 ⟨rfl, rfl⟩
  go_wp2_with (fail)
  (with_reducible refine (impl_seedValid s true SD.out _).mono ?_)
  rintro e u3 ⟨rfl, rfl⟩
  go_wp2_with (fail)
  (with_reducible refine (RL.out _).mono ?_)
  rintro e u4 ⟨vL, rfl, oL, x9⟩
  obtain ⟨pL, mL, huL, -, -⟩ := id oL.ints
  try simp only at huL
  subst huL
  replace oL := oL.mono X.out.size
  replace X := Kept.mk (X.out.trans x9)
  replace kR := kR.keep x9
  clear x9
  have neoLkR := Kept.mk (oL.ne kR (by decide))
  have KoL := Kept.mk oL
  obtain ⟨akR0, akR1, akR2⟩ := kR.three
  have fkR := kR.free
  clear kR oL
  go_wp2
  exact bodyPost_ret (v := .tuple #[.agg #[.int .i64 R, .int .i64 C, .slice pL xs.length mL], .int .i64 nx]) (by simp [results, Try.results106, go_sem, *]) rfl ⟨_, rfl, (KoL.out.oth neoLkR.out 0 1 2 _ _ _), (X.out.oth (g := w.heap.size) (by omega) 0 1 2 _ _ _)⟩
set_option maxHeartbeats 2000000 in
theorem spec_RandomMatrix (R C : Nat) (hR : Side R) (hC : Side C) (s : Int) (hs : Seed s) (w : World) : Calls Try.prog 105 #[.int .i64 R, .int .i64 C, .int .i64 s] w (RmPost R C s w) := by
  have SR := Kept.mk hR.ok
  have SC := Kept.mk hC.ok
  have WM := wrap_mul hR hC
  have L25 := side_mul' hR hC
  obtain ⟨L, hL⟩ : ∃ L, L = R * C := ⟨_, rfl⟩
  unfold RmPost
  rw [← hL] at WM L25 ⊢
  clear hL
  have RL := Kept.mk (fun w' => spec_l4List s L hs ⟨by omega⟩ w')
  unfold ListPost at RL
  have hl : (rlist s L).length = L := rlist_len _ _
  generalize rlist s L = xs at *
  generalize strm s L = nx at *
  subst hl
  have SD : Kept ((decide (1 ≤ s) && decide (s ≤ 2147483646)) = true) := ⟨hs.ok⟩
  clear hs L25
  have X := Kept.mk ((Ext.refl w).alloc (.cells #[.int .i64 0, .int .i64 0, .slice none 0 0] 31))
  have kR := Blk.new w #[.int .i64 0, .int .i64 0, .slice none 0 0] 31
  go_enter Try.func105, Try.ntmps105
  go_wp2_with (fail)
  (with_reducible refine (spec_l1In s 1 2147483646 true SD.out _).mono ?_)
  rintro e u1 ⟨rfl, rfl⟩
  go_wp2_with (fail)
  (with_reducible refine (spec_l1In R 1 5 true (side_dec SR.out) _).mono ?_)
  rintro e u2 ⟨rfl, rfl⟩
  go_wp2_with (fail)
  (with_reducible refine (spec_l1In C 1 5 true (side_dec SC.out) _).mono ?_)
  rintro e u3 ⟨rfl, rfl⟩
  go_wp2_with (fail)
  (with_reducible refine (RL.out _).mono ?_)
  rintro e u4 ⟨vL, rfl, oL, x9⟩
  obtain ⟨pL, mL, huL, -, -⟩ := id oL.ints
  try simp only at huL
  subst huL
  replace oL := oL.mono X.out.size
  replace X := Kept.mk (X.out.trans x9)
  replace kR := kR.keep x9
  clear x9
  have neoLkR := Kept.mk (oL.ne kR (by decide))
  have KoL := Kept.mk oL
  obtain ⟨akR0, akR1, akR2⟩ := kR.three
  have fkR := kR.free
  clear kR oL
  go_wp2
  exact bodyPost_ret (v := .tuple #[.agg #[.int .i64 R, .int .i64 C, .slice pL xs.length mL], .int .i64 nx]) (by simp [results, Try.results105, go_sem, *]) rfl ⟨_, rfl, (KoL.out.oth neoLkR.out 0 1 2 _ _ _), (X.out.oth (g := w.heap.size) (by omega) 0 1 2 _ _ _)⟩
end Go.Proofs.Ytkkdikoknegpjaa
namespace Go.Proofs.Ytkkdikoknegpjaa
set_option linter.unusedSimpArgs false
set_option linter.unusedVariables false
open Go.RowKit
def sd1 (R K : Nat) (s : Int) : Int := strm s (R * K)
def sd2 (R K : Nat) (s : Int) : Int := strm (sd1 R K s) (R * K)
def sd3 (R K C : Nat) (s : Int) : Int := strm (sd2 R K s) (K * C)
def sd4 (R K C : Nat) (s : Int) : Int := strm (sd3 R K C s) (K * C)
def sd5 (R K C : Nat) (s : Int) : Int := strm (sd4 R K C s) (R * C)
def tripA (R K : Nat) (s : Int) : ShM := ⟨⟨R, K, rlist s (R * K)⟩, ⟨R, K, rlist (sd1 R K s) (R * K)⟩⟩
def tripB (R K C : Nat) (s : Int) : ShM := ⟨⟨K, C, rlist (sd2 R K s) (K * C)⟩, ⟨K, C, rlist (sd3 R K C s) (K * C)⟩⟩
def tripC (R K C : Nat) (s : Int) : Mat := ⟨R, C, rlist (sd4 R K C s) (R * C)⟩
/-- The triple of a dealer with these sides and this seed. -/
def tripN (R K C : Nat) (s : Int) : TrM := ⟨tripA R K s, tripB R K C s, ⟨tripC R K C s, subM (mulM (joinM (tripA R K s)) (joinM (tripB R K C s))) (tripC R K C s)⟩⟩
def mkOkM (r k c s : Int) : Bool := sideB r && sideB k && sideB c && seedOk s
def tripM (r k c s : Int) : TrM := if mkOkM r k c s = true then tripN r.toNat k.toNat c.toNat s else trZ
def tripS (r k c s : Int) : Int := if mkOkM r k c s = true then sd5 r.toNat k.toNat c.toNat s else 0
def TrNPost (t : TrM) (n : Int) (w : World) (e : Ending) (w' : World) : Prop :=
  ∃ v0 v1 v2 v3 v4 v5, e = .returned (.tuple #[.agg #[.int .i64 t.a.f.r, .int .i64 t.a.f.c, v0, .int .i64 t.a.s.r, .int .i64 t.a.s.c, v1, .int .i64 t.b.f.r, .int .i64 t.b.f.c, v2, .int .i64 t.b.s.r, .int .i64 t.b.s.c, v3, .int .i64 t.c.f.r, .int .i64 t.c.f.c, v4, .int .i64 t.c.s.r, .int .i64 t.c.s.c, v5], .int .i64 n]) ∧
    Grp w.heap.size w' [v0, v1, v2, v3, v4, v5] [t.a.f.xs, t.a.s.xs, t.b.f.xs, t.b.s.xs, t.c.f.xs, t.c.s.xs] ∧ Ext w w'
theorem Side.of_int {r : Int} (h : sideB r = true) : ∃ R : Nat, r = (R : Int) ∧ Side R := by
  have h' := h
  rw [side_iff] at h
  obtain ⟨R, rfl⟩ := Int.eq_ofNat_of_zero_le (show 0 ≤ r by omega)
  exact ⟨R, rfl, Side.of h'⟩

theorem results_row_tmp {P : Program} {fn : Func} {p u : Tmp} {ty : TypeId} (h : fn.results = #[.cell p ty, .tmp u]) (tmps : Array Value) (w : World) (g : Nat) (t : TypeId) (cs : Array Value) (fr : Nat × Nat) (d : TypeDesc)
    (hp : tmps.getD p undef = .pointer (some ⟨g, 0, none⟩)) (hg : w.heap[g]? = some (.cells cs t fr))
    (hu : P.underlying ty = some d) (hd : (match d with | .struct _ | .array _ _ => true | _ => false) = true) (hi : (P.info? ty).map (·.size) = some cs.size) :
    (results fn tmps).run P w = .ok (.tuple #[.agg cs, tmps.getD u undef]) w := by
  have hp' : tmps[p]?.getD undef = .pointer (some ⟨g, 0, none⟩) := by simpa using hp
  simp [results, h, hp', asAddr, run_loadVar_row w g t ty cs fr d hg hu hd hi]
theorem mulM_len (a b : Mat) : (mulM a b).xs.length ≤ 1048576 := by
  unfold mulM
  split
  · rename_i h
    simp only [Bool.and_eq_true] at h
    obtain ⟨R, K, f, rfl, hR, hK, _⟩ := Mat.ok_form h.1.1
    obtain ⟨K', C, g, rfl, hK', hC, _⟩ := Mat.ok_form h.1.2
    simp only [mapTo_len, Fm_r, Fm_c, Int.toNat_natCast]
    exact Nat.le_trans (Nat.mul_le_mul hR.hi hC.hi) (by decide)
  · exact Nat.zero_le _
end Go.Proofs.Ytkkdikoknegpjaa
