import Derived.Test.YtkkdikoknegpjaaGreatPairT
import Derived.Test.YtkkdikoknegpjaaGreatQB
import Derived.Test.YtkkdikoknegpjaaGreatTriT
import Derived.Test.YtkkdikoknegpjaaGreatKF
namespace Go.Proofs.YtkkdikoknegpjaaGreat
set_option linter.unusedSimpArgs false
set_option linter.unusedVariables false
open Go.RowKit
def RmPost (R C : Nat) (s : Int) (w : World) (e : Ending) (w' : World) : Prop :=
 ∃ v, e = .returned (.tuple #[.agg #[.int .i64 R, .int .i64 C, v], .int .i64 (strm s (R * C))]) ∧ Own w.heap.size w' v (rlist s (R * C)) ∧ Ext w w'
theorem side_mul' {R C : Nat} (hR : Side R) (hC : Side C) : R * C ≤ 25 := by have := Nat.mul_le_mul hR.hi hC.hi; omega
theorem wrap_mul {R C : Nat} (hR : Side R) (hC : Side C) : wrap64 ((R : Int) * (C : Int)) = ((R * C : Nat) : Int) := by
 have h := side_mul' hR hC
 rw [← Int.natCast_mul]
 generalize R * C = L at *
 unfold wrap64; omega
set_option maxHeartbeats 2000000 in
theorem impl_RandomMatrix (R C : Nat) (hR : Side R) (hC : Side C) (s : Int) (hs : Seed s) (w : World) : Calls Tryz.prog 109 #[.int .i64 R, .int .i64 C, .int .i64 s] w (RmPost R C s w) := by
 have SR := kp hR.ok
 have SC := kp hC.ok
 have WM := wrap_mul hR hC
 have L25 := side_mul' hR hC
 obtain ⟨L, hL⟩ : ∃ L, L = R * C := ⟨_, rfl⟩
 unfold RmPost
 rw [← hL] at WM L25 ⊢
 clear hL
 have RL := kp (fun w' => impl_RandomList s L hs (by omega) w')
 unfold ListPost at RL
 have hl : (rlist s L).length = L := rlist_len _ _
 generalize rlist s L = xs at *
 generalize strm s L = nx at *
 subst hl
 have SD : Kept ((decide (1 ≤ s) && decide (s ≤ 2147483646)) = true) := ⟨hs.ok⟩
 clear hs L25
 have X := kp ((Ext.refl w).alloc (.cells #[.int .i64 0, .int .i64 0, .slice none 0 0] 28))
 have kR := Blk.new w #[.int .i64 0, .int .i64 0, .slice none 0 0] 28
 go_enter Tryz.func109, Tryz.ntmps109
 go_wp2_with (fail)
 (with_reducible refine (impl_sideValid R true SR.out _).mono ?_)
 rintro e u1 ⟨rfl, rfl⟩
 go_wp2_with (fail)
 (with_reducible refine (impl_sideValid C true SC.out _).mono ?_)
 rintro e u2 ⟨rfl, rfl⟩
 go_wp2_with (fail)
 (with_reducible refine (impl_seedValid s true SD.out _).mono ?_)
 rintro e u3 ⟨rfl, rfl⟩
 go_wp2_with (fail)
 (with_reducible refine (RL.out _).mono ?_)
 rintro e u4 ⟨vL, rfl, oL, x9⟩
 obtain ⟨pL, mL, huL, -, -⟩ := id oL.ints
 try simp only at huL
 subst huL
 replace oL := oL.mono X.out.size
 replace X := kp (X.out.trans x9)
 replace kR := kR.keep x9
 clear x9
 have neoLkR := kp (oL.ne kR (by decide))
 have KoL := kp oL
 obtain ⟨akR0, akR1, akR2⟩ := kR.three
 have fkR := kR.free
 clear kR oL
 go_wp2
 exact bodyPost_ret (v := .tuple #[.agg #[.int .i64 R, .int .i64 C, .slice pL xs.length mL], .int .i64 nx]) (by simp [results, Tryz.results109, go_sem, *]) rfl ⟨_, rfl, (KoL.out.oth neoLkR.out 0 1 2 _ _ _), (X.out.oth (g := w.heap.size) (by omega) 0 1 2 _ _ _)⟩
set_option maxHeartbeats 2000000 in
theorem spec_RandomMatrix (R C : Nat) (hR : Side R) (hC : Side C) (s : Int) (hs : Seed s) (w : World) : Calls Tryz.prog 76 #[.int .i64 R, .int .i64 C, .int .i64 s] w (RmPost R C s w) := by
 have SR := kp hR.ok
 have SC := kp hC.ok
 have WM := wrap_mul hR hC
 have L25 := side_mul' hR hC
 obtain ⟨L, hL⟩ : ∃ L, L = R * C := ⟨_, rfl⟩
 unfold RmPost
 rw [← hL] at WM L25 ⊢
 clear hL
 have RL := kp (fun w' => spec_l4List s L hs ⟨by omega⟩ w')
 unfold ListPost at RL
 have hl : (rlist s L).length = L := rlist_len _ _
 generalize rlist s L = xs at *
 generalize strm s L = nx at *
 subst hl
 have SD : Kept ((decide (1 ≤ s) && decide (s ≤ 2147483646)) = true) := ⟨hs.ok⟩
 clear hs L25
 have X := kp ((Ext.refl w).alloc (.cells #[.int .i64 0, .int .i64 0, .slice none 0 0] 28))
 have kR := Blk.new w #[.int .i64 0, .int .i64 0, .slice none 0 0] 28
 go_enter Tryz.func76, Tryz.ntmps76
 go_wp2_with (fail)
 (with_reducible refine (spec_l1In s 1 2147483646 true SD.out _).mono ?_)
 rintro e u1 ⟨rfl, rfl⟩
 go_wp2_with (fail)
 (with_reducible refine (spec_l1In R 1 5 true (side_dec SR.out) _).mono ?_)
 rintro e u2 ⟨rfl, rfl⟩
 go_wp2_with (fail)
 (with_reducible refine (spec_l1In C 1 5 true (side_dec SC.out) _).mono ?_)
 rintro e u3 ⟨rfl, rfl⟩
 go_wp2_with (fail)
 (with_reducible refine (RL.out _).mono ?_)
 rintro e u4 ⟨vL, rfl, oL, x9⟩
 obtain ⟨pL, mL, huL, -, -⟩ := id oL.ints
 try simp only at huL
 subst huL
 replace oL := oL.mono X.out.size
 replace X := kp (X.out.trans x9)
 replace kR := kR.keep x9
 clear x9
 have neoLkR := kp (oL.ne kR (by decide))
 have KoL := kp oL
 obtain ⟨akR0, akR1, akR2⟩ := kR.three
 have fkR := kR.free
 clear kR oL
 go_wp2
 exact bodyPost_ret (v := .tuple #[.agg #[.int .i64 R, .int .i64 C, .slice pL xs.length mL], .int .i64 nx]) (by simp [results, Tryz.results76, go_sem, *]) rfl ⟨_, rfl, (KoL.out.oth neoLkR.out 0 1 2 _ _ _), (X.out.oth (g := w.heap.size) (by omega) 0 1 2 _ _ _)⟩
def sd1 (R K : Nat) (s : Int) : Int := strm s (R * K)
def sd2 (R K : Nat) (s : Int) : Int := strm (sd1 R K s) (R * K)
def sd3 (R K C : Nat) (s : Int) : Int := strm (sd2 R K s) (K * C)
def sd4 (R K C : Nat) (s : Int) : Int := strm (sd3 R K C s) (K * C)
def sd5 (R K C : Nat) (s : Int) : Int := strm (sd4 R K C s) (R * C)
def tripA (R K : Nat) (s : Int) : ShM := ⟨⟨R, K, rlist s (R * K)⟩, ⟨R, K, rlist (sd1 R K s) (R * K)⟩⟩
def tripB (R K C : Nat) (s : Int) : ShM := ⟨⟨K, C, rlist (sd2 R K s) (K * C)⟩, ⟨K, C, rlist (sd3 R K C s) (K * C)⟩⟩
def tripC (R K C : Nat) (s : Int) : Mat := ⟨R, C, rlist (sd4 R K C s) (R * C)⟩
def tripN (R K C : Nat) (s : Int) : TrM := ⟨tripA R K s, tripB R K C s, ⟨tripC R K C s, subM (mulM (joinM (tripA R K s)) (joinM (tripB R K C s))) (tripC R K C s)⟩⟩
def mkOkM (r k c s : Int) : Bool := sideB r && sideB k && sideB c && seedOk s
def tripM (r k c s : Int) : TrM := if mkOkM r k c s = true then tripN r.toNat k.toNat c.toNat s else trZ
def tripS (r k c s : Int) : Int := if mkOkM r k c s = true then sd5 r.toNat k.toNat c.toNat s else 0
def TrNPost (t : TrM) (n : Int) (w : World) (e : Ending) (w' : World) : Prop :=
 ∃ v0 v1 v2 v3 v4 v5, e = .returned (.tuple #[.agg #[.int .i64 t.a.f.r, .int .i64 t.a.f.c, v0, .int .i64 t.a.s.r, .int .i64 t.a.s.c, v1, .int .i64 t.b.f.r, .int .i64 t.b.f.c, v2, .int .i64 t.b.s.r, .int .i64 t.b.s.c, v3, .int .i64 t.c.f.r, .int .i64 t.c.f.c, v4, .int .i64 t.c.s.r, .int .i64 t.c.s.c, v5], .int .i64 n]) ∧
  Grp w.heap.size w' [v0, v1, v2, v3, v4, v5] [t.a.f.xs, t.a.s.xs, t.b.f.xs, t.b.s.xs, t.c.f.xs, t.c.s.xs] ∧ Ext w w'
theorem Side.of_int {r : Int} (h : sideB r = true) : ∃ R : Nat, r = (R : Int) ∧ Side R := by
 have h' := h
 rw [side_iff] at h
 obtain ⟨R, rfl⟩ := Int.eq_ofNat_of_zero_le (show 0 ≤ r by omega)
 exact ⟨R, rfl, Side.of h'⟩
theorem results_row_tmp {P : Program} {fn : Func} {p u : Tmp} {ty : TypeId} (h : fn.results = #[.cell p ty, .tmp u]) (tmps : Array Value) (w : World) (g : Nat) (t : TypeId) (cs : Array Value) (fr : Nat × Nat) (d : TypeDesc)
 (hp : tmps.getD p undef = .pointer (some ⟨g, 0, none⟩)) (hg : w.heap[g]? = some (.cells cs t fr))
 (hu : P.underlying ty = some d) (hd : (match d with | .struct _ | .array _ _ => true | _ => false) = true) (hi : (P.info? ty).map (·.size) = some cs.size) :
 (results fn tmps).run P w = .ok (.tuple #[.agg cs, tmps.getD u undef]) w := by
 have hp' : tmps[p]?.getD undef = .pointer (some ⟨g, 0, none⟩) := by simpa using hp
 simp [results, h, hp', asAddr, run_loadVar_row w g t ty cs fr d hg hu hd hi]
theorem mulM_len (a b : Mat) : (mulM a b).xs.length ≤ 1048576 := by
 unfold mulM
 split
 ·rename_i h
  simp only [Bool.and_eq_true] at h
  obtain ⟨R, K, f, rfl, hR, hK, _⟩ := Mat.ok_form h.1.1
  obtain ⟨K', C, g, rfl, hK', hC, _⟩ := Mat.ok_form h.1.2
  simp only [mapTo_len, Fm_r, Fm_c, Int.toNat_natCast]
  exact Nat.le_trans (Nat.mul_le_mul hR.hi hC.hi) (by decide)
 exact Nat.zero_le _
set_option maxHeartbeats 8000000 in
set_option maxRecDepth 4000 in
theorem impl_MakeTripleN (R K C : Nat) (hR : Side R) (hK : Side K) (hC : Side C) (s : Int) (hs : Seed s) (w : World) : Calls Tryz.prog 92 #[.int .i64 R, .int .i64 K, .int .i64 C, .int .i64 s] w (TrNPost (tripN R K C s) (sd5 R K C s) w) := by
 have SR := kp hR.ok
 have SK := kp hK.ok
 have SC := kp hC.ok
 have SD : Kept ((decide (1 ≤ s) && decide (s ≤ 2147483646)) = true) := ⟨hs.ok⟩
 unfold TrNPost
 unfold tripN tripA tripB tripC sd5
 simp only
 unfold sd4 sd3 sd2 sd1
 have Q0 := kp (fun w' => impl_RandomMatrix R K hR hK s hs w')
 unfold RmPost at Q0
 have L0 : Kept ((rlist s (R * K)).length ≤ 1048576) := ⟨by rw [rlist_len]; exact Nat.le_trans (side_mul' hR hK) (by decide)⟩
 replace hs := hs.strm (R * K)
 generalize strm s (R * K) = t1 at *
 generalize rlist s (R * K) = x0 at *
 have Q1 := kp (fun w' => impl_RandomMatrix R K hR hK t1 hs w')
 unfold RmPost at Q1
 have L1 : Kept ((rlist t1 (R * K)).length ≤ 1048576) := ⟨by rw [rlist_len]; exact Nat.le_trans (side_mul' hR hK) (by decide)⟩
 replace hs := hs.strm (R * K)
 generalize strm t1 (R * K) = t2 at *
 generalize rlist t1 (R * K) = x1 at *
 have Q2 := kp (fun w' => impl_RandomMatrix K C hK hC t2 hs w')
 unfold RmPost at Q2
 have L2 : Kept ((rlist t2 (K * C)).length ≤ 1048576) := ⟨by rw [rlist_len]; exact Nat.le_trans (side_mul' hK hC) (by decide)⟩
 replace hs := hs.strm (K * C)
 generalize strm t2 (K * C) = t3 at *
 generalize rlist t2 (K * C) = x2 at *
 have Q3 := kp (fun w' => impl_RandomMatrix K C hK hC t3 hs w')
 unfold RmPost at Q3
 have L3 : Kept ((rlist t3 (K * C)).length ≤ 1048576) := ⟨by rw [rlist_len]; exact Nat.le_trans (side_mul' hK hC) (by decide)⟩
 replace hs := hs.strm (K * C)
 generalize strm t3 (K * C) = t4 at *
 generalize rlist t3 (K * C) = x3 at *
 have Q4 := kp (fun w' => impl_RandomMatrix R C hR hC t4 hs w')
 unfold RmPost at Q4
 have L4 : Kept ((rlist t4 (R * C)).length ≤ 1048576) := ⟨by rw [rlist_len]; exact Nat.le_trans (side_mul' hR hC) (by decide)⟩
 replace hs := hs.strm (R * C)
 generalize strm t4 (R * C) = t5 at *
 generalize rlist t4 (R * C) = x4 at *
 have PP := kp (fun (v0 v1 v2 v3 v4 v5 : Value) (w' : World) (h0 : Ints w' v0 x0) (h1 : Ints w' v1 x1) (h2 : Ints w' v2 x2) (h3 : Ints w' v3 x3) (h4 : Ints w' v4 x4) (h5 : Ints w' v5 []) => impl_product R K R K K C K C R C 0 0 v0 v1 v2 v3 v4 v5 x0 x1 x2 x3 x4 [] w' h0 h1 h2 h3 h4 h5)
 unfold MatPost prodM at PP
 simp only at PP
 generalize mulM (joinM ⟨⟨R, K, x0⟩, ⟨R, K, x1⟩⟩) (joinM ⟨⟨K, C, x2⟩, ⟨K, C, x3⟩⟩) = DP at *
 obtain ⟨dr, dc, ds⟩ := DP
 simp only at PP
 have SB := kp (fun (v u : Value) (w' : World) (h1 : Ints w' v ds) (h2 : Ints w' u x4) => impl_SubMatrices dr dc R C v u ds x4 w' h1 h2)
 unfold MatPost at SB
 generalize subM ⟨dr, dc, ds⟩ ⟨R, C, x4⟩ = DE at *
 obtain ⟨er, ec, es⟩ := DE
 simp only at SB
 clear hs
 have X := kp (((Ext.refl w).alloc (.cells #[.int .i64 0, .int .i64 0, .slice none 0 0, .int .i64 0, .int .i64 0, .slice none 0 0, .int .i64 0, .int .i64 0, .slice none 0 0, .int .i64 0, .int .i64 0, .slice none 0 0, .int .i64 0, .int .i64 0, .slice none 0 0, .int .i64 0, .int .i64 0, .slice none 0 0] 71)).alloc (.cells #[.int .i64 0, .int .i64 0, .slice none 0 0, .int .i64 0, .int .i64 0, .slice none 0 0, .int .i64 0, .int .i64 0, .slice none 0 0, .int .i64 0, .int .i64 0, .slice none 0 0, .int .i64 0, .int .i64 0, .slice none 0 0, .int .i64 0, .int .i64 0, .slice none 0 0] 71))
 have kR := (Blk.new w #[.int .i64 0, .int .i64 0, .slice none 0 0, .int .i64 0, .int .i64 0, .slice none 0 0, .int .i64 0, .int .i64 0, .slice none 0 0, .int .i64 0, .int .i64 0, .slice none 0 0, .int .i64 0, .int .i64 0, .slice none 0 0, .int .i64 0, .int .i64 0, .slice none 0 0] 71).old (.cells #[.int .i64 0, .int .i64 0, .slice none 0 0, .int .i64 0, .int .i64 0, .slice none 0 0, .int .i64 0, .int .i64 0, .slice none 0 0, .int .i64 0, .int .i64 0, .slice none 0 0, .int .i64 0, .int .i64 0, .slice none 0 0, .int .i64 0, .int .i64 0, .slice none 0 0] 71)
 have kT := Blk.new (w.alloc (.cells #[.int .i64 0, .int .i64 0, .slice none 0 0, .int .i64 0, .int .i64 0, .slice none 0 0, .int .i64 0, .int .i64 0, .slice none 0 0, .int .i64 0, .int .i64 0, .slice none 0 0, .int .i64 0, .int .i64 0, .slice none 0 0, .int .i64 0, .int .i64 0, .slice none 0 0] 71)) #[.int .i64 0, .int .i64 0, .slice none 0 0, .int .i64 0, .int .i64 0, .slice none 0 0, .int .i64 0, .int .i64 0, .slice none 0 0, .int .i64 0, .int .i64 0, .slice none 0 0, .int .i64 0, .int .i64 0, .slice none 0 0, .int .i64 0, .int .i64 0, .slice none 0 0] 71
 simp only [World.size_alloc] at kT
 go_enter Tryz.func92, Tryz.ntmps92
 go_wp2_with (fail)
 (with_reducible refine (impl_sideValid R true SR.out _).mono ?_)
 rintro e u1 ⟨rfl, rfl⟩
 go_wp2_with (fail)
 (with_reducible refine (impl_sideValid K true SK.out _).mono ?_)
 rintro e u2 ⟨rfl, rfl⟩
 go_wp2_with (fail)
 (with_reducible refine (impl_sideValid C true SC.out _).mono ?_)
 rintro e u3 ⟨rfl, rfl⟩
 go_wp2_with (fail)
 (with_reducible refine (impl_seedValid s true SD.out _).mono ?_)
 rintro e u4 ⟨rfl, rfl⟩
 go_wp2_with (fail)
 (with_reducible refine (Q0.out _).mono ?_)
 rintro e u5 ⟨v0, rfl, o0, x9⟩
 obtain ⟨p0, m0, hu9, -, -⟩ := id o0.ints
 try simp only at hu9
 subst hu9
 have gG := (Grp.one o0).mono X.out.size
 clear o0
 replace X := kp (X.out.trans x9)
 replace kR := kR.keep x9
 replace kT := kT.keep x9
 clear x9
 obtain ⟨akT0, akT1, akT2, akT3, akT4, akT5, akT6, akT7, akT8, akT9, akT10, akT11, akT12, akT13, akT14, akT15, akT16, akT17⟩ := kT.c18
 have fkT := kT.free
 go_wp2_with (fail)
 clear akT0 akT1 akT2 akT3 akT4 akT5 akT6 akT7 akT8 akT9 akT10 akT11 akT12 akT13 akT14 akT15 akT16 akT17
 clear fkT
 replace gG := gG.oth (gG.ne kT (by decide)) 0 1 2 (.int .i64 R) (.int .i64 K) (.slice p0 x0.length m0)
 replace kR := kR.oth (g := w.heap.size + 1) (by omega) 0 1 2 (.int .i64 R) (.int .i64 K) (.slice p0 x0.length m0)
 replace kT := kT.sub 0 1 2 (.int .i64 R) (.int .i64 K) (.slice p0 x0.length m0) (cs' := #[.int .i64 R, .int .i64 K, .slice p0 x0.length m0, .int .i64 0, .int .i64 0, .slice none 0 0, .int .i64 0, .int .i64 0, .slice none 0 0, .int .i64 0, .int .i64 0, .slice none 0 0, .int .i64 0, .int .i64 0, .slice none 0 0, .int .i64 0, .int .i64 0, .slice none 0 0]) rfl
 replace X := kp (X.out.oth (g := w.heap.size + 1) (by omega) 0 1 2 (.int .i64 R) (.int .i64 K) (.slice p0 x0.length m0))
 (with_reducible refine (Q1.out _).mono ?_)
 rintro e u6 ⟨v1, rfl, o1, x9⟩
 obtain ⟨p1, m1, hu9, -, -⟩ := id o1.ints
 try simp only at hu9
 subst hu9
 have SG := kp (gG.sep (Grp.one o1))
 have g9 := ((Grp.one o1).mono X.out.size)
 have gK := gG.keep x9
 replace X := kp (X.out.trans x9)
 replace kR := kR.keep x9
 replace kT := kT.keep x9
 clear x9
 have gN := gK.app g9 SG.out
 clear gG gK g9 o1 SG
 have gG : Grp w.heap.size u6 [.slice p0 x0.length m0, .slice p1 x1.length m1] [x0, x1] := gN
 clear gN
 obtain ⟨akT0, akT1, akT2, akT3, akT4, akT5, akT6, akT7, akT8, akT9, akT10, akT11, akT12, akT13, akT14, akT15, akT16, akT17⟩ := kT.c18
 have fkT := kT.free
 go_wp2_with (fail)
 clear akT0 akT1 akT2 akT3 akT4 akT5 akT6 akT7 akT8 akT9 akT10 akT11 akT12 akT13 akT14 akT15 akT16 akT17
 clear fkT
 replace gG := gG.oth (gG.ne kT (by decide)) 3 4 5 (.int .i64 R) (.int .i64 K) (.slice p1 x1.length m1)
 replace kR := kR.oth (g := w.heap.size + 1) (by omega) 3 4 5 (.int .i64 R) (.int .i64 K) (.slice p1 x1.length m1)
 replace kT := kT.sub 3 4 5 (.int .i64 R) (.int .i64 K) (.slice p1 x1.length m1) (cs' := #[.int .i64 R, .int .i64 K, .slice p0 x0.length m0, .int .i64 R, .int .i64 K, .slice p1 x1.length m1, .int .i64 0, .int .i64 0, .slice none 0 0, .int .i64 0, .int .i64 0, .slice none 0 0, .int .i64 0, .int .i64 0, .slice none 0 0, .int .i64 0, .int .i64 0, .slice none 0 0]) rfl
 replace X := kp (X.out.oth (g := w.heap.size + 1) (by omega) 3 4 5 (.int .i64 R) (.int .i64 K) (.slice p1 x1.length m1))
 (with_reducible refine (Q2.out _).mono ?_)
 rintro e u7 ⟨v2, rfl, o2, x9⟩
 obtain ⟨p2, m2, hu9, -, -⟩ := id o2.ints
 try simp only at hu9
 subst hu9
 have SG := kp (gG.sep (Grp.one o2))
 have g9 := ((Grp.one o2).mono X.out.size)
 have gK := gG.keep x9
 replace X := kp (X.out.trans x9)
 replace kR := kR.keep x9
 replace kT := kT.keep x9
 clear x9
 have gN := gK.app g9 SG.out
 clear gG gK g9 o2 SG
 have gG : Grp w.heap.size u7 [.slice p0 x0.length m0, .slice p1 x1.length m1, .slice p2 x2.length m2] [x0, x1, x2] := gN
 clear gN
 obtain ⟨akT0, akT1, akT2, akT3, akT4, akT5, akT6, akT7, akT8, akT9, akT10, akT11, akT12, akT13, akT14, akT15, akT16, akT17⟩ := kT.c18
 have fkT := kT.free
 go_wp2_with (fail)
 clear akT0 akT1 akT2 akT3 akT4 akT5 akT6 akT7 akT8 akT9 akT10 akT11 akT12 akT13 akT14 akT15 akT16 akT17
 clear fkT
 replace gG := gG.oth (gG.ne kT (by decide)) 6 7 8 (.int .i64 K) (.int .i64 C) (.slice p2 x2.length m2)
 replace kR := kR.oth (g := w.heap.size + 1) (by omega) 6 7 8 (.int .i64 K) (.int .i64 C) (.slice p2 x2.length m2)
 replace kT := kT.sub 6 7 8 (.int .i64 K) (.int .i64 C) (.slice p2 x2.length m2) (cs' := #[.int .i64 R, .int .i64 K, .slice p0 x0.length m0, .int .i64 R, .int .i64 K, .slice p1 x1.length m1, .int .i64 K, .int .i64 C, .slice p2 x2.length m2, .int .i64 0, .int .i64 0, .slice none 0 0, .int .i64 0, .int .i64 0, .slice none 0 0, .int .i64 0, .int .i64 0, .slice none 0 0]) rfl
 replace X := kp (X.out.oth (g := w.heap.size + 1) (by omega) 6 7 8 (.int .i64 K) (.int .i64 C) (.slice p2 x2.length m2))
 (with_reducible refine (Q3.out _).mono ?_)
 rintro e u8 ⟨v3, rfl, o3, x9⟩
 obtain ⟨p3, m3, hu9, -, -⟩ := id o3.ints
 try simp only at hu9
 subst hu9
 have SG := kp (gG.sep (Grp.one o3))
 have g9 := ((Grp.one o3).mono X.out.size)
 have gK := gG.keep x9
 replace X := kp (X.out.trans x9)
 replace kR := kR.keep x9
 replace kT := kT.keep x9
 clear x9
 have gN := gK.app g9 SG.out
 clear gG gK g9 o3 SG
 have gG : Grp w.heap.size u8 [.slice p0 x0.length m0, .slice p1 x1.length m1, .slice p2 x2.length m2, .slice p3 x3.length m3] [x0, x1, x2, x3] := gN
 clear gN
 obtain ⟨akT0, akT1, akT2, akT3, akT4, akT5, akT6, akT7, akT8, akT9, akT10, akT11, akT12, akT13, akT14, akT15, akT16, akT17⟩ := kT.c18
 have fkT := kT.free
 go_wp2_with (fail)
 clear akT0 akT1 akT2 akT3 akT4 akT5 akT6 akT7 akT8 akT9 akT10 akT11 akT12 akT13 akT14 akT15 akT16 akT17
 clear fkT
 replace gG := gG.oth (gG.ne kT (by decide)) 9 10 11 (.int .i64 K) (.int .i64 C) (.slice p3 x3.length m3)
 replace kR := kR.oth (g := w.heap.size + 1) (by omega) 9 10 11 (.int .i64 K) (.int .i64 C) (.slice p3 x3.length m3)
 replace kT := kT.sub 9 10 11 (.int .i64 K) (.int .i64 C) (.slice p3 x3.length m3) (cs' := #[.int .i64 R, .int .i64 K, .slice p0 x0.length m0, .int .i64 R, .int .i64 K, .slice p1 x1.length m1, .int .i64 K, .int .i64 C, .slice p2 x2.length m2, .int .i64 K, .int .i64 C, .slice p3 x3.length m3, .int .i64 0, .int .i64 0, .slice none 0 0, .int .i64 0, .int .i64 0, .slice none 0 0]) rfl
 replace X := kp (X.out.oth (g := w.heap.size + 1) (by omega) 9 10 11 (.int .i64 K) (.int .i64 C) (.slice p3 x3.length m3))
 (with_reducible refine (Q4.out _).mono ?_)
 rintro e u9 ⟨v4, rfl, o4, x9⟩
 obtain ⟨p4, m4, hu9, -, -⟩ := id o4.ints
 try simp only at hu9
 subst hu9
 have SG := kp (gG.sep (Grp.one o4))
 have g9 := ((Grp.one o4).mono X.out.size)
 have gK := gG.keep x9
 replace X := kp (X.out.trans x9)
 replace kR := kR.keep x9
 replace kT := kT.keep x9
 clear x9
 have gN := gK.app g9 SG.out
 clear gG gK g9 o4 SG
 have gG : Grp w.heap.size u9 [.slice p0 x0.length m0, .slice p1 x1.length m1, .slice p2 x2.length m2, .slice p3 x3.length m3, .slice p4 x4.length m4] [x0, x1, x2, x3, x4] := gN
 clear gN
 obtain ⟨akT0, akT1, akT2, akT3, akT4, akT5, akT6, akT7, akT8, akT9, akT10, akT11, akT12, akT13, akT14, akT15, akT16, akT17⟩ := kT.c18
 have fkT := kT.free
 go_wp2_with (fail)
 clear akT0 akT1 akT2 akT3 akT4 akT5 akT6 akT7 akT8 akT9 akT10 akT11 akT12 akT13 akT14 akT15 akT16 akT17
 clear fkT
 replace gG := gG.oth (gG.ne kT (by decide)) 12 13 14 (.int .i64 R) (.int .i64 C) (.slice p4 x4.length m4)
 replace kR := kR.oth (g := w.heap.size + 1) (by omega) 12 13 14 (.int .i64 R) (.int .i64 C) (.slice p4 x4.length m4)
 replace kT := kT.sub 12 13 14 (.int .i64 R) (.int .i64 C) (.slice p4 x4.length m4) (cs' := #[.int .i64 R, .int .i64 K, .slice p0 x0.length m0, .int .i64 R, .int .i64 K, .slice p1 x1.length m1, .int .i64 K, .int .i64 C, .slice p2 x2.length m2, .int .i64 K, .int .i64 C, .slice p3 x3.length m3, .int .i64 R, .int .i64 C, .slice p4 x4.length m4, .int .i64 0, .int .i64 0, .slice none 0 0]) rfl
 replace X := kp (X.out.oth (g := w.heap.size + 1) (by omega) 12 13 14 (.int .i64 R) (.int .i64 C) (.slice p4 x4.length m4))
 apply wp_region_zip [isv _, matR dr dc ds, isv _, isv _, isv _, matR er ec es] _ (by kernel_rfl)
 case hA => intro V; simp [putAll, dstOf, Act.put]; exact rfl
 case hsl => intro V; exact rfl
 case step =>
  intro V lo up w' hr
  obtain ⟨hcr, hzr⟩ := hr.cells
  have hsr := hr.size
  have kR := kR.keep hr
  have kT := kT.keep hr
  have gG := gG.keep hr
  have hxr := X.out.trans hr
  obtain ⟨akT0, akT1, akT2, akT3, akT4, akT5, akT6, akT7, akT8, akT9, akT10, akT11, akT12, akT13, akT14, akT15, akT16, akT17⟩ := kT.c18
  simp only [zipOk, depsImp, isv, matR, modeNg, newb, waits, Region.binds, List.map_nil, List.map_cons, List.headD_cons, List.nil_append, List.cons_append, List.filterMap_cons, List.filterMap_nil, ↓reduceIte, modeNe, Bool.false_eq_true, true_implies, List.getD_cons_zero, List.getD_cons_succ, and_true]
  refine ⟨?_, ?_, ?_, ?_, ?_, ?_⟩
  ·intros
   go_wp2
   refine sQ ?_
   exact eZ
  ·intros
   go_wp2_with (fail)
   (with_reducible refine (PP.out _ _ _ _ _ _ _ gG.o0.ints gG.o1.ints gG.o2.ints gG.o3.ints gG.o4.ints (Own.nil 0 _).ints).mono ?_)
   rintro e w9 ⟨v9, rfl, o9, x9⟩
   go_wp2
   refine sQ ?_
   exact ⟨x9, v9, rfl, o9, fun q hq => (o9.block q hq).2⟩
  ·intros
   go_wp2
   refine sQ ?_
   exact eZ
  ·intros
   go_wp2
   refine sQ ?_
   exact eZ
  ·intros
   go_wp2
   refine sQ ?_
   exact eZ
  intro _ _ _ ⟨v1, e1, o1, b1⟩
  intros
  go_wp2_with (fail)
  (with_reducible refine (SB.out _ _ _ o1.ints gG.o4.ints).mono ?_)
  rintro e w9 ⟨v9, rfl, o9, x9⟩
  go_wp2
  refine sQ ?_
  exact ⟨x9, v9, rfl, o9, fun q hq => (o9.block q hq).2⟩
 case hB => kernel_rfl
 intro V lo up w' hr hf ha
 simp only [factsOk, isv, matR, modeNg, newb, List.map_nil, List.map_cons, List.headD_cons, and_true, Nat.zero_add, Nat.reduceAdd] at hf
 simp only [List.length_cons, List.length_nil, Nat.zero_add, Nat.reduceAdd, List.drop_succ_cons, List.drop_zero]
 obtain ⟨-, -, -, -, -, ⟨l5, -, -, v5, e5, o5, b5⟩⟩ := hf
 have SG := kp (gG.sep (Grp.one (o5.mono l5)))
 clear ha
 replace kR := kR.keep hr
 replace kT := kT.keep hr
 replace gG := gG.keep hr
 replace o5 := o5.mono (Nat.le_trans X.out.size l5)
 replace X := kp (X.out.trans hr)
 clear hr
 try clear hc hz
 obtain ⟨pE, mE, huE, -, -⟩ := id o5.ints
 try simp only at huE
 subst huE
 rw [e5]
 clear e5 l5 b5
 have oE := o5
 clear o5
 have gN := gG.app (Grp.one oE) SG.out
 clear gG oE
 have gG : Grp w.heap.size w' [.slice p0 x0.length m0, .slice p1 x1.length m1, .slice p2 x2.length m2, .slice p3 x3.length m3, .slice p4 x4.length m4, .slice pE es.length mE] [x0, x1, x2, x3, x4, es] := gN
 clear gN
 obtain ⟨akT0, akT1, akT2, akT3, akT4, akT5, akT6, akT7, akT8, akT9, akT10, akT11, akT12, akT13, akT14, akT15, akT16, akT17⟩ := kT.c18
 have fkT := kT.free
 replace gG := gG.oth (gG.ne kT (by decide)) 15 16 17 (.int .i64 er) (.int .i64 ec) (.slice pE es.length mE)
 replace kR := kR.oth (g := w.heap.size + 1) (by omega) 15 16 17 (.int .i64 er) (.int .i64 ec) (.slice pE es.length mE)
 replace kT := kT.sub 15 16 17 (.int .i64 er) (.int .i64 ec) (.slice pE es.length mE) (cs' := #[.int .i64 R, .int .i64 K, .slice p0 x0.length m0, .int .i64 R, .int .i64 K, .slice p1 x1.length m1, .int .i64 K, .int .i64 C, .slice p2 x2.length m2, .int .i64 K, .int .i64 C, .slice p3 x3.length m3, .int .i64 R, .int .i64 C, .slice p4 x4.length m4, .int .i64 er, .int .i64 ec, .slice pE es.length mE]) rfl
 replace X := kp (X.out.oth (g := w.heap.size + 1) (by omega) 15 16 17 (.int .i64 er) (.int .i64 ec) (.slice pE es.length mE))
 have NR := kp (gG.ne kR (by decide))
 have KO := kp gG
 have KR := kp kR
 have kx := kp (X.out.size)
 have KT := kp kT
 clear kR kT gG
 go_wp2_with (first | (refine wpList_load_row rfl 71 (.tmp 10) rfl (w.heap.size + 1) rfl 71 _ _ _ KT.out Tryz.underlying71 rfl (by kernel_rfl) ?_) | (refine wpList_store_blk rfl rfl 71 (.tmp 8) (.tmp 83) rfl (w.heap.size) _ rfl rfl 71 _ KR.out (by kernel_rfl) rfl (by simp [Value.oneCell']) X.out (by omega) ?_; intro w9 hy kR9 hoth hsz; have NO := kp (KO.out.keep' hoth NR.out); have HY := kp hy; have K9 := kp kR9; clear hy hoth hsz KR KO X kR9; try clear KT))
 exact bodyPost_ret (v := .tuple #[.agg #[.int .i64 R, .int .i64 K, .slice p0 x0.length m0, .int .i64 R, .int .i64 K, .slice p1 x1.length m1, .int .i64 K, .int .i64 C, .slice p2 x2.length m2, .int .i64 K, .int .i64 C, .slice p3 x3.length m3, .int .i64 R, .int .i64 C, .slice p4 x4.length m4, .int .i64 er, .int .i64 ec, .slice pE es.length mE], .int .i64 t5]) (by rw [results_row_tmp rfl _ _ (w.heap.size) 71 _ _ _ rfl K9.out Tryz.underlying71 rfl (by kernel_rfl)]; rfl) rfl ⟨_, _, _, _, _, _, rfl, NO.out, HY.out⟩
theorem Grp.zero6 (B : Nat) (w : World) : Grp B w [.slice none 0 0, .slice none 0 0, .slice none 0 0, .slice none 0 0, .slice none 0 0, .slice none 0 0] [[], [], [], [], [], []] :=
 ⟨⟨Own.nil _ _, Own.nil _ _, Own.nil _ _, Own.nil _ _, Own.nil _ _, Own.nil _ _, trivial⟩, by have a : Apt (.slice none 0 0) (.slice none 0 0) := Apt.nil _ _ rfl; simp [a]⟩
set_option maxHeartbeats 4000000 in
set_option maxRecDepth 4000 in
theorem impl_MakeMatrixTriple (r k c s : Int) (w : World) : Calls Tryz.prog 92 #[.int .i64 r, .int .i64 k, .int .i64 c, .int .i64 s] w (TrNPost (tripM r k c s) (tripS r k c s) w) := by
 cases g0 : sideB r
 ·have hz : mkOkM r k c s = false := by unfold mkOkM; simp [g0]
  rw [show tripM r k c s = trZ by unfold tripM; rw [hz]; rfl, show tripS r k c s = 0 by unfold tripS; rw [hz]; rfl]
  clear hz
  unfold TrNPost trZ shZ matZ
  simp only
  have S0 : Kept (sideB r = false) := ⟨g0⟩
  clear g0
  have X := kp ((Ext.refl w).alloc (.cells #[.int .i64 0, .int .i64 0, .slice none 0 0, .int .i64 0, .int .i64 0, .slice none 0 0, .int .i64 0, .int .i64 0, .slice none 0 0, .int .i64 0, .int .i64 0, .slice none 0 0, .int .i64 0, .int .i64 0, .slice none 0 0, .int .i64 0, .int .i64 0, .slice none 0 0] 71))
  have kR := Blk.new w #[.int .i64 0, .int .i64 0, .slice none 0 0, .int .i64 0, .int .i64 0, .slice none 0 0, .int .i64 0, .int .i64 0, .slice none 0 0, .int .i64 0, .int .i64 0, .slice none 0 0, .int .i64 0, .int .i64 0, .slice none 0 0, .int .i64 0, .int .i64 0, .slice none 0 0] 71
  go_enter Tryz.func92, Tryz.ntmps92
  go_wp2_with (fail)
  (with_reducible refine (impl_sideValid r false S0.out _).mono ?_)
  rintro e u1 ⟨rfl, rfl⟩
  have KR := kp kR
  clear kR
  go_wp2_with (refine wpList_store_blk rfl rfl 71 (.tmp 8) (.tmp 29) rfl (w.heap.size) _ rfl rfl 71 _ KR.out (by kernel_rfl) rfl (by simp [Value.oneCell']) X.out (Nat.le_refl _) ?_; intro w9 hy kR9 hoth hsz; have HY := kp hy; have K9 := kp kR9; clear hy hoth hsz KR X kR9)
  exact bodyPost_ret (v := zzC) (by rw [results_row_tmp rfl _ _ (w.heap.size) 71 _ _ _ rfl K9.out Tryz.underlying71 rfl (by kernel_rfl)]; rfl) rfl ⟨_, _, _, _, _, _, rfl, Grp.zero6 _ _, HY.out⟩
 cases g1 : sideB k
 ·have hz : mkOkM r k c s = false := by unfold mkOkM; simp [g0, g1]
  rw [show tripM r k c s = trZ by unfold tripM; rw [hz]; rfl, show tripS r k c s = 0 by unfold tripS; rw [hz]; rfl]
  clear hz
  unfold TrNPost trZ shZ matZ
  simp only
  have S0 : Kept (sideB r = true) := ⟨g0⟩
  have S1 : Kept (sideB k = false) := ⟨g1⟩
  clear g0 g1
  have X := kp ((Ext.refl w).alloc (.cells #[.int .i64 0, .int .i64 0, .slice none 0 0, .int .i64 0, .int .i64 0, .slice none 0 0, .int .i64 0, .int .i64 0, .slice none 0 0, .int .i64 0, .int .i64 0, .slice none 0 0, .int .i64 0, .int .i64 0, .slice none 0 0, .int .i64 0, .int .i64 0, .slice none 0 0] 71))
  have kR := Blk.new w #[.int .i64 0, .int .i64 0, .slice none 0 0, .int .i64 0, .int .i64 0, .slice none 0 0, .int .i64 0, .int .i64 0, .slice none 0 0, .int .i64 0, .int .i64 0, .slice none 0 0, .int .i64 0, .int .i64 0, .slice none 0 0, .int .i64 0, .int .i64 0, .slice none 0 0] 71
  go_enter Tryz.func92, Tryz.ntmps92
  go_wp2_with (fail)
  (with_reducible refine (impl_sideValid r true S0.out _).mono ?_)
  rintro e u1 ⟨rfl, rfl⟩
  go_wp2_with (fail)
  (with_reducible refine (impl_sideValid k false S1.out _).mono ?_)
  rintro e u2 ⟨rfl, rfl⟩
  have KR := kp kR
  clear kR
  go_wp2_with (refine wpList_store_blk rfl rfl 71 (.tmp 8) (.tmp 29) rfl (w.heap.size) _ rfl rfl 71 _ KR.out (by kernel_rfl) rfl (by simp [Value.oneCell']) X.out (Nat.le_refl _) ?_; intro w9 hy kR9 hoth hsz; have HY := kp hy; have K9 := kp kR9; clear hy hoth hsz KR X kR9)
  exact bodyPost_ret (v := zzC) (by rw [results_row_tmp rfl _ _ (w.heap.size) 71 _ _ _ rfl K9.out Tryz.underlying71 rfl (by kernel_rfl)]; rfl) rfl ⟨_, _, _, _, _, _, rfl, Grp.zero6 _ _, HY.out⟩
 cases g2 : sideB c
 ·have hz : mkOkM r k c s = false := by unfold mkOkM; simp [g0, g1, g2]
  rw [show tripM r k c s = trZ by unfold tripM; rw [hz]; rfl, show tripS r k c s = 0 by unfold tripS; rw [hz]; rfl]
  clear hz
  unfold TrNPost trZ shZ matZ
  simp only
  have S0 : Kept (sideB r = true) := ⟨g0⟩
  have S1 : Kept (sideB k = true) := ⟨g1⟩
  have S2 : Kept (sideB c = false) := ⟨g2⟩
  clear g0 g1 g2
  have X := kp ((Ext.refl w).alloc (.cells #[.int .i64 0, .int .i64 0, .slice none 0 0, .int .i64 0, .int .i64 0, .slice none 0 0, .int .i64 0, .int .i64 0, .slice none 0 0, .int .i64 0, .int .i64 0, .slice none 0 0, .int .i64 0, .int .i64 0, .slice none 0 0, .int .i64 0, .int .i64 0, .slice none 0 0] 71))
  have kR := Blk.new w #[.int .i64 0, .int .i64 0, .slice none 0 0, .int .i64 0, .int .i64 0, .slice none 0 0, .int .i64 0, .int .i64 0, .slice none 0 0, .int .i64 0, .int .i64 0, .slice none 0 0, .int .i64 0, .int .i64 0, .slice none 0 0, .int .i64 0, .int .i64 0, .slice none 0 0] 71
  go_enter Tryz.func92, Tryz.ntmps92
  go_wp2_with (fail)
  (with_reducible refine (impl_sideValid r true S0.out _).mono ?_)
  rintro e u1 ⟨rfl, rfl⟩
  go_wp2_with (fail)
  (with_reducible refine (impl_sideValid k true S1.out _).mono ?_)
  rintro e u2 ⟨rfl, rfl⟩
  go_wp2_with (fail)
  (with_reducible refine (impl_sideValid c false S2.out _).mono ?_)
  rintro e u3 ⟨rfl, rfl⟩
  have KR := kp kR
  clear kR
  go_wp2_with (refine wpList_store_blk rfl rfl 71 (.tmp 8) (.tmp 29) rfl (w.heap.size) _ rfl rfl 71 _ KR.out (by kernel_rfl) rfl (by simp [Value.oneCell']) X.out (Nat.le_refl _) ?_; intro w9 hy kR9 hoth hsz; have HY := kp hy; have K9 := kp kR9; clear hy hoth hsz KR X kR9)
  exact bodyPost_ret (v := zzC) (by rw [results_row_tmp rfl _ _ (w.heap.size) 71 _ _ _ rfl K9.out Tryz.underlying71 rfl (by kernel_rfl)]; rfl) rfl ⟨_, _, _, _, _, _, rfl, Grp.zero6 _ _, HY.out⟩
 cases g3 : seedOk s
 ·have hz : mkOkM r k c s = false := by unfold mkOkM; simp [g0, g1, g2, g3]
  rw [show tripM r k c s = trZ by unfold tripM; rw [hz]; rfl, show tripS r k c s = 0 by unfold tripS; rw [hz]; rfl]
  clear hz
  unfold TrNPost trZ shZ matZ
  simp only
  have S0 : Kept (sideB r = true) := ⟨g0⟩
  have S1 : Kept (sideB k = true) := ⟨g1⟩
  have S2 : Kept (sideB c = true) := ⟨g2⟩
  have S3 : Kept ((decide (1 ≤ s) && decide (s ≤ 2147483646)) = false) := ⟨g3⟩
  clear g0 g1 g2 g3
  have X := kp ((Ext.refl w).alloc (.cells #[.int .i64 0, .int .i64 0, .slice none 0 0, .int .i64 0, .int .i64 0, .slice none 0 0, .int .i64 0, .int .i64 0, .slice none 0 0, .int .i64 0, .int .i64 0, .slice none 0 0, .int .i64 0, .int .i64 0, .slice none 0 0, .int .i64 0, .int .i64 0, .slice none 0 0] 71))
  have kR := Blk.new w #[.int .i64 0, .int .i64 0, .slice none 0 0, .int .i64 0, .int .i64 0, .slice none 0 0, .int .i64 0, .int .i64 0, .slice none 0 0, .int .i64 0, .int .i64 0, .slice none 0 0, .int .i64 0, .int .i64 0, .slice none 0 0, .int .i64 0, .int .i64 0, .slice none 0 0] 71
  go_enter Tryz.func92, Tryz.ntmps92
  go_wp2_with (fail)
  (with_reducible refine (impl_sideValid r true S0.out _).mono ?_)
  rintro e u1 ⟨rfl, rfl⟩
  go_wp2_with (fail)
  (with_reducible refine (impl_sideValid k true S1.out _).mono ?_)
  rintro e u2 ⟨rfl, rfl⟩
  go_wp2_with (fail)
  (with_reducible refine (impl_sideValid c true S2.out _).mono ?_)
  rintro e u3 ⟨rfl, rfl⟩
  go_wp2_with (fail)
  (with_reducible refine (impl_seedValid s false S3.out _).mono ?_)
  rintro e u4 ⟨rfl, rfl⟩
  have KR := kp kR
  clear kR
  go_wp2_with (refine wpList_store_blk rfl rfl 71 (.tmp 8) (.tmp 29) rfl (w.heap.size) _ rfl rfl 71 _ KR.out (by kernel_rfl) rfl (by simp [Value.oneCell']) X.out (Nat.le_refl _) ?_; intro w9 hy kR9 hoth hsz; have HY := kp hy; have K9 := kp kR9; clear hy hoth hsz KR X kR9)
  exact bodyPost_ret (v := zzC) (by rw [results_row_tmp rfl _ _ (w.heap.size) 71 _ _ _ rfl K9.out Tryz.underlying71 rfl (by kernel_rfl)]; rfl) rfl ⟨_, _, _, _, _, _, rfl, Grp.zero6 _ _, HY.out⟩
 obtain ⟨R, rfl, hR⟩ := Side.of_int g0
 obtain ⟨K, rfl, hK⟩ := Side.of_int g1
 obtain ⟨C, rfl, hC⟩ := Side.of_int g2
 have hz : mkOkM R K C s = true := by unfold mkOkM; simp [g0, g1, g2, g3]
 rw [show tripM R K C s = tripN R K C s by unfold tripM; rw [hz]; rfl, show tripS R K C s = sd5 R K C s by unfold tripS; rw [hz]; rfl]
 exact impl_MakeTripleN R K C hR hK hC s (seed_of g3) w
set_option maxHeartbeats 8000000 in
set_option maxRecDepth 4000 in
theorem spec_MakeTripleN (R K C : Nat) (hR : Side R) (hK : Side K) (hC : Side C) (s : Int) (hs : Seed s) (w : World) : Calls Tryz.prog 54 #[.int .i64 R, .int .i64 K, .int .i64 C, .int .i64 s] w (TrNPost (tripN R K C s) (sd5 R K C s) w) := by
 have SR := kp hR.ok
 have SK := kp hK.ok
 have SC := kp hC.ok
 have SD : Kept ((decide (1 ≤ s) && decide (s ≤ 2147483646)) = true) := ⟨hs.ok⟩
 unfold TrNPost
 unfold tripN tripA tripB tripC sd5
 simp only
 unfold sd4 sd3 sd2 sd1
 have Q0 := kp (fun w' => spec_RandomMatrix R K hR hK s hs w')
 unfold RmPost at Q0
 have L0 : Kept ((rlist s (R * K)).length ≤ 1048576) := ⟨by rw [rlist_len]; exact Nat.le_trans (side_mul' hR hK) (by decide)⟩
 replace hs := hs.strm (R * K)
 generalize strm s (R * K) = t1 at *
 generalize rlist s (R * K) = x0 at *
 have Q1 := kp (fun w' => spec_RandomMatrix R K hR hK t1 hs w')
 unfold RmPost at Q1
 have L1 : Kept ((rlist t1 (R * K)).length ≤ 1048576) := ⟨by rw [rlist_len]; exact Nat.le_trans (side_mul' hR hK) (by decide)⟩
 replace hs := hs.strm (R * K)
 generalize strm t1 (R * K) = t2 at *
 generalize rlist t1 (R * K) = x1 at *
 have Q2 := kp (fun w' => spec_RandomMatrix K C hK hC t2 hs w')
 unfold RmPost at Q2
 have L2 : Kept ((rlist t2 (K * C)).length ≤ 1048576) := ⟨by rw [rlist_len]; exact Nat.le_trans (side_mul' hK hC) (by decide)⟩
 replace hs := hs.strm (K * C)
 generalize strm t2 (K * C) = t3 at *
 generalize rlist t2 (K * C) = x2 at *
 have Q3 := kp (fun w' => spec_RandomMatrix K C hK hC t3 hs w')
 unfold RmPost at Q3
 have L3 : Kept ((rlist t3 (K * C)).length ≤ 1048576) := ⟨by rw [rlist_len]; exact Nat.le_trans (side_mul' hK hC) (by decide)⟩
 replace hs := hs.strm (K * C)
 generalize strm t3 (K * C) = t4 at *
 generalize rlist t3 (K * C) = x3 at *
 have Q4 := kp (fun w' => spec_RandomMatrix R C hR hC t4 hs w')
 unfold RmPost at Q4
 have L4 : Kept ((rlist t4 (R * C)).length ≤ 1048576) := ⟨by rw [rlist_len]; exact Nat.le_trans (side_mul' hR hC) (by decide)⟩
 replace hs := hs.strm (R * C)
 generalize strm t4 (R * C) = t5 at *
 generalize rlist t4 (R * C) = x4 at *
 have JA := kp (fun (v u : Value) (w' : World) (h1 : Arg w' v x0) (h2 : Arg w' u x1) => spec_JoinMatrix R K R K v u x0 x1 w' h1 h2)
 unfold MatPost at JA
 have NJA := kp (join_len ⟨⟨R, K, x0⟩, ⟨R, K, x1⟩⟩)
 have JB := kp (fun (v u : Value) (w' : World) (h1 : Arg w' v x2) (h2 : Arg w' u x3) => spec_JoinMatrix K C K C v u x2 x3 w' h1 h2)
 unfold MatPost at JB
 have NJB := kp (join_len ⟨⟨K, C, x2⟩, ⟨K, C, x3⟩⟩)
 generalize joinM ⟨⟨R, K, x0⟩, ⟨R, K, x1⟩⟩ = DA at *
 generalize joinM ⟨⟨K, C, x2⟩, ⟨K, C, x3⟩⟩ = DB at *
 obtain ⟨ar, ac, as_⟩ := DA
 obtain ⟨br, bc, bs⟩ := DB
 simp only at JA JB NJA NJB
 have MM := kp (fun (v u : Value) (w' : World) (h1 : Arg w' v as_) (h2 : Arg w' u bs) => spec_MulMatrices ar ac br bc v u as_ bs w' h1 h2)
 unfold MatPost at MM
 have NMM := kp (mulM_len ⟨ar, ac, as_⟩ ⟨br, bc, bs⟩)
 generalize mulM ⟨ar, ac, as_⟩ ⟨br, bc, bs⟩ = DP at *
 obtain ⟨dr, dc, ds⟩ := DP
 simp only at MM NMM
 have SB := kp (fun (v u : Value) (w' : World) (h1 : Arg w' v ds) (h2 : Arg w' u x4) => spec_SubMatrices dr dc R C v u ds x4 w' h1 h2)
 unfold MatPost at SB
 generalize subM ⟨dr, dc, ds⟩ ⟨R, C, x4⟩ = DE at *
 obtain ⟨er, ec, es⟩ := DE
 simp only at SB
 clear hs hR hK hC
 have S := kp (St.start w)
 go_enter Tryz.func54, Tryz.ntmps54
 go_wp2_with (first | (refine ldiM S.o ?_) | (refine ldiS S.o ?_) | (refine ldiT S.o ?_) | (refine stiM S.o ?_; clear S; intro w9 S) | (refine stiS S.o ?_; clear S; intro w9 S) | (refine stiT S.o ?_; clear S; intro w9 S) | (refine aliM S.o ?_; clear S; intro b9 w9 S) | (refine aliT S.o ?_; clear S; intro b9 w9 S) | (refine wW ?_; dsimp only) | fail)
 (with_reducible refine (spec_l1In R 1 5 true (side_dec SR.out) _).mono ?_)
 rintro e u9 ⟨rfl, rfl⟩
 go_wp2_with (first | (refine ldiM S.o ?_) | (refine ldiS S.o ?_) | (refine ldiT S.o ?_) | (refine stiM S.o ?_; clear S; intro w9 S) | (refine stiS S.o ?_; clear S; intro w9 S) | (refine stiT S.o ?_; clear S; intro w9 S) | (refine aliM S.o ?_; clear S; intro b9 w9 S) | (refine aliT S.o ?_; clear S; intro b9 w9 S) | (refine wW ?_; dsimp only) | fail)
 (with_reducible refine (spec_l1In K 1 5 true (side_dec SK.out) _).mono ?_)
 rintro e u9 ⟨rfl, rfl⟩
 go_wp2_with (first | (refine ldiM S.o ?_) | (refine ldiS S.o ?_) | (refine ldiT S.o ?_) | (refine stiM S.o ?_; clear S; intro w9 S) | (refine stiS S.o ?_; clear S; intro w9 S) | (refine stiT S.o ?_; clear S; intro w9 S) | (refine aliM S.o ?_; clear S; intro b9 w9 S) | (refine aliT S.o ?_; clear S; intro b9 w9 S) | (refine wW ?_; dsimp only) | fail)
 (with_reducible refine (spec_l1In C 1 5 true (side_dec SC.out) _).mono ?_)
 rintro e u9 ⟨rfl, rfl⟩
 go_wp2_with (first | (refine ldiM S.o ?_) | (refine ldiS S.o ?_) | (refine ldiT S.o ?_) | (refine stiM S.o ?_; clear S; intro w9 S) | (refine stiS S.o ?_; clear S; intro w9 S) | (refine stiT S.o ?_; clear S; intro w9 S) | (refine aliM S.o ?_; clear S; intro b9 w9 S) | (refine aliT S.o ?_; clear S; intro b9 w9 S) | (refine wW ?_; dsimp only) | fail)
 (with_reducible refine (spec_l1In s 1 2147483646 true SD.out _).mono ?_)
 rintro e u9 ⟨rfl, rfl⟩
 go_wp2_with (first | (refine ldiM S.o ?_) | (refine ldiS S.o ?_) | (refine ldiT S.o ?_) | (refine stiM S.o ?_; clear S; intro w9 S) | (refine stiS S.o ?_; clear S; intro w9 S) | (refine stiT S.o ?_; clear S; intro w9 S) | (refine aliM S.o ?_; clear S; intro b9 w9 S) | (refine aliT S.o ?_; clear S; intro b9 w9 S) | (refine wW ?_; dsimp only) | fail)
 (with_reducible refine (Q0.out _).mono ?_)
 rintro e u9 ⟨v0, rfl, o0, x9⟩
 replace S := kp (S.o.made o0 x9)
 clear x9
 obtain ⟨p0, m0, hu9, -, -⟩ := id o0.ints
 try simp only at hu9
 subst hu9
 clear o0
 go_wp2_with (first | (refine ldiM S.o ?_) | (refine ldiS S.o ?_) | (refine ldiT S.o ?_) | (refine stiM S.o ?_; clear S; intro w9 S) | (refine stiS S.o ?_; clear S; intro w9 S) | (refine stiT S.o ?_; clear S; intro w9 S) | (refine aliM S.o ?_; clear S; intro b9 w9 S) | (refine aliT S.o ?_; clear S; intro b9 w9 S) | (refine wW ?_; dsimp only) | fail)
 (with_reducible refine (Q1.out _).mono ?_)
 rintro e u9 ⟨v1, rfl, o1, x9⟩
 replace S := kp (S.o.made o1 x9)
 clear x9
 obtain ⟨p1, m1, hu9, -, -⟩ := id o1.ints
 try simp only at hu9
 subst hu9
 clear o1
 go_wp2_with (first | (refine ldiM S.o ?_) | (refine ldiS S.o ?_) | (refine ldiT S.o ?_) | (refine stiM S.o ?_; clear S; intro w9 S) | (refine stiS S.o ?_; clear S; intro w9 S) | (refine stiT S.o ?_; clear S; intro w9 S) | (refine aliM S.o ?_; clear S; intro b9 w9 S) | (refine aliT S.o ?_; clear S; intro b9 w9 S) | (refine wW ?_; dsimp only) | fail)
 (with_reducible refine (Q2.out _).mono ?_)
 rintro e u9 ⟨v2, rfl, o2, x9⟩
 replace S := kp (S.o.made o2 x9)
 clear x9
 obtain ⟨p2, m2, hu9, -, -⟩ := id o2.ints
 try simp only at hu9
 subst hu9
 clear o2
 go_wp2_with (first | (refine ldiM S.o ?_) | (refine ldiS S.o ?_) | (refine ldiT S.o ?_) | (refine stiM S.o ?_; clear S; intro w9 S) | (refine stiS S.o ?_; clear S; intro w9 S) | (refine stiT S.o ?_; clear S; intro w9 S) | (refine aliM S.o ?_; clear S; intro b9 w9 S) | (refine aliT S.o ?_; clear S; intro b9 w9 S) | (refine wW ?_; dsimp only) | fail)
 (with_reducible refine (Q3.out _).mono ?_)
 rintro e u9 ⟨v3, rfl, o3, x9⟩
 replace S := kp (S.o.made o3 x9)
 clear x9
 obtain ⟨p3, m3, hu9, -, -⟩ := id o3.ints
 try simp only at hu9
 subst hu9
 clear o3
 go_wp2_with (first | (refine ldiM S.o ?_) | (refine ldiS S.o ?_) | (refine ldiT S.o ?_) | (refine stiM S.o ?_; clear S; intro w9 S) | (refine stiS S.o ?_; clear S; intro w9 S) | (refine stiT S.o ?_; clear S; intro w9 S) | (refine aliM S.o ?_; clear S; intro b9 w9 S) | (refine aliT S.o ?_; clear S; intro b9 w9 S) | (refine wW ?_; dsimp only) | fail)
 (with_reducible refine (Q4.out _).mono ?_)
 rintro e u9 ⟨v4, rfl, o4, x9⟩
 replace S := kp (S.o.made o4 x9)
 clear x9
 obtain ⟨p4, m4, hu9, -, -⟩ := id o4.ints
 try simp only at hu9
 subst hu9
 clear o4
 go_wp2_with (first | (refine ldiM S.o ?_) | (refine ldiS S.o ?_) | (refine ldiT S.o ?_) | (refine stiM S.o ?_; clear S; intro w9 S) | (refine stiS S.o ?_; clear S; intro w9 S) | (refine stiT S.o ?_; clear S; intro w9 S) | (refine aliM S.o ?_; clear S; intro b9 w9 S) | (refine aliT S.o ?_; clear S; intro b9 w9 S) | (refine wW ?_; dsimp only) | fail)
 apply wp_region_zip [isv _, isv _, isv _, matR ar ac as_, isv _, isv _, matR br bc bs, matR dr dc ds, isv _, matR er ec es] _ (by kernel_rfl)
 case hA => intro V; simp [putAll, dstOf, Act.put]; exact rfl
 case hsl => intro V; exact rfl
 case step =>
  intro V lo up w' hr
  have S := kp (S.o.quiet hr)
  simp only [zipOk, depsImp, isv, matR, modeNg, newb, waits, Region.binds, List.map_nil, List.map_cons, List.headD_cons, List.nil_append, List.cons_append, List.filterMap_cons, List.filterMap_nil, ↓reduceIte, modeNe, Bool.false_eq_true, true_implies, List.getD_cons_zero, List.getD_cons_succ, and_true]
  refine ⟨?_, ?_, ?_, ?_, ?_, ?_, ?_, ?_, ?_, ?_⟩
  ·intros
   (try simp only [*])
   go_wp2_with (first | (refine ldiM S.o ?_) | (refine stiM S.o ?_; clear S; intro w9 S) | (refine stiS S.o ?_; clear S; intro w9 S) | (refine stiT S.o ?_; clear S; intro w9 S) | (refine aliM S.o ?_; clear S; intro b9 w9 S) | (refine aliT S.o ?_; clear S; intro b9 w9 S) | fail)
   refine sQ ?_
   exact eZ
  ·intros
   (try simp only [*])
   go_wp2_with (first | (refine stiM S.o ?_; clear S; intro w9 S) | (refine stiS S.o ?_; clear S; intro w9 S) | (refine stiT S.o ?_; clear S; intro w9 S) | (refine aliM S.o ?_; clear S; intro b9 w9 S) | (refine aliT S.o ?_; clear S; intro b9 w9 S) | fail)
   refine sQ ?_
   exact eZ
  ·intros
   (try simp only [*])
   go_wp2_with (first | (refine ldiS S.o ?_) | (refine stiM S.o ?_; clear S; intro w9 S) | (refine stiS S.o ?_; clear S; intro w9 S) | (refine stiT S.o ?_; clear S; intro w9 S) | (refine aliM S.o ?_; clear S; intro b9 w9 S) | (refine aliT S.o ?_; clear S; intro b9 w9 S) | fail)
   refine sQ ?_
   exact eZ
  ·intros
   go_wp2_with (first | (refine stiM S.o ?_; clear S; intro w9 S) | (refine stiS S.o ?_; clear S; intro w9 S) | (refine stiT S.o ?_; clear S; intro w9 S) | (refine aliM S.o ?_; clear S; intro b9 w9 S) | (refine aliT S.o ?_; clear S; intro b9 w9 S) | fail)
   (with_reducible refine (JA.out _ _ _ (S.o.grp.o4.arg L0.out) (S.o.grp.o3.arg L1.out)).mono ?_)
   rintro e w9 ⟨v9, rfl, o9, x9⟩
   go_wp2
   refine sQ ?_
   exact ⟨x9, v9, rfl, o9, fun q hq => (o9.block q hq).2⟩
  ·intros
   (try simp only [*])
   go_wp2_with (first | (refine stiM S.o ?_; clear S; intro w9 S) | (refine stiS S.o ?_; clear S; intro w9 S) | (refine stiT S.o ?_; clear S; intro w9 S) | (refine aliM S.o ?_; clear S; intro b9 w9 S) | (refine aliT S.o ?_; clear S; intro b9 w9 S) | fail)
   refine sQ ?_
   exact eZ
  ·intros
   (try simp only [*])
   go_wp2_with (first | (refine ldiS S.o ?_) | (refine stiM S.o ?_; clear S; intro w9 S) | (refine stiS S.o ?_; clear S; intro w9 S) | (refine stiT S.o ?_; clear S; intro w9 S) | (refine aliM S.o ?_; clear S; intro b9 w9 S) | (refine aliT S.o ?_; clear S; intro b9 w9 S) | fail)
   refine sQ ?_
   exact eZ
  ·intros
   go_wp2_with (fail)
   (with_reducible refine (JB.out _ _ _ (S.o.grp.o2.arg L2.out) (S.o.grp.o1.arg L3.out)).mono ?_)
   rintro e w9 ⟨v9, rfl, o9, x9⟩
   go_wp2
   refine sQ ?_
   exact ⟨x9, v9, rfl, o9, fun q hq => (o9.block q hq).2⟩
  ·intro _ _ _ ⟨v3, e3, o3, b3⟩ _ _ _ ⟨v6, e6, o6, b6⟩
   intros
   go_wp2_with (fail)
   (with_reducible refine (MM.out _ _ _ (o3.arg NJA.out) (o6.arg NJB.out)).mono ?_)
   rintro e w9 ⟨v9, rfl, o9, x9⟩
   go_wp2
   refine sQ ?_
   exact ⟨x9, v9, rfl, o9, fun q hq => (o9.block q hq).2⟩
  ·intros
   (try simp only [*])
   go_wp2_with (first | (refine ldiM S.o ?_) | (refine stiM S.o ?_; clear S; intro w9 S) | (refine stiS S.o ?_; clear S; intro w9 S) | (refine stiT S.o ?_; clear S; intro w9 S) | (refine aliM S.o ?_; clear S; intro b9 w9 S) | (refine aliT S.o ?_; clear S; intro b9 w9 S) | fail)
   refine sQ ?_
   exact eZ
  intro _ _ _ ⟨v7, e7, o7, b7⟩
  intros
  go_wp2_with (fail)
  (with_reducible refine (SB.out _ _ _ (o7.arg NMM.out) (S.o.grp.o0.arg L4.out)).mono ?_)
  rintro e w9 ⟨v9, rfl, o9, x9⟩
  go_wp2
  refine sQ ?_
  exact ⟨x9, v9, rfl, o9, fun q hq => (o9.block q hq).2⟩
 case hB => kernel_rfl
 intro V lo up w' hr hf ha
 simp only [factsOk, isv, matR, modeNg, newb, List.map_nil, List.map_cons, List.headD_cons, and_true, Nat.zero_add, Nat.reduceAdd] at hf
 simp only [List.length_cons, List.length_nil, Nat.zero_add, Nat.reduceAdd, List.drop_succ_cons, List.drop_zero]
 obtain ⟨⟨-, -, -, e0⟩, -, -, -, -, -, -, -, -, ⟨l9, -, -, v9, e9, o9, b9⟩⟩ := hf
 clear ha
 rw [e0, e9]
 clear e0 e9
 replace S := kp (S.o.made (o9.mono l9) hr)
 clear hr l9 b9
 obtain ⟨p9, m9, hu9, -, -⟩ := id o9.ints
 try simp only at hu9
 subst hu9
 clear o9
 go_wp2_with (first | (refine ldiM S.o ?_) | (refine ldiS S.o ?_) | (refine ldiT S.o ?_) | (refine stiM S.o ?_; clear S; intro w9 S) | (refine stiS S.o ?_; clear S; intro w9 S) | (refine stiT S.o ?_; clear S; intro w9 S) | (refine aliM S.o ?_; clear S; intro b9 w9 S) | (refine aliT S.o ?_; clear S; intro b9 w9 S) | (refine wW ?_; dsimp only) | fail)
 exact bodyPost_ret (v := .tuple #[.agg #[.int .i64 R, .int .i64 K, .slice p0 x0.length m0, .int .i64 R, .int .i64 K, .slice p1 x1.length m1, .int .i64 K, .int .i64 C, .slice p2 x2.length m2, .int .i64 K, .int .i64 C, .slice p3 x3.length m3, .int .i64 R, .int .i64 C, .slice p4 x4.length m4, .int .i64 er, .int .i64 ec, .slice p9 es.length m9], .int .i64 t5]) (by exact res2 rfl (by exact (rsiT S.o)) rfl) rfl ⟨_, _, _, _, _, _, rfl, S.o.grp.rev, S.o.ext⟩
set_option maxHeartbeats 4000000 in
set_option maxRecDepth 4000 in
theorem spec_MakeMatrixTriple (r k c s : Int) (w : World) : Calls Tryz.prog 54 #[.int .i64 r, .int .i64 k, .int .i64 c, .int .i64 s] w (TrNPost (tripM r k c s) (tripS r k c s) w) := by
 cases g0 : sideB r
 ·have hz : mkOkM r k c s = false := by unfold mkOkM; simp [g0]
  rw [show tripM r k c s = trZ by unfold tripM; rw [hz]; rfl, show tripS r k c s = 0 by unfold tripS; rw [hz]; rfl]
  clear hz
  unfold TrNPost trZ shZ matZ
  simp only
  have S0 : Kept ((decide (1 ≤ r) && decide (r ≤ 5)) = false) := ⟨g0⟩
  clear g0
  have X := kp ((Ext.refl w).alloc (.cells #[.int .i64 0, .int .i64 0, .slice none 0 0, .int .i64 0, .int .i64 0, .slice none 0 0, .int .i64 0, .int .i64 0, .slice none 0 0, .int .i64 0, .int .i64 0, .slice none 0 0, .int .i64 0, .int .i64 0, .slice none 0 0, .int .i64 0, .int .i64 0, .slice none 0 0] 71))
  have kR := Blk.new w #[.int .i64 0, .int .i64 0, .slice none 0 0, .int .i64 0, .int .i64 0, .slice none 0 0, .int .i64 0, .int .i64 0, .slice none 0 0, .int .i64 0, .int .i64 0, .slice none 0 0, .int .i64 0, .int .i64 0, .slice none 0 0, .int .i64 0, .int .i64 0, .slice none 0 0] 71
  go_enter Tryz.func54, Tryz.ntmps54
  go_wp2_with (fail)
  (with_reducible refine (spec_l1In r 1 5 false S0.out _).mono ?_)
  rintro e u1 ⟨rfl, rfl⟩
  have KR := kp kR
  clear kR
  go_wp2_with (refine wpList_store_blk rfl rfl 71 (.tmp 8) (.tmp 39) rfl (w.heap.size) _ rfl rfl 71 _ KR.out (by kernel_rfl) rfl (by simp [Value.oneCell']) X.out (Nat.le_refl _) ?_; intro w9 hy kR9 hoth hsz; have HY := kp hy; have K9 := kp kR9; clear hy hoth hsz KR X kR9)
  exact bodyPost_ret (v := zzC) (by rw [results_row_tmp rfl _ _ (w.heap.size) 71 _ _ _ rfl K9.out Tryz.underlying71 rfl (by kernel_rfl)]; rfl) rfl ⟨_, _, _, _, _, _, rfl, Grp.zero6 _ _, HY.out⟩
 cases g1 : sideB k
 ·have hz : mkOkM r k c s = false := by unfold mkOkM; simp [g0, g1]
  rw [show tripM r k c s = trZ by unfold tripM; rw [hz]; rfl, show tripS r k c s = 0 by unfold tripS; rw [hz]; rfl]
  clear hz
  unfold TrNPost trZ shZ matZ
  simp only
  have S0 : Kept ((decide (1 ≤ r) && decide (r ≤ 5)) = true) := ⟨g0⟩
  have S1 : Kept ((decide (1 ≤ k) && decide (k ≤ 5)) = false) := ⟨g1⟩
  clear g0 g1
  have X := kp ((Ext.refl w).alloc (.cells #[.int .i64 0, .int .i64 0, .slice none 0 0, .int .i64 0, .int .i64 0, .slice none 0 0, .int .i64 0, .int .i64 0, .slice none 0 0, .int .i64 0, .int .i64 0, .slice none 0 0, .int .i64 0, .int .i64 0, .slice none 0 0, .int .i64 0, .int .i64 0, .slice none 0 0] 71))
  have kR := Blk.new w #[.int .i64 0, .int .i64 0, .slice none 0 0, .int .i64 0, .int .i64 0, .slice none 0 0, .int .i64 0, .int .i64 0, .slice none 0 0, .int .i64 0, .int .i64 0, .slice none 0 0, .int .i64 0, .int .i64 0, .slice none 0 0, .int .i64 0, .int .i64 0, .slice none 0 0] 71
  go_enter Tryz.func54, Tryz.ntmps54
  go_wp2_with (fail)
  (with_reducible refine (spec_l1In r 1 5 true S0.out _).mono ?_)
  rintro e u1 ⟨rfl, rfl⟩
  go_wp2_with (fail)
  (with_reducible refine (spec_l1In k 1 5 false S1.out _).mono ?_)
  rintro e u2 ⟨rfl, rfl⟩
  have KR := kp kR
  clear kR
  go_wp2_with (refine wpList_store_blk rfl rfl 71 (.tmp 8) (.tmp 39) rfl (w.heap.size) _ rfl rfl 71 _ KR.out (by kernel_rfl) rfl (by simp [Value.oneCell']) X.out (Nat.le_refl _) ?_; intro w9 hy kR9 hoth hsz; have HY := kp hy; have K9 := kp kR9; clear hy hoth hsz KR X kR9)
  exact bodyPost_ret (v := zzC) (by rw [results_row_tmp rfl _ _ (w.heap.size) 71 _ _ _ rfl K9.out Tryz.underlying71 rfl (by kernel_rfl)]; rfl) rfl ⟨_, _, _, _, _, _, rfl, Grp.zero6 _ _, HY.out⟩
 cases g2 : sideB c
 ·have hz : mkOkM r k c s = false := by unfold mkOkM; simp [g0, g1, g2]
  rw [show tripM r k c s = trZ by unfold tripM; rw [hz]; rfl, show tripS r k c s = 0 by unfold tripS; rw [hz]; rfl]
  clear hz
  unfold TrNPost trZ shZ matZ
  simp only
  have S0 : Kept ((decide (1 ≤ r) && decide (r ≤ 5)) = true) := ⟨g0⟩
  have S1 : Kept ((decide (1 ≤ k) && decide (k ≤ 5)) = true) := ⟨g1⟩
  have S2 : Kept ((decide (1 ≤ c) && decide (c ≤ 5)) = false) := ⟨g2⟩
  clear g0 g1 g2
  have X := kp ((Ext.refl w).alloc (.cells #[.int .i64 0, .int .i64 0, .slice none 0 0, .int .i64 0, .int .i64 0, .slice none 0 0, .int .i64 0, .int .i64 0, .slice none 0 0, .int .i64 0, .int .i64 0, .slice none 0 0, .int .i64 0, .int .i64 0, .slice none 0 0, .int .i64 0, .int .i64 0, .slice none 0 0] 71))
  have kR := Blk.new w #[.int .i64 0, .int .i64 0, .slice none 0 0, .int .i64 0, .int .i64 0, .slice none 0 0, .int .i64 0, .int .i64 0, .slice none 0 0, .int .i64 0, .int .i64 0, .slice none 0 0, .int .i64 0, .int .i64 0, .slice none 0 0, .int .i64 0, .int .i64 0, .slice none 0 0] 71
  go_enter Tryz.func54, Tryz.ntmps54
  go_wp2_with (fail)
  (with_reducible refine (spec_l1In r 1 5 true S0.out _).mono ?_)
  rintro e u1 ⟨rfl, rfl⟩
  go_wp2_with (fail)
  (with_reducible refine (spec_l1In k 1 5 true S1.out _).mono ?_)
  rintro e u2 ⟨rfl, rfl⟩
  go_wp2_with (fail)
  (with_reducible refine (spec_l1In c 1 5 false S2.out _).mono ?_)
  rintro e u3 ⟨rfl, rfl⟩
  have KR := kp kR
  clear kR
  go_wp2_with (refine wpList_store_blk rfl rfl 71 (.tmp 8) (.tmp 39) rfl (w.heap.size) _ rfl rfl 71 _ KR.out (by kernel_rfl) rfl (by simp [Value.oneCell']) X.out (Nat.le_refl _) ?_; intro w9 hy kR9 hoth hsz; have HY := kp hy; have K9 := kp kR9; clear hy hoth hsz KR X kR9)
  exact bodyPost_ret (v := zzC) (by rw [results_row_tmp rfl _ _ (w.heap.size) 71 _ _ _ rfl K9.out Tryz.underlying71 rfl (by kernel_rfl)]; rfl) rfl ⟨_, _, _, _, _, _, rfl, Grp.zero6 _ _, HY.out⟩
 cases g3 : seedOk s
 ·have hz : mkOkM r k c s = false := by unfold mkOkM; simp [g0, g1, g2, g3]
  rw [show tripM r k c s = trZ by unfold tripM; rw [hz]; rfl, show tripS r k c s = 0 by unfold tripS; rw [hz]; rfl]
  clear hz
  unfold TrNPost trZ shZ matZ
  simp only
  have S0 : Kept ((decide (1 ≤ r) && decide (r ≤ 5)) = true) := ⟨g0⟩
  have S1 : Kept ((decide (1 ≤ k) && decide (k ≤ 5)) = true) := ⟨g1⟩
  have S2 : Kept ((decide (1 ≤ c) && decide (c ≤ 5)) = true) := ⟨g2⟩
  have S3 : Kept ((decide (1 ≤ s) && decide (s ≤ 2147483646)) = false) := ⟨g3⟩
  clear g0 g1 g2 g3
  have X := kp ((Ext.refl w).alloc (.cells #[.int .i64 0, .int .i64 0, .slice none 0 0, .int .i64 0, .int .i64 0, .slice none 0 0, .int .i64 0, .int .i64 0, .slice none 0 0, .int .i64 0, .int .i64 0, .slice none 0 0, .int .i64 0, .int .i64 0, .slice none 0 0, .int .i64 0, .int .i64 0, .slice none 0 0] 71))
  have kR := Blk.new w #[.int .i64 0, .int .i64 0, .slice none 0 0, .int .i64 0, .int .i64 0, .slice none 0 0, .int .i64 0, .int .i64 0, .slice none 0 0, .int .i64 0, .int .i64 0, .slice none 0 0, .int .i64 0, .int .i64 0, .slice none 0 0, .int .i64 0, .int .i64 0, .slice none 0 0] 71
  go_enter Tryz.func54, Tryz.ntmps54
  go_wp2_with (fail)
  (with_reducible refine (spec_l1In r 1 5 true S0.out _).mono ?_)
  rintro e u1 ⟨rfl, rfl⟩
  go_wp2_with (fail)
  (with_reducible refine (spec_l1In k 1 5 true S1.out _).mono ?_)
  rintro e u2 ⟨rfl, rfl⟩
  go_wp2_with (fail)
  (with_reducible refine (spec_l1In c 1 5 true S2.out _).mono ?_)
  rintro e u3 ⟨rfl, rfl⟩
  go_wp2_with (fail)
  (with_reducible refine (spec_l1In s 1 2147483646 false S3.out _).mono ?_)
  rintro e u4 ⟨rfl, rfl⟩
  have KR := kp kR
  clear kR
  go_wp2_with (refine wpList_store_blk rfl rfl 71 (.tmp 8) (.tmp 39) rfl (w.heap.size) _ rfl rfl 71 _ KR.out (by kernel_rfl) rfl (by simp [Value.oneCell']) X.out (Nat.le_refl _) ?_; intro w9 hy kR9 hoth hsz; have HY := kp hy; have K9 := kp kR9; clear hy hoth hsz KR X kR9)
  exact bodyPost_ret (v := zzC) (by rw [results_row_tmp rfl _ _ (w.heap.size) 71 _ _ _ rfl K9.out Tryz.underlying71 rfl (by kernel_rfl)]; rfl) rfl ⟨_, _, _, _, _, _, rfl, Grp.zero6 _ _, HY.out⟩
 obtain ⟨R, rfl, hR⟩ := Side.of_int g0
 obtain ⟨K, rfl, hK⟩ := Side.of_int g1
 obtain ⟨C, rfl, hC⟩ := Side.of_int g2
 have hz : mkOkM R K C s = true := by unfold mkOkM; simp [g0, g1, g2, g3]
 rw [show tripM R K C s = tripN R K C s by unfold tripM; rw [hz]; rfl, show tripS R K C s = sd5 R K C s by unfold tripS; rw [hz]; rfl]
 exact spec_MakeTripleN R K C hR hK hC s (seed_of g3) w
end Go.Proofs.YtkkdikoknegpjaaGreat
