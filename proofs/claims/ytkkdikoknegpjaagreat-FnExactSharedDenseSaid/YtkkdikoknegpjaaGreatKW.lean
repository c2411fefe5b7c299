/- The laws' own functions on shared matrices. -/
import Derived.Test.YtkkdikoknegpjaaGreatKF
import Derived.Test.YtkkdikoknegpjaaGreatShA
import Derived.Test.YtkkdikoknegpjaaGreatKE
namespace Go.Proofs.YtkkdikoknegpjaaGreat
set_option linter.unusedSimpArgs false
set_option linter.unusedVariables false
open Go.RowKit
/-- A call that leaves a new shared matrix, its lists as a group. -/
def ShGrp (r c p q : Int) (xs ys : List Int) (w : World) (e : Ending) (w' : World) : Prop :=
  ∃ v1 v2, e = .returned (.agg #[.int .i64 r, .int .i64 c, v1, .int .i64 p, .int .i64 q, v2]) ∧ Grp w.heap.size w' [v1, v2] [xs, ys] ∧ Ext w w'
theorem ShPost.grp {m : ShM} {w : World} {e : Ending} {w' : World} (h : ShPost m w e w') : ShGrp m.f.r m.f.c m.s.r m.s.c m.f.xs m.s.xs w e w' := by
  obtain ⟨v1, v2, h1, h2, h3, h4, h5⟩ := h
  exact ⟨v1, v2, h1, Grp.two h2 h3 h4, h5⟩
set_option maxHeartbeats 1000000 in
theorem laws_szSharedMatrix (r c p q : Int) (v u : Value) (xs ys : List Int) (left : Int) (w : World) (h1 : Ints w v xs) (h2 : Ints w u ys) (l0 : 0 ≤ left) (l1 : left ≤ 1048576) : Calls Tryz.prog 5 #[.agg #[.int .i64 r, .int .i64 c, v, .int .i64 p, .int .i64 q, u], .int .i64 left] w fun e w' => e = .returned (.int .i64 (leftL left (xs.length + ys.length))) ∧ Ext w w' := by
  by_cases d1 : left - (xs.length : Int) < 0
  · obtain ⟨s1, n1, rfl, hm9, hc9⟩ := id h1
    clear hm9 hc9
    have HV := kp h1
    clear h1
    obtain ⟨s2, n2, rfl, hm9, hc9⟩ := id h2
    clear hm9 hc9
    have HU := kp h2
    clear h2
    have S0 := kp (fun w' (hx : Ext w w') => laws_szMatrix r c _ xs left w' (HV.out.keep hx) l0 l1)
    rw [if_pos d1] at S0
    rw [show leftL left (xs.length + ys.length) = -1 by unfold leftL; split <;> omega]
    clear l0 l1 d1
    have X := kp ((Ext.refl w).alloc (.cells #[.int .i64 r, .int .i64 c, .slice s1 xs.length n1, .int .i64 p, .int .i64 q, .slice s2 ys.length n2] 26))
    have kA := Blk.new w #[.int .i64 r, .int .i64 c, .slice s1 xs.length n1, .int .i64 p, .int .i64 q, .slice s2 ys.length n2] 26
    go_enter Tryz.func5, Tryz.ntmps5
    obtain ⟨akA0, akA1, akA2, akA3, akA4, akA5⟩ := kA.sixC
    go_wp2_with (fail)
    clear akA0 akA1 akA2 akA3 akA4 akA5
    (with_reducible refine (S0.out _ X.out).mono ?_)
    rintro e u1 ⟨rfl, x9⟩
    replace X := kp (X.out.trans x9)
    replace kA := kA.keep x9
    clear x9
    clear kA
    go_wp2
    go_ret
    exact ⟨rfl, X.out⟩
  by_cases d2 : left - (xs.length : Int) - (ys.length : Int) < 0
  · obtain ⟨s1, n1, rfl, hm9, hc9⟩ := id h1
    clear hm9 hc9
    have HV := kp h1
    clear h1
    obtain ⟨s2, n2, rfl, hm9, hc9⟩ := id h2
    clear hm9 hc9
    have HU := kp h2
    clear h2
    have S0 := kp (fun w' (hx : Ext w w') => laws_szMatrix r c _ xs left w' (HV.out.keep hx) l0 l1)
    have S1 := kp (fun w' (hx : Ext w w') => laws_szMatrix p q _ ys (left - xs.length) w' (HU.out.keep hx) (by omega) (by omega))
    rw [if_neg d1] at S0
    rw [if_pos d2] at S1
    have e1 : decide (left - (xs.length : Int) < 0) = false := by simpa using d1
    rw [show leftL left (xs.length + ys.length) = -1 by unfold leftL; split <;> omega]
    clear l0 l1 d1 d2
    have X := kp ((Ext.refl w).alloc (.cells #[.int .i64 r, .int .i64 c, .slice s1 xs.length n1, .int .i64 p, .int .i64 q, .slice s2 ys.length n2] 26))
    have kA := Blk.new w #[.int .i64 r, .int .i64 c, .slice s1 xs.length n1, .int .i64 p, .int .i64 q, .slice s2 ys.length n2] 26
    go_enter Tryz.func5, Tryz.ntmps5
    obtain ⟨akA0, akA1, akA2, akA3, akA4, akA5⟩ := kA.sixC
    go_wp2_with (fail)
    clear akA0 akA1 akA2 akA3 akA4 akA5
    (with_reducible refine (S0.out _ X.out).mono ?_)
    rintro e u1 ⟨rfl, x9⟩
    replace X := kp (X.out.trans x9)
    replace kA := kA.keep x9
    clear x9
    obtain ⟨akA0, akA1, akA2, akA3, akA4, akA5⟩ := kA.sixC
    go_wp2_with (fail)
    clear akA0 akA1 akA2 akA3 akA4 akA5
    (with_reducible refine (S1.out _ X.out).mono ?_)
    rintro e u2 ⟨rfl, x9⟩
    replace X := kp (X.out.trans x9)
    replace kA := kA.keep x9
    clear x9
    clear kA
    go_wp2
    go_ret
    exact ⟨rfl, X.out⟩
  obtain ⟨s1, n1, rfl, hm9, hc9⟩ := id h1
  clear hm9 hc9
  have HV := kp h1
  clear h1
  obtain ⟨s2, n2, rfl, hm9, hc9⟩ := id h2
  clear hm9 hc9
  have HU := kp h2
  clear h2
  have S0 := kp (fun w' (hx : Ext w w') => laws_szMatrix r c _ xs left w' (HV.out.keep hx) l0 l1)
  have S1 := kp (fun w' (hx : Ext w w') => laws_szMatrix p q _ ys (left - xs.length) w' (HU.out.keep hx) (by omega) (by omega))
  rw [if_neg d1] at S0
  rw [if_neg d2] at S1
  have e1 : decide (left - (xs.length : Int) < 0) = false := by simpa using d1
  have e2 : decide (left - (xs.length : Int) - (ys.length : Int) < 0) = false := by simpa using d2
  rw [show leftL left (xs.length + ys.length) = left - xs.length - ys.length by unfold leftL; split <;> omega]
  clear l0 l1 d1 d2
  have X := kp ((Ext.refl w).alloc (.cells #[.int .i64 r, .int .i64 c, .slice s1 xs.length n1, .int .i64 p, .int .i64 q, .slice s2 ys.length n2] 26))
  have kA := Blk.new w #[.int .i64 r, .int .i64 c, .slice s1 xs.length n1, .int .i64 p, .int .i64 q, .slice s2 ys.length n2] 26
  go_enter Tryz.func5, Tryz.ntmps5
  obtain ⟨akA0, akA1, akA2, akA3, akA4, akA5⟩ := kA.sixC
  go_wp2_with (fail)
  clear akA0 akA1 akA2 akA3 akA4 akA5
  (with_reducible refine (S0.out _ X.out).mono ?_)
  rintro e u1 ⟨rfl, x9⟩
  replace X := kp (X.out.trans x9)
  replace kA := kA.keep x9
  clear x9
  obtain ⟨akA0, akA1, akA2, akA3, akA4, akA5⟩ := kA.sixC
  go_wp2_with (fail)
  clear akA0 akA1 akA2 akA3 akA4 akA5
  (with_reducible refine (S1.out _ X.out).mono ?_)
  rintro e u2 ⟨rfl, x9⟩
  replace X := kp (X.out.trans x9)
  replace kA := kA.keep x9
  clear x9
  clear kA
  go_wp2
  go_ret
  exact ⟨rfl, X.out⟩
set_option maxHeartbeats 4000000 in
theorem laws_toSharedMatrix (r c p q : Int) (v u : Value) (xs ys : List Int) (w : World) (h1 : Ints w v xs) (h2 : Ints w u ys) (l1 : xs.length ≤ 1048576) (l2 : ys.length ≤ 1048576) : Calls Tryz.prog 7 #[.agg #[.int .i64 r, .int .i64 c, v, .int .i64 p, .int .i64 q, u]] w (ShPost ⟨⟨r, c, xs⟩, ⟨p, q, ys⟩⟩ w) := by
  unfold ShPost
  obtain ⟨s1, n1, rfl, hm9, hc9⟩ := id h1
  clear hm9 hc9
  have HV := kp h1
  clear h1
  obtain ⟨s2, n2, rfl, hm9, hc9⟩ := id h2
  clear hm9 hc9
  have HU := kp h2
  clear h2
  have TA := kp (fun w' (hx : Ext w w') => laws_toMatrix r c _ xs w' (HV.out.keep hx) l1)
  have TB := kp (fun w' (hx : Ext w w') => laws_toMatrix p q _ ys w' (HU.out.keep hx) l2)
  unfold MatPost at TA TB
  clear l1 l2
  have X := kp ((((Ext.refl w).alloc (.cells #[.int .i64 r, .int .i64 c, .slice s1 xs.length n1, .int .i64 p, .int .i64 q, .slice s2 ys.length n2] 26)).alloc (.cells #[.int .i64 0, .int .i64 0, .slice none 0 0, .int .i64 0, .int .i64 0, .slice none 0 0] 30)).alloc (.cells #[.int .i64 0, .int .i64 0, .slice none 0 0, .int .i64 0, .int .i64 0, .slice none 0 0] 30))
  have kA := ((Blk.new w #[.int .i64 r, .int .i64 c, .slice s1 xs.length n1, .int .i64 p, .int .i64 q, .slice s2 ys.length n2] 26).old (.cells #[.int .i64 0, .int .i64 0, .slice none 0 0, .int .i64 0, .int .i64 0, .slice none 0 0] 30)).old (.cells #[.int .i64 0, .int .i64 0, .slice none 0 0, .int .i64 0, .int .i64 0, .slice none 0 0] 30)
  have kR := (Blk.new (w.alloc (.cells #[.int .i64 r, .int .i64 c, .slice s1 xs.length n1, .int .i64 p, .int .i64 q, .slice s2 ys.length n2] 26)) #[.int .i64 0, .int .i64 0, .slice none 0 0, .int .i64 0, .int .i64 0, .slice none 0 0] 30).old (.cells #[.int .i64 0, .int .i64 0, .slice none 0 0, .int .i64 0, .int .i64 0, .slice none 0 0] 30)
  have kO := Blk.new ((w.alloc (.cells #[.int .i64 r, .int .i64 c, .slice s1 xs.length n1, .int .i64 p, .int .i64 q, .slice s2 ys.length n2] 26)).alloc (.cells #[.int .i64 0, .int .i64 0, .slice none 0 0, .int .i64 0, .int .i64 0, .slice none 0 0] 30)) #[.int .i64 0, .int .i64 0, .slice none 0 0, .int .i64 0, .int .i64 0, .slice none 0 0] 30
  simp only [World.size_alloc] at kR kO
  go_enter Tryz.func7, Tryz.ntmps7
  obtain ⟨akA0, akA1, akA2, akA3, akA4, akA5⟩ := kA.sixC
  go_wp2_with (fail)
  clear akA0 akA1 akA2 akA3 akA4 akA5
  (with_reducible refine (TA.out _ X.out).mono ?_)
  rintro e u1 ⟨vA, rfl, oA, x9⟩
  obtain ⟨pA, mA, huA, -, -⟩ := id oA.ints
  try simp only at huA
  subst huA
  replace oA := oA.mono X.out.size
  replace X := kp (X.out.trans x9)
  replace kA := kA.keep x9
  replace kR := kR.keep x9
  replace kO := kO.keep x9
  clear x9
  obtain ⟨akA0, akA1, akA2, akA3, akA4, akA5⟩ := kA.sixC
  obtain ⟨akO0, akO1, akO2, akO3, akO4, akO5⟩ := kO.sixC
  have fkO := kO.free
  go_wp2_with (fail)
  clear akA0 akA1 akA2 akA3 akA4 akA5
  clear akO0 akO1 akO2 akO3 akO4 akO5
  clear fkO
  replace oA := oA.oth (oA.ne kO (by decide)) 0 1 2 (.int .i64 r) (.int .i64 c) (.slice pA xs.length mA)
  replace kA := kA.oth (g := w.heap.size + 1 + 1) (by omega) 0 1 2 (.int .i64 r) (.int .i64 c) (.slice pA xs.length mA)
  replace kR := kR.oth (g := w.heap.size + 1 + 1) (by omega) 0 1 2 (.int .i64 r) (.int .i64 c) (.slice pA xs.length mA)
  replace kO := kO.sub 0 1 2 (.int .i64 r) (.int .i64 c) (.slice pA xs.length mA) (cs' := #[.int .i64 r, .int .i64 c, .slice pA xs.length mA, .int .i64 0, .int .i64 0, .slice none 0 0]) rfl
  replace X := kp (X.out.oth (g := w.heap.size + 1 + 1) (by omega) 0 1 2 (.int .i64 r) (.int .i64 c) (.slice pA xs.length mA))
  (with_reducible refine (TB.out _ X.out).mono ?_)
  rintro e u2 ⟨vB, rfl, oB, x9⟩
  have AP := kp (oA.apt oB)
  obtain ⟨pB, mB, huB, -, -⟩ := id oB.ints
  try simp only at huB
  subst huB
  replace oB := oB.mono X.out.size
  replace X := kp (X.out.trans x9)
  replace kA := kA.keep x9
  replace kR := kR.keep x9
  replace kO := kO.keep x9
  replace oA := oA.keep x9
  clear x9
  have neoAkO := kp (oA.ne kO (by decide))
  have neoAkR := kp (oA.ne kR (by decide))
  have KoA := kp oA
  have neoBkO := kp (oB.ne kO (by decide))
  have neoBkR := kp (oB.ne kR (by decide))
  have KoB := kp oB
  obtain ⟨akO0, akO1, akO2, akO3, akO4, akO5⟩ := kO.sixC
  have fkO := kO.free
  obtain ⟨akR0, akR1, akR2, akR3, akR4, akR5⟩ := kR.sixC
  have fkR := kR.free
  clear kA kR kO oA oB
  go_wp2
  exact bodyPost_ret (v := .agg #[.int .i64 r, .int .i64 c, .slice pA xs.length mA, .int .i64 p, .int .i64 q, .slice pB ys.length mB]) (by simp [results, Tryz.results7, go_sem, *]) rfl ⟨_, _, rfl, (((KoA.out.oth neoAkO.out 3 4 5 _ _ _).oth neoAkR.out 0 1 2 _ _ _).oth neoAkR.out 3 4 5 _ _ _), (((KoB.out.oth neoBkO.out 3 4 5 _ _ _).oth neoBkR.out 0 1 2 _ _ _).oth neoBkR.out 3 4 5 _ _ _), AP.out, (((X.out.oth (g := w.heap.size + 1 + 1) (by omega) 3 4 5 _ _ _).oth (g := w.heap.size + 1) (by omega) 0 1 2 _ _ _).oth (g := w.heap.size + 1) (by omega) 3 4 5 _ _ _)⟩
set_option maxHeartbeats 1000000 in
theorem laws_eqSharedMatrix (r c p q : Int) (v u v2 u2 : Value) (xs ys : List Int) (w : World) (h1 : Ints w v xs) (h2 : Ints w u ys) (h3 : Ints w v2 xs) (h4 : Ints w u2 ys) : Calls Tryz.prog 9 #[.agg #[.int .i64 r, .int .i64 c, v, .int .i64 p, .int .i64 q, u], .agg #[.int .i64 r, .int .i64 c, v2, .int .i64 p, .int .i64 q, u2]] w fun e w' => e = .returned (.bool true) ∧ Ext w w' := by
  obtain ⟨s1, n1, rfl, hm9, hc9⟩ := id h1
  clear hm9 hc9
  have HV := kp h1
  clear h1
  obtain ⟨s2, n2, rfl, hm9, hc9⟩ := id h2
  clear hm9 hc9
  have HU := kp h2
  clear h2
  obtain ⟨s3, n3, rfl, hm9, hc9⟩ := id h3
  clear hm9 hc9
  have HW := kp h3
  clear h3
  obtain ⟨s4, n4, rfl, hm9, hc9⟩ := id h4
  clear hm9 hc9
  have HY := kp h4
  clear h4
  have E0 := kp (fun w' (hx : Ext w w') => laws_eqMatrix r c _ _ xs w' (HV.out.keep hx) (HW.out.keep hx))
  have E1 := kp (fun w' (hx : Ext w w') => laws_eqMatrix p q _ _ ys w' (HU.out.keep hx) (HY.out.keep hx))
  have X := kp (((Ext.refl w).alloc (.cells #[.int .i64 r, .int .i64 c, .slice s1 xs.length n1, .int .i64 p, .int .i64 q, .slice s2 ys.length n2] 30)).alloc (.cells #[.int .i64 r, .int .i64 c, .slice s3 xs.length n3, .int .i64 p, .int .i64 q, .slice s4 ys.length n4] 30))
  have kA := (Blk.new w #[.int .i64 r, .int .i64 c, .slice s1 xs.length n1, .int .i64 p, .int .i64 q, .slice s2 ys.length n2] 30).old (.cells #[.int .i64 r, .int .i64 c, .slice s3 xs.length n3, .int .i64 p, .int .i64 q, .slice s4 ys.length n4] 30)
  have kB := Blk.new (w.alloc (.cells #[.int .i64 r, .int .i64 c, .slice s1 xs.length n1, .int .i64 p, .int .i64 q, .slice s2 ys.length n2] 30)) #[.int .i64 r, .int .i64 c, .slice s3 xs.length n3, .int .i64 p, .int .i64 q, .slice s4 ys.length n4] 30
  simp only [World.size_alloc] at kB
  go_enter Tryz.func9, Tryz.ntmps9
  obtain ⟨akA0, akA1, akA2, akA3, akA4, akA5⟩ := kA.sixC
  obtain ⟨akB0, akB1, akB2, akB3, akB4, akB5⟩ := kB.sixC
  go_wp2_with (fail)
  clear akA0 akA1 akA2 akA3 akA4 akA5
  clear akB0 akB1 akB2 akB3 akB4 akB5
  (with_reducible refine (E0.out _ X.out).mono ?_)
  rintro e u1 ⟨rfl, x9⟩
  replace X := kp (X.out.trans x9)
  replace kA := kA.keep x9
  replace kB := kB.keep x9
  clear x9
  obtain ⟨akA0, akA1, akA2, akA3, akA4, akA5⟩ := kA.sixC
  obtain ⟨akB0, akB1, akB2, akB3, akB4, akB5⟩ := kB.sixC
  go_wp2_with (fail)
  clear akA0 akA1 akA2 akA3 akA4 akA5
  clear akB0 akB1 akB2 akB3 akB4 akB5
  (with_reducible refine (E1.out _ X.out).mono ?_)
  rintro e u2 ⟨rfl, x9⟩
  replace X := kp (X.out.trans x9)
  replace kA := kA.keep x9
  replace kB := kB.keep x9
  clear x9
  clear kA kB
  go_wp2
  go_ret
  exact ⟨rfl, X.out⟩
set_option maxHeartbeats 1000000 in
theorem laws_markSharedMatrix (B : Nat) (r c p q : Int) (v u : Value) (xs ys : List Int) (k : Int) (a b : Nat) (e1 : xs.length = a) (e2 : ys.length = b) (w : World) (h : Grp B w [v, u] [xs, ys]) (h0 : 0 ≤ k) (hk : k + a + b ≤ 1099511627776) : Calls Tryz.prog 11 #[.agg #[.int .i64 r, .int .i64 c, v, .int .i64 p, .int .i64 q, u], .int .i64 k] w (MarkL B [v, u] k [a, b] w) := by
  subst e1 e2
  obtain ⟨⟨o1, o2, -⟩, ap⟩ := h
  have AP : Apt v u := by simpa using ap
  clear ap
  obtain ⟨s1, n1, rfl, hm9, hc9⟩ := id o1.ints
  obtain ⟨s2, n2, rfl, hm8, hc8⟩ := id o2.ints
  clear hm9 hc9 hm8 hc8
  have X := kp ((Ext.refl w).alloc (.cells #[.int .i64 r, .int .i64 c, .slice s1 xs.length n1, .int .i64 p, .int .i64 q, .slice s2 ys.length n2] 30))
  have kA := Blk.new w #[.int .i64 r, .int .i64 c, .slice s1 xs.length n1, .int .i64 p, .int .i64 q, .slice s2 ys.length n2] 30
  go_enter Tryz.func11, Tryz.ntmps11
  replace o1 := o1.keep X.out
  replace o2 := o2.keep X.out
  obtain ⟨akA0, akA1, akA2, akA3, akA4, akA5⟩ := kA.sixC
  have NA := kp (o1.ne kA (by decide))
  have O1 := kp o1
  have O2 := kp o2
  clear o1 o2
  go_wp2_with (fail)
  (with_reducible refine (laws_markMatrix B r c _ xs k _ rfl _ O1.out h0 (by omega)).mono ?_)
  rintro e u1 ⟨rfl, m1, t1⟩
  clear akA0 akA1 akA2 akA3 akA4 akA5
  replace kA := t1.blk kA NA.out
  have o2 := t1.own O2.out AP.r
  have M1 := kp m1
  have O3 := kp o2
  clear m1 o2
  obtain ⟨akA0, akA1, akA2, akA3, akA4, akA5⟩ := kA.sixC
  clear kA
  go_wp2_with (fail)
  (with_reducible refine (laws_markMatrix B p q _ ys (k + xs.length) _ rfl _ O3.out (by omega) (by omega)).mono ?_)
  rintro e u2 ⟨rfl, m2, t2⟩
  clear akA0 akA1 akA2 akA3 akA4 akA5
  have M2 := kp m2
  have m3 := kp (t2.own M1.out AP.l)
  have T := kp (TurnedL.pre X.out (t1.toL.trans t2.toL))
  clear t1 t2 m2
  go_wp2
  go_ret
  refine ⟨?_, Grp.two m3.out M2.out AP, T.out⟩
  simp only [totL, Nat.add_zero]
  rw [show k + ((xs.length + ys.length : Nat) : Int) = k + xs.length + ys.length by omega]
  rfl
set_option maxHeartbeats 1000000 in
theorem laws_heldSharedMatrix (r c p q : Int) (v u : Value) (k : Int) (a b : Nat) (w : World) (h : IntsL w [v, u] (marksL k [a, b])) (h0 : 0 ≤ k) (hk : k + a + b ≤ 1099511627776) : Calls Tryz.prog 13 #[.agg #[.int .i64 r, .int .i64 c, v, .int .i64 p, .int .i64 q, u], .int .i64 k] w fun e w' => e = .returned (.int .i64 (k + totL [a, b])) ∧ Ext w w' := by
  obtain ⟨h1, h2, -⟩ := h
  obtain ⟨s1, n1, rfl, hm9, hc9⟩ := id h1
  clear hm9 hc9
  have HV := kp h1
  clear h1
  obtain ⟨s2, n2, rfl, hm9, hc9⟩ := id h2
  clear hm9 hc9
  have HU := kp h2
  clear h2
  have E0 := kp (fun w' (hx : Ext w w') => laws_heldMatrix r c _ k a w' (HV.out.keep hx) h0 (by omega))
  have E1 := kp (fun w' (hx : Ext w w') => laws_heldMatrix p q _ (k + a) b w' (HU.out.keep hx) (by omega) (by omega))
  have e1 : decide (k + (a : Int) < 0) = false := by simp; omega
  have e2 : decide (k + (a : Int) + (b : Int) < 0) = false := by simp; omega
  simp only [totL, Nat.add_zero]
  rw [show k + ((a + b : Nat) : Int) = k + a + b by omega]
  clear h0 hk
  have X := kp ((Ext.refl w).alloc (.cells #[.int .i64 r, .int .i64 c, .slice s1 (marks k a).length n1, .int .i64 p, .int .i64 q, .slice s2 (marks (k + a) b).length n2] 30))
  have kA := Blk.new w #[.int .i64 r, .int .i64 c, .slice s1 (marks k a).length n1, .int .i64 p, .int .i64 q, .slice s2 (marks (k + a) b).length n2] 30
  go_enter Tryz.func13, Tryz.ntmps13
  obtain ⟨akA0, akA1, akA2, akA3, akA4, akA5⟩ := kA.sixC
  go_wp2_with (fail)
  clear akA0 akA1 akA2 akA3 akA4 akA5
  (with_reducible refine (E0.out _ X.out).mono ?_)
  rintro e u1 ⟨rfl, x9⟩
  replace X := kp (X.out.trans x9)
  replace kA := kA.keep x9
  clear x9
  obtain ⟨akA0, akA1, akA2, akA3, akA4, akA5⟩ := kA.sixC
  go_wp2_with (fail)
  clear akA0 akA1 akA2 akA3 akA4 akA5
  (with_reducible refine (E1.out _ X.out).mono ?_)
  rintro e u2 ⟨rfl, x9⟩
  replace X := kp (X.out.trans x9)
  replace kA := kA.keep x9
  clear x9
  clear kA
  go_wp2
  go_ret
  exact ⟨rfl, X.out⟩
end Go.Proofs.YtkkdikoknegpjaaGreat
namespace Go.Proofs.YtkkdikoknegpjaaGreat
set_option linter.unusedSimpArgs false
set_option linter.unusedVariables false
open Go.RowKit
theorem MatPost.grp {m : Mat} {w : World} {e : Ending} {w' : World} (h : MatPost m w e w') : ∃ v, e = .returned (.agg #[.int .i64 m.r, .int .i64 m.c, v]) ∧ Grp w.heap.size w' [v] [m.xs] ∧ Ext w w' := by
  obtain ⟨v, h1, h2, h3⟩ := h
  exact ⟨v, h1, Grp.one h2, h3⟩
end Go.Proofs.YtkkdikoknegpjaaGreat
