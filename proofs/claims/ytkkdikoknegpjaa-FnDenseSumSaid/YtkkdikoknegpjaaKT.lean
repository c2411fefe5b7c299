/- The laws' own functions on triples of shared matrices. -/
import Derived.Test.YtkkdikoknegpjaaKW
namespace Go.Proofs.Ytkkdikoknegpjaa
set_option linter.unusedSimpArgs false
set_option linter.unusedVariables false
open Go.RowKit
theorem Grp.six {B : Nat} {w : World} {v0 v1 v2 v3 v4 v5 : Value} {x0 x1 x2 x3 x4 x5 : List Int} (h : Grp B w [v0, v1, v2, v3, v4, v5] [x0, x1, x2, x3, x4, x5]) :
    Grp B w [v0, v1] [x0, x1] ∧ Grp B w [v2, v3] [x2, x3] ∧ Grp B w [v4, v5] [x4, x5] ∧ SepL [v0, v1] [v2, v3] ∧ SepL [v0, v1] [v4, v5] ∧ SepL [v2, v3] [v4, v5] := by
  have hp := h.apt
  simp only [List.pairwise_cons, List.mem_cons, List.not_mem_nil, or_false, forall_eq_or_imp, forall_eq] at hp
  obtain ⟨⟨a01, a02, a03, a04, a05⟩, ⟨a12, a13, a14, a15⟩, ⟨a23, a24, a25⟩, ⟨a34, a35⟩, a45, -⟩ := hp
  refine ⟨Grp.two h.o0 h.o1 a01, Grp.two h.o2 h.o3 a23, Grp.two h.o4 h.o5 a45, ⟨?_⟩, ⟨?_⟩, ⟨?_⟩⟩ <;>
  · intro v hv u hu
    simp only [List.mem_cons, List.not_mem_nil, or_false] at hv hu
    rcases hv with rfl | rfl <;> rcases hu with rfl | rfl <;> assumption
theorem IntsL.six {w : World} {v0 v1 v2 v3 v4 v5 : Value} {x0 x1 x2 x3 x4 x5 : List Int} (h : IntsL w [v0, v1, v2, v3, v4, v5] [x0, x1, x2, x3, x4, x5]) :
    Ints w v0 x0 ∧ Ints w v1 x1 ∧ Ints w v2 x2 ∧ Ints w v3 x3 ∧ Ints w v4 x4 ∧ Ints w v5 x5 := by
  obtain ⟨h0, h1, h2, h3, h4, h5, -⟩ := h
  exact ⟨h0, h1, h2, h3, h4, h5⟩

set_option maxHeartbeats 4000000 in
set_option maxRecDepth 4000 in
theorem laws_eqMatrixTriple (r0 c0 r1 c1 r2 c2 r3 c3 r4 c4 r5 c5 : Int) (v0 v1 v2 v3 v4 v5 : Value) (u0 u1 u2 u3 u4 u5 : Value) (x0 x1 x2 x3 x4 x5 : List Int) (w : World) (h0 : Ints w v0 x0) (h1 : Ints w v1 x1) (h2 : Ints w v2 x2) (h3 : Ints w v3 x3) (h4 : Ints w v4 x4) (h5 : Ints w v5 x5) (g0 : Ints w u0 x0) (g1 : Ints w u1 x1) (g2 : Ints w u2 x2) (g3 : Ints w u3 x3) (g4 : Ints w u4 x4) (g5 : Ints w u5 x5) : Calls Try.prog 18 #[.agg #[.int .i64 r0, .int .i64 c0, v0, .int .i64 r1, .int .i64 c1, v1, .int .i64 r2, .int .i64 c2, v2, .int .i64 r3, .int .i64 c3, v3, .int .i64 r4, .int .i64 c4, v4, .int .i64 r5, .int .i64 c5, v5], .agg #[.int .i64 r0, .int .i64 c0, u0, .int .i64 r1, .int .i64 c1, u1, .int .i64 r2, .int .i64 c2, u2, .int .i64 r3, .int .i64 c3, u3, .int .i64 r4, .int .i64 c4, u4, .int .i64 r5, .int .i64 c5, u5]] w fun e w' => e = .returned (.bool true) ∧ Ext w w' := by
  obtain ⟨s0, n0, rfl, hm9, hc9⟩ := id h0
  clear hm9 hc9
  have H0 := Kept.mk h0
  clear h0
  obtain ⟨s1, n1, rfl, hm9, hc9⟩ := id h1
  clear hm9 hc9
  have H1 := Kept.mk h1
  clear h1
  obtain ⟨s2, n2, rfl, hm9, hc9⟩ := id h2
  clear hm9 hc9
  have H2 := Kept.mk h2
  clear h2
  obtain ⟨s3, n3, rfl, hm9, hc9⟩ := id h3
  clear hm9 hc9
  have H3 := Kept.mk h3
  clear h3
  obtain ⟨s4, n4, rfl, hm9, hc9⟩ := id h4
  clear hm9 hc9
  have H4 := Kept.mk h4
  clear h4
  obtain ⟨s5, n5, rfl, hm9, hc9⟩ := id h5
  clear hm9 hc9
  have H5 := Kept.mk h5
  clear h5
  obtain ⟨t0, m0, rfl, hm9, hc9⟩ := id g0
  clear hm9 hc9
  have G0 := Kept.mk g0
  clear g0
  obtain ⟨t1, m1, rfl, hm9, hc9⟩ := id g1
  clear hm9 hc9
  have G1 := Kept.mk g1
  clear g1
  obtain ⟨t2, m2, rfl, hm9, hc9⟩ := id g2
  clear hm9 hc9
  have G2 := Kept.mk g2
  clear g2
  obtain ⟨t3, m3, rfl, hm9, hc9⟩ := id g3
  clear hm9 hc9
  have G3 := Kept.mk g3
  clear g3
  obtain ⟨t4, m4, rfl, hm9, hc9⟩ := id g4
  clear hm9 hc9
  have G4 := Kept.mk g4
  clear g4
  obtain ⟨t5, m5, rfl, hm9, hc9⟩ := id g5
  clear hm9 hc9
  have G5 := Kept.mk g5
  clear g5
  have E0 := Kept.mk (fun w' (hx : Ext w w') => laws_eqSharedMatrix r0 c0 r1 c1 _ _ _ _ x0 x1 w' (H0.out.keep hx) (H1.out.keep hx) (G0.out.keep hx) (G1.out.keep hx))
  have E1 := Kept.mk (fun w' (hx : Ext w w') => laws_eqSharedMatrix r2 c2 r3 c3 _ _ _ _ x2 x3 w' (H2.out.keep hx) (H3.out.keep hx) (G2.out.keep hx) (G3.out.keep hx))
  have E2 := Kept.mk (fun w' (hx : Ext w w') => laws_eqSharedMatrix r4 c4 r5 c5 _ _ _ _ x4 x5 w' (H4.out.keep hx) (H5.out.keep hx) (G4.out.keep hx) (G5.out.keep hx))
  have X := Kept.mk (((Ext.refl w).alloc (.cells #[.int .i64 r0, .int .i64 c0, .slice s0 x0.length n0, .int .i64 r1, .int .i64 c1, .slice s1 x1.length n1, .int .i64 r2, .int .i64 c2, .slice s2 x2.length n2, .int .i64 r3, .int .i64 c3, .slice s3 x3.length n3, .int .i64 r4, .int .i64 c4, .slice s4 x4.length n4, .int .i64 r5, .int .i64 c5, .slice s5 x5.length n5] 38)).alloc (.cells #[.int .i64 r0, .int .i64 c0, .slice t0 x0.length m0, .int .i64 r1, .int .i64 c1, .slice t1 x1.length m1, .int .i64 r2, .int .i64 c2, .slice t2 x2.length m2, .int .i64 r3, .int .i64 c3, .slice t3 x3.length m3, .int .i64 r4, .int .i64 c4, .slice t4 x4.length m4, .int .i64 r5, .int .i64 c5, .slice t5 x5.length m5] 38))
  have kA := (Blk.new w #[.int .i64 r0, .int .i64 c0, .slice s0 x0.length n0, .int .i64 r1, .int .i64 c1, .slice s1 x1.length n1, .int .i64 r2, .int .i64 c2, .slice s2 x2.length n2, .int .i64 r3, .int .i64 c3, .slice s3 x3.length n3, .int .i64 r4, .int .i64 c4, .slice s4 x4.length n4, .int .i64 r5, .int .i64 c5, .slice s5 x5.length n5] 38).old (.cells #[.int .i64 r0, .int .i64 c0, .slice t0 x0.length m0, .int .i64 r1, .int .i64 c1, .slice t1 x1.length m1, .int .i64 r2, .int .i64 c2, .slice t2 x2.length m2, .int .i64 r3, .int .i64 c3, .slice t3 x3.length m3, .int .i64 r4, .int .i64 c4, .slice t4 x4.length m4, .int .i64 r5, .int .i64 c5, .slice t5 x5.length m5] 38)
  have kB := Blk.new (w.alloc (.cells #[.int .i64 r0, .int .i64 c0, .slice s0 x0.length n0, .int .i64 r1, .int .i64 c1, .slice s1 x1.length n1, .int .i64 r2, .int .i64 c2, .slice s2 x2.length n2, .int .i64 r3, .int .i64 c3, .slice s3 x3.length n3, .int .i64 r4, .int .i64 c4, .slice s4 x4.length n4, .int .i64 r5, .int .i64 c5, .slice s5 x5.length n5] 38)) #[.int .i64 r0, .int .i64 c0, .slice t0 x0.length m0, .int .i64 r1, .int .i64 c1, .slice t1 x1.length m1, .int .i64 r2, .int .i64 c2, .slice t2 x2.length m2, .int .i64 r3, .int .i64 c3, .slice t3 x3.length m3, .int .i64 r4, .int .i64 c4, .slice t4 x4.length m4, .int .i64 r5, .int .i64 c5, .slice t5 x5.length m5] 38
  simp only [World.size_alloc] at kB
  go_enter Try.func18, Try.ntmps18
  obtain ⟨akA0, akA1, akA2, akA3, akA4, akA5, akA6, akA7, akA8, akA9, akA10, akA11, akA12, akA13, akA14, akA15, akA16, akA17⟩ := kA.c18
  obtain ⟨akB0, akB1, akB2, akB3, akB4, akB5, akB6, akB7, akB8, akB9, akB10, akB11, akB12, akB13, akB14, akB15, akB16, akB17⟩ := kB.c18
  go_wp2_with (fail)
  clear akA0 akA1 akA2 akA3 akA4 akA5 akA6 akA7 akA8 akA9 akA10 akA11 akA12 akA13 akA14 akA15 akA16 akA17
  clear akB0 akB1 akB2 akB3 akB4 akB5 akB6 akB7 akB8 akB9 akB10 akB11 akB12 akB13 akB14 akB15 akB16 akB17
  (with_reducible refine (E0.out _ X.out).mono ?_)
  rintro e u1 ⟨rfl, x9⟩
  replace X := Kept.mk (X.out.trans x9)
  replace kA := kA.keep x9
  replace kB := kB.keep x9
  clear x9
  obtain ⟨akA0, akA1, akA2, akA3, akA4, akA5, akA6, akA7, akA8, akA9, akA10, akA11, akA12, akA13, akA14, akA15, akA16, akA17⟩ := kA.c18
  obtain ⟨akB0, akB1, akB2, akB3, akB4, akB5, akB6, akB7, akB8, akB9, akB10, akB11, akB12, akB13, akB14, akB15, akB16, akB17⟩ := kB.c18
  go_wp2_with (fail)
  clear akA0 akA1 akA2 akA3 akA4 akA5 akA6 akA7 akA8 akA9 akA10 akA11 akA12 akA13 akA14 akA15 akA16 akA17
  clear akB0 akB1 akB2 akB3 akB4 akB5 akB6 akB7 akB8 akB9 akB10 akB11 akB12 akB13 akB14 akB15 akB16 akB17
  (with_reducible refine (E1.out _ X.out).mono ?_)
  rintro e u2 ⟨rfl, x9⟩
  replace X := Kept.mk (X.out.trans x9)
  replace kA := kA.keep x9
  replace kB := kB.keep x9
  clear x9
  obtain ⟨akA0, akA1, akA2, akA3, akA4, akA5, akA6, akA7, akA8, akA9, akA10, akA11, akA12, akA13, akA14, akA15, akA16, akA17⟩ := kA.c18
  obtain ⟨akB0, akB1, akB2, akB3, akB4, akB5, akB6, akB7, akB8, akB9, akB10, akB11, akB12, akB13, akB14, akB15, akB16, akB17⟩ := kB.c18
  go_wp2_with (fail)
  clear akA0 akA1 akA2 akA3 akA4 akA5 akA6 akA7 akA8 akA9 akA10 akA11 akA12 akA13 akA14 akA15 akA16 akA17
  clear akB0 akB1 akB2 akB3 akB4 akB5 akB6 akB7 akB8 akB9 akB10 akB11 akB12 akB13 akB14 akB15 akB16 akB17
  (with_reducible refine (E2.out _ X.out).mono ?_)
  rintro e u3 ⟨rfl, x9⟩
  replace X := Kept.mk (X.out.trans x9)
  replace kA := kA.keep x9
  replace kB := kB.keep x9
  clear x9
  clear kA kB
  go_wp2
  go_ret
  exact ⟨rfl, X.out⟩
end Go.Proofs.Ytkkdikoknegpjaa
namespace Go.Proofs.Ytkkdikoknegpjaa
set_option linter.unusedSimpArgs false
set_option linter.unusedVariables false
open Go.RowKit
theorem SepL.app {vs us ws : List Value} (h : SepL vs ws) (k : SepL us ws) : SepL (vs ++ us) ws :=
  ⟨fun v hv => (List.mem_append.1 hv).elim (fun q => h.all v q) (fun q => k.all v q)⟩

set_option maxHeartbeats 4000000 in
set_option maxRecDepth 4000 in
theorem laws_markMatrixTriple (B : Nat) (r0 c0 r1 c1 r2 c2 r3 c3 r4 c4 r5 c5 : Int) (v0 v1 v2 v3 v4 v5 : Value) (x0 x1 x2 x3 x4 x5 : List Int) (k : Int) (l0 l1 l2 l3 l4 l5 : Nat) (e0 : x0.length = l0) (e1 : x1.length = l1) (e2 : x2.length = l2) (e3 : x3.length = l3) (e4 : x4.length = l4) (e5 : x5.length = l5) (w : World) (h : Grp B w [v0, v1, v2, v3, v4, v5] [x0, x1, x2, x3, x4, x5]) (h0 : 0 ≤ k) (hk : k + l0 + l1 + l2 + l3 + l4 + l5 ≤ 1099511627776) : Calls Try.prog 20 #[.agg #[.int .i64 r0, .int .i64 c0, v0, .int .i64 r1, .int .i64 c1, v1, .int .i64 r2, .int .i64 c2, v2, .int .i64 r3, .int .i64 c3, v3, .int .i64 r4, .int .i64 c4, v4, .int .i64 r5, .int .i64 c5, v5], .int .i64 k] w (MarkL B [v0, v1, v2, v3, v4, v5] k [l0, l1, l2, l3, l4, l5] w) := by
  subst e0 e1 e2 e3 e4 e5
  obtain ⟨g0, g1, g2, s01, s02, s12⟩ := h.six
  obtain ⟨s0, n0, rfl, hm9, hc9⟩ := id h.o0.ints
  clear hm9 hc9
  obtain ⟨s1, n1, rfl, hm9, hc9⟩ := id h.o1.ints
  clear hm9 hc9
  obtain ⟨s2, n2, rfl, hm9, hc9⟩ := id h.o2.ints
  clear hm9 hc9
  obtain ⟨s3, n3, rfl, hm9, hc9⟩ := id h.o3.ints
  clear hm9 hc9
  obtain ⟨s4, n4, rfl, hm9, hc9⟩ := id h.o4.ints
  clear hm9 hc9
  obtain ⟨s5, n5, rfl, hm9, hc9⟩ := id h.o5.ints
  clear hm9 hc9
  clear h
  have X := Kept.mk ((Ext.refl w).alloc (.cells #[.int .i64 r0, .int .i64 c0, .slice s0 x0.length n0, .int .i64 r1, .int .i64 c1, .slice s1 x1.length n1, .int .i64 r2, .int .i64 c2, .slice s2 x2.length n2, .int .i64 r3, .int .i64 c3, .slice s3 x3.length n3, .int .i64 r4, .int .i64 c4, .slice s4 x4.length n4, .int .i64 r5, .int .i64 c5, .slice s5 x5.length n5] 38))
  have kA := Blk.new w #[.int .i64 r0, .int .i64 c0, .slice s0 x0.length n0, .int .i64 r1, .int .i64 c1, .slice s1 x1.length n1, .int .i64 r2, .int .i64 c2, .slice s2 x2.length n2, .int .i64 r3, .int .i64 c3, .slice s3 x3.length n3, .int .i64 r4, .int .i64 c4, .slice s4 x4.length n4, .int .i64 r5, .int .i64 c5, .slice s5 x5.length n5] 38
  go_enter Try.func20, Try.ntmps20
  replace g0 := g0.keep X.out
  replace g1 := g1.keep X.out
  replace g2 := g2.keep X.out
  have S01 := Kept.mk s01
  have S02 := Kept.mk s02
  have S12 := Kept.mk s12
  clear s01 s02 s12
  have e1 : k + ((totL [x0.length, x1.length] : Nat) : Int) = k + x0.length + x1.length := by simp only [totL]; omega
  have e2 : k + x0.length + x1.length + ((totL [x2.length, x3.length] : Nat) : Int) = k + x0.length + x1.length + x2.length + x3.length := by simp only [totL]; omega
  have e3 : k + x0.length + x1.length + x2.length + x3.length + ((totL [x4.length, x5.length] : Nat) : Int) = k + x0.length + x1.length + x2.length + x3.length + x4.length + x5.length := by simp only [totL]; omega
  have E1 := Kept.mk e1
  have E2 := Kept.mk e2
  have E3 := Kept.mk e3
  clear e1 e2 e3
  have N0 := Kept.mk (g0.ne kA (by decide))
  have G0 := Kept.mk g0
  clear g0
  obtain ⟨akA0, akA1, akA2, akA3, akA4, akA5, akA6, akA7, akA8, akA9, akA10, akA11, akA12, akA13, akA14, akA15, akA16, akA17⟩ := kA.c18
  go_wp2_with (fail)
  clear akA0 akA1 akA2 akA3 akA4 akA5 akA6 akA7 akA8 akA9 akA10 akA11 akA12 akA13 akA14 akA15 akA16 akA17
  (with_reducible refine (laws_markSharedMatrix B r0 c0 r1 c1 _ _ x0 x1 (k) _ _ rfl rfl _ G0.out (by omega) (by omega)).mono ?_)
  rintro e w0 ⟨e9, m0, t0⟩
  rw [E1.out] at e9
  subst e9
  replace kA := t0.blk kA N0.out
  replace g1 := g1.turned t0 S01.out
  replace g2 := g2.turned t0 S02.out
  have N1 := Kept.mk (g1.ne kA (by decide))
  have G1 := Kept.mk g1
  clear g1
  obtain ⟨akA0, akA1, akA2, akA3, akA4, akA5, akA6, akA7, akA8, akA9, akA10, akA11, akA12, akA13, akA14, akA15, akA16, akA17⟩ := kA.c18
  go_wp2_with (fail)
  clear akA0 akA1 akA2 akA3 akA4 akA5 akA6 akA7 akA8 akA9 akA10 akA11 akA12 akA13 akA14 akA15 akA16 akA17
  (with_reducible refine (laws_markSharedMatrix B r2 c2 r3 c3 _ _ x2 x3 (k + x0.length + x1.length) _ _ rfl rfl _ G1.out (by omega) (by omega)).mono ?_)
  rintro e w1 ⟨e9, m1, t1⟩
  rw [E2.out] at e9
  subst e9
  replace kA := t1.blk kA N1.out
  replace m0 := m0.turned t1 S01.out.symm
  replace g2 := g2.turned t1 S12.out
  have N2 := Kept.mk (g2.ne kA (by decide))
  have G2 := Kept.mk g2
  clear g2
  obtain ⟨akA0, akA1, akA2, akA3, akA4, akA5, akA6, akA7, akA8, akA9, akA10, akA11, akA12, akA13, akA14, akA15, akA16, akA17⟩ := kA.c18
  go_wp2_with (fail)
  clear akA0 akA1 akA2 akA3 akA4 akA5 akA6 akA7 akA8 akA9 akA10 akA11 akA12 akA13 akA14 akA15 akA16 akA17
  (with_reducible refine (laws_markSharedMatrix B r4 c4 r5 c5 _ _ x4 x5 (k + x0.length + x1.length + x2.length + x3.length) _ _ rfl rfl _ G2.out (by omega) (by omega)).mono ?_)
  rintro e w2 ⟨e9, m2, t2⟩
  rw [E3.out] at e9
  subst e9
  replace kA := t2.blk kA N2.out
  replace m0 := m0.turned t2 S02.out.symm
  replace m1 := m1.turned t2 S12.out.symm
  have T := Kept.mk (TurnedL.pre X.out ((t0.trans t1).trans t2))
  have GG := Kept.mk ((m0.app m1 S01.out).app m2 (S02.out.app S12.out))
  obtain ⟨a0, a1, a2, a3, a4, a5, a6, a7, a8, a9, a10, a11, a12, a13, a14, a15, a16, a17⟩ := kA.c18
  clear kA m0 m1 m2 t0 t1 t2
  go_wp2
  go_ret
  refine ⟨?_, GG.out, T.out⟩
  rw [show k + ((totL [x0.length, x1.length, x2.length, x3.length, x4.length, x5.length] : Nat) : Int) = k + x0.length + x1.length + x2.length + x3.length + x4.length + x5.length by simp only [totL]; omega]
  rfl
end Go.Proofs.Ytkkdikoknegpjaa
