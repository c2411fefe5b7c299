import Derived.Test.YtkkdikoknegpjaaGreatQH
import Derived.Test.YtkkdikoknegpjaaGreatSdI
import Derived.Test.YtkkdikoknegpjaaGreatSdS
import Derived.Test.YtkkdikoknegpjaaGreatDenT
import Derived.Test.YtkkdikoknegpjaaGreatKW
namespace Go.Proofs.YtkkdikoknegpjaaGreat
set_option linter.unusedSimpArgs false
set_option linter.unusedVariables false
open Go.RowKit
theorem laws_alive (w : World) : Calls Tryz.prog 18 #[] w fun e w' => e = .returned (.bool true) ∧ w = w' := by
 go_enter Tryz.func18, Tryz.ntmps18
 go_wp2_with (go_at_call 46; (with_reducible refine (impl_RingValid 5 true (by decide) _).mono ?_); rintro e w1 ⟨rfl, rfl⟩)
 go_ret
 exact ⟨rfl, rfl⟩
set_option maxHeartbeats 8000000 in
set_option maxRecDepth 4000 in
theorem walk_FnSharedDense (v : Value) (w : World) (hb : Bytes w v) : Calls Tryz.prog 4 #[v] w fun e w' => e = .returned (.bool true) ∧ Ext w w' := by
 obtain ⟨a, n, cap, rfl, hn, hm, hc⟩ := id hb
 clear hc
 have HB := kp hb
 clear hb
 have S := kp (St.start w)
 by_cases hl : (n : Int) ≤ 1048576
 ·go_enter Tryz.func4, Tryz.ntmps4
  go_wp2_with (fail)
  clear hl
  (with_reducible refine (spec_DrawSharedDense _ _ (HB.out.ext S.o.ext)).mono ?_)
  rintro e u9 ⟨r0, c0, r1, c1, r2, c2, r3, c3, r4, c4, r5, c5, v0, v1, v2, v3, v4, v5, x0, x1, x2, x3, x4, x5, s, rfl, ln, gg, x9⟩
  obtain ⟨p0, m0, hu9, -, -⟩ := id gg.o0.ints
  try simp only at hu9
  subst hu9
  obtain ⟨p1, m1, hu9, -, -⟩ := id gg.o1.ints
  try simp only at hu9
  subst hu9
  obtain ⟨p2, m2, hu9, -, -⟩ := id gg.o2.ints
  try simp only at hu9
  subst hu9
  obtain ⟨p3, m3, hu9, -, -⟩ := id gg.o3.ints
  try simp only at hu9
  subst hu9
  obtain ⟨p4, m4, hu9, -, -⟩ := id gg.o4.ints
  try simp only at hu9
  subst hu9
  obtain ⟨p5, m5, hu9, -, -⟩ := id gg.o5.ints
  try simp only at hu9
  subst hu9
  have S9 := S.o.madeG gg x9
  simp only [List.cons_append, List.nil_append] at S9
  replace S := kp S9
  clear S9 gg x9
  cases g : sdOk ⟨⟨r0, c0, x0⟩, ⟨r1, c1, x1⟩⟩ ⟨⟨r2, c2, x2⟩, ⟨r3, c3, x3⟩⟩ ⟨⟨r4, c4, x4⟩, ⟨r5, c5, x5⟩⟩ s
  ·have IM := kp (fun (v0 v1 v2 v3 v4 v5 : Value) (w' : World) (h0 : Ints w' v0 x0) (h1 : Ints w' v1 x1) (h2 : Ints w' v2 x2) (h3 : Ints w' v3 x3) (h4 : Ints w' v4 x4) (h5 : Ints w' v5 x5) => impl_SharedDense r0 c0 r1 c1 r2 c2 r3 c3 r4 c4 r5 c5 v0 v1 v2 v3 v4 v5 x0 x1 x2 x3 x4 x5 s w' h0 h1 h2 h3 h4 h5)
   have SM := kp (fun (v0 v1 v2 v3 v4 v5 : Value) (w' : World) (h0 : Arg w' v0 x0) (h1 : Arg w' v1 x1) (h2 : Arg w' v2 x2) (h3 : Arg w' v3 x3) (h4 : Arg w' v4 x4) (h5 : Arg w' v5 x5) => spec_SharedDense r0 c0 r1 c1 r2 c2 r3 c3 r4 c4 r5 c5 v0 v1 v2 v3 v4 v5 x0 x1 x2 x3 x4 x5 s w' h0 h1 h2 h3 h4 h5)
   obtain ⟨z1, z2, z3⟩ := sdSh_bad g
   rw [z1, z2, z3] at IM SM
   clear z1 z2 z3 g
   unfold ShLN shZ matZ at IM SM
   simp only at IM SM
   obtain ⟨z, hz⟩ : ∃ x, x = ([] : List Int) := ⟨_, rfl⟩
   rw [← hz] at IM SM
   have Lz := kp (show z.length = 0 by rw [hz]; rfl)
   clear hz
   go_wp2_with (first | (refine ldiS S.o ?_) | (refine ldI S.o ?_) | (refine stiS S.o ?_; clear S; intro w9 S) | (refine aliS S.o ?_; clear S; intro b9 w9 S) | (refine wW ?_; dsimp only) | fail)
   (with_reducible refine (IM.out _ _ _ _ _ _ _ (S.o.grp.get 0 rfl rfl).ints (S.o.grp.get 1 rfl rfl).ints (S.o.grp.get 2 rfl rfl).ints (S.o.grp.get 3 rfl rfl).ints (S.o.grp.get 4 rfl rfl).ints (S.o.grp.get 5 rfl rfl).ints).mono ?_)
   rintro e u9 ⟨v0, v1, v2, rfl, gg, x9⟩
   obtain ⟨pG0, mG0, hu9, -, -⟩ := id gg.o0.ints
   try simp only at hu9
   subst hu9
   obtain ⟨pG1, mG1, hu9, -, -⟩ := id gg.o1.ints
   try simp only at hu9
   subst hu9
   obtain ⟨pG2, mG2, hu9, -, -⟩ := id gg.o2.ints
   try simp only at hu9
   subst hu9
   have S9 := S.o.madeG gg x9
   simp only [List.cons_append, List.nil_append] at S9
   replace S := kp S9
   clear S9 gg x9
   go_wp2_with (first | (refine ldiS S.o ?_) | (refine ldI S.o ?_) | (refine stiS S.o ?_; clear S; intro w9 S) | (refine aliS S.o ?_; clear S; intro b9 w9 S) | (refine wW ?_; dsimp only) | fail)
   (with_reducible refine (SM.out _ _ _ _ _ _ _ ((S.o.grp.get 3 rfl rfl).arg ln.1) ((S.o.grp.get 4 rfl rfl).arg ln.2.1) ((S.o.grp.get 5 rfl rfl).arg ln.2.2.1) ((S.o.grp.get 6 rfl rfl).arg ln.2.2.2.1) ((S.o.grp.get 7 rfl rfl).arg ln.2.2.2.2.1) ((S.o.grp.get 8 rfl rfl).arg ln.2.2.2.2.2)).mono ?_)
   rintro e u9 ⟨v0, v1, v2, rfl, gg, x9⟩
   obtain ⟨pW0, mW0, hu9, -, -⟩ := id gg.o0.ints
   try simp only at hu9
   subst hu9
   obtain ⟨pW1, mW1, hu9, -, -⟩ := id gg.o1.ints
   try simp only at hu9
   subst hu9
   obtain ⟨pW2, mW2, hu9, -, -⟩ := id gg.o2.ints
   try simp only at hu9
   subst hu9
   have S9 := S.o.madeG gg x9
   simp only [List.cons_append, List.nil_append] at S9
   replace S := kp S9
   clear S9 gg x9
   clear IM SM ln
   go_wp2_with (first | (refine ldiS S.o ?_) | (refine ldI S.o ?_) | (refine stiS S.o ?_; clear S; intro w9 S) | (refine aliS S.o ?_; clear S; intro b9 w9 S) | (refine wW ?_; dsimp only) | fail)
   (with_reducible refine (laws_sameShares 0 0 0 0 _ _ _ _ z z _ (S.o.grp.get 3 rfl rfl).ints (S.o.grp.get 4 rfl rfl).ints (S.o.grp.get 0 rfl rfl).ints (S.o.grp.get 1 rfl rfl).ints).mono ?_)
   rintro e u9 ⟨rfl, x9⟩
   replace S := kp (S.o.quiet x9)
   clear x9
   go_wp2_with (first | (refine ldiS S.o ?_) | (refine ldI S.o ?_) | (refine stiS S.o ?_; clear S; intro w9 S) | (refine aliS S.o ?_; clear S; intro b9 w9 S) | (refine wW ?_; dsimp only) | fail)
   (with_reducible refine (laws_sameInts _ _ z _ (S.o.grp.get 5 rfl rfl).ints (S.o.grp.get 2 rfl rfl).ints).mono ?_)
   rintro e u9 ⟨rfl, x9⟩
   replace S := kp (S.o.quiet x9)
   clear x9
   have L0 := Lz.out
   go_wp2_with (first | (refine ldiS S.o ?_) | (refine ldI S.o ?_) | (refine stiS S.o ?_; clear S; intro w9 S) | (refine aliS S.o ?_; clear S; intro b9 w9 S) | (refine wW ?_; dsimp only) | fail)
   (with_reducible refine (laws_alive _).mono ?_)
   rintro e u9 ⟨rfl, rfl⟩
   go_wp2_with (first | (refine ldiS S.o ?_) | (refine ldI S.o ?_) | (refine stiS S.o ?_; clear S; intro w9 S) | (refine aliS S.o ?_; clear S; intro b9 w9 S) | (refine wW ?_; dsimp only) | fail)
   go_ret
   exact ⟨rfl, S.o.ext⟩
  have IM := kp (fun (v0 v1 v2 v3 v4 v5 : Value) (w' : World) (h0 : Ints w' v0 x0) (h1 : Ints w' v1 x1) (h2 : Ints w' v2 x2) (h3 : Ints w' v3 x3) (h4 : Ints w' v4 x4) (h5 : Ints w' v5 x5) => impl_SharedDense r0 c0 r1 c1 r2 c2 r3 c3 r4 c4 r5 c5 v0 v1 v2 v3 v4 v5 x0 x1 x2 x3 x4 x5 s w' h0 h1 h2 h3 h4 h5)
  have SM := kp (fun (v0 v1 v2 v3 v4 v5 : Value) (w' : World) (h0 : Arg w' v0 x0) (h1 : Arg w' v1 x1) (h2 : Arg w' v2 x2) (h3 : Arg w' v3 x3) (h4 : Arg w' v4 x4) (h5 : Arg w' v5 x5) => spec_SharedDense r0 c0 r1 c1 r2 c2 r3 c3 r4 c4 r5 c5 v0 v1 v2 v3 v4 v5 x0 x1 x2 x3 x4 x5 s w' h0 h1 h2 h3 h4 h5)
  obtain ⟨JQ, gs⟩ := join_dense g
  clear g
  unfold ShLN at IM SM
  generalize sdSh ⟨⟨r0, c0, x0⟩, ⟨r1, c1, x1⟩⟩ ⟨⟨r2, c2, x2⟩, ⟨r3, c3, x3⟩⟩ ⟨⟨r4, c4, x4⟩, ⟨r5, c5, x5⟩⟩ s = DM at *
  generalize sdL ⟨⟨r0, c0, x0⟩, ⟨r1, c1, x1⟩⟩ ⟨⟨r2, c2, x2⟩, ⟨r3, c3, x3⟩⟩ ⟨⟨r4, c4, x4⟩, ⟨r5, c5, x5⟩⟩ s = ls at *
  generalize sdS ⟨⟨r0, c0, x0⟩, ⟨r1, c1, x1⟩⟩ ⟨⟨r2, c2, x2⟩, ⟨r3, c3, x3⟩⟩ ⟨⟨r4, c4, x4⟩, ⟨r5, c5, x5⟩⟩ s = N at *
  obtain ⟨⟨fr, fc, fs⟩, ⟨sr, sc, ss⟩⟩ := DM
  simp only at IM SM
  have n0 : (N == 0) = false := by simp; omega
  have nN : (N != N) = false := by simp
  clear gs
  have JW := kp (fun (v u : Value) (w' : World) (h : Ints w' v x0) (k : Ints w' u x1) => impl_JoinMatrix r0 c0 r1 c1 v u x0 x1 w' h k)
  unfold MatPost at JW
  generalize joinM ⟨⟨r0, c0, x0⟩, ⟨r1, c1, x1⟩⟩ = Da at *
  obtain ⟨ar, ac, as_⟩ := Da
  simp only at JW
  have JB := kp (fun (v u : Value) (w' : World) (h : Ints w' v x2) (k : Ints w' u x3) => impl_JoinMatrix r2 c2 r3 c3 v u x2 x3 w' h k)
  unfold MatPost at JB
  generalize joinM ⟨⟨r2, c2, x2⟩, ⟨r3, c3, x3⟩⟩ = Db at *
  obtain ⟨br, bc, bs_⟩ := Db
  simp only at JB
  have JX := kp (fun (v u : Value) (w' : World) (h : Ints w' v x4) (k : Ints w' u x5) => impl_JoinMatrix r4 c4 r5 c5 v u x4 x5 w' h k)
  unfold MatPost at JX
  generalize joinM ⟨⟨r4, c4, x4⟩, ⟨r5, c5, x5⟩⟩ = Dd at *
  obtain ⟨dr, dc, ds_⟩ := Dd
  simp only at JX
  have PD := kp (fun (v u z : Value) (w' : World) (h : Ints w' v as_) (k : Ints w' u bs_) (l : Ints w' z ds_) (hf : Fit v) => impl_PlainDense ar ac br bc dr dc v u z as_ bs_ ds_ w' h k l hf)
  unfold MatPost at PD
  rw [← JQ] at PD
  clear JQ
  have JS := kp (fun (v u : Value) (w' : World) (h : Ints w' v fs) (k : Ints w' u ss) => impl_JoinMatrix fr fc sr sc v u fs ss w' h k)
  unfold MatPost at JS
  generalize joinM ⟨⟨fr, fc, fs⟩, ⟨sr, sc, ss⟩⟩ = Dq at *
  obtain ⟨qr, qc, qs_⟩ := Dq
  simp only at JS PD
  go_wp2_with (first | (refine ldiS S.o ?_) | (refine ldI S.o ?_) | (refine stiS S.o ?_; clear S; intro w9 S) | (refine aliS S.o ?_; clear S; intro b9 w9 S) | (refine wW ?_; dsimp only) | fail)
  (with_reducible refine (IM.out _ _ _ _ _ _ _ (S.o.grp.get 0 rfl rfl).ints (S.o.grp.get 1 rfl rfl).ints (S.o.grp.get 2 rfl rfl).ints (S.o.grp.get 3 rfl rfl).ints (S.o.grp.get 4 rfl rfl).ints (S.o.grp.get 5 rfl rfl).ints).mono ?_)
  rintro e u9 ⟨v0, v1, v2, rfl, gg, x9⟩
  obtain ⟨pG0, mG0, hu9, -, -⟩ := id gg.o0.ints
  try simp only at hu9
  subst hu9
  obtain ⟨pG1, mG1, hu9, -, -⟩ := id gg.o1.ints
  try simp only at hu9
  subst hu9
  obtain ⟨pG2, mG2, hu9, -, -⟩ := id gg.o2.ints
  try simp only at hu9
  subst hu9
  have S9 := S.o.madeG gg x9
  simp only [List.cons_append, List.nil_append] at S9
  replace S := kp S9
  clear S9 gg x9
  go_wp2_with (first | (refine ldiS S.o ?_) | (refine ldI S.o ?_) | (refine stiS S.o ?_; clear S; intro w9 S) | (refine aliS S.o ?_; clear S; intro b9 w9 S) | (refine wW ?_; dsimp only) | fail)
  (with_reducible refine (SM.out _ _ _ _ _ _ _ ((S.o.grp.get 3 rfl rfl).arg ln.1) ((S.o.grp.get 4 rfl rfl).arg ln.2.1) ((S.o.grp.get 5 rfl rfl).arg ln.2.2.1) ((S.o.grp.get 6 rfl rfl).arg ln.2.2.2.1) ((S.o.grp.get 7 rfl rfl).arg ln.2.2.2.2.1) ((S.o.grp.get 8 rfl rfl).arg ln.2.2.2.2.2)).mono ?_)
  rintro e u9 ⟨v0, v1, v2, rfl, gg, x9⟩
  obtain ⟨pW0, mW0, hu9, -, -⟩ := id gg.o0.ints
  try simp only at hu9
  subst hu9
  obtain ⟨pW1, mW1, hu9, -, -⟩ := id gg.o1.ints
  try simp only at hu9
  subst hu9
  obtain ⟨pW2, mW2, hu9, -, -⟩ := id gg.o2.ints
  try simp only at hu9
  subst hu9
  have S9 := S.o.madeG gg x9
  simp only [List.cons_append, List.nil_append] at S9
  replace S := kp S9
  clear S9 gg x9
  clear IM SM ln
  go_wp2_with (first | (refine ldiS S.o ?_) | (refine ldI S.o ?_) | (refine stiS S.o ?_; clear S; intro w9 S) | (refine aliS S.o ?_; clear S; intro b9 w9 S) | (refine wW ?_; dsimp only) | fail)
  (with_reducible refine (laws_sameShares fr fc sr sc _ _ _ _ fs ss _ (S.o.grp.get 3 rfl rfl).ints (S.o.grp.get 4 rfl rfl).ints (S.o.grp.get 0 rfl rfl).ints (S.o.grp.get 1 rfl rfl).ints).mono ?_)
  rintro e u9 ⟨rfl, x9⟩
  replace S := kp (S.o.quiet x9)
  clear x9
  go_wp2_with (first | (refine ldiS S.o ?_) | (refine ldI S.o ?_) | (refine stiS S.o ?_; clear S; intro w9 S) | (refine aliS S.o ?_; clear S; intro b9 w9 S) | (refine wW ?_; dsimp only) | fail)
  (with_reducible refine (laws_sameInts _ _ ls _ (S.o.grp.get 5 rfl rfl).ints (S.o.grp.get 2 rfl rfl).ints).mono ?_)
  rintro e u9 ⟨rfl, x9⟩
  replace S := kp (S.o.quiet x9)
  clear x9
  go_wp2_with (first | (refine ldiS S.o ?_) | (refine ldI S.o ?_) | (refine stiS S.o ?_; clear S; intro w9 S) | (refine aliS S.o ?_; clear S; intro b9 w9 S) | (refine wW ?_; dsimp only) | fail)
  apply wp_region_zip [isv _, matR qr qc qs_, isv _, matR ar ac as_, isv _, matR br bc bs_, isv _, matR dr dc ds_, matR qr qc qs_, isv _, isv _] _ (by kernel_rfl)
  case hA => intro V; simp [putAll, dstOf, Act.put]; exact rfl
  case hsl => intro V; exact rfl
  case step =>
   intro V lo up w' hr
   have S := kp (S.o.quiet hr)
   simp only [zipOk, depsImp, isv, matR, modeNg, newb, waits, Region.binds, List.map_nil, List.map_cons, List.headD_cons, List.nil_append, List.cons_append, List.filterMap_cons, List.filterMap_nil, ↓reduceIte, modeNe, Bool.false_eq_true, true_implies, List.getD_cons_zero, List.getD_cons_succ, and_true]
   refine ⟨?_, ?_, ?_, ?_, ?_, ?_, ?_, ?_, ?_, ?_, ?_⟩
   ·intros
    (try simp only [*])
    go_wp2_with (first | (refine ldiS S.o ?_) | fail)
    refine sQ ?_
    exact eZ
   ·intros
    (try simp only [*])
    go_wp2_with (fail)
    (with_reducible refine (JS.out _ _ _ (S.o.grp.get 3 rfl rfl).ints (S.o.grp.get 4 rfl rfl).ints).mono ?_)
    rintro e w9 ⟨v9, rfl, o9, x9⟩
    go_wp2
    refine sQ ?_
    exact ⟨x9, v9, rfl, o9, fun q hq => (o9.block q hq).2⟩
   ·intros
    (try simp only [*])
    go_wp2_with (first | (refine ldiS S.o ?_) | fail)
    refine sQ ?_
    exact eZ
   ·intros
    (try simp only [*])
    go_wp2_with (fail)
    (with_reducible refine (JW.out _ _ _ (S.o.grp.get 6 rfl rfl).ints (S.o.grp.get 7 rfl rfl).ints).mono ?_)
    rintro e w9 ⟨v9, rfl, o9, x9⟩
    go_wp2
    refine sQ ?_
    exact ⟨x9, v9, rfl, o9, fun q hq => (o9.block q hq).2⟩
   ·intros
    (try simp only [*])
    go_wp2_with (first | (refine ldiS S.o ?_) | fail)
    refine sQ ?_
    exact eZ
   ·intros
    (try simp only [*])
    go_wp2_with (fail)
    (with_reducible refine (JB.out _ _ _ (S.o.grp.get 8 rfl rfl).ints (S.o.grp.get 9 rfl rfl).ints).mono ?_)
    rintro e w9 ⟨v9, rfl, o9, x9⟩
    go_wp2
    refine sQ ?_
    exact ⟨x9, v9, rfl, o9, fun q hq => (o9.block q hq).2⟩
   ·intros
    (try simp only [*])
    go_wp2_with (first | (refine ldiS S.o ?_) | fail)
    refine sQ ?_
    exact eZ
   ·intros
    (try simp only [*])
    go_wp2_with (fail)
    (with_reducible refine (JX.out _ _ _ (S.o.grp.get 10 rfl rfl).ints (S.o.grp.get 11 rfl rfl).ints).mono ?_)
    rintro e w9 ⟨v9, rfl, o9, x9⟩
    go_wp2
    refine sQ ?_
    exact ⟨x9, v9, rfl, o9, fun q hq => (o9.block q hq).2⟩
   ·intros
    obtain ⟨v3, e3, o3, b3⟩ := ‹∃ v, V 3 = _ ∧ Own _ _ v as_ ∧ _›
    obtain ⟨v5, e5, o5, b5⟩ := ‹∃ v, V 5 = _ ∧ Own _ _ v bs_ ∧ _›
    obtain ⟨v7, e7, o7, b7⟩ := ‹∃ v, V 7 = _ ∧ Own _ _ v ds_ ∧ _›
    (try simp only [*])
    go_wp2_with (fail)
    (with_reducible refine (PD.out _ _ _ _ o3.ints o5.ints o7.ints o3.fit).mono ?_)
    rintro e w9 ⟨v9, rfl, o9, x9⟩
    go_wp2
    refine sQ ?_
    exact ⟨x9, v9, rfl, o9, fun q hq => (o9.block q hq).2⟩
   ·intros
    obtain ⟨v1, e1, o1, b1⟩ := ‹∃ v, V 1 = _ ∧ Own _ _ v qs_ ∧ _›
    obtain ⟨v8, e8, o8, b8⟩ := ‹∃ v, V 8 = _ ∧ Own _ _ v qs_ ∧ _›
    (try simp only [*])
    go_wp2_with (fail)
    (with_reducible refine (laws_sameMatrix qr qc _ _ qs_ _ o1.ints o8.ints).mono ?_)
    rintro e w9 ⟨rfl, x9⟩
    go_wp2
    refine sQ ?_
    exact ⟨x9, rfl⟩
   intros
   (try simp only [*])
   go_wp2_with (fail)
   refine sQ ?_
   exact eZ
  case hB => kernel_rfl
  intro V lo up w' hr hf ha
  simp only [factsOk, isv, matR, modeNg, newb, List.map_nil, List.map_cons, List.headD_cons, and_true, Nat.zero_add, Nat.reduceAdd] at hf
  simp only [List.length_cons, List.length_nil, Nat.zero_add, Nat.reduceAdd, List.drop_succ_cons, List.drop_zero]
  obtain ⟨-, -, -, -, -, -, -, -, -, -, ⟨-, -, -, e10⟩⟩ := hf
  clear ha
  rw [e10]
  clear e10
  replace S := kp (S.o.quiet hr)
  clear hr
  go_wp2_with (first | (refine ldiS S.o ?_) | (refine ldI S.o ?_) | (refine stiS S.o ?_; clear S; intro w9 S) | (refine aliS S.o ?_; clear S; intro b9 w9 S) | (refine wW ?_; dsimp only) | fail)
  go_ret
  exact ⟨rfl, S.o.ext⟩
 have hl' : ¬ (n : Int) ≤ 1048576 := hl
 have hg : (1048576 : Int) < n := by omega
 clear hl
 go_enter Tryz.func4, Tryz.ntmps4
 go_wp2_with (fail)
 go_ret
 exact ⟨rfl, S.o.ext⟩
end Go.Proofs.YtkkdikoknegpjaaGreat
