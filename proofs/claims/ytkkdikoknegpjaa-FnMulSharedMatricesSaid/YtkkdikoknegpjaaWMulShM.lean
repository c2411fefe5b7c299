/- The walk through FnMulSharedMatrices. -/
import Derived.Test.YtkkdikoknegpjaaDrawMS
import Derived.Test.YtkkdikoknegpjaaMulMI
import Derived.Test.YtkkdikoknegpjaaMulMS
import Derived.Test.YtkkdikoknegpjaaShL
import Derived.Test.YtkkdikoknegpjaaExL
namespace Go.Proofs.Ytkkdikoknegpjaa
set_option linter.unusedSimpArgs false
set_option linter.unusedVariables false
open Go.RowKit
theorem MulPost_badF {x y : ShM} {t : TrM} (h : mulShOk x y t = false) : MulPost x y t = MulP4 matZ matZ matZ matZ false := funext fun w => MulPost_bad h w
theorem MulPost_okF {x y : ShM} {t : TrM} (h : mulShOk x y t = true) : MulPost x y t = MulP4 (mulShF x y t) (mulShS x y t) (opD x t.a) (opD y t.b) true := funext fun w => MulPost_ok h w
theorem laws_alive (w : World) : Calls Try.prog 27 #[] w fun e w' => e = .returned (.bool true) ∧ w = w' := by
  go_enter Try.func27, Try.ntmps27
  go_wp2_with (go_at_call 63; (with_reducible refine (impl_RingValid 5 true (by decide) _).mono ?_); rintro e w1 ⟨rfl, rfl⟩)
  go_ret
  exact ⟨rfl, rfl⟩

set_option maxHeartbeats 8000000 in
set_option maxRecDepth 4000 in
theorem walk_FnMulSharedMatrices (v : Value) (w : World) (hb : Bytes w v) : Calls Try.prog 4 #[v] w fun e w' => e = .returned (.bool true) ∧ Ext w w' := by
  obtain ⟨a, n, cap, rfl, hn, hm, hc⟩ := id hb
  clear hc
  have HB := Kept.mk hb
  clear hb
  have S := Kept.mk (St.start w)
  by_cases hl : (n : Int) ≤ 1048576
  · go_enter Try.func4, Try.ntmps4
    go_wp2_with (fail)
    clear hl
    (with_reducible refine (spec_DrawMulSharedMatrices _ _ (HB.out.ext S.out.ext)).mono ?_)
    rintro e u9 ⟨r0, c0, r1, c1, r2, c2, r3, c3, r4, c4, r5, c5, r6, c6, r7, c7, r8, c8, r9, c9, v0, v1, v2, v3, v4, v5, v6, v7, v8, v9, x0, x1, x2, x3, x4, x5, x6, x7, x8, x9, rfl, ln, gg, x9⟩
    obtain ⟨p0, m0, hu9, -, -⟩ := id gg.o0.ints
    try simp only at hu9
    subst hu9
    obtain ⟨p1, m1, hu9, -, -⟩ := id gg.o1.ints
    try simp only at hu9
    subst hu9
    obtain ⟨p2, m2, hu9, -, -⟩ := id gg.o2.ints
    try simp only at hu9
    subst hu9
    obtain ⟨p3, m3, hu9, -, -⟩ := id gg.o3.ints
    try simp only at hu9
    subst hu9
    obtain ⟨p4, m4, hu9, -, -⟩ := id gg.o4.ints
    try simp only at hu9
    subst hu9
    obtain ⟨p5, m5, hu9, -, -⟩ := id gg.o5.ints
    try simp only at hu9
    subst hu9
    obtain ⟨p6, m6, hu9, -, -⟩ := id (gg.get 6 rfl rfl).ints
    try simp only at hu9
    subst hu9
    obtain ⟨p7, m7, hu9, -, -⟩ := id (gg.get 7 rfl rfl).ints
    try simp only at hu9
    subst hu9
    obtain ⟨p8, m8, hu9, -, -⟩ := id (gg.get 8 rfl rfl).ints
    try simp only at hu9
    subst hu9
    obtain ⟨p9, m9, hu9, -, -⟩ := id (gg.get 9 rfl rfl).ints
    try simp only at hu9
    subst hu9
    have S9 := S.out.madeG gg x9
    simp only [List.cons_append, List.nil_append] at S9
    replace S := Kept.mk S9
    clear S9 gg x9
    cases g : mulShOk ⟨⟨r0, c0, x0⟩, ⟨r1, c1, x1⟩⟩ ⟨⟨r2, c2, x2⟩, ⟨r3, c3, x3⟩⟩ ⟨⟨⟨r4, c4, x4⟩, ⟨r5, c5, x5⟩⟩, ⟨⟨r6, c6, x6⟩, ⟨r7, c7, x7⟩⟩, ⟨⟨r8, c8, x8⟩, ⟨r9, c9, x9⟩⟩⟩
    · have IM := Kept.mk (fun (v0 v1 v2 v3 v4 v5 v6 v7 v8 v9 : Value) (w' : World) (h0 : Ints w' v0 x0) (h1 : Ints w' v1 x1) (h2 : Ints w' v2 x2) (h3 : Ints w' v3 x3) (h4 : Ints w' v4 x4) (h5 : Ints w' v5 x5) (h6 : Ints w' v6 x6) (h7 : Ints w' v7 x7) (h8 : Ints w' v8 x8) (h9 : Ints w' v9 x9) (f4 : Fit v4) (f5 : Fit v5) => impl_MulSharedMatrices r0 c0 r1 c1 r2 c2 r3 c3 r4 c4 r5 c5 r6 c6 r7 c7 r8 c8 r9 c9 v0 v1 v2 v3 v4 v5 v6 v7 v8 v9 x0 x1 x2 x3 x4 x5 x6 x7 x8 x9 w' h0 h1 h2 h3 h4 h5 h6 h7 h8 h9 f4 f5)
      have SM := Kept.mk (fun (v0 v1 v2 v3 v4 v5 v6 v7 v8 v9 : Value) (w' : World) (h0 : Arg w' v0 x0) (h1 : Arg w' v1 x1) (h2 : Arg w' v2 x2) (h3 : Arg w' v3 x3) (h4 : Arg w' v4 x4) (h5 : Arg w' v5 x5) (h6 : Arg w' v6 x6) (h7 : Arg w' v7 x7) (h8 : Arg w' v8 x8) (h9 : Arg w' v9 x9) => spec_MulSharedMatrices r0 c0 r1 c1 r2 c2 r3 c3 r4 c4 r5 c5 r6 c6 r7 c7 r8 c8 r9 c9 v0 v1 v2 v3 v4 v5 v6 v7 v8 v9 x0 x1 x2 x3 x4 x5 x6 x7 x8 x9 w' h0 h1 h2 h3 h4 h5 h6 h7 h8 h9)
      rw [MulPost_badF g] at IM SM
      unfold MulP4 matZ at IM SM
      simp only at IM SM
      obtain ⟨z, hz⟩ : ∃ x, x = ([] : List Int) := ⟨_, rfl⟩
      rw [← hz] at IM SM
      clear hz g
      have IG := IM
      have SG := SM
      clear IM SM
      go_wp2_with (first | (refine ldiM S.out ?_) | (refine ldiS S.out ?_) | (refine ldiT S.out ?_) | (refine ldI S.out ?_) | (refine stiM S.out ?_; clear S; intro w9 S) | (refine stiS S.out ?_; clear S; intro w9 S) | (refine stiT S.out ?_; clear S; intro w9 S) | (refine aliM S.out ?_; clear S; intro b9 w9 S) | (refine aliS S.out ?_; clear S; intro b9 w9 S) | (refine aliT S.out ?_; clear S; intro b9 w9 S) | (refine wpList_want rfl rfl ?_; dsimp only) | fail)
      (with_reducible refine (IG.out _ _ _ _ _ _ _ _ _ _ _ (S.out.grp.get 0 rfl rfl).ints (S.out.grp.get 1 rfl rfl).ints (S.out.grp.get 2 rfl rfl).ints (S.out.grp.get 3 rfl rfl).ints (S.out.grp.get 4 rfl rfl).ints (S.out.grp.get 5 rfl rfl).ints (S.out.grp.get 6 rfl rfl).ints (S.out.grp.get 7 rfl rfl).ints (S.out.grp.get 8 rfl rfl).ints (S.out.grp.get 9 rfl rfl).ints (S.out.grp.get 4 rfl rfl).fit (S.out.grp.get 5 rfl rfl).fit).mono ?_)
      rintro e u9 ⟨v0, v1, v2, v3, rfl, gg, x9⟩
      obtain ⟨pG0, mG0, hu9, -, -⟩ := id gg.o0.ints
      try simp only at hu9
      subst hu9
      obtain ⟨pG1, mG1, hu9, -, -⟩ := id gg.o1.ints
      try simp only at hu9
      subst hu9
      obtain ⟨pG2, mG2, hu9, -, -⟩ := id gg.o2.ints
      try simp only at hu9
      subst hu9
      obtain ⟨pG3, mG3, hu9, -, -⟩ := id gg.o3.ints
      try simp only at hu9
      subst hu9
      have S9 := S.out.madeG gg x9
      simp only [List.cons_append, List.nil_append] at S9
      replace S := Kept.mk S9
      clear S9 gg x9
      go_wp2_with (first | (refine ldiM S.out ?_) | (refine ldiS S.out ?_) | (refine ldiT S.out ?_) | (refine ldI S.out ?_) | (refine stiM S.out ?_; clear S; intro w9 S) | (refine stiS S.out ?_; clear S; intro w9 S) | (refine stiT S.out ?_; clear S; intro w9 S) | (refine aliM S.out ?_; clear S; intro b9 w9 S) | (refine aliS S.out ?_; clear S; intro b9 w9 S) | (refine aliT S.out ?_; clear S; intro b9 w9 S) | (refine wpList_want rfl rfl ?_; dsimp only) | fail)
      (with_reducible refine (SG.out _ _ _ _ _ _ _ _ _ _ _ ((S.out.grp.get 4 rfl rfl).arg ln.1) ((S.out.grp.get 5 rfl rfl).arg ln.2.1) ((S.out.grp.get 6 rfl rfl).arg ln.2.2.1) ((S.out.grp.get 7 rfl rfl).arg ln.2.2.2.1) ((S.out.grp.get 8 rfl rfl).arg ln.2.2.2.2.1) ((S.out.grp.get 9 rfl rfl).arg ln.2.2.2.2.2.1) ((S.out.grp.get 10 rfl rfl).arg ln.2.2.2.2.2.2.1) ((S.out.grp.get 11 rfl rfl).arg ln.2.2.2.2.2.2.2.1) ((S.out.grp.get 12 rfl rfl).arg ln.2.2.2.2.2.2.2.2.1) ((S.out.grp.get 13 rfl rfl).arg ln.2.2.2.2.2.2.2.2.2)).mono ?_)
      rintro e u9 ⟨v0, v1, v2, v3, rfl, gg, x9⟩
      obtain ⟨pW0, mW0, hu9, -, -⟩ := id gg.o0.ints
      try simp only at hu9
      subst hu9
      obtain ⟨pW1, mW1, hu9, -, -⟩ := id gg.o1.ints
      try simp only at hu9
      subst hu9
      obtain ⟨pW2, mW2, hu9, -, -⟩ := id gg.o2.ints
      try simp only at hu9
      subst hu9
      obtain ⟨pW3, mW3, hu9, -, -⟩ := id gg.o3.ints
      try simp only at hu9
      subst hu9
      have S9 := S.out.madeG gg x9
      simp only [List.cons_append, List.nil_append] at S9
      replace S := Kept.mk S9
      clear S9 gg x9
      clear IG SG
      go_wp2_with (first | (refine ldiM S.out ?_) | (refine ldiS S.out ?_) | (refine ldiT S.out ?_) | (refine ldI S.out ?_) | (refine stiM S.out ?_; clear S; intro w9 S) | (refine stiS S.out ?_; clear S; intro w9 S) | (refine stiT S.out ?_; clear S; intro w9 S) | (refine aliM S.out ?_; clear S; intro b9 w9 S) | (refine aliS S.out ?_; clear S; intro b9 w9 S) | (refine aliT S.out ?_; clear S; intro b9 w9 S) | (refine wpList_want rfl rfl ?_; dsimp only) | fail)
      (with_reducible refine (laws_sameShares 0 0 0 0 _ _ _ _ z z _ (S.out.grp.get 4 rfl rfl).ints (S.out.grp.get 5 rfl rfl).ints (S.out.grp.get 0 rfl rfl).ints (S.out.grp.get 1 rfl rfl).ints).mono ?_)
      rintro e u9 ⟨rfl, x9⟩
      replace S := Kept.mk (S.out.quiet x9)
      clear x9
      go_wp2_with (first | (refine ldiM S.out ?_) | (refine ldiS S.out ?_) | (refine ldiT S.out ?_) | (refine ldI S.out ?_) | (refine stiM S.out ?_; clear S; intro w9 S) | (refine stiS S.out ?_; clear S; intro w9 S) | (refine stiT S.out ?_; clear S; intro w9 S) | (refine aliM S.out ?_; clear S; intro b9 w9 S) | (refine aliS S.out ?_; clear S; intro b9 w9 S) | (refine aliT S.out ?_; clear S; intro b9 w9 S) | (refine wpList_want rfl rfl ?_; dsimp only) | fail)
      (with_reducible refine (laws_sameMatrix 0 0 _ _ z _ (S.out.grp.get 6 rfl rfl).ints (S.out.grp.get 2 rfl rfl).ints).mono ?_)
      rintro e u9 ⟨rfl, x9⟩
      replace S := Kept.mk (S.out.quiet x9)
      clear x9
      go_wp2_with (first | (refine ldiM S.out ?_) | (refine ldiS S.out ?_) | (refine ldiT S.out ?_) | (refine ldI S.out ?_) | (refine stiM S.out ?_; clear S; intro w9 S) | (refine stiS S.out ?_; clear S; intro w9 S) | (refine stiT S.out ?_; clear S; intro w9 S) | (refine aliM S.out ?_; clear S; intro b9 w9 S) | (refine aliS S.out ?_; clear S; intro b9 w9 S) | (refine aliT S.out ?_; clear S; intro b9 w9 S) | (refine wpList_want rfl rfl ?_; dsimp only) | fail)
      (with_reducible refine (laws_sameMatrix 0 0 _ _ z _ (S.out.grp.get 7 rfl rfl).ints (S.out.grp.get 3 rfl rfl).ints).mono ?_)
      rintro e u9 ⟨rfl, x9⟩
      replace S := Kept.mk (S.out.quiet x9)
      clear x9
      go_wp2_with (first | (refine ldiM S.out ?_) | (refine ldiS S.out ?_) | (refine ldiT S.out ?_) | (refine ldI S.out ?_) | (refine stiM S.out ?_; clear S; intro w9 S) | (refine stiS S.out ?_; clear S; intro w9 S) | (refine stiT S.out ?_; clear S; intro w9 S) | (refine aliM S.out ?_; clear S; intro b9 w9 S) | (refine aliS S.out ?_; clear S; intro b9 w9 S) | (refine aliT S.out ?_; clear S; intro b9 w9 S) | (refine wpList_want rfl rfl ?_; dsimp only) | fail)
      (with_reducible refine (laws_alive _).mono ?_)
      rintro e u9 ⟨rfl, rfl⟩
      go_wp2_with (first | (refine ldiM S.out ?_) | (refine ldiS S.out ?_) | (refine ldiT S.out ?_) | (refine ldI S.out ?_) | (refine stiM S.out ?_; clear S; intro w9 S) | (refine stiS S.out ?_; clear S; intro w9 S) | (refine stiT S.out ?_; clear S; intro w9 S) | (refine aliM S.out ?_; clear S; intro b9 w9 S) | (refine aliS S.out ?_; clear S; intro b9 w9 S) | (refine aliT S.out ?_; clear S; intro b9 w9 S) | (refine wpList_want rfl rfl ?_; dsimp only) | fail)
      go_ret
      exact ⟨rfl, S.out.ext⟩
    · have IM := Kept.mk (fun (v0 v1 v2 v3 v4 v5 v6 v7 v8 v9 : Value) (w' : World) (h0 : Ints w' v0 x0) (h1 : Ints w' v1 x1) (h2 : Ints w' v2 x2) (h3 : Ints w' v3 x3) (h4 : Ints w' v4 x4) (h5 : Ints w' v5 x5) (h6 : Ints w' v6 x6) (h7 : Ints w' v7 x7) (h8 : Ints w' v8 x8) (h9 : Ints w' v9 x9) (f4 : Fit v4) (f5 : Fit v5) => impl_MulSharedMatrices r0 c0 r1 c1 r2 c2 r3 c3 r4 c4 r5 c5 r6 c6 r7 c7 r8 c8 r9 c9 v0 v1 v2 v3 v4 v5 v6 v7 v8 v9 x0 x1 x2 x3 x4 x5 x6 x7 x8 x9 w' h0 h1 h2 h3 h4 h5 h6 h7 h8 h9 f4 f5)
      have SM := Kept.mk (fun (v0 v1 v2 v3 v4 v5 v6 v7 v8 v9 : Value) (w' : World) (h0 : Arg w' v0 x0) (h1 : Arg w' v1 x1) (h2 : Arg w' v2 x2) (h3 : Arg w' v3 x3) (h4 : Arg w' v4 x4) (h5 : Arg w' v5 x5) (h6 : Arg w' v6 x6) (h7 : Arg w' v7 x7) (h8 : Arg w' v8 x8) (h9 : Arg w' v9 x9) => spec_MulSharedMatrices r0 c0 r1 c1 r2 c2 r3 c3 r4 c4 r5 c5 r6 c6 r7 c7 r8 c8 r9 c9 v0 v1 v2 v3 v4 v5 v6 v7 v8 v9 x0 x1 x2 x3 x4 x5 x6 x7 x8 x9 w' h0 h1 h2 h3 h4 h5 h6 h7 h8 h9)
      have JQ := (join_mulSh g).2
      have OKM := (join_mulSh g).1
      rw [show mulSh ⟨⟨r0, c0, x0⟩, ⟨r1, c1, x1⟩⟩ ⟨⟨r2, c2, x2⟩, ⟨r3, c3, x3⟩⟩ ⟨⟨⟨r4, c4, x4⟩, ⟨r5, c5, x5⟩⟩, ⟨⟨r6, c6, x6⟩, ⟨r7, c7, x7⟩⟩, ⟨⟨r8, c8, x8⟩, ⟨r9, c9, x9⟩⟩⟩ = ⟨mulShF ⟨⟨r0, c0, x0⟩, ⟨r1, c1, x1⟩⟩ ⟨⟨r2, c2, x2⟩, ⟨r3, c3, x3⟩⟩ ⟨⟨⟨r4, c4, x4⟩, ⟨r5, c5, x5⟩⟩, ⟨⟨r6, c6, x6⟩, ⟨r7, c7, x7⟩⟩, ⟨⟨r8, c8, x8⟩, ⟨r9, c9, x9⟩⟩⟩, mulShS ⟨⟨r0, c0, x0⟩, ⟨r1, c1, x1⟩⟩ ⟨⟨r2, c2, x2⟩, ⟨r3, c3, x3⟩⟩ ⟨⟨⟨r4, c4, x4⟩, ⟨r5, c5, x5⟩⟩, ⟨⟨r6, c6, x6⟩, ⟨r7, c7, x7⟩⟩, ⟨⟨r8, c8, x8⟩, ⟨r9, c9, x9⟩⟩⟩⟩ by unfold mulSh; rw [if_pos g]] at JQ OKM
      rw [MulPost_okF g] at IM SM
      clear g
      unfold MulP4 at IM SM
      generalize mulShF ⟨⟨r0, c0, x0⟩, ⟨r1, c1, x1⟩⟩ ⟨⟨r2, c2, x2⟩, ⟨r3, c3, x3⟩⟩ ⟨⟨⟨r4, c4, x4⟩, ⟨r5, c5, x5⟩⟩, ⟨⟨r6, c6, x6⟩, ⟨r7, c7, x7⟩⟩, ⟨⟨r8, c8, x8⟩, ⟨r9, c9, x9⟩⟩⟩ = DF at *
      generalize mulShS ⟨⟨r0, c0, x0⟩, ⟨r1, c1, x1⟩⟩ ⟨⟨r2, c2, x2⟩, ⟨r3, c3, x3⟩⟩ ⟨⟨⟨r4, c4, x4⟩, ⟨r5, c5, x5⟩⟩, ⟨⟨r6, c6, x6⟩, ⟨r7, c7, x7⟩⟩, ⟨⟨r8, c8, x8⟩, ⟨r9, c9, x9⟩⟩⟩ = DS at *
      unfold opD at IM SM
      simp only at IM SM
      obtain ⟨fr, fc, fs⟩ := DF
      obtain ⟨sr, sc, ss⟩ := DS
      simp only at IM SM
      have JA := Kept.mk (fun (v u : Value) (w' : World) (h : Ints w' v x0) (k : Ints w' u x1) => impl_JoinMatrix r0 c0 r1 c1 v u x0 x1 w' h k)
      unfold MatPost at JA
      generalize joinM ⟨⟨r0, c0, x0⟩, ⟨r1, c1, x1⟩⟩ = Da at *
      obtain ⟨ar, ac, as_⟩ := Da
      simp only at JA
      have JB := Kept.mk (fun (v u : Value) (w' : World) (h : Ints w' v x2) (k : Ints w' u x3) => impl_JoinMatrix r2 c2 r3 c3 v u x2 x3 w' h k)
      unfold MatPost at JB
      generalize joinM ⟨⟨r2, c2, x2⟩, ⟨r3, c3, x3⟩⟩ = Db at *
      obtain ⟨br, bc, bs⟩ := Db
      simp only at JB
      have JTA := Kept.mk (fun (v u : Value) (w' : World) (h : Ints w' v x4) (k : Ints w' u x5) => impl_JoinMatrix r4 c4 r5 c5 v u x4 x5 w' h k)
      unfold MatPost at JTA
      generalize joinM ⟨⟨r4, c4, x4⟩, ⟨r5, c5, x5⟩⟩ = Dk at *
      obtain ⟨kr, kc, ks⟩ := Dk
      simp only at JTA
      have JTB := Kept.mk (fun (v u : Value) (w' : World) (h : Ints w' v x6) (k : Ints w' u x7) => impl_JoinMatrix r6 c6 r7 c7 v u x6 x7 w' h k)
      unfold MatPost at JTB
      generalize joinM ⟨⟨r6, c6, x6⟩, ⟨r7, c7, x7⟩⟩ = Dj at *
      obtain ⟨jr, jc, js⟩ := Dj
      simp only at JTB
      have MM := Kept.mk (fun (v u : Value) (w' : World) (h : Ints w' v as_) (k : Ints w' u bs) (hf : Fit v) => impl_MulMatrices ar ac br bc v u as_ bs w' h k hf)
      unfold MatPost at MM
      rw [← JQ] at MM
      clear JQ
      have JS := Kept.mk (fun (v u : Value) (w' : World) (h : Ints w' v fs) (k : Ints w' u ss) => impl_JoinMatrix fr fc sr sc v u fs ss w' h k)
      unfold MatPost at JS
      generalize joinM ⟨⟨fr, fc, fs⟩, ⟨sr, sc, ss⟩⟩ = Dq at *
      obtain ⟨qr, qc, qs⟩ := Dq
      simp only at JS MM
      have SD := Kept.mk (fun (v u : Value) (w' : World) (h : Ints w' v as_) (k : Ints w' u ks) => impl_SubMatrices ar ac kr kc v u as_ ks w' h k)
      have SE := Kept.mk (fun (v u : Value) (w' : World) (h : Ints w' v bs) (k : Ints w' u js) => impl_SubMatrices br bc jr jc v u bs js w' h k)
      unfold MatPost at SD SE
      generalize subM ⟨ar, ac, as_⟩ ⟨kr, kc, ks⟩ = DD at *
      generalize subM ⟨br, bc, bs⟩ ⟨jr, jc, js⟩ = DE at *
      obtain ⟨dr, dc, ds⟩ := DD
      obtain ⟨er, ec, es⟩ := DE
      simp only at IM SM SD SE
      have IG := IM
      have SG := SM
      clear IM SM
      go_wp2_with (first | (refine ldiM S.out ?_) | (refine ldiS S.out ?_) | (refine ldiT S.out ?_) | (refine ldI S.out ?_) | (refine stiM S.out ?_; clear S; intro w9 S) | (refine stiS S.out ?_; clear S; intro w9 S) | (refine stiT S.out ?_; clear S; intro w9 S) | (refine aliM S.out ?_; clear S; intro b9 w9 S) | (refine aliS S.out ?_; clear S; intro b9 w9 S) | (refine aliT S.out ?_; clear S; intro b9 w9 S) | (refine wpList_want rfl rfl ?_; dsimp only) | fail)
      (with_reducible refine (IG.out _ _ _ _ _ _ _ _ _ _ _ (S.out.grp.get 0 rfl rfl).ints (S.out.grp.get 1 rfl rfl).ints (S.out.grp.get 2 rfl rfl).ints (S.out.grp.get 3 rfl rfl).ints (S.out.grp.get 4 rfl rfl).ints (S.out.grp.get 5 rfl rfl).ints (S.out.grp.get 6 rfl rfl).ints (S.out.grp.get 7 rfl rfl).ints (S.out.grp.get 8 rfl rfl).ints (S.out.grp.get 9 rfl rfl).ints (S.out.grp.get 4 rfl rfl).fit (S.out.grp.get 5 rfl rfl).fit).mono ?_)
      rintro e u9 ⟨v0, v1, v2, v3, rfl, gg, x9⟩
      obtain ⟨pG0, mG0, hu9, -, -⟩ := id gg.o0.ints
      try simp only at hu9
      subst hu9
      obtain ⟨pG1, mG1, hu9, -, -⟩ := id gg.o1.ints
      try simp only at hu9
      subst hu9
      obtain ⟨pG2, mG2, hu9, -, -⟩ := id gg.o2.ints
      try simp only at hu9
      subst hu9
      obtain ⟨pG3, mG3, hu9, -, -⟩ := id gg.o3.ints
      try simp only at hu9
      subst hu9
      have S9 := S.out.madeG gg x9
      simp only [List.cons_append, List.nil_append] at S9
      replace S := Kept.mk S9
      clear S9 gg x9
      go_wp2_with (first | (refine ldiM S.out ?_) | (refine ldiS S.out ?_) | (refine ldiT S.out ?_) | (refine ldI S.out ?_) | (refine stiM S.out ?_; clear S; intro w9 S) | (refine stiS S.out ?_; clear S; intro w9 S) | (refine stiT S.out ?_; clear S; intro w9 S) | (refine aliM S.out ?_; clear S; intro b9 w9 S) | (refine aliS S.out ?_; clear S; intro b9 w9 S) | (refine aliT S.out ?_; clear S; intro b9 w9 S) | (refine wpList_want rfl rfl ?_; dsimp only) | fail)
      (with_reducible refine (SG.out _ _ _ _ _ _ _ _ _ _ _ ((S.out.grp.get 4 rfl rfl).arg ln.1) ((S.out.grp.get 5 rfl rfl).arg ln.2.1) ((S.out.grp.get 6 rfl rfl).arg ln.2.2.1) ((S.out.grp.get 7 rfl rfl).arg ln.2.2.2.1) ((S.out.grp.get 8 rfl rfl).arg ln.2.2.2.2.1) ((S.out.grp.get 9 rfl rfl).arg ln.2.2.2.2.2.1) ((S.out.grp.get 10 rfl rfl).arg ln.2.2.2.2.2.2.1) ((S.out.grp.get 11 rfl rfl).arg ln.2.2.2.2.2.2.2.1) ((S.out.grp.get 12 rfl rfl).arg ln.2.2.2.2.2.2.2.2.1) ((S.out.grp.get 13 rfl rfl).arg ln.2.2.2.2.2.2.2.2.2)).mono ?_)
      rintro e u9 ⟨v0, v1, v2, v3, rfl, gg, x9⟩
      obtain ⟨pW0, mW0, hu9, -, -⟩ := id gg.o0.ints
      try simp only at hu9
      subst hu9
      obtain ⟨pW1, mW1, hu9, -, -⟩ := id gg.o1.ints
      try simp only at hu9
      subst hu9
      obtain ⟨pW2, mW2, hu9, -, -⟩ := id gg.o2.ints
      try simp only at hu9
      subst hu9
      obtain ⟨pW3, mW3, hu9, -, -⟩ := id gg.o3.ints
      try simp only at hu9
      subst hu9
      have S9 := S.out.madeG gg x9
      simp only [List.cons_append, List.nil_append] at S9
      replace S := Kept.mk S9
      clear S9 gg x9
      clear IG SG
      go_wp2_with (first | (refine ldiM S.out ?_) | (refine ldiS S.out ?_) | (refine ldiT S.out ?_) | (refine ldI S.out ?_) | (refine stiM S.out ?_; clear S; intro w9 S) | (refine stiS S.out ?_; clear S; intro w9 S) | (refine stiT S.out ?_; clear S; intro w9 S) | (refine aliM S.out ?_; clear S; intro b9 w9 S) | (refine aliS S.out ?_; clear S; intro b9 w9 S) | (refine aliT S.out ?_; clear S; intro b9 w9 S) | (refine wpList_want rfl rfl ?_; dsimp only) | fail)
      (with_reducible refine (laws_sameShares fr fc sr sc _ _ _ _ fs ss _ (S.out.grp.get 4 rfl rfl).ints (S.out.grp.get 5 rfl rfl).ints (S.out.grp.get 0 rfl rfl).ints (S.out.grp.get 1 rfl rfl).ints).mono ?_)
      rintro e u9 ⟨rfl, x9⟩
      replace S := Kept.mk (S.out.quiet x9)
      clear x9
      go_wp2_with (first | (refine ldiM S.out ?_) | (refine ldiS S.out ?_) | (refine ldiT S.out ?_) | (refine ldI S.out ?_) | (refine stiM S.out ?_; clear S; intro w9 S) | (refine stiS S.out ?_; clear S; intro w9 S) | (refine stiT S.out ?_; clear S; intro w9 S) | (refine aliM S.out ?_; clear S; intro b9 w9 S) | (refine aliS S.out ?_; clear S; intro b9 w9 S) | (refine aliT S.out ?_; clear S; intro b9 w9 S) | (refine wpList_want rfl rfl ?_; dsimp only) | fail)
      (with_reducible refine (laws_sameMatrix dr dc _ _ ds _ (S.out.grp.get 6 rfl rfl).ints (S.out.grp.get 2 rfl rfl).ints).mono ?_)
      rintro e u9 ⟨rfl, x9⟩
      replace S := Kept.mk (S.out.quiet x9)
      clear x9
      go_wp2_with (first | (refine ldiM S.out ?_) | (refine ldiS S.out ?_) | (refine ldiT S.out ?_) | (refine ldI S.out ?_) | (refine stiM S.out ?_; clear S; intro w9 S) | (refine stiS S.out ?_; clear S; intro w9 S) | (refine stiT S.out ?_; clear S; intro w9 S) | (refine aliM S.out ?_; clear S; intro b9 w9 S) | (refine aliS S.out ?_; clear S; intro b9 w9 S) | (refine aliT S.out ?_; clear S; intro b9 w9 S) | (refine wpList_want rfl rfl ?_; dsimp only) | fail)
      (with_reducible refine (laws_sameMatrix er ec _ _ es _ (S.out.grp.get 7 rfl rfl).ints (S.out.grp.get 3 rfl rfl).ints).mono ?_)
      rintro e u9 ⟨rfl, x9⟩
      replace S := Kept.mk (S.out.quiet x9)
      clear x9
      go_wp2_with (first | (refine ldiM S.out ?_) | (refine ldiS S.out ?_) | (refine ldiT S.out ?_) | (refine ldI S.out ?_) | (refine stiM S.out ?_; clear S; intro w9 S) | (refine stiS S.out ?_; clear S; intro w9 S) | (refine stiT S.out ?_; clear S; intro w9 S) | (refine aliM S.out ?_; clear S; intro b9 w9 S) | (refine aliS S.out ?_; clear S; intro b9 w9 S) | (refine aliT S.out ?_; clear S; intro b9 w9 S) | (refine wpList_want rfl rfl ?_; dsimp only) | fail)
      clear ln
      apply wp_region_zip [isv _, matR qr qc qs, isv _, matR ar ac as_, isv _, matR br bc bs, matR qr qc qs, isv _, isv _, isv _, isv _, matR ar ac as_, isv _, isv _, matR kr kc ks, matR dr dc ds, isv _, isv _, isv _, isv _, isv _, matR br bc bs, isv _, isv _, matR jr jc js, matR er ec es, isv _, isv _, isv _] _ (by kernel_rfl)
      case hA => intro V; simp [putAll, dstOf, Act.put]; exact rfl
      case hsl => intro V; exact rfl
      case step =>
        intro V lo up w' hr
        have S := Kept.mk (S.out.quiet hr)
        simp only [zipOk, depsImp, isv, matR, modeNg, newb, waits, Region.binds, List.map_nil, List.map_cons, List.headD_cons, List.nil_append, List.cons_append, List.filterMap_cons, List.filterMap_nil, ↓reduceIte, modeNe, Bool.false_eq_true, true_implies, List.getD_cons_zero, List.getD_cons_succ, and_true]
        refine ⟨?_, ?_, ?_, ?_, ?_, ?_, ?_, ?_, ?_, ?_, ?_, ?_, ?_, ?_, ?_, ?_, ?_, ?_, ?_, ?_, ?_, ?_, ?_, ?_, ?_, ?_, ?_, ?_, ?_⟩
        · intros
          (try simp only [*])
          go_wp2_with (first | (refine ldiM S.out ?_) | (refine ldiS S.out ?_) | (refine ldiT S.out ?_) | (refine ldI S.out ?_) | (refine wpList_want rfl rfl ?_; dsimp only) | fail)
          refine stepQ_mk rfl (by simp only [List.getElem?_toArray, List.getElem?_cons_succ, List.getElem?_cons_zero]; exact rfl) ?_
          exact ⟨Ext.refl _, rfl⟩
        · intros
          (try simp only [*])
          go_wp2_with (first | (refine ldiM S.out ?_) | (refine ldiS S.out ?_) | (refine ldiT S.out ?_) | (refine ldI S.out ?_) | (refine wpList_want rfl rfl ?_; dsimp only) | fail)
          (with_reducible refine (JS.out _ _ _ (S.out.grp.get 4 rfl rfl).ints (S.out.grp.get 5 rfl rfl).ints).mono ?_)
          rintro e w9 ⟨v9, rfl, o9, x9⟩
          go_wp2
          refine stepQ_mk rfl (by simp only [List.getElem?_toArray, List.getElem?_cons_succ, List.getElem?_cons_zero]; exact rfl) ?_
          exact ⟨x9, v9, rfl, o9, fun q hq => (o9.block q hq).2⟩
        · intros
          (try simp only [*])
          go_wp2_with (first | (refine ldiM S.out ?_) | (refine ldiS S.out ?_) | (refine ldiT S.out ?_) | (refine ldI S.out ?_) | (refine wpList_want rfl rfl ?_; dsimp only) | fail)
          refine stepQ_mk rfl (by simp only [List.getElem?_toArray, List.getElem?_cons_succ, List.getElem?_cons_zero]; exact rfl) ?_
          exact ⟨Ext.refl _, rfl⟩
        · intros
          (try simp only [*])
          go_wp2_with (first | (refine ldiM S.out ?_) | (refine ldiS S.out ?_) | (refine ldiT S.out ?_) | (refine ldI S.out ?_) | (refine wpList_want rfl rfl ?_; dsimp only) | fail)
          (with_reducible refine (JA.out _ _ _ (S.out.grp.get 8 rfl rfl).ints (S.out.grp.get 9 rfl rfl).ints).mono ?_)
          rintro e w9 ⟨v9, rfl, o9, x9⟩
          go_wp2
          refine stepQ_mk rfl (by simp only [List.getElem?_toArray, List.getElem?_cons_succ, List.getElem?_cons_zero]; exact rfl) ?_
          exact ⟨x9, v9, rfl, o9, fun q hq => (o9.block q hq).2⟩
        · intros
          (try simp only [*])
          go_wp2_with (first | (refine ldiM S.out ?_) | (refine ldiS S.out ?_) | (refine ldiT S.out ?_) | (refine ldI S.out ?_) | (refine wpList_want rfl rfl ?_; dsimp only) | fail)
          refine stepQ_mk rfl (by simp only [List.getElem?_toArray, List.getElem?_cons_succ, List.getElem?_cons_zero]; exact rfl) ?_
          exact ⟨Ext.refl _, rfl⟩
        · intros
          (try simp only [*])
          go_wp2_with (first | (refine ldiM S.out ?_) | (refine ldiS S.out ?_) | (refine ldiT S.out ?_) | (refine ldI S.out ?_) | (refine wpList_want rfl rfl ?_; dsimp only) | fail)
          (with_reducible refine (JB.out _ _ _ (S.out.grp.get 10 rfl rfl).ints (S.out.grp.get 11 rfl rfl).ints).mono ?_)
          rintro e w9 ⟨v9, rfl, o9, x9⟩
          go_wp2
          refine stepQ_mk rfl (by simp only [List.getElem?_toArray, List.getElem?_cons_succ, List.getElem?_cons_zero]; exact rfl) ?_
          exact ⟨x9, v9, rfl, o9, fun q hq => (o9.block q hq).2⟩
        · intros
          obtain ⟨v3, e3, o3, b3⟩ := ‹∃ v, V 3 = _ ∧ Own _ _ v as_ ∧ _›
          obtain ⟨v5, e5, o5, b5⟩ := ‹∃ v, V 5 = _ ∧ Own _ _ v bs ∧ _›
          (try simp only [*])
          go_wp2_with (first | (refine ldiM S.out ?_) | (refine ldiS S.out ?_) | (refine ldiT S.out ?_) | (refine ldI S.out ?_) | (refine wpList_want rfl rfl ?_; dsimp only) | fail)
          (with_reducible refine (MM.out _ _ _ o3.ints o5.ints o3.fit).mono ?_)
          rintro e w9 ⟨v9, rfl, o9, x9⟩
          go_wp2
          refine stepQ_mk rfl (by simp only [List.getElem?_toArray, List.getElem?_cons_succ, List.getElem?_cons_zero]; exact rfl) ?_
          exact ⟨x9, v9, rfl, o9, fun q hq => (o9.block q hq).2⟩
        · intros
          obtain ⟨v1, e1, o1, b1⟩ := ‹∃ v, V 1 = _ ∧ Own _ _ v qs ∧ _›
          obtain ⟨v6, e6, o6, b6⟩ := ‹∃ v, V 6 = _ ∧ Own _ _ v qs ∧ _›
          (try simp only [*])
          go_wp2_with (first | (refine ldiM S.out ?_) | (refine ldiS S.out ?_) | (refine ldiT S.out ?_) | (refine ldI S.out ?_) | (refine wpList_want rfl rfl ?_; dsimp only) | fail)
          (with_reducible refine (laws_sameMatrix qr qc _ _ qs _ o1.ints o6.ints).mono ?_)
          rintro e w9 ⟨rfl, x9⟩
          go_wp2
          refine stepQ_mk rfl (by simp only [List.getElem?_toArray, List.getElem?_cons_succ, List.getElem?_cons_zero]; exact rfl) ?_
          exact ⟨x9, rfl⟩
        · intros
          (try simp only [*])
          go_wp2_with (first | (refine ldiM S.out ?_) | (refine ldiS S.out ?_) | (refine ldiT S.out ?_) | (refine ldI S.out ?_) | (refine wpList_want rfl rfl ?_; dsimp only) | fail)
          refine stepQ_mk rfl (by simp only [List.getElem?_toArray, List.getElem?_cons_succ, List.getElem?_cons_zero]; exact rfl) ?_
          exact ⟨Ext.refl _, rfl⟩
        · intros
          (try simp only [*])
          go_wp2_with (first | (refine ldiM S.out ?_) | (refine ldiS S.out ?_) | (refine ldiT S.out ?_) | (refine ldI S.out ?_) | (refine wpList_want rfl rfl ?_; dsimp only) | fail)
          refine stepQ_mk rfl (by simp only [List.getElem?_toArray, List.getElem?_cons_succ, List.getElem?_cons_zero]; exact rfl) ?_
          exact ⟨Ext.refl _, rfl⟩
        · intros
          (try simp only [*])
          go_wp2_with (first | (refine ldiM S.out ?_) | (refine ldiS S.out ?_) | (refine ldiT S.out ?_) | (refine ldI S.out ?_) | (refine wpList_want rfl rfl ?_; dsimp only) | fail)
          refine stepQ_mk rfl (by simp only [List.getElem?_toArray, List.getElem?_cons_succ, List.getElem?_cons_zero]; exact rfl) ?_
          exact ⟨Ext.refl _, rfl⟩
        · intros
          (try simp only [*])
          go_wp2_with (first | (refine ldiM S.out ?_) | (refine ldiS S.out ?_) | (refine ldiT S.out ?_) | (refine ldI S.out ?_) | (refine wpList_want rfl rfl ?_; dsimp only) | fail)
          (with_reducible refine (JA.out _ _ _ (S.out.grp.get 8 rfl rfl).ints (S.out.grp.get 9 rfl rfl).ints).mono ?_)
          rintro e w9 ⟨v9, rfl, o9, x9⟩
          go_wp2
          refine stepQ_mk rfl (by simp only [List.getElem?_toArray, List.getElem?_cons_succ, List.getElem?_cons_zero]; exact rfl) ?_
          exact ⟨x9, v9, rfl, o9, fun q hq => (o9.block q hq).2⟩
        · intros
          (try simp only [*])
          go_wp2_with (first | (refine ldiM S.out ?_) | (refine ldiS S.out ?_) | (refine ldiT S.out ?_) | (refine ldI S.out ?_) | (refine wpList_want rfl rfl ?_; dsimp only) | fail)
          refine stepQ_mk rfl (by simp only [List.getElem?_toArray, List.getElem?_cons_succ, List.getElem?_cons_zero]; exact rfl) ?_
          exact ⟨Ext.refl _, rfl⟩
        · intros
          (try simp only [*])
          go_wp2_with (first | (refine ldiM S.out ?_) | (refine ldiS S.out ?_) | (refine ldiT S.out ?_) | (refine ldI S.out ?_) | (refine wpList_want rfl rfl ?_; dsimp only) | fail)
          refine stepQ_mk rfl (by simp only [List.getElem?_toArray, List.getElem?_cons_succ, List.getElem?_cons_zero]; exact rfl) ?_
          exact ⟨Ext.refl _, rfl⟩
        · intros
          (try simp only [*])
          go_wp2_with (first | (refine ldiM S.out ?_) | (refine ldiS S.out ?_) | (refine ldiT S.out ?_) | (refine ldI S.out ?_) | (refine wpList_want rfl rfl ?_; dsimp only) | fail)
          (with_reducible refine (JTA.out _ _ _ (S.out.grp.get 12 rfl rfl).ints (S.out.grp.get 13 rfl rfl).ints).mono ?_)
          rintro e w9 ⟨v9, rfl, o9, x9⟩
          go_wp2
          refine stepQ_mk rfl (by simp only [List.getElem?_toArray, List.getElem?_cons_succ, List.getElem?_cons_zero]; exact rfl) ?_
          exact ⟨x9, v9, rfl, o9, fun q hq => (o9.block q hq).2⟩
        · intros
          obtain ⟨v11, e11, o11, b11⟩ := ‹∃ v, V 11 = _ ∧ Own _ _ v as_ ∧ _›
          obtain ⟨v14, e14, o14, b14⟩ := ‹∃ v, V 14 = _ ∧ Own _ _ v ks ∧ _›
          (try simp only [*])
          go_wp2_with (first | (refine ldiM S.out ?_) | (refine ldiS S.out ?_) | (refine ldiT S.out ?_) | (refine ldI S.out ?_) | (refine wpList_want rfl rfl ?_; dsimp only) | fail)
          (with_reducible refine (SD.out _ _ _ o11.ints o14.ints).mono ?_)
          rintro e w9 ⟨v9, rfl, o9, x9⟩
          go_wp2
          refine stepQ_mk rfl (by simp only [List.getElem?_toArray, List.getElem?_cons_succ, List.getElem?_cons_zero]; exact rfl) ?_
          exact ⟨x9, v9, rfl, o9, fun q hq => (o9.block q hq).2⟩
        · intros
          obtain ⟨v15, e15, o15, b15⟩ := ‹∃ v, V 15 = _ ∧ Own _ _ v ds ∧ _›
          (try simp only [*])
          go_wp2_with (first | (refine ldiM S.out ?_) | (refine ldiS S.out ?_) | (refine ldiT S.out ?_) | (refine ldI S.out ?_) | (refine wpList_want rfl rfl ?_; dsimp only) | fail)
          (with_reducible refine (laws_sameMatrix dr dc _ _ ds _ (S.out.grp.get 6 rfl rfl).ints o15.ints).mono ?_)
          rintro e w9 ⟨rfl, x9⟩
          go_wp2
          refine stepQ_mk rfl (by simp only [List.getElem?_toArray, List.getElem?_cons_succ, List.getElem?_cons_zero]; exact rfl) ?_
          exact ⟨x9, rfl⟩
        · intros
          (try simp only [*])
          go_wp2_with (first | (refine ldiM S.out ?_) | (refine ldiS S.out ?_) | (refine ldiT S.out ?_) | (refine ldI S.out ?_) | (refine wpList_want rfl rfl ?_; dsimp only) | fail)
          refine stepQ_mk rfl (by simp only [List.getElem?_toArray, List.getElem?_cons_succ, List.getElem?_cons_zero]; exact rfl) ?_
          exact ⟨Ext.refl _, rfl⟩
        · intros
          (try simp only [*])
          go_wp2_with (first | (refine ldiM S.out ?_) | (refine ldiS S.out ?_) | (refine ldiT S.out ?_) | (refine ldI S.out ?_) | (refine wpList_want rfl rfl ?_; dsimp only) | fail)
          refine stepQ_mk rfl (by simp only [List.getElem?_toArray, List.getElem?_cons_succ, List.getElem?_cons_zero]; exact rfl) ?_
          exact ⟨Ext.refl _, rfl⟩
        · intros
          (try simp only [*])
          go_wp2_with (first | (refine ldiM S.out ?_) | (refine ldiS S.out ?_) | (refine ldiT S.out ?_) | (refine ldI S.out ?_) | (refine wpList_want rfl rfl ?_; dsimp only) | fail)
          refine stepQ_mk rfl (by simp only [List.getElem?_toArray, List.getElem?_cons_succ, List.getElem?_cons_zero]; exact rfl) ?_
          exact ⟨Ext.refl _, rfl⟩
        · intros
          (try simp only [*])
          go_wp2_with (first | (refine ldiM S.out ?_) | (refine ldiS S.out ?_) | (refine ldiT S.out ?_) | (refine ldI S.out ?_) | (refine wpList_want rfl rfl ?_; dsimp only) | fail)
          refine stepQ_mk rfl (by simp only [List.getElem?_toArray, List.getElem?_cons_succ, List.getElem?_cons_zero]; exact rfl) ?_
          exact ⟨Ext.refl _, rfl⟩
        · intros
          (try simp only [*])
          go_wp2_with (first | (refine ldiM S.out ?_) | (refine ldiS S.out ?_) | (refine ldiT S.out ?_) | (refine ldI S.out ?_) | (refine wpList_want rfl rfl ?_; dsimp only) | fail)
          (with_reducible refine (JB.out _ _ _ (S.out.grp.get 10 rfl rfl).ints (S.out.grp.get 11 rfl rfl).ints).mono ?_)
          rintro e w9 ⟨v9, rfl, o9, x9⟩
          go_wp2
          refine stepQ_mk rfl (by simp only [List.getElem?_toArray, List.getElem?_cons_succ, List.getElem?_cons_zero]; exact rfl) ?_
          exact ⟨x9, v9, rfl, o9, fun q hq => (o9.block q hq).2⟩
        · intros
          (try simp only [*])
          go_wp2_with (first | (refine ldiM S.out ?_) | (refine ldiS S.out ?_) | (refine ldiT S.out ?_) | (refine ldI S.out ?_) | (refine wpList_want rfl rfl ?_; dsimp only) | fail)
          refine stepQ_mk rfl (by simp only [List.getElem?_toArray, List.getElem?_cons_succ, List.getElem?_cons_zero]; exact rfl) ?_
          exact ⟨Ext.refl _, rfl⟩
        · intros
          (try simp only [*])
          go_wp2_with (first | (refine ldiM S.out ?_) | (refine ldiS S.out ?_) | (refine ldiT S.out ?_) | (refine ldI S.out ?_) | (refine wpList_want rfl rfl ?_; dsimp only) | fail)
          refine stepQ_mk rfl (by simp only [List.getElem?_toArray, List.getElem?_cons_succ, List.getElem?_cons_zero]; exact rfl) ?_
          exact ⟨Ext.refl _, rfl⟩
        · intros
          (try simp only [*])
          go_wp2_with (first | (refine ldiM S.out ?_) | (refine ldiS S.out ?_) | (refine ldiT S.out ?_) | (refine ldI S.out ?_) | (refine wpList_want rfl rfl ?_; dsimp only) | fail)
          (with_reducible refine (JTB.out _ _ _ (S.out.grp.get 14 rfl rfl).ints (S.out.grp.get 15 rfl rfl).ints).mono ?_)
          rintro e w9 ⟨v9, rfl, o9, x9⟩
          go_wp2
          refine stepQ_mk rfl (by simp only [List.getElem?_toArray, List.getElem?_cons_succ, List.getElem?_cons_zero]; exact rfl) ?_
          exact ⟨x9, v9, rfl, o9, fun q hq => (o9.block q hq).2⟩
        · intros
          obtain ⟨v21, e21, o21, b21⟩ := ‹∃ v, V 21 = _ ∧ Own _ _ v bs ∧ _›
          obtain ⟨v24, e24, o24, b24⟩ := ‹∃ v, V 24 = _ ∧ Own _ _ v js ∧ _›
          (try simp only [*])
          go_wp2_with (first | (refine ldiM S.out ?_) | (refine ldiS S.out ?_) | (refine ldiT S.out ?_) | (refine ldI S.out ?_) | (refine wpList_want rfl rfl ?_; dsimp only) | fail)
          (with_reducible refine (SE.out _ _ _ o21.ints o24.ints).mono ?_)
          rintro e w9 ⟨v9, rfl, o9, x9⟩
          go_wp2
          refine stepQ_mk rfl (by simp only [List.getElem?_toArray, List.getElem?_cons_succ, List.getElem?_cons_zero]; exact rfl) ?_
          exact ⟨x9, v9, rfl, o9, fun q hq => (o9.block q hq).2⟩
        · intros
          obtain ⟨v25, e25, o25, b25⟩ := ‹∃ v, V 25 = _ ∧ Own _ _ v es ∧ _›
          (try simp only [*])
          go_wp2_with (first | (refine ldiM S.out ?_) | (refine ldiS S.out ?_) | (refine ldiT S.out ?_) | (refine ldI S.out ?_) | (refine wpList_want rfl rfl ?_; dsimp only) | fail)
          (with_reducible refine (laws_sameMatrix er ec _ _ es _ (S.out.grp.get 7 rfl rfl).ints o25.ints).mono ?_)
          rintro e w9 ⟨rfl, x9⟩
          go_wp2
          refine stepQ_mk rfl (by simp only [List.getElem?_toArray, List.getElem?_cons_succ, List.getElem?_cons_zero]; exact rfl) ?_
          exact ⟨x9, rfl⟩
        · intros
          (try simp only [*])
          go_wp2_with (first | (refine ldiM S.out ?_) | (refine ldiS S.out ?_) | (refine ldiT S.out ?_) | (refine ldI S.out ?_) | (refine wpList_want rfl rfl ?_; dsimp only) | fail)
          refine stepQ_mk rfl (by simp only [List.getElem?_toArray, List.getElem?_cons_succ, List.getElem?_cons_zero]; exact rfl) ?_
          exact ⟨Ext.refl _, rfl⟩
        · intros
          (try simp only [*])
          go_wp2_with (first | (refine ldiM S.out ?_) | (refine ldiS S.out ?_) | (refine ldiT S.out ?_) | (refine ldI S.out ?_) | (refine wpList_want rfl rfl ?_; dsimp only) | fail)
          refine stepQ_mk rfl (by simp only [List.getElem?_toArray, List.getElem?_cons_succ, List.getElem?_cons_zero]; exact rfl) ?_
          exact ⟨Ext.refl _, rfl⟩
      case hB => kernel_rfl
      case fin =>
        intro V lo up w' hr hf ha
        simp only [factsOk, isv, matR, modeNg, newb, List.map_nil, List.map_cons, List.headD_cons, and_true, Nat.zero_add, Nat.reduceAdd] at hf
        simp only [List.length_cons, List.length_nil, Nat.zero_add, Nat.reduceAdd, List.drop_succ_cons, List.drop_zero]
        obtain ⟨-, -, -, -, -, -, -, -, -, -, -, -, -, -, -, -, -, -, -, -, -, -, -, -, -, -, -, -, ⟨-, -, -, e28⟩⟩ := hf
        clear ha
        rw [e28]
        clear e28
        replace S := Kept.mk (S.out.quiet hr)
        clear hr
        go_wp2_with (first | (refine ldiM S.out ?_) | (refine ldiS S.out ?_) | (refine ldiT S.out ?_) | (refine ldI S.out ?_) | (refine stiM S.out ?_; clear S; intro w9 S) | (refine stiS S.out ?_; clear S; intro w9 S) | (refine stiT S.out ?_; clear S; intro w9 S) | (refine aliM S.out ?_; clear S; intro b9 w9 S) | (refine aliS S.out ?_; clear S; intro b9 w9 S) | (refine aliT S.out ?_; clear S; intro b9 w9 S) | (refine wpList_want rfl rfl ?_; dsimp only) | fail)
        go_ret
        exact ⟨rfl, S.out.ext⟩
  · have hl' : ¬ (n : Int) ≤ 1048576 := hl
    have hg : (1048576 : Int) < n := by omega
    clear hl
    go_enter Try.func4, Try.ntmps4
    go_wp2_with (fail)
    go_ret
    exact ⟨rfl, S.out.ext⟩
end Go.Proofs.Ytkkdikoknegpjaa
