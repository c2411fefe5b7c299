/- Dense layers: the reference. -/
import Derived.Test.YtpbnbhiffnnliaaLayD
import Derived.Test.YtpbnbhiffnnliaaSWide
import Derived.Test.YtpbnbhiffnnliaaSMul
import Derived.Test.YtpbnbhiffnnliaaMapT
namespace Go.Proofs.Ytpbnbhiffnnliaa
set_option linter.unusedSimpArgs false
set_option linter.unusedVariables false
open Go.RowKit

theorem mapM_len (k r c : Int) (xs : List Int) : (mapM k r c xs).xs.length ≤ 1048576 := by
  unfold mapM
  split
  · rename_i h
    simp only [Bool.and_eq_true] at h
    obtain ⟨R, C, _, _, _, _, _, _, h1, h2, _⟩ := mOk_nat h.2
    simp only [mapTo_len]; omega
  · exact Nat.zero_le _
theorem wideM_len {R C : Nat} (hR : Side R) (hC : Side C) (xs : List Int) : (wideM R C xs).xs.length ≤ 1048576 := by
  simp only [wideM, mapTo_len]
  exact Nat.le_trans (Nat.mul_le_mul hR.hi hC.hi) (by decide)
theorem mulM_len' (a b : Mat) : (mulM a b).xs.length ≤ 1048576 := by
  unfold mulM
  split
  · rename_i h
    simp only [Bool.and_eq_true] at h
    obtain ⟨R, K, f, rfl, hR, hK, _⟩ := Mat.ok_form h.1.1
    obtain ⟨K', C, g, rfl, hK', hC, _⟩ := Mat.ok_form h.1.2
    simp only [mapTo_len, Fm_r, Fm_c, Int.toNat_natCast]
    exact Nat.le_trans (Nat.mul_le_mul hR.hi hC.hi) (by decide)
  · exact Nat.zero_le _

set_option maxHeartbeats 8000000 in
set_option maxRecDepth 4000 in
theorem spec_PlainDense (r c p q d e : Int) (v u z : Value) (xs ys zs : List Int) (w : World) (h1 : Arg w v xs) (h2 : Arg w u ys) (h3 : Arg w z zs) : Calls Try.prog 9 #[.agg #[.int .i64 r, .int .i64 c, v], .agg #[.int .i64 p, .int .i64 q, u], .agg #[.int .i64 d, .int .i64 e, z]] w (MatPost (denseM ⟨r, c, xs⟩ ⟨p, q, ys⟩ ⟨d, e, zs⟩) w) := by
  cases gL : (mOk r c xs && mOk p q ys && decide (q = 1) && decide (p = r))
  · have hz : (mOk d e zs && (mOk r c xs && mOk p q ys && decide (q = 1) && decide (p = r)) && decide (c = d)) = false := by rw [gL]; simp
    rw [show denseM ⟨r, c, xs⟩ ⟨p, q, ys⟩ ⟨d, e, zs⟩ = matZ by unfold denseM fitsB Mat.ok; simp only []; rw [hz]; rfl]
    unfold MatPost matZ
    simp only
    clear hz
    have LV : Kept (∀ (v u : Value) (g : Nat) (w' : World), Blk w' g #[.int .i64 r, .int .i64 c, v, .int .i64 p, .int .i64 q, u] 25 → Ints w' v xs → Ints w' u ys → Calls Try.prog 15 #[.agg #[.int .i64 1, .slice (some ⟨g, 0, none⟩) 2 2]] w' fun e w'' => e = .returned (.bool false) ∧ Ext w' w'') := ⟨fun v u g w' hg h1 h2 => spec_LayerValid2 r c p q v u xs ys g false gL w' hg h1 h2⟩
    clear gL
    obtain ⟨s1, n1, rfl, hm9, hc9⟩ := id h1.ints
    clear hm9 hc9
    have H1 := Kept.mk h1
    clear h1
    have O0 : Kept (∀ w', Ints w' (.slice s1 xs.length n1) xs → Calls Try.prog 30 #[.agg #[.int .i64 r, .int .i64 c, .slice s1 xs.length n1]] w' (MatPost ⟨r, c, xs⟩ w')) := ⟨fun w' h => spec_l1OwnMatrix r c _ xs w' h H1.out.fit.nil H1.out.len⟩
    unfold MatPost at O0
    obtain ⟨s2, n2, rfl, hm9, hc9⟩ := id h2.ints
    clear hm9 hc9
    have H2 := Kept.mk h2
    clear h2
    have O1 : Kept (∀ w', Ints w' (.slice s2 ys.length n2) ys → Calls Try.prog 30 #[.agg #[.int .i64 p, .int .i64 q, .slice s2 ys.length n2]] w' (MatPost ⟨p, q, ys⟩ w')) := ⟨fun w' h => spec_l1OwnMatrix p q _ ys w' h H2.out.fit.nil H2.out.len⟩
    unfold MatPost at O1
    obtain ⟨s3, n3, rfl, hm9, hc9⟩ := id h3.ints
    clear hm9 hc9
    have H3 := Kept.mk h3
    clear h3
    have O2 : Kept (∀ w', Ints w' (.slice s3 zs.length n3) zs → Calls Try.prog 30 #[.agg #[.int .i64 d, .int .i64 e, .slice s3 zs.length n3]] w' (MatPost ⟨d, e, zs⟩ w')) := ⟨fun w' h => spec_l1OwnMatrix d e _ zs w' h H3.out.fit.nil H3.out.len⟩
    unfold MatPost at O2
    have S := Kept.mk (St.start w)
    go_enter Try.func9, Try.ntmps9
    go_wp2_with (first | (refine ldiM S.out ?_) | (refine ldI S.out ?_) | (refine ldIs S.out ?_) | (refine stiM S.out ?_; clear S; intro w9 S) | (refine stI S.out ?_; clear S; intro w9 S) | (refine stIs S.out ?_; clear S; intro w9 S) | (refine aliM S.out ?_; clear S; intro b9 w9 S) | (refine bxiM S.out ?_; clear S; intro b9 w9 S) | (refine wpList_want rfl rfl ?_; dsimp only) | fail)
    (with_reducible refine (O0.out _ (H1.out.ints.keep S.out.ext)).mono ?_)
    rintro e u9 ⟨v0, rfl, o0, x9⟩
    replace S := Kept.mk (S.out.made o0 x9)
    clear x9
    obtain ⟨p0, m0, hu9, -, -⟩ := id o0.ints
    try simp only at hu9
    subst hu9
    clear o0
    go_wp2_with (first | (refine ldiM S.out ?_) | (refine ldI S.out ?_) | (refine ldIs S.out ?_) | (refine stiM S.out ?_; clear S; intro w9 S) | (refine stI S.out ?_; clear S; intro w9 S) | (refine stIs S.out ?_; clear S; intro w9 S) | (refine aliM S.out ?_; clear S; intro b9 w9 S) | (refine bxiM S.out ?_; clear S; intro b9 w9 S) | (refine wpList_want rfl rfl ?_; dsimp only) | fail)
    (with_reducible refine (O1.out _ (H2.out.ints.keep S.out.ext)).mono ?_)
    rintro e u9 ⟨v1, rfl, o1, x9⟩
    replace S := Kept.mk (S.out.made o1 x9)
    clear x9
    obtain ⟨p1, m1, hu9, -, -⟩ := id o1.ints
    try simp only at hu9
    subst hu9
    clear o1
    go_wp2_with (first | (refine ldiM S.out ?_) | (refine ldI S.out ?_) | (refine ldIs S.out ?_) | (refine stiM S.out ?_; clear S; intro w9 S) | (refine stI S.out ?_; clear S; intro w9 S) | (refine stIs S.out ?_; clear S; intro w9 S) | (refine aliM S.out ?_; clear S; intro b9 w9 S) | (refine bxiM S.out ?_; clear S; intro b9 w9 S) | (refine wpList_want rfl rfl ?_; dsimp only) | fail)
    (with_reducible refine (O2.out _ (H3.out.ints.keep S.out.ext)).mono ?_)
    rintro e u9 ⟨v2, rfl, o2, x9⟩
    replace S := Kept.mk (S.out.made o2 x9)
    clear x9
    obtain ⟨p2, m2, hu9, -, -⟩ := id o2.ints
    try simp only at hu9
    subst hu9
    clear o2
    go_wp2_with (first | (refine ldiM S.out ?_) | (refine ldI S.out ?_) | (refine ldIs S.out ?_) | (refine stiM S.out ?_; clear S; intro w9 S) | (refine stI S.out ?_; clear S; intro w9 S) | (refine stIs S.out ?_; clear S; intro w9 S) | (refine aliM S.out ?_; clear S; intro b9 w9 S) | (refine bxiM S.out ?_; clear S; intro b9 w9 S) | (refine wpList_want rfl rfl ?_; dsimp only) | fail)
    replace S := Kept.mk (S.out.alloc 25 [.int .i64 r, .int .i64 c, .slice p0 xs.length m0, .int .i64 p, .int .i64 q, .slice p1 ys.length m1])
    (with_reducible refine (LV.out _ _ _ _ (S.out.box _ (List.Mem.head _)).1 S.out.grp.o2.ints S.out.grp.o1.ints).mono ?_)
    rintro e u9 ⟨rfl, x9⟩
    replace S := Kept.mk (S.out.quiet x9)
    clear x9
    go_wp2_with (first | (refine ldiM S.out ?_) | (refine ldI S.out ?_) | (refine ldIs S.out ?_) | (refine stiM S.out ?_; clear S; intro w9 S) | (refine stI S.out ?_; clear S; intro w9 S) | (refine stIs S.out ?_; clear S; intro w9 S) | (refine aliM S.out ?_; clear S; intro b9 w9 S) | (refine bxiM S.out ?_; clear S; intro b9 w9 S) | (refine wpList_want rfl rfl ?_; dsimp only) | fail)
    exact bodyPost_ret (v := .agg #[.int .i64 0, .int .i64 0, .slice none 0 0]) (by exact res1 rfl (by exact (rsiM S.out))) rfl ⟨_, rfl, Own.nil _ _, S.out.ext⟩
  · cases gZ : mOk d e zs
    · have hz : (mOk d e zs && (mOk r c xs && mOk p q ys && decide (q = 1) && decide (p = r)) && decide (c = d)) = false := by rw [gZ]; simp
      rw [show denseM ⟨r, c, xs⟩ ⟨p, q, ys⟩ ⟨d, e, zs⟩ = matZ by unfold denseM fitsB Mat.ok; simp only []; rw [hz]; rfl]
      unfold MatPost matZ
      simp only
      clear hz
      have LV : Kept (∀ (v u : Value) (g : Nat) (w' : World), Blk w' g #[.int .i64 r, .int .i64 c, v, .int .i64 p, .int .i64 q, u] 25 → Ints w' v xs → Ints w' u ys → Calls Try.prog 15 #[.agg #[.int .i64 1, .slice (some ⟨g, 0, none⟩) 2 2]] w' fun e w'' => e = .returned (.bool true) ∧ Ext w' w'') := ⟨fun v u g w' hg h1 h2 => spec_LayerValid2 r c p q v u xs ys g true gL w' hg h1 h2⟩
      have MV : Kept (∀ (v : Value) (w' : World), Ints w' v zs → Calls Try.prog 31 #[.agg #[.int .i64 d, .int .i64 e, v]] w' fun e w'' => e = .returned (.bool false) ∧ Ext w' w'') := ⟨fun v w' h => gZ ▸ spec_MatrixValid d e v zs w' h⟩
      clear gL gZ
      obtain ⟨s1, n1, rfl, hm9, hc9⟩ := id h1.ints
      clear hm9 hc9
      have H1 := Kept.mk h1
      clear h1
      have O0 : Kept (∀ w', Ints w' (.slice s1 xs.length n1) xs → Calls Try.prog 30 #[.agg #[.int .i64 r, .int .i64 c, .slice s1 xs.length n1]] w' (MatPost ⟨r, c, xs⟩ w')) := ⟨fun w' h => spec_l1OwnMatrix r c _ xs w' h H1.out.fit.nil H1.out.len⟩
      unfold MatPost at O0
      obtain ⟨s2, n2, rfl, hm9, hc9⟩ := id h2.ints
      clear hm9 hc9
      have H2 := Kept.mk h2
      clear h2
      have O1 : Kept (∀ w', Ints w' (.slice s2 ys.length n2) ys → Calls Try.prog 30 #[.agg #[.int .i64 p, .int .i64 q, .slice s2 ys.length n2]] w' (MatPost ⟨p, q, ys⟩ w')) := ⟨fun w' h => spec_l1OwnMatrix p q _ ys w' h H2.out.fit.nil H2.out.len⟩
      unfold MatPost at O1
      obtain ⟨s3, n3, rfl, hm9, hc9⟩ := id h3.ints
      clear hm9 hc9
      have H3 := Kept.mk h3
      clear h3
      have O2 : Kept (∀ w', Ints w' (.slice s3 zs.length n3) zs → Calls Try.prog 30 #[.agg #[.int .i64 d, .int .i64 e, .slice s3 zs.length n3]] w' (MatPost ⟨d, e, zs⟩ w')) := ⟨fun w' h => spec_l1OwnMatrix d e _ zs w' h H3.out.fit.nil H3.out.len⟩
      unfold MatPost at O2
      have S := Kept.mk (St.start w)
      go_enter Try.func9, Try.ntmps9
      go_wp2_with (first | (refine ldiM S.out ?_) | (refine ldI S.out ?_) | (refine ldIs S.out ?_) | (refine stiM S.out ?_; clear S; intro w9 S) | (refine stI S.out ?_; clear S; intro w9 S) | (refine stIs S.out ?_; clear S; intro w9 S) | (refine aliM S.out ?_; clear S; intro b9 w9 S) | (refine bxiM S.out ?_; clear S; intro b9 w9 S) | (refine wpList_want rfl rfl ?_; dsimp only) | fail)
      (with_reducible refine (O0.out _ (H1.out.ints.keep S.out.ext)).mono ?_)
      rintro e u9 ⟨v0, rfl, o0, x9⟩
      replace S := Kept.mk (S.out.made o0 x9)
      clear x9
      obtain ⟨p0, m0, hu9, -, -⟩ := id o0.ints
      try simp only at hu9
      subst hu9
      clear o0
      go_wp2_with (first | (refine ldiM S.out ?_) | (refine ldI S.out ?_) | (refine ldIs S.out ?_) | (refine stiM S.out ?_; clear S; intro w9 S) | (refine stI S.out ?_; clear S; intro w9 S) | (refine stIs S.out ?_; clear S; intro w9 S) | (refine aliM S.out ?_; clear S; intro b9 w9 S) | (refine bxiM S.out ?_; clear S; intro b9 w9 S) | (refine wpList_want rfl rfl ?_; dsimp only) | fail)
      (with_reducible refine (O1.out _ (H2.out.ints.keep S.out.ext)).mono ?_)
      rintro e u9 ⟨v1, rfl, o1, x9⟩
      replace S := Kept.mk (S.out.made o1 x9)
      clear x9
      obtain ⟨p1, m1, hu9, -, -⟩ := id o1.ints
      try simp only at hu9
      subst hu9
      clear o1
      go_wp2_with (first | (refine ldiM S.out ?_) | (refine ldI S.out ?_) | (refine ldIs S.out ?_) | (refine stiM S.out ?_; clear S; intro w9 S) | (refine stI S.out ?_; clear S; intro w9 S) | (refine stIs S.out ?_; clear S; intro w9 S) | (refine aliM S.out ?_; clear S; intro b9 w9 S) | (refine bxiM S.out ?_; clear S; intro b9 w9 S) | (refine wpList_want rfl rfl ?_; dsimp only) | fail)
      (with_reducible refine (O2.out _ (H3.out.ints.keep S.out.ext)).mono ?_)
      rintro e u9 ⟨v2, rfl, o2, x9⟩
      replace S := Kept.mk (S.out.made o2 x9)
      clear x9
      obtain ⟨p2, m2, hu9, -, -⟩ := id o2.ints
      try simp only at hu9
      subst hu9
      clear o2
      go_wp2_with (first | (refine ldiM S.out ?_) | (refine ldI S.out ?_) | (refine ldIs S.out ?_) | (refine stiM S.out ?_; clear S; intro w9 S) | (refine stI S.out ?_; clear S; intro w9 S) | (refine stIs S.out ?_; clear S; intro w9 S) | (refine aliM S.out ?_; clear S; intro b9 w9 S) | (refine bxiM S.out ?_; clear S; intro b9 w9 S) | (refine wpList_want rfl rfl ?_; dsimp only) | fail)
      replace S := Kept.mk (S.out.alloc 25 [.int .i64 r, .int .i64 c, .slice p0 xs.length m0, .int .i64 p, .int .i64 q, .slice p1 ys.length m1])
      (with_reducible refine (LV.out _ _ _ _ (S.out.box _ (List.Mem.head _)).1 S.out.grp.o2.ints S.out.grp.o1.ints).mono ?_)
      rintro e u9 ⟨rfl, x9⟩
      replace S := Kept.mk (S.out.quiet x9)
      clear x9
      go_wp2_with (first | (refine ldiM S.out ?_) | (refine ldI S.out ?_) | (refine ldIs S.out ?_) | (refine stiM S.out ?_; clear S; intro w9 S) | (refine stI S.out ?_; clear S; intro w9 S) | (refine stIs S.out ?_; clear S; intro w9 S) | (refine aliM S.out ?_; clear S; intro b9 w9 S) | (refine bxiM S.out ?_; clear S; intro b9 w9 S) | (refine wpList_want rfl rfl ?_; dsimp only) | fail)
      (with_reducible refine (MV.out _ _ S.out.grp.o0.ints).mono ?_)
      rintro e u9 ⟨rfl, x9⟩
      replace S := Kept.mk (S.out.quiet x9)
      clear x9
      go_wp2_with (first | (refine ldiM S.out ?_) | (refine ldI S.out ?_) | (refine ldIs S.out ?_) | (refine stiM S.out ?_; clear S; intro w9 S) | (refine stI S.out ?_; clear S; intro w9 S) | (refine stIs S.out ?_; clear S; intro w9 S) | (refine aliM S.out ?_; clear S; intro b9 w9 S) | (refine bxiM S.out ?_; clear S; intro b9 w9 S) | (refine wpList_want rfl rfl ?_; dsimp only) | fail)
      exact bodyPost_ret (v := .agg #[.int .i64 0, .int .i64 0, .slice none 0 0]) (by exact res1 rfl (by exact (rsiM S.out))) rfl ⟨_, rfl, Own.nil _ _, S.out.ext⟩
    · by_cases gC : c = d
      · have hz : (mOk d e zs && (mOk r c xs && mOk p q ys && decide (q = 1) && decide (p = r)) && decide (c = d)) = true := by rw [gL, gZ]; simp [gC]
        rw [show denseM ⟨r, c, xs⟩ ⟨p, q, ys⟩ ⟨d, e, zs⟩ = addM (cutM ⟨r, c, xs⟩ ⟨d, e, zs⟩) (wideM r.toNat e.toNat ys) by unfold denseM fitsB Mat.ok; simp only []; rw [hz]; rfl]
        have gL' := gL
        simp only [Bool.and_eq_true, decide_eq_true_eq] at gL'
        obtain ⟨⟨⟨gX, gY⟩, gq⟩, gp⟩ := gL'
        subst gq gp gC
        obtain ⟨R, K, rfl, rfl, R1, R5, K1, K5, -, -, -⟩ := mOk_nat gX
        obtain ⟨K2, C, eK, rfl, -, -, C1, C5, -, -, -⟩ := mOk_nat gZ
        obtain ⟨R2, k1, eR, e1, -, -, -, -, hly, -, -⟩ := mOk_nat gY
        have hlY : ys.length = R := by rw [hly, show k1 = 1 by omega, show R2 = R by omega, Nat.mul_one]
        have sR : Side R := ⟨R1, R5⟩
        have sC : Side C := ⟨C1, C5⟩
        clear hz eK eR e1 hly gX gY R1 R5 K1 K5 C1 C5
        have LV : Kept (∀ (v u : Value) (g : Nat) (w' : World), Blk w' g #[.int .i64 R, .int .i64 K, v, .int .i64 R, .int .i64 1, u] 25 → Ints w' v xs → Ints w' u ys → Calls Try.prog 15 #[.agg #[.int .i64 1, .slice (some ⟨g, 0, none⟩) 2 2]] w' fun e w'' => e = .returned (.bool true) ∧ Ext w' w'') := ⟨fun v u g w' hg h1 h2 => spec_LayerValid2 R K R 1 v u xs ys g true gL w' hg h1 h2⟩
        have MV : Kept (∀ (v : Value) (w' : World), Ints w' v zs → Calls Try.prog 31 #[.agg #[.int .i64 K, .int .i64 C, v]] w' fun e w'' => e = .returned (.bool true) ∧ Ext w' w'') := ⟨fun v w' h => gZ ▸ spec_MatrixValid K C v zs w' h⟩
        clear gL gZ
        have MM := Kept.mk (fun (v u : Value) (w' : World) (h1 : Arg w' v xs) (h2 : Arg w' u zs) => spec_MulMatrices R K K C v u xs zs w' h1 h2)
        have WD := Kept.mk (fun (u : Value) (w' : World) (h : Ints w' u ys) => spec_l12Wide R C 1 sR sC u ys hlY w' h)
        unfold MatPost at MM WD
        rw [show (R : Int).toNat = R from Int.toNat_natCast R, show (C : Int).toNat = C from Int.toNat_natCast C]
        unfold cutM
        have LM := Kept.mk (mulM_len' ⟨R, K, xs⟩ ⟨K, C, zs⟩)
        generalize mulM ⟨R, K, xs⟩ ⟨K, C, zs⟩ = D at *
        obtain ⟨dr, dc, ds⟩ := D
        simp only at MM LM ⊢
        have MP := Kept.mk (fun (u : Value) (w' : World) (h : Ints w' u ds) (hn : NilOk u) => spec_MapMatrix 1 dr dc u ds w' h hn LM.out)
        unfold MatPost at MP
        have LE := Kept.mk (mapM_len 1 dr dc ds)
        generalize mapM 1 dr dc ds = E at *
        obtain ⟨er, ec, es⟩ := E
        simp only at MP LE
        have LQ := Kept.mk (wideM_len sR sC ys)
        generalize wideM R C ys = Q at *
        obtain ⟨qr, qc, qs⟩ := Q
        simp only at WD LQ
        have AD := Kept.mk (fun (v u : Value) (w' : World) (h1 : Arg w' v es) (h2 : Arg w' u qs) => spec_AddMatrices er ec qr qc v u es qs w' h1 h2)
        unfold MatPost at AD ⊢
        generalize addM ⟨er, ec, es⟩ ⟨qr, qc, qs⟩ = F at *
        obtain ⟨fr, fc, fs⟩ := F
        simp only at AD ⊢
        clear sR sC hlY
        obtain ⟨s1, n1, rfl, hm9, hc9⟩ := id h1.ints
        clear hm9 hc9
        have H1 := Kept.mk h1
        clear h1
        have O0 : Kept (∀ w', Ints w' (.slice s1 xs.length n1) xs → Calls Try.prog 30 #[.agg #[.int .i64 R, .int .i64 K, .slice s1 xs.length n1]] w' (MatPost ⟨R, K, xs⟩ w')) := ⟨fun w' h => spec_l1OwnMatrix R K _ xs w' h H1.out.fit.nil H1.out.len⟩
        unfold MatPost at O0
        obtain ⟨s2, n2, rfl, hm9, hc9⟩ := id h2.ints
        clear hm9 hc9
        have H2 := Kept.mk h2
        clear h2
        have O1 : Kept (∀ w', Ints w' (.slice s2 ys.length n2) ys → Calls Try.prog 30 #[.agg #[.int .i64 R, .int .i64 1, .slice s2 ys.length n2]] w' (MatPost ⟨R, 1, ys⟩ w')) := ⟨fun w' h => spec_l1OwnMatrix R 1 _ ys w' h H2.out.fit.nil H2.out.len⟩
        unfold MatPost at O1
        obtain ⟨s3, n3, rfl, hm9, hc9⟩ := id h3.ints
        clear hm9 hc9
        have H3 := Kept.mk h3
        clear h3
        have O2 : Kept (∀ w', Ints w' (.slice s3 zs.length n3) zs → Calls Try.prog 30 #[.agg #[.int .i64 K, .int .i64 C, .slice s3 zs.length n3]] w' (MatPost ⟨K, C, zs⟩ w')) := ⟨fun w' h => spec_l1OwnMatrix K C _ zs w' h H3.out.fit.nil H3.out.len⟩
        unfold MatPost at O2
        have S := Kept.mk (St.start w)
        go_enter Try.func9, Try.ntmps9
        go_wp2_with (first | (refine ldiM S.out ?_) | (refine ldI S.out ?_) | (refine ldIs S.out ?_) | (refine stiM S.out ?_; clear S; intro w9 S) | (refine stI S.out ?_; clear S; intro w9 S) | (refine stIs S.out ?_; clear S; intro w9 S) | (refine aliM S.out ?_; clear S; intro b9 w9 S) | (refine bxiM S.out ?_; clear S; intro b9 w9 S) | (refine wpList_want rfl rfl ?_; dsimp only) | fail)
        (with_reducible refine (O0.out _ (H1.out.ints.keep S.out.ext)).mono ?_)
        rintro e u9 ⟨v0, rfl, o0, x9⟩
        replace S := Kept.mk (S.out.made o0 x9)
        clear x9
        obtain ⟨p0, m0, hu9, -, -⟩ := id o0.ints
        try simp only at hu9
        subst hu9
        clear o0
        go_wp2_with (first | (refine ldiM S.out ?_) | (refine ldI S.out ?_) | (refine ldIs S.out ?_) | (refine stiM S.out ?_; clear S; intro w9 S) | (refine stI S.out ?_; clear S; intro w9 S) | (refine stIs S.out ?_; clear S; intro w9 S) | (refine aliM S.out ?_; clear S; intro b9 w9 S) | (refine bxiM S.out ?_; clear S; intro b9 w9 S) | (refine wpList_want rfl rfl ?_; dsimp only) | fail)
        (with_reducible refine (O1.out _ (H2.out.ints.keep S.out.ext)).mono ?_)
        rintro e u9 ⟨v1, rfl, o1, x9⟩
        replace S := Kept.mk (S.out.made o1 x9)
        clear x9
        obtain ⟨p1, m1, hu9, -, -⟩ := id o1.ints
        try simp only at hu9
        subst hu9
        clear o1
        go_wp2_with (first | (refine ldiM S.out ?_) | (refine ldI S.out ?_) | (refine ldIs S.out ?_) | (refine stiM S.out ?_; clear S; intro w9 S) | (refine stI S.out ?_; clear S; intro w9 S) | (refine stIs S.out ?_; clear S; intro w9 S) | (refine aliM S.out ?_; clear S; intro b9 w9 S) | (refine bxiM S.out ?_; clear S; intro b9 w9 S) | (refine wpList_want rfl rfl ?_; dsimp only) | fail)
        (with_reducible refine (O2.out _ (H3.out.ints.keep S.out.ext)).mono ?_)
        rintro e u9 ⟨v2, rfl, o2, x9⟩
        replace S := Kept.mk (S.out.made o2 x9)
        clear x9
        obtain ⟨p2, m2, hu9, -, -⟩ := id o2.ints
        try simp only at hu9
        subst hu9
        clear o2
        go_wp2_with (first | (refine ldiM S.out ?_) | (refine ldI S.out ?_) | (refine ldIs S.out ?_) | (refine stiM S.out ?_; clear S; intro w9 S) | (refine stI S.out ?_; clear S; intro w9 S) | (refine stIs S.out ?_; clear S; intro w9 S) | (refine aliM S.out ?_; clear S; intro b9 w9 S) | (refine bxiM S.out ?_; clear S; intro b9 w9 S) | (refine wpList_want rfl rfl ?_; dsimp only) | fail)
        replace S := Kept.mk (S.out.alloc 25 [.int .i64 R, .int .i64 K, .slice p0 xs.length m0, .int .i64 R, .int .i64 1, .slice p1 ys.length m1])
        (with_reducible refine (LV.out _ _ _ _ (S.out.box _ (List.Mem.head _)).1 S.out.grp.o2.ints S.out.grp.o1.ints).mono ?_)
        rintro e u9 ⟨rfl, x9⟩
        replace S := Kept.mk (S.out.quiet x9)
        clear x9
        go_wp2_with (first | (refine ldiM S.out ?_) | (refine ldI S.out ?_) | (refine ldIs S.out ?_) | (refine stiM S.out ?_; clear S; intro w9 S) | (refine stI S.out ?_; clear S; intro w9 S) | (refine stIs S.out ?_; clear S; intro w9 S) | (refine aliM S.out ?_; clear S; intro b9 w9 S) | (refine bxiM S.out ?_; clear S; intro b9 w9 S) | (refine wpList_want rfl rfl ?_; dsimp only) | fail)
        (with_reducible refine (MV.out _ _ S.out.grp.o0.ints).mono ?_)
        rintro e u9 ⟨rfl, x9⟩
        replace S := Kept.mk (S.out.quiet x9)
        clear x9
        go_wp2_with (first | (refine ldiM S.out ?_) | (refine ldI S.out ?_) | (refine ldIs S.out ?_) | (refine stiM S.out ?_; clear S; intro w9 S) | (refine stI S.out ?_; clear S; intro w9 S) | (refine stIs S.out ?_; clear S; intro w9 S) | (refine aliM S.out ?_; clear S; intro b9 w9 S) | (refine bxiM S.out ?_; clear S; intro b9 w9 S) | (refine wpList_want rfl rfl ?_; dsimp only) | fail)
        apply wp_region_zip [isv _, isv _, matR dr dc ds, matR er ec es, isv _, isv _, isv _, matR qr qc qs, matR fr fc fs] _ (by kernel_rfl)
        case hA => intro V; simp [putAll, dstOf, Act.put]; exact rfl
        case hsl => intro V; exact rfl
        case step =>
          intro V lo up w' hr
          have S := Kept.mk (S.out.quiet hr)
          simp only [zipOk, depsImp, isv, matR, modeNg, newb, waits, Region.binds, List.map_nil, List.map_cons, List.headD_cons, List.nil_append, List.cons_append, List.filterMap_cons, List.filterMap_nil, ↓reduceIte, modeNe, Bool.false_eq_true, true_implies, List.getD_cons_zero, List.getD_cons_succ, and_true]
          refine ⟨?_, ?_, ?_, ?_, ?_, ?_, ?_, ?_, ?_⟩
          · intros
            (try simp only [*])
            go_wp2_with (first | (refine ldiM S.out ?_) | (refine ldI S.out ?_) | (refine ldIs S.out ?_) | (refine stiM S.out ?_; clear S; intro w9 S) | (refine stI S.out ?_; clear S; intro w9 S) | (refine stIs S.out ?_; clear S; intro w9 S) | (refine aliM S.out ?_; clear S; intro b9 w9 S) | (refine bxiM S.out ?_; clear S; intro b9 w9 S) | (refine wpList_want rfl rfl ?_; dsimp only) | fail)
            refine stepQ_mk rfl (by simp only [List.getElem?_toArray, List.getElem?_cons_succ, List.getElem?_cons_zero]; exact rfl) ?_
            exact ⟨Ext.refl _, rfl⟩
          · intros
            (try simp only [*])
            go_wp2_with (first | (refine ldiM S.out ?_) | (refine ldI S.out ?_) | (refine ldIs S.out ?_) | (refine stiM S.out ?_; clear S; intro w9 S) | (refine stI S.out ?_; clear S; intro w9 S) | (refine stIs S.out ?_; clear S; intro w9 S) | (refine aliM S.out ?_; clear S; intro b9 w9 S) | (refine bxiM S.out ?_; clear S; intro b9 w9 S) | (refine wpList_want rfl rfl ?_; dsimp only) | fail)
            refine stepQ_mk rfl (by simp only [List.getElem?_toArray, List.getElem?_cons_succ, List.getElem?_cons_zero]; exact rfl) ?_
            exact ⟨Ext.refl _, rfl⟩
          · intros
            go_wp2_with (first | (refine ldiM S.out ?_) | (refine ldI S.out ?_) | (refine ldIs S.out ?_) | (refine stiM S.out ?_; clear S; intro w9 S) | (refine stI S.out ?_; clear S; intro w9 S) | (refine stIs S.out ?_; clear S; intro w9 S) | (refine aliM S.out ?_; clear S; intro b9 w9 S) | (refine bxiM S.out ?_; clear S; intro b9 w9 S) | (refine wpList_want rfl rfl ?_; dsimp only) | fail)
            (with_reducible refine (MM.out _ _ _ (S.out.grp.o2.arg H1.out.len) (S.out.grp.o0.arg H3.out.len)).mono ?_)
            rintro e w9 ⟨v9, rfl, o9, x9⟩
            go_wp2
            refine stepQ_mk rfl (by simp only [List.getElem?_toArray, List.getElem?_cons_succ, List.getElem?_cons_zero]; exact rfl) ?_
            exact ⟨x9, v9, rfl, o9, fun q hq => (o9.block q hq).2⟩
          · intro _ _ _ ⟨v2, e2, o2, b2⟩
            intros
            go_wp2_with (fail)
            (with_reducible refine (MP.out _ _ o2.ints o2.nilOk).mono ?_)
            rintro e w9 ⟨v9, rfl, o9, x9⟩
            go_wp2
            refine stepQ_mk rfl (by simp only [List.getElem?_toArray, List.getElem?_cons_succ, List.getElem?_cons_zero]; exact rfl) ?_
            exact ⟨x9, v9, rfl, o9, fun q hq => (o9.block q hq).2⟩
          · intros
            (try simp only [*])
            go_wp2_with (first | (refine ldiM S.out ?_) | (refine ldI S.out ?_) | (refine ldIs S.out ?_) | (refine stiM S.out ?_; clear S; intro w9 S) | (refine stI S.out ?_; clear S; intro w9 S) | (refine stIs S.out ?_; clear S; intro w9 S) | (refine aliM S.out ?_; clear S; intro b9 w9 S) | (refine bxiM S.out ?_; clear S; intro b9 w9 S) | (refine wpList_want rfl rfl ?_; dsimp only) | fail)
            refine stepQ_mk rfl (by simp only [List.getElem?_toArray, List.getElem?_cons_succ, List.getElem?_cons_zero]; exact rfl) ?_
            exact ⟨Ext.refl _, rfl⟩
          · intros
            (try simp only [*])
            go_wp2_with (first | (refine ldiM S.out ?_) | (refine ldI S.out ?_) | (refine ldIs S.out ?_) | (refine stiM S.out ?_; clear S; intro w9 S) | (refine stI S.out ?_; clear S; intro w9 S) | (refine stIs S.out ?_; clear S; intro w9 S) | (refine aliM S.out ?_; clear S; intro b9 w9 S) | (refine bxiM S.out ?_; clear S; intro b9 w9 S) | (refine wpList_want rfl rfl ?_; dsimp only) | fail)
            refine stepQ_mk rfl (by simp only [List.getElem?_toArray, List.getElem?_cons_succ, List.getElem?_cons_zero]; exact rfl) ?_
            exact ⟨Ext.refl _, rfl⟩
          · intros
            (try simp only [*])
            go_wp2_with (first | (refine ldiM S.out ?_) | (refine ldI S.out ?_) | (refine ldIs S.out ?_) | (refine stiM S.out ?_; clear S; intro w9 S) | (refine stI S.out ?_; clear S; intro w9 S) | (refine stIs S.out ?_; clear S; intro w9 S) | (refine aliM S.out ?_; clear S; intro b9 w9 S) | (refine bxiM S.out ?_; clear S; intro b9 w9 S) | (refine wpList_want rfl rfl ?_; dsimp only) | fail)
            refine stepQ_mk rfl (by simp only [List.getElem?_toArray, List.getElem?_cons_succ, List.getElem?_cons_zero]; exact rfl) ?_
            exact ⟨Ext.refl _, rfl⟩
          · intros
            (try simp only [*])
            go_wp2_with (fail)
            (with_reducible refine (WD.out _ _ S.out.grp.o1.ints).mono ?_)
            rintro e w9 ⟨v9, rfl, o9, x9⟩
            go_wp2
            refine stepQ_mk rfl (by simp only [List.getElem?_toArray, List.getElem?_cons_succ, List.getElem?_cons_zero]; exact rfl) ?_
            exact ⟨x9, v9, rfl, o9, fun q hq => (o9.block q hq).2⟩
          · intro _ _ _ ⟨v3, e3, o3, b3⟩ _ _ _ ⟨v7, e7, o7, b7⟩
            intros
            go_wp2_with (fail)
            (with_reducible refine (AD.out _ _ _ (o3.arg LE.out) (o7.arg LQ.out)).mono ?_)
            rintro e w9 ⟨v9, rfl, o9, x9⟩
            go_wp2
            refine stepQ_mk rfl (by simp only [List.getElem?_toArray, List.getElem?_cons_succ, List.getElem?_cons_zero]; exact rfl) ?_
            exact ⟨x9, v9, rfl, o9, fun q hq => (o9.block q hq).2⟩
        case hB => kernel_rfl
        case fin =>
          intro V lo up w' hr hf ha
          simp only [factsOk, isv, matR, modeNg, newb, List.map_nil, List.map_cons, List.headD_cons, and_true, Nat.zero_add, Nat.reduceAdd] at hf
          simp only [List.length_cons, List.length_nil, Nat.zero_add, Nat.reduceAdd, List.drop_succ_cons, List.drop_zero]
          obtain ⟨-, -, -, -, -, -, -, -, ⟨l8, -, -, v8, e8, o8, b8⟩⟩ := hf
          clear ha
          rw [e8]
          clear e8
          replace S := Kept.mk (S.out.made (o8.mono l8) hr)
          clear hr l8 b8
          obtain ⟨p8, m8, hu9, -, -⟩ := id o8.ints
          try simp only at hu9
          subst hu9
          clear o8
          go_wp2_with (first | (refine ldiM S.out ?_) | (refine ldI S.out ?_) | (refine ldIs S.out ?_) | (refine stiM S.out ?_; clear S; intro w9 S) | (refine stI S.out ?_; clear S; intro w9 S) | (refine stIs S.out ?_; clear S; intro w9 S) | (refine aliM S.out ?_; clear S; intro b9 w9 S) | (refine bxiM S.out ?_; clear S; intro b9 w9 S) | (refine wpList_want rfl rfl ?_; dsimp only) | fail)
          exact bodyPost_ret (v := .agg #[.int .i64 fr, .int .i64 fc, .slice p8 fs.length m8]) (by exact res1 rfl (by exact (rsiM S.out))) rfl ⟨_, rfl, S.out.own, S.out.ext⟩
      · have hz : (mOk d e zs && (mOk r c xs && mOk p q ys && decide (q = 1) && decide (p = r)) && decide (c = d)) = false := by simp [gC]
        rw [show denseM ⟨r, c, xs⟩ ⟨p, q, ys⟩ ⟨d, e, zs⟩ = matZ by unfold denseM fitsB Mat.ok; simp only []; rw [hz]; rfl]
        unfold MatPost matZ
        simp only
        clear hz
        have LV : Kept (∀ (v u : Value) (g : Nat) (w' : World), Blk w' g #[.int .i64 r, .int .i64 c, v, .int .i64 p, .int .i64 q, u] 25 → Ints w' v xs → Ints w' u ys → Calls Try.prog 15 #[.agg #[.int .i64 1, .slice (some ⟨g, 0, none⟩) 2 2]] w' fun e w'' => e = .returned (.bool true) ∧ Ext w' w'') := ⟨fun v u g w' hg h1 h2 => spec_LayerValid2 r c p q v u xs ys g true gL w' hg h1 h2⟩
        have MV : Kept (∀ (v : Value) (w' : World), Ints w' v zs → Calls Try.prog 31 #[.agg #[.int .i64 d, .int .i64 e, v]] w' fun e w'' => e = .returned (.bool true) ∧ Ext w' w'') := ⟨fun v w' h => gZ ▸ spec_MatrixValid d e v zs w' h⟩
        clear gL gZ
        have e9 : (c == d) = false := by simpa using gC
        obtain ⟨s1, n1, rfl, hm9, hc9⟩ := id h1.ints
        clear hm9 hc9
        have H1 := Kept.mk h1
        clear h1
        have O0 : Kept (∀ w', Ints w' (.slice s1 xs.length n1) xs → Calls Try.prog 30 #[.agg #[.int .i64 r, .int .i64 c, .slice s1 xs.length n1]] w' (MatPost ⟨r, c, xs⟩ w')) := ⟨fun w' h => spec_l1OwnMatrix r c _ xs w' h H1.out.fit.nil H1.out.len⟩
        unfold MatPost at O0
        obtain ⟨s2, n2, rfl, hm9, hc9⟩ := id h2.ints
        clear hm9 hc9
        have H2 := Kept.mk h2
        clear h2
        have O1 : Kept (∀ w', Ints w' (.slice s2 ys.length n2) ys → Calls Try.prog 30 #[.agg #[.int .i64 p, .int .i64 q, .slice s2 ys.length n2]] w' (MatPost ⟨p, q, ys⟩ w')) := ⟨fun w' h => spec_l1OwnMatrix p q _ ys w' h H2.out.fit.nil H2.out.len⟩
        unfold MatPost at O1
        obtain ⟨s3, n3, rfl, hm9, hc9⟩ := id h3.ints
        clear hm9 hc9
        have H3 := Kept.mk h3
        clear h3
        have O2 : Kept (∀ w', Ints w' (.slice s3 zs.length n3) zs → Calls Try.prog 30 #[.agg #[.int .i64 d, .int .i64 e, .slice s3 zs.length n3]] w' (MatPost ⟨d, e, zs⟩ w')) := ⟨fun w' h => spec_l1OwnMatrix d e _ zs w' h H3.out.fit.nil H3.out.len⟩
        unfold MatPost at O2
        have S := Kept.mk (St.start w)
        go_enter Try.func9, Try.ntmps9
        go_wp2_with (first | (refine ldiM S.out ?_) | (refine ldI S.out ?_) | (refine ldIs S.out ?_) | (refine stiM S.out ?_; clear S; intro w9 S) | (refine stI S.out ?_; clear S; intro w9 S) | (refine stIs S.out ?_; clear S; intro w9 S) | (refine aliM S.out ?_; clear S; intro b9 w9 S) | (refine bxiM S.out ?_; clear S; intro b9 w9 S) | (refine wpList_want rfl rfl ?_; dsimp only) | fail)
        (with_reducible refine (O0.out _ (H1.out.ints.keep S.out.ext)).mono ?_)
        rintro e u9 ⟨v0, rfl, o0, x9⟩
        replace S := Kept.mk (S.out.made o0 x9)
        clear x9
        obtain ⟨p0, m0, hu9, -, -⟩ := id o0.ints
        try simp only at hu9
        subst hu9
        clear o0
        go_wp2_with (first | (refine ldiM S.out ?_) | (refine ldI S.out ?_) | (refine ldIs S.out ?_) | (refine stiM S.out ?_; clear S; intro w9 S) | (refine stI S.out ?_; clear S; intro w9 S) | (refine stIs S.out ?_; clear S; intro w9 S) | (refine aliM S.out ?_; clear S; intro b9 w9 S) | (refine bxiM S.out ?_; clear S; intro b9 w9 S) | (refine wpList_want rfl rfl ?_; dsimp only) | fail)
        (with_reducible refine (O1.out _ (H2.out.ints.keep S.out.ext)).mono ?_)
        rintro e u9 ⟨v1, rfl, o1, x9⟩
        replace S := Kept.mk (S.out.made o1 x9)
        clear x9
        obtain ⟨p1, m1, hu9, -, -⟩ := id o1.ints
        try simp only at hu9
        subst hu9
        clear o1
        go_wp2_with (first | (refine ldiM S.out ?_) | (refine ldI S.out ?_) | (refine ldIs S.out ?_) | (refine stiM S.out ?_; clear S; intro w9 S) | (refine stI S.out ?_; clear S; intro w9 S) | (refine stIs S.out ?_; clear S; intro w9 S) | (refine aliM S.out ?_; clear S; intro b9 w9 S) | (refine bxiM S.out ?_; clear S; intro b9 w9 S) | (refine wpList_want rfl rfl ?_; dsimp only) | fail)
        (with_reducible refine (O2.out _ (H3.out.ints.keep S.out.ext)).mono ?_)
        rintro e u9 ⟨v2, rfl, o2, x9⟩
        replace S := Kept.mk (S.out.made o2 x9)
        clear x9
        obtain ⟨p2, m2, hu9, -, -⟩ := id o2.ints
        try simp only at hu9
        subst hu9
        clear o2
        go_wp2_with (first | (refine ldiM S.out ?_) | (refine ldI S.out ?_) | (refine ldIs S.out ?_) | (refine stiM S.out ?_; clear S; intro w9 S) | (refine stI S.out ?_; clear S; intro w9 S) | (refine stIs S.out ?_; clear S; intro w9 S) | (refine aliM S.out ?_; clear S; intro b9 w9 S) | (refine bxiM S.out ?_; clear S; intro b9 w9 S) | (refine wpList_want rfl rfl ?_; dsimp only) | fail)
        replace S := Kept.mk (S.out.alloc 25 [.int .i64 r, .int .i64 c, .slice p0 xs.length m0, .int .i64 p, .int .i64 q, .slice p1 ys.length m1])
        (with_reducible refine (LV.out _ _ _ _ (S.out.box _ (List.Mem.head _)).1 S.out.grp.o2.ints S.out.grp.o1.ints).mono ?_)
        rintro e u9 ⟨rfl, x9⟩
        replace S := Kept.mk (S.out.quiet x9)
        clear x9
        go_wp2_with (first | (refine ldiM S.out ?_) | (refine ldI S.out ?_) | (refine ldIs S.out ?_) | (refine stiM S.out ?_; clear S; intro w9 S) | (refine stI S.out ?_; clear S; intro w9 S) | (refine stIs S.out ?_; clear S; intro w9 S) | (refine aliM S.out ?_; clear S; intro b9 w9 S) | (refine bxiM S.out ?_; clear S; intro b9 w9 S) | (refine wpList_want rfl rfl ?_; dsimp only) | fail)
        (with_reducible refine (MV.out _ _ S.out.grp.o0.ints).mono ?_)
        rintro e u9 ⟨rfl, x9⟩
        replace S := Kept.mk (S.out.quiet x9)
        clear x9
        go_wp2_with (first | (refine ldiM S.out ?_) | (refine ldI S.out ?_) | (refine ldIs S.out ?_) | (refine stiM S.out ?_; clear S; intro w9 S) | (refine stI S.out ?_; clear S; intro w9 S) | (refine stIs S.out ?_; clear S; intro w9 S) | (refine aliM S.out ?_; clear S; intro b9 w9 S) | (refine bxiM S.out ?_; clear S; intro b9 w9 S) | (refine wpList_want rfl rfl ?_; dsimp only) | fail)
        exact bodyPost_ret (v := .agg #[.int .i64 0, .int .i64 0, .slice none 0 0]) (by exact res1 rfl (by exact (rsiM S.out))) rfl ⟨_, rfl, Own.nil _ _, S.out.ext⟩
end Go.Proofs.Ytpbnbhiffnnliaa
