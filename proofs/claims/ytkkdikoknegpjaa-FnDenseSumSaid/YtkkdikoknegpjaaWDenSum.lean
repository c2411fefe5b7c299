/- The walk through FnDenseSum. -/
import Derived.Test.YtkkdikoknegpjaaDrawPS
import Derived.Test.YtkkdikoknegpjaaProdI
import Derived.Test.YtkkdikoknegpjaaProdS
import Derived.Test.YtkkdikoknegpjaaPdT
import Derived.Test.YtkkdikoknegpjaaShB
import Derived.Test.YtkkdikoknegpjaaKW
namespace Go.Proofs.Ytkkdikoknegpjaa
set_option linter.unusedSimpArgs false
set_option linter.unusedVariables false
open Go.RowKit
theorem laws_alive (w : World) : Calls Try.prog 27 #[] w fun e w' => e = .returned (.bool true) ∧ w = w' := by
  go_enter Try.func27, Try.ntmps27
  go_wp2_with (go_at_call 63; (with_reducible refine (impl_RingValid 5 true (by decide) _).mono ?_); rintro e w1 ⟨rfl, rfl⟩)
  go_ret
  exact ⟨rfl, rfl⟩
def resD {n0 m : Nat} {rs : List Nat} {Ts : List TypeId} (hT : 3 ∉ Ts) (fr fc sr sc N : Int) (fs ss ls : List Int) : OpSpec (XS n0 rs Ts) m :=
  ⟨[], fun _ u _ _ w => ∃ v0 v1 v2, u = .tuple #[.agg #[.int .i64 fr, .int .i64 fc, v0, .int .i64 sr, .int .i64 sc, v1], v2, .int .i64 N] ∧ Grp n0 w [v0, v1, v2] [fs, ss, ls], fun _ _ _ _ _ _ _ _ _ hx ⟨v0, v1, v2, h1, h2⟩ => ⟨v0, v1, v2, h1, h2.xs hx (Nat.le_refl _) hT⟩⟩
def argD {n0 m : Nat} {rs : List Nat} {Ts : List TypeId} (hT : 3 ∉ Ts) (r0 c0 r1 c1 : Int) (x0 x1 : List Int) : OpSpec (XS n0 rs Ts) m :=
  ⟨[], fun _ u _ _ w => ∃ v0 v1, u = .agg #[.int .i64 r0, .int .i64 c0, v0, .int .i64 r1, .int .i64 c1, v1] ∧ Grp n0 w [v0, v1] [x0, x1], fun _ _ _ _ _ _ _ _ _ hx ⟨v0, v1, h1, h2⟩ => ⟨v0, v1, h1, h2.xs hx (Nat.le_refl _) hT⟩⟩
def grpD {n0 : Nat} (r0 c0 r1 c1 : Int) (x0 x1 : List Int) : OpSpec Ext n0 :=
  ⟨[], fun _ u lo up w => ∃ v0 v1, u = .agg #[.int .i64 r0, .int .i64 c0, v0, .int .i64 r1, .int .i64 c1, v1] ∧ Grp lo w [v0, v1] [x0, x1], fun _ _ _ _ _ _ _ _ _ hx ⟨v0, v1, h1, h2⟩ => ⟨v0, v1, h1, h2.keep hx⟩⟩

set_option maxHeartbeats 8000000 in
set_option maxRecDepth 4000 in
theorem walk_FnDenseSum (v : Value) (w : World) (hb : Bytes w v) : Calls Try.prog 7 #[v] w fun e w' => e = .returned (.bool true) ∧ Ext w w' := by
  obtain ⟨a, n, cap, rfl, hn, hm, hc⟩ := id hb
  clear hc
  have HB := Kept.mk hb
  clear hb
  have S := Kept.mk (St.start w)
  by_cases hl : (n : Int) ≤ 1048576
  · go_enter Try.func7, Try.ntmps7
    go_wp2_with (fail)
    clear hl
    (with_reducible refine (spec_DrawProductShared _ _ (HB.out.ext S.out.ext)).mono ?_)
    rintro e u9 ⟨r0, c0, r1, c1, r2, c2, r3, c3, v0, v1, v2, v3, x0, x1, x2, x3, s, rfl, ln, gg, x9⟩
    obtain ⟨p0, m0, hu9, -, -⟩ := id gg.o0.ints
    try simp only at hu9
    subst hu9
    obtain ⟨p1, m1, hu9, -, -⟩ := id gg.o1.ints
    try simp only at hu9
    subst hu9
    obtain ⟨p2, m2, hu9, -, -⟩ := id gg.o2.ints
    try simp only at hu9
    subst hu9
    obtain ⟨p3, m3, hu9, -, -⟩ := id gg.o3.ints
    try simp only at hu9
    subst hu9
    have S9 := S.out.madeG gg x9
    simp only [List.cons_append, List.nil_append] at S9
    replace S := Kept.mk S9
    clear S9 gg x9
    cases g : pdOk ⟨⟨r0, c0, x0⟩, ⟨r1, c1, x1⟩⟩ ⟨⟨r2, c2, x2⟩, ⟨r3, c3, x3⟩⟩ s
    · have IM := Kept.mk (fun (v0 v1 v2 v3 : Value) (w' : World) (h0 : Ints w' v0 x0) (h1 : Ints w' v1 x1) (h2 : Ints w' v2 x2) (h3 : Ints w' v3 x3) => impl_ProductShared r0 c0 r1 c1 r2 c2 r3 c3 v0 v1 v2 v3 x0 x1 x2 x3 s w' h0 h1 h2 h3)
      have SM := Kept.mk (fun (v0 v1 v2 v3 : Value) (w' : World) (h0 : Arg w' v0 x0) (h1 : Arg w' v1 x1) (h2 : Arg w' v2 x2) (h3 : Arg w' v3 x3) => spec_ProductShared r0 c0 r1 c1 r2 c2 r3 c3 v0 v1 v2 v3 x0 x1 x2 x3 s w' h0 h1 h2 h3)
      obtain ⟨z1, z2, z3⟩ := pdSh_bad g
      rw [z1, z2, z3] at IM SM
      clear z1 z2 z3 g
      unfold ShLN shZ matZ at IM SM
      simp only at IM SM
      obtain ⟨z, hz⟩ : ∃ x, x = ([] : List Int) := ⟨_, rfl⟩
      rw [← hz] at IM SM
      have Lz := Kept.mk (show z.length = 0 by rw [hz]; rfl)
      clear hz
      go_wp2_with (first | (refine ldiM S.out ?_) | (refine ldiS S.out ?_) | (refine ldI S.out ?_) | (refine ldIs S.out ?_) | (refine stiS S.out ?_; clear S; intro w9 S) | (refine aliS S.out ?_; clear S; intro b9 w9 S) | (refine wpList_want rfl rfl ?_; dsimp only) | fail)
      (with_reducible refine (IM.out _ _ _ _ _ (S.out.grp.get 0 rfl rfl).ints (S.out.grp.get 1 rfl rfl).ints (S.out.grp.get 2 rfl rfl).ints (S.out.grp.get 3 rfl rfl).ints).mono ?_)
      rintro e u9 ⟨v0, v1, v2, rfl, gg, x9⟩
      obtain ⟨pG0, mG0, hu9, -, -⟩ := id gg.o0.ints
      try simp only at hu9
      subst hu9
      obtain ⟨pG1, mG1, hu9, -, -⟩ := id gg.o1.ints
      try simp only at hu9
      subst hu9
      obtain ⟨pG2, mG2, hu9, -, -⟩ := id gg.o2.ints
      try simp only at hu9
      subst hu9
      have S9 := S.out.madeG gg x9
      simp only [List.cons_append, List.nil_append] at S9
      replace S := Kept.mk S9
      clear S9 gg x9
      go_wp2_with (first | (refine ldiM S.out ?_) | (refine ldiS S.out ?_) | (refine ldI S.out ?_) | (refine ldIs S.out ?_) | (refine stiS S.out ?_; clear S; intro w9 S) | (refine aliS S.out ?_; clear S; intro b9 w9 S) | (refine wpList_want rfl rfl ?_; dsimp only) | fail)
      (with_reducible refine (SM.out _ _ _ _ _ ((S.out.grp.get 3 rfl rfl).arg ln.1) ((S.out.grp.get 4 rfl rfl).arg ln.2.1) ((S.out.grp.get 5 rfl rfl).arg ln.2.2.1) ((S.out.grp.get 6 rfl rfl).arg ln.2.2.2)).mono ?_)
      rintro e u9 ⟨v0, v1, v2, rfl, gg, x9⟩
      obtain ⟨pW0, mW0, hu9, -, -⟩ := id gg.o0.ints
      try simp only at hu9
      subst hu9
      obtain ⟨pW1, mW1, hu9, -, -⟩ := id gg.o1.ints
      try simp only at hu9
      subst hu9
      obtain ⟨pW2, mW2, hu9, -, -⟩ := id gg.o2.ints
      try simp only at hu9
      subst hu9
      have S9 := S.out.madeG gg x9
      simp only [List.cons_append, List.nil_append] at S9
      replace S := Kept.mk S9
      clear S9 gg x9
      clear IM SM ln
      go_wp2_with (first | (refine ldiM S.out ?_) | (refine ldiS S.out ?_) | (refine ldI S.out ?_) | (refine ldIs S.out ?_) | (refine stiS S.out ?_; clear S; intro w9 S) | (refine aliS S.out ?_; clear S; intro b9 w9 S) | (refine wpList_want rfl rfl ?_; dsimp only) | fail)
      (with_reducible refine (laws_sameShares 0 0 0 0 _ _ _ _ z z _ (S.out.grp.get 3 rfl rfl).ints (S.out.grp.get 4 rfl rfl).ints (S.out.grp.get 0 rfl rfl).ints (S.out.grp.get 1 rfl rfl).ints).mono ?_)
      rintro e u9 ⟨rfl, x9⟩
      replace S := Kept.mk (S.out.quiet x9)
      clear x9
      go_wp2_with (first | (refine ldiM S.out ?_) | (refine ldiS S.out ?_) | (refine ldI S.out ?_) | (refine ldIs S.out ?_) | (refine stiS S.out ?_; clear S; intro w9 S) | (refine aliS S.out ?_; clear S; intro b9 w9 S) | (refine wpList_want rfl rfl ?_; dsimp only) | fail)
      (with_reducible refine (laws_sameInts _ _ z _ (S.out.grp.get 5 rfl rfl).ints (S.out.grp.get 2 rfl rfl).ints).mono ?_)
      rintro e u9 ⟨rfl, x9⟩
      replace S := Kept.mk (S.out.quiet x9)
      clear x9
      go_wp2_with (first | (refine ldiM S.out ?_) | (refine ldiS S.out ?_) | (refine ldI S.out ?_) | (refine ldIs S.out ?_) | (refine stiS S.out ?_; clear S; intro w9 S) | (refine aliS S.out ?_; clear S; intro b9 w9 S) | (refine wpList_want rfl rfl ?_; dsimp only) | fail)
      (with_reducible refine (laws_alive _).mono ?_)
      rintro e u9 ⟨rfl, rfl⟩
      go_wp2_with (first | (refine ldiM S.out ?_) | (refine ldiS S.out ?_) | (refine ldI S.out ?_) | (refine ldIs S.out ?_) | (refine stiS S.out ?_; clear S; intro w9 S) | (refine aliS S.out ?_; clear S; intro b9 w9 S) | (refine wpList_want rfl rfl ?_; dsimp only) | fail)
      go_ret
      exact ⟨rfl, S.out.ext⟩
    · have IM := Kept.mk (fun (v0 v1 v2 v3 : Value) (w' : World) (h0 : Ints w' v0 x0) (h1 : Ints w' v1 x1) (h2 : Ints w' v2 x2) (h3 : Ints w' v3 x3) => impl_ProductShared r0 c0 r1 c1 r2 c2 r3 c3 v0 v1 v2 v3 x0 x1 x2 x3 s w' h0 h1 h2 h3)
      have SM := Kept.mk (fun (v0 v1 v2 v3 : Value) (w' : World) (h0 : Arg w' v0 x0) (h1 : Arg w' v1 x1) (h2 : Arg w' v2 x2) (h3 : Arg w' v3 x3) => spec_ProductShared r0 c0 r1 c1 r2 c2 r3 c3 v0 v1 v2 v3 x0 x1 x2 x3 s w' h0 h1 h2 h3)
      obtain ⟨-, gs, -⟩ := pd_mul g
      obtain ⟨t1, t2⟩ := pd_twice g
      clear g
      have AY := Kept.mk (fun (v u v' u' : Value) (w' : World) (h : Ints w' v x2) (k : Ints w' u x3) (h' : Ints w' v' x2) (k' : Ints w' u' x3) => (impl_AddSharedMatrices r2 c2 v x2 r3 c3 u x3 r2 c2 v' x2 r3 c3 u' x3 w' h k h' k').mono fun e w'' q => ShPost.grp q)
      unfold ShGrp at AY
      generalize addSh ⟨⟨r2, c2, x2⟩, ⟨r3, c3, x3⟩⟩ ⟨⟨r2, c2, x2⟩, ⟨r3, c3, x3⟩⟩ = DY at *
      obtain ⟨⟨yr, yc, ys⟩, ⟨zr, zc, zs⟩⟩ := DY
      simp only at AY
      have IM2 := Kept.mk (fun (v0 v1 v2 v3 : Value) (w' : World) (h0 : Ints w' v0 x0) (h1 : Ints w' v1 x1) (h2 : Ints w' v2 ys) (h3 : Ints w' v3 zs) => impl_ProductShared r0 c0 r1 c1 yr yc zr zc v0 v1 v2 v3 x0 x1 ys zs s w' h0 h1 h2 h3)
      unfold ShLN at IM SM IM2
      rw [t1] at IM2
      clear t1
      generalize pdSh ⟨⟨r0, c0, x0⟩, ⟨r1, c1, x1⟩⟩ ⟨⟨r2, c2, x2⟩, ⟨r3, c3, x3⟩⟩ s = DM at *
      generalize pdL ⟨⟨r0, c0, x0⟩, ⟨r1, c1, x1⟩⟩ ⟨⟨r2, c2, x2⟩, ⟨r3, c3, x3⟩⟩ s = ls at *
      generalize pdS ⟨⟨r0, c0, x0⟩, ⟨r1, c1, x1⟩⟩ ⟨⟨r2, c2, x2⟩, ⟨r3, c3, x3⟩⟩ s = N at *
      obtain ⟨⟨fr, fc, fs⟩, ⟨sr, sc, ss⟩⟩ := DM
      generalize pdSh ⟨⟨r0, c0, x0⟩, ⟨r1, c1, x1⟩⟩ ⟨⟨yr, yc, ys⟩, ⟨zr, zc, zs⟩⟩ s = D2 at *
      generalize pdL ⟨⟨r0, c0, x0⟩, ⟨r1, c1, x1⟩⟩ ⟨⟨yr, yc, ys⟩, ⟨zr, zc, zs⟩⟩ s = l2 at *
      obtain ⟨⟨gr, gc, gs_⟩, ⟨hr_, hc, hs_⟩⟩ := D2
      simp only at IM SM IM2
      have n0 : (N == 0) = false := by simp; omega
      have nN : (N != N) = false := by simp
      have nE : (N == N) = true := by simp
      clear gs
      have AD := Kept.mk (fun (v u v' u' : Value) (w' : World) (h : Ints w' v fs) (k : Ints w' u ss) (h' : Ints w' v' fs) (k' : Ints w' u' ss) => (impl_AddSharedMatrices fr fc v fs sr sc u ss fr fc v' fs sr sc u' ss w' h k h' k').mono fun e w'' q => ShPost.grp q)
      unfold ShGrp at AD
      generalize addSh ⟨⟨fr, fc, fs⟩, ⟨sr, sc, ss⟩⟩ ⟨⟨fr, fc, fs⟩, ⟨sr, sc, ss⟩⟩ = DD at *
      obtain ⟨⟨dr, dc, ds⟩, ⟨er, ec, es_⟩⟩ := DD
      simp only at AD
      have J2 := Kept.mk (fun (v u : Value) (w' : World) (h : Ints w' v gs_) (k : Ints w' u hs_) => impl_JoinMatrix gr gc hr_ hc v u gs_ hs_ w' h k)
      have J3 := Kept.mk (fun (v u : Value) (w' : World) (h : Ints w' v ds) (k : Ints w' u es_) => impl_JoinMatrix dr dc er ec v u ds es_ w' h k)
      unfold MatPost at J2 J3
      rw [t2] at J2
      clear t2
      generalize joinM ⟨⟨dr, dc, ds⟩, ⟨er, ec, es_⟩⟩ = Q at *
      obtain ⟨qr, qc, qs⟩ := Q
      simp only at J2 J3
      go_wp2_with (first | (refine ldiM S.out ?_) | (refine ldiS S.out ?_) | (refine ldI S.out ?_) | (refine ldIs S.out ?_) | (refine stiS S.out ?_; clear S; intro w9 S) | (refine aliS S.out ?_; clear S; intro b9 w9 S) | (refine wpList_want rfl rfl ?_; dsimp only) | fail)
      (with_reducible refine (IM.out _ _ _ _ _ (S.out.grp.get 0 rfl rfl).ints (S.out.grp.get 1 rfl rfl).ints (S.out.grp.get 2 rfl rfl).ints (S.out.grp.get 3 rfl rfl).ints).mono ?_)
      rintro e u9 ⟨v0, v1, v2, rfl, gg, x9⟩
      obtain ⟨pG0, mG0, hu9, -, -⟩ := id gg.o0.ints
      try simp only at hu9
      subst hu9
      obtain ⟨pG1, mG1, hu9, -, -⟩ := id gg.o1.ints
      try simp only at hu9
      subst hu9
      obtain ⟨pG2, mG2, hu9, -, -⟩ := id gg.o2.ints
      try simp only at hu9
      subst hu9
      have S9 := S.out.madeG gg x9
      simp only [List.cons_append, List.nil_append] at S9
      replace S := Kept.mk S9
      clear S9 gg x9
      go_wp2_with (first | (refine ldiM S.out ?_) | (refine ldiS S.out ?_) | (refine ldI S.out ?_) | (refine ldIs S.out ?_) | (refine stiS S.out ?_; clear S; intro w9 S) | (refine aliS S.out ?_; clear S; intro b9 w9 S) | (refine wpList_want rfl rfl ?_; dsimp only) | fail)
      (with_reducible refine (SM.out _ _ _ _ _ ((S.out.grp.get 3 rfl rfl).arg ln.1) ((S.out.grp.get 4 rfl rfl).arg ln.2.1) ((S.out.grp.get 5 rfl rfl).arg ln.2.2.1) ((S.out.grp.get 6 rfl rfl).arg ln.2.2.2)).mono ?_)
      rintro e u9 ⟨v0, v1, v2, rfl, gg, x9⟩
      obtain ⟨pW0, mW0, hu9, -, -⟩ := id gg.o0.ints
      try simp only at hu9
      subst hu9
      obtain ⟨pW1, mW1, hu9, -, -⟩ := id gg.o1.ints
      try simp only at hu9
      subst hu9
      obtain ⟨pW2, mW2, hu9, -, -⟩ := id gg.o2.ints
      try simp only at hu9
      subst hu9
      have S9 := S.out.madeG gg x9
      simp only [List.cons_append, List.nil_append] at S9
      replace S := Kept.mk S9
      clear S9 gg x9
      clear IM SM ln
      go_wp2_with (first | (refine ldiM S.out ?_) | (refine ldiS S.out ?_) | (refine ldI S.out ?_) | (refine ldIs S.out ?_) | (refine stiS S.out ?_; clear S; intro w9 S) | (refine aliS S.out ?_; clear S; intro b9 w9 S) | (refine wpList_want rfl rfl ?_; dsimp only) | fail)
      (with_reducible refine (laws_sameShares fr fc sr sc _ _ _ _ fs ss _ (S.out.grp.get 3 rfl rfl).ints (S.out.grp.get 4 rfl rfl).ints (S.out.grp.get 0 rfl rfl).ints (S.out.grp.get 1 rfl rfl).ints).mono ?_)
      rintro e u9 ⟨rfl, x9⟩
      replace S := Kept.mk (S.out.quiet x9)
      clear x9
      go_wp2_with (first | (refine ldiM S.out ?_) | (refine ldiS S.out ?_) | (refine ldI S.out ?_) | (refine ldIs S.out ?_) | (refine stiS S.out ?_; clear S; intro w9 S) | (refine aliS S.out ?_; clear S; intro b9 w9 S) | (refine wpList_want rfl rfl ?_; dsimp only) | fail)
      (with_reducible refine (laws_sameInts _ _ ls _ (S.out.grp.get 5 rfl rfl).ints (S.out.grp.get 2 rfl rfl).ints).mono ?_)
      rintro e u9 ⟨rfl, x9⟩
      replace S := Kept.mk (S.out.quiet x9)
      clear x9
      go_wp2_with (first | (refine ldiM S.out ?_) | (refine ldiS S.out ?_) | (refine ldI S.out ?_) | (refine ldIs S.out ?_) | (refine stiS S.out ?_; clear S; intro w9 S) | (refine aliS S.out ?_; clear S; intro b9 w9 S) | (refine wpList_want rfl rfl ?_; dsimp only) | fail)
      apply wp_region_zipV (XS.rel _ [] [33]) (fun L V w' => Bs u9.heap.size [⟨10, 11, 7, 33, #[.int .i64 0, .int .i64 0, .slice none 0 0, .int .i64 0, .int .i64 0, .slice none 0 0]⟩] L V w') [isv _, isv _, isv _, argD (by decide) yr yc zr zc ys zs, isv _, resD (by decide) gr gc hr_ hc N gs_ hs_ l2, resD (by decide) gr gc hr_ hc N gs_ hs_ l2, tgetV 6 0, tgetV 6 1, tgetV 6 2, anyV, anyV, sameV 8, sameV 9] _ ?hJ (by kernel_rfl)
      case hJ => exact Bs.start _ _ _ _
      case hA => intro V; simp [putAll, dstOf, Act.put]; exact rfl
      case hsl => intro V; exact rfl
      case step =>
        intro V lo up w' hr L hj
        have S := Kept.mk (S.out.quiet hr.ext)
        simp only [zipOkV, depsImp, isv, resD, argD, tgetV, sameV, anyV, modeNg, newb, waits, Region.binds, List.map_nil, List.map_cons, List.headD_cons, List.nil_append, List.cons_append, List.filterMap_cons, List.filterMap_nil, ↓reduceIte, modeNe, Bool.false_eq_true, true_implies, List.getD_cons_zero, List.getD_cons_succ, and_true, Nat.zero_add, Nat.reduceAdd]
        refine ⟨?_, ?_, ?_, ?_, ?_, ?_, ?_, ?_, ?_, ?_, ?_, ?_, ?_, ?_⟩
        · intro hl hw hd
          intros
          (try simp only [*])
          go_wp2_with (first | (refine ldiM S.out ?_) | (refine ldiS S.out ?_) | (refine ldI S.out ?_) | (refine ldIs S.out ?_) | (refine wpList_want rfl rfl ?_; dsimp only) | fail)
          refine stepS_mk rfl (by simp only [List.getElem?_toArray, List.getElem?_cons_succ, List.getElem?_cons_zero]; exact rfl) ?_
          exact ⟨XS.refl _, rfl, hj.other (Ext.refl _) hl (by intro it hit; simp only [List.mem_cons, List.not_mem_nil, or_false] at hit; subst hit; exact ⟨by decide, by decide⟩)⟩
        · intro hl hw hd
          intros
          (try simp only [*])
          go_wp2_with (first | (refine ldiM S.out ?_) | (refine ldiS S.out ?_) | (refine ldI S.out ?_) | (refine ldIs S.out ?_) | (refine wpList_want rfl rfl ?_; dsimp only) | fail)
          refine stepS_mk rfl (by simp only [List.getElem?_toArray, List.getElem?_cons_succ, List.getElem?_cons_zero]; exact rfl) ?_
          exact ⟨XS.refl _, rfl, hj.other (Ext.refl _) hl (by intro it hit; simp only [List.mem_cons, List.not_mem_nil, or_false] at hit; subst hit; exact ⟨by decide, by decide⟩)⟩
        · intro hl hw hd
          intros
          (try simp only [*])
          go_wp2_with (first | (refine ldiM S.out ?_) | (refine ldiS S.out ?_) | (refine ldI S.out ?_) | (refine ldIs S.out ?_) | (refine wpList_want rfl rfl ?_; dsimp only) | fail)
          refine stepS_mk rfl (by simp only [List.getElem?_toArray, List.getElem?_cons_succ, List.getElem?_cons_zero]; exact rfl) ?_
          exact ⟨XS.refl _, rfl, hj.other (Ext.refl _) hl (by intro it hit; simp only [List.mem_cons, List.not_mem_nil, or_false] at hit; subst hit; exact ⟨by decide, by decide⟩)⟩
        · intro hl hw hd
          intros
          (try simp only [*])
          go_wp2_with (fail)
          (with_reducible refine (AY.out _ _ _ _ _ (S.out.grp.get 8 rfl rfl).ints (S.out.grp.get 9 rfl rfl).ints (S.out.grp.get 8 rfl rfl).ints (S.out.grp.get 9 rfl rfl).ints).mono ?_)
          rintro e w9 ⟨u0, u1, rfl, gg, x9⟩
          go_wp2
          refine stepS_mk rfl (by simp only [List.getElem?_toArray, List.getElem?_cons_succ, List.getElem?_cons_zero]; exact rfl) ?_
          exact ⟨XS.of_ext x9, ⟨u0, u1, rfl, gg.mono hr.size⟩, hj.other x9 hl (by intro it hit; simp only [List.mem_cons, List.not_mem_nil, or_false] at hit; subst hit; exact ⟨by decide, by decide⟩)⟩
        · intro hl hw hd
          intros
          (try simp only [*])
          go_wp2_with (first | (refine ldiM S.out ?_) | (refine ldiS S.out ?_) | (refine ldI S.out ?_) | (refine ldIs S.out ?_) | (refine wpList_want rfl rfl ?_; dsimp only) | fail)
          refine stepS_mk rfl (by simp only [List.getElem?_toArray, List.getElem?_cons_succ, List.getElem?_cons_zero]; exact rfl) ?_
          exact ⟨XS.refl _, rfl, hj.other (Ext.refl _) hl (by intro it hit; simp only [List.mem_cons, List.not_mem_nil, or_false] at hit; subst hit; exact ⟨by decide, by decide⟩)⟩
        · intro hl hw hd
          intros
          obtain ⟨u0, u1, ea, ga⟩ := ‹∃ z0 z1, V 3 = _ ∧ Grp _ _ _ [ys, zs]›
          (try simp only [*])
          go_wp2_with (fail)
          (with_reducible refine (IM2.out _ _ _ _ _ (S.out.grp.get 6 rfl rfl).ints (S.out.grp.get 7 rfl rfl).ints ga.o0.ints ga.o1.ints).mono ?_)
          rintro e w9 ⟨v0, v1, v2, rfl, gg, x9⟩
          go_wp2
          refine stepS_mk rfl (by simp only [List.getElem?_toArray, List.getElem?_cons_succ, List.getElem?_cons_zero]; exact rfl) ?_
          exact ⟨XS.of_ext x9, ⟨v0, v1, v2, rfl, gg.mono hr.size⟩, hj.other x9 hl (by intro it hit; simp only [List.mem_cons, List.not_mem_nil, or_false] at hit; subst hit; exact ⟨by decide, by decide⟩)⟩
        · intro hl hw hd
          intros
          obtain ⟨v0, v1, v2, e_r, g_r⟩ := ‹∃ z0 z1 z2, V 5 = _ ∧ Grp _ _ _ [gs_, hs_, l2]›
          (try simp only [*])
          go_wp2_with (first | (refine ldiM S.out ?_) | (refine ldiS S.out ?_) | (refine ldI S.out ?_) | (refine ldIs S.out ?_) | (refine wpList_want rfl rfl ?_; dsimp only) | fail)
          refine stepS_mk rfl (by simp only [List.getElem?_toArray, List.getElem?_cons_succ, List.getElem?_cons_zero]; exact rfl) ?_
          exact ⟨XS.refl _, ⟨v0, v1, v2, rfl, g_r⟩, hj.other (Ext.refl _) hl (by intro it hit; simp only [List.mem_cons, List.not_mem_nil, or_false] at hit; subst hit; exact ⟨by decide, by decide⟩)⟩
        · intro hl hw hd
          intros
          obtain ⟨v0, v1, v2, e_r, g_r⟩ := ‹∃ z0 z1 z2, V 6 = _ ∧ Grp _ _ _ [gs_, hs_, l2]›
          (try simp only [*])
          go_wp2_with (first | (refine ldiM S.out ?_) | (refine ldiS S.out ?_) | (refine ldI S.out ?_) | (refine ldIs S.out ?_) | (refine wpList_want rfl rfl ?_; dsimp only) | fail)
          refine stepS_mk rfl (by simp only [List.getElem?_toArray, List.getElem?_cons_succ, List.getElem?_cons_zero]; exact rfl) ?_
          exact ⟨XS.refl _, by (try rw [e_r]); rfl, hj.other (Ext.refl _) hl (by intro it hit; simp only [List.mem_cons, List.not_mem_nil, or_false] at hit; subst hit; exact ⟨by decide, by decide⟩)⟩
        · intro hl hw hd
          intros
          obtain ⟨v0, v1, v2, e_r, g_r⟩ := ‹∃ z0 z1 z2, V 6 = _ ∧ Grp _ _ _ [gs_, hs_, l2]›
          (try simp only [*])
          go_wp2_with (first | (refine ldiM S.out ?_) | (refine ldiS S.out ?_) | (refine ldI S.out ?_) | (refine ldIs S.out ?_) | (refine wpList_want rfl rfl ?_; dsimp only) | fail)
          refine stepS_mk rfl (by simp only [List.getElem?_toArray, List.getElem?_cons_succ, List.getElem?_cons_zero]; exact rfl) ?_
          exact ⟨XS.refl _, by (try rw [e_r]); rfl, hj.other (Ext.refl _) hl (by intro it hit; simp only [List.mem_cons, List.not_mem_nil, or_false] at hit; subst hit; exact ⟨by decide, by decide⟩)⟩
        · intro hl hw hd
          intros
          obtain ⟨v0, v1, v2, e_r, g_r⟩ := ‹∃ z0 z1 z2, V 6 = _ ∧ Grp _ _ _ [gs_, hs_, l2]›
          (try simp only [*])
          go_wp2_with (first | (refine ldiM S.out ?_) | (refine ldiS S.out ?_) | (refine ldI S.out ?_) | (refine ldIs S.out ?_) | (refine wpList_want rfl rfl ?_; dsimp only) | fail)
          refine stepS_mk rfl (by simp only [List.getElem?_toArray, List.getElem?_cons_succ, List.getElem?_cons_zero]; exact rfl) ?_
          exact ⟨XS.refl _, by (try rw [e_r]); rfl, hj.other (Ext.refl _) hl (by intro it hit; simp only [List.mem_cons, List.not_mem_nil, or_false] at hit; subst hit; exact ⟨by decide, by decide⟩)⟩
        · intro hl hw hd
          intros
          go_wp2
          refine stepS_mk rfl (by simp only [List.getElem?_toArray, List.getElem?_cons_succ, List.getElem?_cons_zero]; exact rfl) ?_
          exact ⟨XS.of_ext ((Ext.refl _).alloc _), trivial, hj.alloc (it0 := ⟨10, 11, 7, 33, #[.int .i64 0, .int .i64 0, .slice none 0 0, .int .i64 0, .int .i64 0, .slice none 0 0]⟩) (by simp) hl (by intro jt hjt h; simp only [List.mem_cons, List.not_mem_nil, or_false] at hjt; subst hjt; first | rfl | exact absurd h (by decide)) (by intro it hit; simp only [List.mem_cons, List.not_mem_nil, or_false] at hit; subst hit; exact ⟨by decide, by decide⟩) (b := w'.heap.size) (Nat.le_refl _) hr.size ((Ext.refl _).alloc _) (Blk.new _ _ _)⟩
        · intro hl hw hd
          obtain ⟨b_, eb, lb, -, k0, -⟩ := hj.box ⟨10, 11, 7, 33, #[.int .i64 0, .int .i64 0, .slice none 0 0, .int .i64 0, .int .i64 0, .slice none 0 0]⟩ (by simp) (hd 10 (by simp))
          have kz := k0 hl
          intros
          obtain ⟨v0, v1, v2, e_r, g_r⟩ := ‹∃ z0 z1 z2, V 6 = _ ∧ Grp _ _ _ [gs_, hs_, l2]›
          obtain ⟨pv0, mv0, hu9, -, -⟩ := id (g_r.get 0 rfl rfl).ints
          try simp only at hu9
          subst hu9
          obtain ⟨pv1, mv1, hu9, -, -⟩ := id (g_r.get 1 rfl rfl).ints
          try simp only at hu9
          subst hu9
          have e_ : V 7 = .agg #[.int .i64 gr, .int .i64 gc, .slice pv0 gs_.length mv0, .int .i64 hr_, .int .i64 hc, .slice pv1 hs_.length mv1] := by
            have a := ‹V 7 = tget (V 6) 0›
            rw [e_r] at a
            exact a
          refine wpList_putX (by rfl) (by rfl) _ _ (by rfl) b_ _ _ (by exact eb) (by exact e_) kz (by kernel_rfl) (by rfl) (by simp [Value.oneCell']) (.inr ⟨lb, by simp⟩) (fun w'' f k hoth hsz u => ⟨f, trivial, hj.store (it0 := ⟨10, 11, 7, 33, #[.int .i64 0, .int .i64 0, .slice none 0 0, .int .i64 0, .int .i64 0, .slice none 0 0]⟩) (by simp) (hd 10 (by simp)) (hd 7 (by simp)) (by intro jt hjt h; simp only [List.mem_cons, List.not_mem_nil, or_false] at hjt; subst hjt; first | rfl | exact absurd h (by decide)) (by intro jt hjt h; simp only [List.mem_cons, List.not_mem_nil, or_false] at hjt; subst hjt; first | rfl | exact absurd h (by decide)) (by intro it hit; simp only [List.mem_cons, List.not_mem_nil, or_false] at hit; subst hit; exact ⟨by decide, by decide⟩) eb e_ k hoth hsz⟩)
        · intro hl hw hd
          intros
          (try simp only [*])
          go_wp2_with (first | (refine ldiM S.out ?_) | (refine ldiS S.out ?_) | (refine ldI S.out ?_) | (refine ldIs S.out ?_) | (refine wpList_want rfl rfl ?_; dsimp only) | fail)
          refine stepS_mk rfl (by simp only [List.getElem?_toArray, List.getElem?_cons_succ, List.getElem?_cons_zero]; exact rfl) ?_
          exact ⟨XS.refl _, rfl, hj.other (Ext.refl _) hl (by intro it hit; simp only [List.mem_cons, List.not_mem_nil, or_false] at hit; subst hit; exact ⟨by decide, by decide⟩)⟩
        · intro hl hw hd
          intros
          (try simp only [*])
          go_wp2_with (first | (refine ldiM S.out ?_) | (refine ldiS S.out ?_) | (refine ldI S.out ?_) | (refine ldIs S.out ?_) | (refine wpList_want rfl rfl ?_; dsimp only) | fail)
          refine stepS_mk rfl (by simp only [List.getElem?_toArray, List.getElem?_cons_succ, List.getElem?_cons_zero]; exact rfl) ?_
          exact ⟨XS.refl _, rfl, hj.other (Ext.refl _) hl (by intro it hit; simp only [List.mem_cons, List.not_mem_nil, or_false] at hit; subst hit; exact ⟨by decide, by decide⟩)⟩
      case hB => kernel_rfl
      case fin =>
        intro V lo up w' hr L hj hL hf ha
        simp only [factsOk, isv, resD, argD, tgetV, sameV, anyV, modeNg, newb, List.map_nil, List.map_cons, List.headD_cons, and_true, Nat.zero_add, Nat.reduceAdd] at hf
        simp only [List.length_cons, List.length_nil, Nat.zero_add, Nat.reduceAdd, List.drop_succ_cons, List.drop_zero]
        obtain ⟨-, -, -, -, -, -, ⟨-, -, -, v0, v1, v2, eM, gM⟩, ⟨-, -, -, eX0⟩, ⟨-, -, -, eX1⟩, ⟨-, -, -, eX2⟩, -, -, ⟨-, -, -, eA1⟩, ⟨-, -, -, eA2⟩⟩ := hf
        clear ha
        obtain ⟨pH0, mH0, hu9, -, -⟩ := id (gM.get 0 rfl rfl).ints
        try simp only at hu9
        subst hu9
        obtain ⟨pH1, mH1, hu9, -, -⟩ := id (gM.get 1 rfl rfl).ints
        try simp only at hu9
        subst hu9
        obtain ⟨pH2, mH2, hu9, -, -⟩ := id (gM.get 2 rfl rfl).ints
        try simp only at hu9
        subst hu9
        have eY0 : V 7 = .agg #[.int .i64 gr, .int .i64 gc, .slice pH0 gs_.length mH0, .int .i64 hr_, .int .i64 hc, .slice pH1 hs_.length mH1] := by
          have a := eX0
          rw [eM] at a
          exact a
        have eY1 : V 8 = .slice pH2 l2.length mH2 := by
          have a := eX1
          rw [eM] at a
          exact a
        have eY2 : V 9 = .int .i64 N := by
          have a := eX2
          rw [eM] at a
          exact a
        have eB1 := eA1.trans eY1
        rw [eB1]
        have eB2 := eA2.trans eY2
        rw [eB2]
        obtain ⟨bH, eb, lb, -, -, kk⟩ := hj.box ⟨10, 11, 7, 33, #[.int .i64 0, .int .i64 0, .slice none 0 0, .int .i64 0, .int .i64 0, .slice none 0 0]⟩ (by simp) (hL 10 (by simp))
        obtain ⟨cs, es, kH⟩ := kk (hL 11 (by simp))
        rw [eY0] at es
        injection es with es
        subst es
        rw [eb]
        have S9 := S.out.grow (S.out.quiet hr.ext) [⟨bH, 33, [.int .i64 gr, .int .i64 gc, .slice pH0 gs_.length mH0, .int .i64 hr_, .int .i64 hc, .slice pH1 hs_.length mH1]⟩] (by intro p hp; simp only [List.mem_cons, List.not_mem_nil, or_false] at hp; subst hp; exact ⟨kH, lb⟩) (by simp) gM (by intro p hp v hv; simp only [List.mem_cons, List.not_mem_nil, or_false] at hp; subst hp; exact gM.ne kH (by decide) v hv)
        simp only [List.cons_append, List.nil_append] at S9
        replace S := Kept.mk S9
        clear S9 hr hj gM
        go_wp2_with (first | (refine ldiM S.out ?_) | (refine ldiS S.out ?_) | (refine ldI S.out ?_) | (refine ldIs S.out ?_) | (refine stiS S.out ?_; clear S; intro w9 S) | (refine aliS S.out ?_; clear S; intro b9 w9 S) | (refine wpList_want rfl rfl ?_; dsimp only) | fail)
        apply wp_region_zip [isv _, isv _, isv (.bool true), isv _, isv _, matR qr qc qs, isv _, isv _, grpD dr dc er ec ds es_, matR qr qc qs, isv _, isv _, isv _] _ (by kernel_rfl)
        case hA => intro V; simp [putAll, dstOf, Act.put]; exact rfl
        case hsl => intro V; exact rfl
        case step =>
          intro V lo up w' hr
          have S := Kept.mk (S.out.quiet hr)
          simp only [zipOk, depsImp, isv, matR, grpD, modeNg, newb, waits, Region.binds, List.map_nil, List.map_cons, List.headD_cons, List.nil_append, List.cons_append, List.filterMap_cons, List.filterMap_nil, ↓reduceIte, modeNe, Bool.false_eq_true, true_implies, List.getD_cons_zero, List.getD_cons_succ, and_true]
          refine ⟨?_, ?_, ?_, ?_, ?_, ?_, ?_, ?_, ?_, ?_, ?_, ?_, ?_⟩
          · intros
            (try simp only [*])
            go_wp2_with (first | (refine ldiM S.out ?_) | (refine ldiS S.out ?_) | (refine ldI S.out ?_) | (refine ldIs S.out ?_) | (refine wpList_want rfl rfl ?_; dsimp only) | fail)
            refine stepQ_mk rfl (by simp only [List.getElem?_toArray, List.getElem?_cons_succ, List.getElem?_cons_zero]; exact rfl) ?_
            exact ⟨Ext.refl _, rfl⟩
          · intros
            (try simp only [*])
            go_wp2_with (first | (refine ldiM S.out ?_) | (refine ldiS S.out ?_) | (refine ldI S.out ?_) | (refine ldIs S.out ?_) | (refine wpList_want rfl rfl ?_; dsimp only) | fail)
            refine stepQ_mk rfl (by simp only [List.getElem?_toArray, List.getElem?_cons_succ, List.getElem?_cons_zero]; exact rfl) ?_
            exact ⟨Ext.refl _, rfl⟩
          · intros
            (try simp only [*])
            go_wp2_with (first | (refine ldiM S.out ?_) | (refine ldiS S.out ?_) | (refine ldI S.out ?_) | (refine ldIs S.out ?_) | (refine wpList_want rfl rfl ?_; dsimp only) | fail)
            refine stepQ_mk rfl (by simp only [List.getElem?_toArray, List.getElem?_cons_succ, List.getElem?_cons_zero]; exact rfl) ?_
            exact ⟨Ext.refl _, by first | rfl | simp⟩
          · intros
            (try simp only [*])
            go_wp2_with (first | (refine ldiM S.out ?_) | (refine ldiS S.out ?_) | (refine ldI S.out ?_) | (refine ldIs S.out ?_) | (refine wpList_want rfl rfl ?_; dsimp only) | fail)
            refine stepQ_mk rfl (by simp only [List.getElem?_toArray, List.getElem?_cons_succ, List.getElem?_cons_zero]; exact rfl) ?_
            exact ⟨Ext.refl _, rfl⟩
          · intros
            (try simp only [*])
            go_wp2_with (first | (refine ldiM S.out ?_) | (refine ldiS S.out ?_) | (refine ldI S.out ?_) | (refine ldIs S.out ?_) | (refine wpList_want rfl rfl ?_; dsimp only) | fail)
            refine stepQ_mk rfl (by simp only [List.getElem?_toArray, List.getElem?_cons_succ, List.getElem?_cons_zero]; exact rfl) ?_
            exact ⟨Ext.refl _, rfl⟩
          · intros
            (try simp only [*])
            go_wp2_with (first | (refine ldiM S.out ?_) | (refine ldiS S.out ?_) | (refine ldI S.out ?_) | (refine ldIs S.out ?_) | (refine wpList_want rfl rfl ?_; dsimp only) | fail)
            (with_reducible refine (J2.out _ _ _ (S.out.grp.get 0 rfl rfl).ints (S.out.grp.get 1 rfl rfl).ints).mono ?_)
            rintro e w9 ⟨v9, rfl, o9, x9⟩
            go_wp2
            refine stepQ_mk rfl (by simp only [List.getElem?_toArray, List.getElem?_cons_succ, List.getElem?_cons_zero]; exact rfl) ?_
            exact ⟨x9, v9, rfl, o9, fun q hq => (o9.block q hq).2⟩
          · intros
            (try simp only [*])
            go_wp2_with (first | (refine ldiM S.out ?_) | (refine ldiS S.out ?_) | (refine ldI S.out ?_) | (refine ldIs S.out ?_) | (refine wpList_want rfl rfl ?_; dsimp only) | fail)
            refine stepQ_mk rfl (by simp only [List.getElem?_toArray, List.getElem?_cons_succ, List.getElem?_cons_zero]; exact rfl) ?_
            exact ⟨Ext.refl _, rfl⟩
          · intros
            (try simp only [*])
            go_wp2_with (first | (refine ldiM S.out ?_) | (refine ldiS S.out ?_) | (refine ldI S.out ?_) | (refine ldIs S.out ?_) | (refine wpList_want rfl rfl ?_; dsimp only) | fail)
            refine stepQ_mk rfl (by simp only [List.getElem?_toArray, List.getElem?_cons_succ, List.getElem?_cons_zero]; exact rfl) ?_
            exact ⟨Ext.refl _, rfl⟩
          · intros
            (try simp only [*])
            go_wp2_with (first | (refine ldiM S.out ?_) | (refine ldiS S.out ?_) | (refine ldI S.out ?_) | (refine ldIs S.out ?_) | (refine wpList_want rfl rfl ?_; dsimp only) | fail)
            (with_reducible refine (AD.out _ _ _ _ _ (S.out.grp.get 6 rfl rfl).ints (S.out.grp.get 7 rfl rfl).ints (S.out.grp.get 6 rfl rfl).ints (S.out.grp.get 7 rfl rfl).ints).mono ?_)
            rintro e w9 ⟨u0, u1, rfl, g9, x9⟩
            go_wp2
            refine stepQ_mk rfl (by simp only [List.getElem?_toArray, List.getElem?_cons_succ, List.getElem?_cons_zero]; exact rfl) ?_
            exact ⟨x9, u0, u1, rfl, g9⟩
          · intros
            obtain ⟨u0, u1, e8, g8⟩ := ‹∃ z0 z1, V 8 = _ ∧ Grp _ _ _ [ds, es_]›
            (try simp only [*])
            go_wp2_with (first | (refine ldiM S.out ?_) | (refine ldiS S.out ?_) | (refine ldI S.out ?_) | (refine ldIs S.out ?_) | (refine wpList_want rfl rfl ?_; dsimp only) | fail)
            (with_reducible refine (J3.out _ _ _ g8.o0.ints g8.o1.ints).mono ?_)
            rintro e w9 ⟨v9, rfl, o9, x9⟩
            go_wp2
            refine stepQ_mk rfl (by simp only [List.getElem?_toArray, List.getElem?_cons_succ, List.getElem?_cons_zero]; exact rfl) ?_
            exact ⟨x9, v9, rfl, o9, fun q hq => (o9.block q hq).2⟩
          · intros
            obtain ⟨v5, e5, o5, b5⟩ := ‹∃ v, V 5 = _ ∧ Own _ _ v qs ∧ _›
            obtain ⟨v9, e9, o9, b9⟩ := ‹∃ v, V 9 = _ ∧ Own _ _ v qs ∧ _›
            (try simp only [*])
            go_wp2_with (first | (refine ldiM S.out ?_) | (refine ldiS S.out ?_) | (refine ldI S.out ?_) | (refine ldIs S.out ?_) | (refine wpList_want rfl rfl ?_; dsimp only) | fail)
            (with_reducible refine (laws_sameMatrix qr qc _ _ qs _ o5.ints o9.ints).mono ?_)
            rintro e w9 ⟨rfl, x9⟩
            go_wp2
            refine stepQ_mk rfl (by simp only [List.getElem?_toArray, List.getElem?_cons_succ, List.getElem?_cons_zero]; exact rfl) ?_
            exact ⟨x9, rfl⟩
          · intros
            (try simp only [*])
            go_wp2_with (first | (refine ldiM S.out ?_) | (refine ldiS S.out ?_) | (refine ldI S.out ?_) | (refine ldIs S.out ?_) | (refine wpList_want rfl rfl ?_; dsimp only) | fail)
            refine stepQ_mk rfl (by simp only [List.getElem?_toArray, List.getElem?_cons_succ, List.getElem?_cons_zero]; exact rfl) ?_
            exact ⟨Ext.refl _, rfl⟩
          · intros
            (try simp only [*])
            go_wp2_with (first | (refine ldiM S.out ?_) | (refine ldiS S.out ?_) | (refine ldI S.out ?_) | (refine ldIs S.out ?_) | (refine wpList_want rfl rfl ?_; dsimp only) | fail)
            refine stepQ_mk rfl (by simp only [List.getElem?_toArray, List.getElem?_cons_succ, List.getElem?_cons_zero]; exact rfl) ?_
            exact ⟨Ext.refl _, rfl⟩
        case hB => kernel_rfl
        case fin =>
          intro V lo up w' hr hf ha
          simp only [factsOk, isv, matR, grpD, modeNg, newb, List.map_nil, List.map_cons, List.headD_cons, and_true, Nat.zero_add, Nat.reduceAdd] at hf
          simp only [List.length_cons, List.length_nil, Nat.zero_add, Nat.reduceAdd, List.drop_succ_cons, List.drop_zero]
          obtain ⟨-, -, -, -, -, -, -, -, -, -, -, -, ⟨-, -, -, e12⟩⟩ := hf
          clear ha
          rw [e12]
          clear e12
          replace S := Kept.mk (S.out.quiet hr)
          clear hr
          go_wp2_with (first | (refine ldiM S.out ?_) | (refine ldiS S.out ?_) | (refine ldI S.out ?_) | (refine ldIs S.out ?_) | (refine stiS S.out ?_; clear S; intro w9 S) | (refine aliS S.out ?_; clear S; intro b9 w9 S) | (refine wpList_want rfl rfl ?_; dsimp only) | fail)
          go_ret
          exact ⟨rfl, S.out.ext⟩
  · have hl' : ¬ (n : Int) ≤ 1048576 := hl
    have hg : (1048576 : Int) < n := by omega
    clear hl
    go_enter Try.func7, Try.ntmps7
    go_wp2_with (fail)
    go_ret
    exact ⟨rfl, S.out.ext⟩
end Go.Proofs.Ytkkdikoknegpjaa
