/- The walk through FnPlainDense. -/
import Derived.Test.YtpbnbhiffnnliaaDrawPD
import Derived.Test.YtpbnbhiffnnliaaDenP
import Derived.Test.YtpbnbhiffnnliaaSDen
import Derived.Test.YtpbnbhiffnnliaaExL
import Derived.Test.YtpbnbhiffnnliaaMapT
import Derived.Test.YtpbnbhiffnnliaaSprT
import Derived.BigQuiet
namespace Go.Proofs.Ytpbnbhiffnnliaa
set_option linter.unusedSimpArgs false
set_option linter.unusedVariables false
open Go.RowKit
theorem zerosL_eq (n : Nat) : List.replicate n 0 = zerosL n := by
  symm
  rw [List.eq_replicate_iff]
  refine ⟨mapTo_len _ _, fun b hb => ?_⟩
  simp only [zerosL, mapTo, List.mem_map] at hb
  obtain ⟨_, _, h⟩ := hb
  exact h.symm
/-- A list of the operation's own. -/
def ownR {n0 : Nat} (n : Nat) (xs : List Int) : OpSpec Ext n0 := ⟨[], fun _ u lo up w => u = .slice (some ⟨lo, 0, none⟩) n n ∧ Own lo w u xs, fun _ _ _ _ _ _ _ _ _ hx ⟨h1, h2⟩ => ⟨h1, h2.keep hx⟩⟩
/-- A matrix whose list is the value of operation i. -/
def aggV {n0 : Nat} (i : Nat) (r c : Int) : OpSpec Ext n0 := ⟨[i], fun vs u _ _ _ => u = .agg #[.int .i64 r, .int .i64 c, vs.headD undef], fun _ _ _ _ _ _ _ _ _ _ h => h⟩
theorem laws_alive (w : World) : Calls Try.prog 10 #[] w fun e w' => e = .returned (.bool true) ∧ w = w' := by
  go_enter Try.func10, Try.ntmps10
  go_wp2_with (go_at_call 36; (with_reducible refine (impl_RingValid 5 true (by decide) _).mono ?_); rintro e w1 ⟨rfl, rfl⟩)
  go_ret
  exact ⟨rfl, rfl⟩

set_option maxHeartbeats 8000000 in
set_option maxRecDepth 4000 in
theorem walk_FnPlainDense (v : Value) (w : World) (hb : Bytes w v) : Calls Try.prog 3 #[v] w fun e w' => e = .returned (.bool true) ∧ Ext w w' := by
  obtain ⟨a, n, cap, rfl, hn, hm, hc⟩ := id hb
  clear hc
  have HB := Kept.mk hb
  clear hb
  have S := Kept.mk (St.start w)
  by_cases hl : (n : Int) ≤ 1048576
  · go_enter Try.func3, Try.ntmps3
    go_wp2_with (fail)
    clear hl
    (with_reducible refine (spec_DrawPlainDense _ _ (HB.out.ext S.out.ext)).mono ?_)
    rintro e u9 ⟨r0, c0, r1, c1, r2, c2, v0, v1, v2, x0, x1, x2, rfl, ln, gg, x9⟩
    obtain ⟨p0, m0, hu9, -, -⟩ := id gg.o0.ints
    try simp only at hu9
    subst hu9
    obtain ⟨p1, m1, hu9, -, -⟩ := id gg.o1.ints
    try simp only at hu9
    subst hu9
    obtain ⟨p2, m2, hu9, -, -⟩ := id gg.o2.ints
    try simp only at hu9
    subst hu9
    have S9 := S.out.madeG gg x9
    simp only [List.cons_append, List.nil_append] at S9
    replace S := Kept.mk S9
    clear S9 gg x9
    cases g : (Mat.ok ⟨r2, c2, x2⟩ && fitsB ⟨r0, c0, x0⟩ ⟨r1, c1, x1⟩ && decide (c0 = r2))
    · have IP := Kept.mk (fun (v0 v1 v2 : Value) (w' : World) (h0 : Ints w' v0 x0) (h1 : Ints w' v1 x1) (h2 : Ints w' v2 x2) (hf : Fit v0) => impl_PlainDense r0 c0 r1 c1 r2 c2 v0 v1 v2 x0 x1 x2 w' h0 h1 h2 hf)
      have SP := Kept.mk (fun (v0 v1 v2 : Value) (w' : World) (h0 : Arg w' v0 x0) (h1 : Arg w' v1 x1) (h2 : Arg w' v2 x2) => spec_PlainDense r0 c0 r1 c1 r2 c2 v0 v1 v2 x0 x1 x2 w' h0 h1 h2)
      unfold MatPost at IP SP
      rw [show denseM ⟨r0, c0, x0⟩ ⟨r1, c1, x1⟩ ⟨r2, c2, x2⟩ = matZ by unfold denseM; rw [if_neg (by rw [g]; decide)]] at IP SP
      unfold matZ at IP SP
      simp only at IP SP
      obtain ⟨ds, h4⟩ : ∃ x, x = ([] : List Int) := ⟨_, rfl⟩
      rw [← h4] at IP SP
      have hL0 := Kept.mk (show ds.length = 0 by rw [h4]; rfl)
      clear h4 g
      go_wp2_with (first | (refine aliM (L := []) S.out ?_; clear S; intro b3 w9 S) | (refine aliM (L := [_]) S.out ?_; clear S; intro b4 w9 S) | (refine aliM (L := [_, _]) S.out ?_; clear S; intro b5 w9 S) | (refine aliM (L := [_, _, _]) S.out ?_; clear S; intro b6 w9 S) | (refine aliM (L := [_, _, _, _]) S.out ?_; clear S; intro b7 w9 S) | (refine aliM (L := [_, _, _, _, _]) S.out ?_; clear S; intro b8 w9 S) | (refine ldiM S.out ?_) | (refine ldI S.out ?_) | (refine ldIs S.out ?_) | (refine stiM S.out ?_; clear S; intro w9 S) | (refine wpList_want rfl rfl ?_; dsimp only) | fail)
      (with_reducible refine (IP.out _ _ _ _ (S.out.grp.get 0 rfl rfl).ints (S.out.grp.get 1 rfl rfl).ints (S.out.grp.get 2 rfl rfl).ints ((S.out.grp.get 0 rfl rfl).arg ln.1).fit).mono ?_)
      rintro e u9 ⟨v3, rfl, o3, x9⟩
      replace S := Kept.mk (S.out.made o3 x9)
      clear x9
      obtain ⟨p3, m3, hu9, -, -⟩ := id o3.ints
      try simp only at hu9
      subst hu9
      clear o3
      go_wp2_with (first | (refine aliM (L := []) S.out ?_; clear S; intro b3 w9 S) | (refine aliM (L := [_]) S.out ?_; clear S; intro b4 w9 S) | (refine aliM (L := [_, _]) S.out ?_; clear S; intro b5 w9 S) | (refine aliM (L := [_, _, _]) S.out ?_; clear S; intro b6 w9 S) | (refine aliM (L := [_, _, _, _]) S.out ?_; clear S; intro b7 w9 S) | (refine aliM (L := [_, _, _, _, _]) S.out ?_; clear S; intro b8 w9 S) | (refine ldiM S.out ?_) | (refine ldI S.out ?_) | (refine ldIs S.out ?_) | (refine stiM S.out ?_; clear S; intro w9 S) | (refine wpList_want rfl rfl ?_; dsimp only) | fail)
      apply wp_region_zip [isv _, isv _, isv _, isv _, matR 0 0 ds, isv _, isv _] _ (by kernel_rfl)
      case hA => intro V; simp [putAll, dstOf, Act.put]; exact rfl
      case hsl => intro V; exact rfl
      case step =>
        intro V lo up w' hr
        have S := Kept.mk (S.out.quiet hr)
        simp only [zipOk, depsImp, isv, matR, modeNg, newb, waits, Region.binds, List.map_nil, List.map_cons, List.headD_cons, List.nil_append, List.cons_append, List.filterMap_cons, List.filterMap_nil, ↓reduceIte, modeNe, Bool.false_eq_true, true_implies, List.getD_cons_zero, List.getD_cons_succ, and_true]
        refine ⟨?_, ?_, ?_, ?_, ?_, ?_, ?_⟩
        · intros
          (try simp only [*])
          go_wp2_with (first | (refine ldiM S.out ?_) | (refine ldI S.out ?_) | (refine ldIs S.out ?_) | (refine wpList_want rfl rfl ?_; dsimp only) | fail)
          refine stepQ_mk rfl (by simp only [List.getElem?_toArray, List.getElem?_cons_succ, List.getElem?_cons_zero]; exact rfl) ?_
          exact ⟨Ext.refl _, rfl⟩
        · intros
          (try simp only [*])
          go_wp2_with (first | (refine ldiM S.out ?_) | (refine ldI S.out ?_) | (refine ldIs S.out ?_) | (refine wpList_want rfl rfl ?_; dsimp only) | fail)
          refine stepQ_mk rfl (by simp only [List.getElem?_toArray, List.getElem?_cons_succ, List.getElem?_cons_zero]; exact rfl) ?_
          exact ⟨Ext.refl _, rfl⟩
        · intros
          (try simp only [*])
          go_wp2_with (first | (refine ldiM S.out ?_) | (refine ldI S.out ?_) | (refine ldIs S.out ?_) | (refine wpList_want rfl rfl ?_; dsimp only) | fail)
          refine stepQ_mk rfl (by simp only [List.getElem?_toArray, List.getElem?_cons_succ, List.getElem?_cons_zero]; exact rfl) ?_
          exact ⟨Ext.refl _, rfl⟩
        · intros
          (try simp only [*])
          go_wp2_with (first | (refine ldiM S.out ?_) | (refine ldI S.out ?_) | (refine ldIs S.out ?_) | (refine wpList_want rfl rfl ?_; dsimp only) | fail)
          refine stepQ_mk rfl (by simp only [List.getElem?_toArray, List.getElem?_cons_succ, List.getElem?_cons_zero]; exact rfl) ?_
          exact ⟨Ext.refl _, rfl⟩
        · intros
          (try simp only [*])
          go_wp2_with (fail)
          (with_reducible refine (SP.out _ _ _ _ ((S.out.grp.get 1 rfl rfl).arg ln.1) ((S.out.grp.get 2 rfl rfl).arg ln.2.1) ((S.out.grp.get 3 rfl rfl).arg ln.2.2)).mono ?_)
          rintro e w9 ⟨v9, rfl, o9, x9⟩
          go_wp2
          refine stepQ_mk rfl (by simp only [List.getElem?_toArray, List.getElem?_cons_succ, List.getElem?_cons_zero]; exact rfl) ?_
          exact ⟨x9, v9, rfl, o9, fun q hq => (o9.block q hq).2⟩
        · intros
          obtain ⟨v4, e4, o4, b4_⟩ := ‹∃ v, V 4 = _ ∧ Own _ _ v ds ∧ _›
          (try simp only [*])
          go_wp2_with (fail)
          (with_reducible refine (laws_sameMatrix 0 0 _ _ ds _ S.out.grp.o0.ints o4.ints).mono ?_)
          rintro e w9 ⟨rfl, x9⟩
          go_wp2
          refine stepQ_mk rfl (by simp only [List.getElem?_toArray, List.getElem?_cons_succ, List.getElem?_cons_zero]; exact rfl) ?_
          exact ⟨x9, rfl⟩
        · intros
          (try simp only [*])
          go_wp2_with (first | (refine ldiM S.out ?_) | (refine ldI S.out ?_) | (refine ldIs S.out ?_) | (refine wpList_want rfl rfl ?_; dsimp only) | fail)
          refine stepQ_mk rfl (by simp only [List.getElem?_toArray, List.getElem?_cons_succ, List.getElem?_cons_zero]; exact rfl) ?_
          exact ⟨Ext.refl _, rfl⟩
      case hB => kernel_rfl
      case fin =>
        intro V lo up w' hr hf ha
        simp only [factsOk, isv, matR, modeNg, newb, List.map_nil, List.map_cons, List.headD_cons, and_true, Nat.zero_add, Nat.reduceAdd] at hf
        simp only [List.length_cons, List.length_nil, Nat.zero_add, Nat.reduceAdd, List.drop_succ_cons, List.drop_zero]
        obtain ⟨-, -, -, -, -, -, ⟨-, -, -, e6⟩⟩ := hf
        clear ha
        rw [e6]
        clear e6
        replace S := Kept.mk (S.out.quiet hr)
        clear hr
        have L0 := hL0.out
        go_wp2_with (first | (refine aliM (L := []) S.out ?_; clear S; intro b3 w9 S) | (refine aliM (L := [_]) S.out ?_; clear S; intro b4 w9 S) | (refine aliM (L := [_, _]) S.out ?_; clear S; intro b5 w9 S) | (refine aliM (L := [_, _, _]) S.out ?_; clear S; intro b6 w9 S) | (refine aliM (L := [_, _, _, _]) S.out ?_; clear S; intro b7 w9 S) | (refine aliM (L := [_, _, _, _, _]) S.out ?_; clear S; intro b8 w9 S) | (refine ldiM S.out ?_) | (refine ldI S.out ?_) | (refine ldIs S.out ?_) | (refine stiM S.out ?_; clear S; intro w9 S) | (refine wpList_want rfl rfl ?_; dsimp only) | fail)
        (with_reducible refine (laws_alive _).mono ?_)
        rintro e u9 ⟨rfl, rfl⟩
        go_wp2_with (first | (refine aliM (L := []) S.out ?_; clear S; intro b3 w9 S) | (refine aliM (L := [_]) S.out ?_; clear S; intro b4 w9 S) | (refine aliM (L := [_, _]) S.out ?_; clear S; intro b5 w9 S) | (refine aliM (L := [_, _, _]) S.out ?_; clear S; intro b6 w9 S) | (refine aliM (L := [_, _, _, _]) S.out ?_; clear S; intro b7 w9 S) | (refine aliM (L := [_, _, _, _, _]) S.out ?_; clear S; intro b8 w9 S) | (refine ldiM S.out ?_) | (refine ldI S.out ?_) | (refine ldIs S.out ?_) | (refine stiM S.out ?_; clear S; intro w9 S) | (refine wpList_want rfl rfl ?_; dsimp only) | fail)
        go_ret
        exact ⟨rfl, S.out.ext⟩
    · obtain ⟨R, C, f, sR, sC, eR, eC, eB, eB1, hl1, hf, hb, ef, ed, ez⟩ := dense_law g
      simp only at eR eC eB eB1 hl1 hb
      clear g
      have IP := Kept.mk (fun (v0 v1 v2 : Value) (w' : World) (h0 : Ints w' v0 x0) (h1 : Ints w' v1 x1) (h2 : Ints w' v2 x2) (hf : Fit v0) => impl_PlainDense r0 c0 r1 c1 r2 c2 v0 v1 v2 x0 x1 x2 w' h0 h1 h2 hf)
      have SP := Kept.mk (fun (v0 v1 v2 : Value) (w' : World) (h0 : Arg w' v0 x0) (h1 : Arg w' v1 x1) (h2 : Arg w' v2 x2) => spec_PlainDense r0 c0 r1 c1 r2 c2 v0 v1 v2 x0 x1 x2 w' h0 h1 h2)
      unfold MatPost at IP SP
      rw [ed] at IP SP
      have IZ := Kept.mk (fun (v0 v1 v2 : Value) (w' : World) (h0 : Ints w' v0 x0) (h1 : Ints w' v1 (zerosL R)) (h2 : Ints w' v2 x2) (hf : Fit v0) => impl_PlainDense r0 c0 R 1 r2 c2 v0 v1 v2 x0 (zerosL R) x2 w' h0 h1 h2 hf)
      unfold MatPost at IZ
      rw [ez] at IZ
      have IQ := Kept.mk (fun (v u : Value) (w' : World) (h1 : Ints w' v x0) (h2 : Ints w' u x2) (hf : Fit v) => impl_MulMatrices r0 c0 r2 c2 v u x0 x2 w' h1 h2 hf)
      unfold MatPost at IQ
      unfold cutM at ef
      generalize mulM ⟨r0, c0, x0⟩ ⟨r2, c2, x2⟩ = D at *
      obtain ⟨mr, mc, ms⟩ := D
      simp only at IQ ef
      have IM := Kept.mk (fun (u : Value) (w' : World) (h : Ints w' u ms) => impl_MapMatrix 1 mr mc u ms w' h)
      unfold MatPost at IM
      rw [ef] at IM
      clear ef ed ez
      have LD : (Fm R C fun i => ring (f i + x1.getD (i / C) 0)).xs.length = R * C := Fm_len _ _ _
      have LY : (Fm R C f).xs.length = R * C := Fm_len _ _ _
      have FD := Kept.mk (fun (i : Nat) (hi : i < R * C) => (show (Fm R C fun i => ring (f i + x1.getD (i / C) 0)).xs.getD i 0 = addR ((Fm R C f).xs.getD i 0) (x1.getD (i / C) 0) by
        rw [Fm_get _ hi, Fm_get _ hi, addR_ring (hf i hi) (hb _ (Nat.div_lt_of_lt_mul (by rw [Nat.mul_comm]; exact hi)))]))
      rw [show (Fm R C fun i => ring (f i + x1.getD (i / C) 0)).r = R from rfl, show (Fm R C fun i => ring (f i + x1.getD (i / C) 0)).c = C from rfl] at IP SP
      rw [show (Fm R C f).r = R from rfl, show (Fm R C f).c = C from rfl] at IZ IM
      generalize (Fm R C fun i => ring (f i + x1.getD (i / C) 0)).xs = ds at *
      generalize (Fm R C f).xs = ys at *
      clear hf hb
      obtain ⟨T, hT⟩ : ∃ T, T = R * C := ⟨_, rfl⟩
      rw [← hT] at FD LD LY
      subst eR eC eB eB1
      have HL := Kept.mk hl1
      have HD := Kept.mk LD
      have HY := Kept.mk LY
      clear hl1 LD LY
      have Rn : ((R : Int) == 0) = false := by have := sR.lo; simp; omega
      have hR5 := Kept.mk sR.hi
      have L25 : Kept (T ≤ 25) := ⟨by rw [hT]; exact Nat.mul_le_mul sR.hi sC.hi⟩
      have cz : Kept (¬ (C : Int) = 0) := ⟨by have := sC.lo; omega⟩
      have DV : Kept (∀ j, j < T → j / C < R) := ⟨fun j hj => (Nat.div_lt_iff_lt_mul sC.lo).2 (by rw [← hT]; exact hj)⟩
      clear hT
      go_wp2_with (first | (refine aliM (L := []) S.out ?_; clear S; intro b3 w9 S) | (refine aliM (L := [_]) S.out ?_; clear S; intro b4 w9 S) | (refine aliM (L := [_, _]) S.out ?_; clear S; intro b5 w9 S) | (refine aliM (L := [_, _, _]) S.out ?_; clear S; intro b6 w9 S) | (refine aliM (L := [_, _, _, _]) S.out ?_; clear S; intro b7 w9 S) | (refine aliM (L := [_, _, _, _, _]) S.out ?_; clear S; intro b8 w9 S) | (refine ldiM S.out ?_) | (refine ldI S.out ?_) | (refine ldIs S.out ?_) | (refine stiM S.out ?_; clear S; intro w9 S) | (refine wpList_want rfl rfl ?_; dsimp only) | fail)
      (with_reducible refine (IP.out _ _ _ _ (S.out.grp.get 0 rfl rfl).ints (S.out.grp.get 1 rfl rfl).ints (S.out.grp.get 2 rfl rfl).ints ((S.out.grp.get 0 rfl rfl).arg ln.1).fit).mono ?_)
      rintro e u9 ⟨v3, rfl, o3, x9⟩
      replace S := Kept.mk (S.out.made o3 x9)
      clear x9
      obtain ⟨p3, m3, hu9, -, -⟩ := id o3.ints
      try simp only at hu9
      subst hu9
      clear o3
      go_wp2_with (first | (refine aliM (L := []) S.out ?_; clear S; intro b3 w9 S) | (refine aliM (L := [_]) S.out ?_; clear S; intro b4 w9 S) | (refine aliM (L := [_, _]) S.out ?_; clear S; intro b5 w9 S) | (refine aliM (L := [_, _, _]) S.out ?_; clear S; intro b6 w9 S) | (refine aliM (L := [_, _, _, _]) S.out ?_; clear S; intro b7 w9 S) | (refine aliM (L := [_, _, _, _, _]) S.out ?_; clear S; intro b8 w9 S) | (refine ldiM S.out ?_) | (refine ldI S.out ?_) | (refine ldIs S.out ?_) | (refine stiM S.out ?_; clear S; intro w9 S) | (refine wpList_want rfl rfl ?_; dsimp only) | fail)
      apply wp_region_zip [isv _, isv _, isv _, isv _, matR R C ds, isv _, isv _] _ (by kernel_rfl)
      case hA => intro V; simp [putAll, dstOf, Act.put]; exact rfl
      case hsl => intro V; exact rfl
      case step =>
        intro V lo up w' hr
        have S := Kept.mk (S.out.quiet hr)
        simp only [zipOk, depsImp, isv, matR, modeNg, newb, waits, Region.binds, List.map_nil, List.map_cons, List.headD_cons, List.nil_append, List.cons_append, List.filterMap_cons, List.filterMap_nil, ↓reduceIte, modeNe, Bool.false_eq_true, true_implies, List.getD_cons_zero, List.getD_cons_succ, and_true]
        refine ⟨?_, ?_, ?_, ?_, ?_, ?_, ?_⟩
        · intros
          (try simp only [*])
          go_wp2_with (first | (refine ldiM S.out ?_) | (refine ldI S.out ?_) | (refine ldIs S.out ?_) | (refine wpList_want rfl rfl ?_; dsimp only) | fail)
          refine stepQ_mk rfl (by simp only [List.getElem?_toArray, List.getElem?_cons_succ, List.getElem?_cons_zero]; exact rfl) ?_
          exact ⟨Ext.refl _, rfl⟩
        · intros
          (try simp only [*])
          go_wp2_with (first | (refine ldiM S.out ?_) | (refine ldI S.out ?_) | (refine ldIs S.out ?_) | (refine wpList_want rfl rfl ?_; dsimp only) | fail)
          refine stepQ_mk rfl (by simp only [List.getElem?_toArray, List.getElem?_cons_succ, List.getElem?_cons_zero]; exact rfl) ?_
          exact ⟨Ext.refl _, rfl⟩
        · intros
          (try simp only [*])
          go_wp2_with (first | (refine ldiM S.out ?_) | (refine ldI S.out ?_) | (refine ldIs S.out ?_) | (refine wpList_want rfl rfl ?_; dsimp only) | fail)
          refine stepQ_mk rfl (by simp only [List.getElem?_toArray, List.getElem?_cons_succ, List.getElem?_cons_zero]; exact rfl) ?_
          exact ⟨Ext.refl _, rfl⟩
        · intros
          (try simp only [*])
          go_wp2_with (first | (refine ldiM S.out ?_) | (refine ldI S.out ?_) | (refine ldIs S.out ?_) | (refine wpList_want rfl rfl ?_; dsimp only) | fail)
          refine stepQ_mk rfl (by simp only [List.getElem?_toArray, List.getElem?_cons_succ, List.getElem?_cons_zero]; exact rfl) ?_
          exact ⟨Ext.refl _, rfl⟩
        · intros
          (try simp only [*])
          go_wp2_with (fail)
          (with_reducible refine (SP.out _ _ _ _ ((S.out.grp.get 1 rfl rfl).arg ln.1) ((S.out.grp.get 2 rfl rfl).arg ln.2.1) ((S.out.grp.get 3 rfl rfl).arg ln.2.2)).mono ?_)
          rintro e w9 ⟨v9, rfl, o9, x9⟩
          go_wp2
          refine stepQ_mk rfl (by simp only [List.getElem?_toArray, List.getElem?_cons_succ, List.getElem?_cons_zero]; exact rfl) ?_
          exact ⟨x9, v9, rfl, o9, fun q hq => (o9.block q hq).2⟩
        · intros
          obtain ⟨v4, e4, o4, b4_⟩ := ‹∃ v, V 4 = _ ∧ Own _ _ v ds ∧ _›
          (try simp only [*])
          go_wp2_with (fail)
          (with_reducible refine (laws_sameMatrix R C _ _ ds _ S.out.grp.o0.ints o4.ints).mono ?_)
          rintro e w9 ⟨rfl, x9⟩
          go_wp2
          refine stepQ_mk rfl (by simp only [List.getElem?_toArray, List.getElem?_cons_succ, List.getElem?_cons_zero]; exact rfl) ?_
          exact ⟨x9, rfl⟩
        · intros
          (try simp only [*])
          go_wp2_with (first | (refine ldiM S.out ?_) | (refine ldI S.out ?_) | (refine ldIs S.out ?_) | (refine wpList_want rfl rfl ?_; dsimp only) | fail)
          refine stepQ_mk rfl (by simp only [List.getElem?_toArray, List.getElem?_cons_succ, List.getElem?_cons_zero]; exact rfl) ?_
          exact ⟨Ext.refl _, rfl⟩
      case hB => kernel_rfl
      case fin =>
        intro V lo up w' hr hf ha
        simp only [factsOk, isv, matR, modeNg, newb, List.map_nil, List.map_cons, List.headD_cons, and_true, Nat.zero_add, Nat.reduceAdd] at hf
        simp only [List.length_cons, List.length_nil, Nat.zero_add, Nat.reduceAdd, List.drop_succ_cons, List.drop_zero]
        obtain ⟨-, -, -, -, -, -, ⟨-, -, -, e6⟩⟩ := hf
        clear ha
        rw [e6]
        clear e6
        replace S := Kept.mk (S.out.quiet hr)
        clear hr
        go_wp2_with (first | (refine aliM (L := []) S.out ?_; clear S; intro b3 w9 S) | (refine aliM (L := [_]) S.out ?_; clear S; intro b4 w9 S) | (refine aliM (L := [_, _]) S.out ?_; clear S; intro b5 w9 S) | (refine aliM (L := [_, _, _]) S.out ?_; clear S; intro b6 w9 S) | (refine aliM (L := [_, _, _, _]) S.out ?_; clear S; intro b7 w9 S) | (refine aliM (L := [_, _, _, _, _]) S.out ?_; clear S; intro b8 w9 S) | (refine ldiM S.out ?_) | (refine ldI S.out ?_) | (refine ldIs S.out ?_) | (refine stiM S.out ?_; clear S; intro w9 S) | (refine wpList_want rfl rfl ?_; dsimp only) | fail)
        apply wp_region_zip [isv _, isv _, isv _, isv _, ownR R (zerosL R), aggV 4 R 1, newb _ 25] _ (by kernel_rfl)
        case hA => intro V; simp [putAll, dstOf, Act.put]; exact rfl
        case hsl => intro V; exact rfl
        case step =>
          intro V lo up w' hr
          have S := Kept.mk (S.out.quiet hr)
          simp only [zipOk, depsImp, isv, ownR, aggV, modeNg, newb, waits, Region.binds, List.map_nil, List.map_cons, List.headD_cons, List.nil_append, List.cons_append, List.filterMap_cons, List.filterMap_nil, ↓reduceIte, modeNe, Bool.false_eq_true, true_implies, List.getD_cons_zero, List.getD_cons_succ, and_true]
          refine ⟨?_, ?_, ?_, ?_, ?_, ?_, ?_⟩
          · intros
            (try simp only [*])
            go_wp2_with (first | (refine ldiM S.out ?_) | (refine ldI S.out ?_) | (refine ldIs S.out ?_) | (refine wpList_want rfl rfl ?_; dsimp only) | fail)
            refine stepQ_mk rfl (by simp only [List.getElem?_toArray, List.getElem?_cons_succ, List.getElem?_cons_zero]; exact rfl) ?_
            exact ⟨Ext.refl _, rfl⟩
          · intros
            (try simp only [*])
            go_wp2_with (first | (refine ldiM S.out ?_) | (refine ldI S.out ?_) | (refine ldIs S.out ?_) | (refine wpList_want rfl rfl ?_; dsimp only) | fail)
            refine stepQ_mk rfl (by simp only [List.getElem?_toArray, List.getElem?_cons_succ, List.getElem?_cons_zero]; exact rfl) ?_
            exact ⟨Ext.refl _, rfl⟩
          · intros
            (try simp only [*])
            go_wp2_with (first | (refine ldiM S.out ?_) | (refine ldI S.out ?_) | (refine ldIs S.out ?_) | (refine wpList_want rfl rfl ?_; dsimp only) | fail)
            refine stepQ_mk rfl (by simp only [List.getElem?_toArray, List.getElem?_cons_succ, List.getElem?_cons_zero]; exact rfl) ?_
            exact ⟨Ext.refl _, rfl⟩
          · intros
            (try simp only [*])
            go_wp2_with (first | (refine ldiM S.out ?_) | (refine ldI S.out ?_) | (refine ldIs S.out ?_) | (refine wpList_want rfl rfl ?_; dsimp only) | fail)
            refine stepQ_mk rfl (by simp only [List.getElem?_toArray, List.getElem?_cons_succ, List.getElem?_cons_zero]; exact rfl) ?_
            exact ⟨Ext.refl _, rfl⟩
          · intros
            (try simp only [*])
            go_wp2_with (at_make; refine wpList_make_ints _ rfl _ _ rfl w'.heap.size R (R : Int) rfl rfl rfl (by have := hR5.out; omega) (Nat.le_refl _) ?_; intro w9 hown9 hx9 hlt9; have H9 := Kept.mk hown9; clear hown9)
            refine stepQ_mk rfl (by simp only [List.getElem?_toArray, List.getElem?_cons_succ, List.getElem?_cons_zero]; exact rfl) ?_
            exact ⟨hx9, rfl, by have := H9.out; rw [zerosL_eq] at this; exact this⟩
          · intros
            obtain ⟨e4, -⟩ := ‹V 4 = _ ∧ Own _ _ (V 4) _›
            (try simp only [*])
            go_wp2
            refine stepQ_mk rfl (by simp only [List.getElem?_toArray, List.getElem?_cons_succ, List.getElem?_cons_zero]; exact rfl) ?_
            exact ⟨Ext.refl _, by first | rfl | (rw [e4]; rfl) | simp [e4]⟩
          · intros
            go_wp2
            refine stepQ_mk rfl (by simp only [List.getElem?_toArray, List.getElem?_cons_succ, List.getElem?_cons_zero]; exact rfl) ?_
            exact ⟨(Ext.refl _).alloc _, rfl, by simp, Blk.new _ _ _⟩
        case hB => kernel_rfl
        case fin =>
          intro V lo up w' hr hf ha
          simp only [factsOk, isv, ownR, aggV, modeNg, newb, List.map_nil, List.map_cons, List.headD_cons, and_true, Nat.zero_add, Nat.reduceAdd] at hf
          simp only [List.length_cons, List.length_nil, Nat.zero_add, Nat.reduceAdd, List.drop_succ_cons, List.drop_zero]
          obtain ⟨-, -, -, -, ⟨l4, -, -, -, o4⟩, ⟨-, -, -, e5⟩, ⟨l6, -, -, e6, -, k6⟩⟩ := hf
          clear ha
          rw [e5, e6]
          clear e5 e6
          replace S := Kept.mk (S.out.grow (S.out.quiet hr) [⟨lo 6, 25, [.int .i64 0, .int .i64 0, .slice none 0 0]⟩] (by intro p hp; rw [List.mem_singleton] at hp; subst hp; exact ⟨k6, l6⟩) (by simp) (Grp.one (o4.mono l4)) (by intro p hp v hv; rw [List.mem_singleton] at hp hv; subst hp; subst hv; exact o4.ne k6 (by decide)))
          simp only [List.cons_append, List.nil_append] at S
          generalize lo 6 = b7 at *
          generalize hz4 : V 4 = z4 at *
          clear l4 l6 k6 hr
          obtain ⟨p9, m9, hu9, -, -⟩ := id o4.ints
          try simp only at hu9
          subst hu9
          clear o4
          clear IP SP
          go_wp2_with (first | (refine aliM (L := []) S.out ?_; clear S; intro b3 w9 S) | (refine aliM (L := [_]) S.out ?_; clear S; intro b4 w9 S) | (refine aliM (L := [_, _]) S.out ?_; clear S; intro b5 w9 S) | (refine aliM (L := [_, _, _]) S.out ?_; clear S; intro b6 w9 S) | (refine aliM (L := [_, _, _, _]) S.out ?_; clear S; intro b7 w9 S) | (refine aliM (L := [_, _, _, _, _]) S.out ?_; clear S; intro b8 w9 S) | (refine ldiM S.out ?_) | (refine ldI S.out ?_) | (refine ldIs S.out ?_) | (refine stiM S.out ?_; clear S; intro w9 S) | (refine wpList_want rfl rfl ?_; dsimp only) | fail)
          (with_reducible refine (IZ.out _ _ _ _ (S.out.grp.get 2 rfl rfl).ints (S.out.grp.get 0 rfl rfl).ints (S.out.grp.get 4 rfl rfl).ints ((S.out.grp.get 2 rfl rfl).arg ln.1).fit).mono ?_)
          rintro e u9 ⟨v4, rfl, o4, x9⟩
          replace S := Kept.mk (S.out.made o4 x9)
          clear x9
          obtain ⟨p4, m4, hu9, -, -⟩ := id o4.ints
          try simp only at hu9
          subst hu9
          clear o4
          go_wp2_with (first | (refine aliM (L := []) S.out ?_; clear S; intro b3 w9 S) | (refine aliM (L := [_]) S.out ?_; clear S; intro b4 w9 S) | (refine aliM (L := [_, _]) S.out ?_; clear S; intro b5 w9 S) | (refine aliM (L := [_, _, _]) S.out ?_; clear S; intro b6 w9 S) | (refine aliM (L := [_, _, _, _]) S.out ?_; clear S; intro b7 w9 S) | (refine aliM (L := [_, _, _, _, _]) S.out ?_; clear S; intro b8 w9 S) | (refine ldiM S.out ?_) | (refine ldI S.out ?_) | (refine ldIs S.out ?_) | (refine stiM S.out ?_; clear S; intro w9 S) | (refine wpList_want rfl rfl ?_; dsimp only) | fail)
          clear IZ
          apply wp_region_zip [isv _, isv _, isv _, matR mr mc ms, matR R C ys, isv _, isv _] _ (by kernel_rfl)
          case hA => intro V; simp [putAll, dstOf, Act.put]; exact rfl
          case hsl => intro V; exact rfl
          case step =>
            intro V lo up w' hr
            have S := Kept.mk (S.out.quiet hr)
            simp only [zipOk, depsImp, isv, matR, modeNg, newb, waits, Region.binds, List.map_nil, List.map_cons, List.headD_cons, List.nil_append, List.cons_append, List.filterMap_cons, List.filterMap_nil, ↓reduceIte, modeNe, Bool.false_eq_true, true_implies, List.getD_cons_zero, List.getD_cons_succ, and_true]
            refine ⟨?_, ?_, ?_, ?_, ?_, ?_, ?_⟩
            · intros
              (try simp only [*])
              go_wp2_with (first | (refine ldiM S.out ?_) | (refine ldI S.out ?_) | (refine ldIs S.out ?_) | (refine wpList_want rfl rfl ?_; dsimp only) | fail)
              refine stepQ_mk rfl (by simp only [List.getElem?_toArray, List.getElem?_cons_succ, List.getElem?_cons_zero]; exact rfl) ?_
              exact ⟨Ext.refl _, rfl⟩
            · intros
              (try simp only [*])
              go_wp2_with (first | (refine ldiM S.out ?_) | (refine ldI S.out ?_) | (refine ldIs S.out ?_) | (refine wpList_want rfl rfl ?_; dsimp only) | fail)
              refine stepQ_mk rfl (by simp only [List.getElem?_toArray, List.getElem?_cons_succ, List.getElem?_cons_zero]; exact rfl) ?_
              exact ⟨Ext.refl _, rfl⟩
            · intros
              (try simp only [*])
              go_wp2_with (first | (refine ldiM S.out ?_) | (refine ldI S.out ?_) | (refine ldIs S.out ?_) | (refine wpList_want rfl rfl ?_; dsimp only) | fail)
              refine stepQ_mk rfl (by simp only [List.getElem?_toArray, List.getElem?_cons_succ, List.getElem?_cons_zero]; exact rfl) ?_
              exact ⟨Ext.refl _, rfl⟩
            · intros
              (try simp only [*])
              go_wp2_with (first | (refine ldiM S.out ?_) | (refine ldI S.out ?_) | (refine ldIs S.out ?_) | (refine wpList_want rfl rfl ?_; dsimp only) | fail)
              (with_reducible refine (IQ.out _ _ _ (S.out.grp.get 3 rfl rfl).ints (S.out.grp.get 5 rfl rfl).ints ((S.out.grp.get 3 rfl rfl).arg ln.1).fit).mono ?_)
              rintro e w9 ⟨v9, rfl, o9, x9⟩
              go_wp2
              refine stepQ_mk rfl (by simp only [List.getElem?_toArray, List.getElem?_cons_succ, List.getElem?_cons_zero]; exact rfl) ?_
              exact ⟨x9, v9, rfl, o9, fun q hq => (o9.block q hq).2⟩
            · intros
              obtain ⟨v3, e3, o3, b3⟩ := ‹∃ v, V 3 = _ ∧ Own _ _ v ms ∧ _›
              (try simp only [*])
              go_wp2_with (first | (refine ldiM S.out ?_) | (refine ldI S.out ?_) | (refine ldIs S.out ?_) | (refine wpList_want rfl rfl ?_; dsimp only) | fail)
              (with_reducible refine (IM.out _ _ o3.ints).mono ?_)
              rintro e w9 ⟨v9, rfl, o9, x9⟩
              go_wp2
              refine stepQ_mk rfl (by simp only [List.getElem?_toArray, List.getElem?_cons_succ, List.getElem?_cons_zero]; exact rfl) ?_
              exact ⟨x9, v9, rfl, o9, fun q hq => (o9.block q hq).2⟩
            · intros
              obtain ⟨v4, e4, o4, b4⟩ := ‹∃ v, V 4 = _ ∧ Own _ _ v ys ∧ _›
              (try simp only [*])
              go_wp2_with (first | (refine ldiM S.out ?_) | (refine ldI S.out ?_) | (refine ldIs S.out ?_) | (refine wpList_want rfl rfl ?_; dsimp only) | fail)
              (with_reducible refine (laws_sameMatrix R C _ _ ys _ S.out.grp.o0.ints o4.ints).mono ?_)
              rintro e w9 ⟨rfl, x9⟩
              go_wp2
              refine stepQ_mk rfl (by simp only [List.getElem?_toArray, List.getElem?_cons_succ, List.getElem?_cons_zero]; exact rfl) ?_
              exact ⟨x9, rfl⟩
            · intros
              (try simp only [*])
              go_wp2_with (first | (refine ldiM S.out ?_) | (refine ldI S.out ?_) | (refine ldIs S.out ?_) | (refine wpList_want rfl rfl ?_; dsimp only) | fail)
              refine stepQ_mk rfl (by simp only [List.getElem?_toArray, List.getElem?_cons_succ, List.getElem?_cons_zero]; exact rfl) ?_
              exact ⟨Ext.refl _, rfl⟩
          case hB => kernel_rfl
          case fin =>
            intro V lo up w' hr hf ha
            simp only [factsOk, isv, matR, modeNg, newb, List.map_nil, List.map_cons, List.headD_cons, and_true, Nat.zero_add, Nat.reduceAdd] at hf
            simp only [List.length_cons, List.length_nil, Nat.zero_add, Nat.reduceAdd, List.drop_succ_cons, List.drop_zero]
            obtain ⟨-, -, -, -, -, -, ⟨-, -, -, e6⟩⟩ := hf
            clear ha
            clear IQ IM
            rw [e6]
            clear e6
            replace S := Kept.mk (S.out.quiet hr)
            clear hr
            go_wp2_with (first | (refine aliM (L := []) S.out ?_; clear S; intro b3 w9 S) | (refine aliM (L := [_]) S.out ?_; clear S; intro b4 w9 S) | (refine aliM (L := [_, _]) S.out ?_; clear S; intro b5 w9 S) | (refine aliM (L := [_, _, _]) S.out ?_; clear S; intro b6 w9 S) | (refine aliM (L := [_, _, _, _]) S.out ?_; clear S; intro b7 w9 S) | (refine aliM (L := [_, _, _, _, _]) S.out ?_; clear S; intro b8 w9 S) | (refine ldiM S.out ?_) | (refine ldI S.out ?_) | (refine ldIs S.out ?_) | (refine stiM S.out ?_; clear S; intro w9 S) | (refine wpList_want rfl rfl ?_; dsimp only) | fail)
            go_loopw [9] (fun i wr => ∃ j : Nat, j ≤ T ∧ i = .int .i64 j ∧ St none w wr [⟨b8, 25, [.int .i64 R, .int .i64 C, .slice p4 ys.length m4]⟩, ⟨b7, 25, [.int .i64 R, .int .i64 1, .slice p9 (zerosL R).length m9]⟩, ⟨b6, 25, [.int .i64 R, .int .i64 C, .slice p3 ds.length m3]⟩, ⟨b5, 25, [.int .i64 r2, .int .i64 C, .slice p2 x2.length m2]⟩, ⟨b4, 25, [.int .i64 R, .int .i64 1, .slice p1 x1.length m1]⟩, ⟨b3, 25, [.int .i64 R, .int .i64 c0, .slice p0 x0.length m0]⟩] [.slice p4 ys.length m4, .slice p9 (zerosL R).length m9, .slice p3 ds.length m3, .slice p0 x0.length m0, .slice p1 x1.length m1, .slice p2 x2.length m2] [ys, zerosL R, ds, x0, x1, x2]) (fun i _ => T - (intOf i).toNat)
            case atStart => exact ⟨0, Nat.zero_le _, rfl, S.out⟩
            case round =>
              clear S
              obtain ⟨j, hj, rfl, S⟩ := hrel
              have S := Kept.mk S
              by_cases hlt : j < T
              · have hz1 : (j : Int) < (ds.length : Int) := by rw [HD.out]; exact Int.ofNat_lt.2 hlt
                have hz2 : (j : Int) < (ys.length : Int) := by rw [HY.out]; exact Int.ofNat_lt.2 hlt
                have QN : wrap64 ((j : Int) / (C : Int)) = ((j / C : Nat) : Int) := quo_nat (by have := L25.out; omega)
                have hd := DV.out j hlt
                have FDj := Kept.mk (FD.out j hlt)
                obtain ⟨d, hdd⟩ : ∃ d, d = j / C := ⟨_, rfl⟩
                rw [← hdd] at QN hd FDj
                clear hdd
                have hz3 : (d : Int) < (x1.length : Int) := by rw [HL.out]; exact Int.ofNat_lt.2 hd
                have hz3' : decide ((d : Int) ≥ (x1.length : Int)) = false := by simpa using hz3
                obtain ⟨q1, off1, es, lq1, cq1⟩ := at_len (S.out.grp.get 2 rfl rfl).ints rfl (n := j) (by rw [HD.out]; exact hlt)
                subst es
                obtain ⟨q2, off2, es, lq2, cq2⟩ := at_len (S.out.grp.get 0 rfl rfl).ints rfl (n := j) (by rw [HY.out]; exact hlt)
                subst es
                obtain ⟨q3, off3, es, lq3, cq3⟩ := at_len (S.out.grp.get 4 rfl rfl).ints rfl (n := d) (by rw [HL.out]; exact hd)
                subst es
                rw [FDj.out] at cq1
                generalize ys.getD j 0 = y0 at *
                generalize x1.getD d 0 = y1 at *
                have FA : Kept (∀ w, Calls Try.prog 13 #[.int .i64 y0, .int .i64 y1] w fun e w' => e = .returned (.int .i64 (addR y0 y1)) ∧ w = w') := ⟨fun w => impl_AddRing y0 y1 w⟩
                generalize addR y0 y1 = y2 at *
                have cz' : ¬ (C : Int) = 0 := cz.out
                have hj25 : j < 25 := Nat.lt_of_lt_of_le hlt L25.out
                clear FD DV HD HY HL hR5 L25 cz FDj sR sC ln
                go_wp2_with (first | (refine aliM (L := []) S.out ?_; clear S; intro b3 w9 S) | (refine aliM (L := [_]) S.out ?_; clear S; intro b4 w9 S) | (refine aliM (L := [_, _]) S.out ?_; clear S; intro b5 w9 S) | (refine aliM (L := [_, _, _]) S.out ?_; clear S; intro b6 w9 S) | (refine aliM (L := [_, _, _, _]) S.out ?_; clear S; intro b7 w9 S) | (refine aliM (L := [_, _, _, _, _]) S.out ?_; clear S; intro b8 w9 S) | (refine ldiM S.out ?_) | (refine ldI S.out ?_) | (refine ldIs S.out ?_) | (refine stiM S.out ?_; clear S; intro w9 S) | (refine wpList_want rfl rfl ?_; dsimp only) | fail)
                apply wp_region_zip [isv _, isv _, isv _, isv _, isv (.bool false), isv _, isv _, isv _, isv _, isv _, isv _, isv _, isv _, isv _, isv _, isv _, isv _, isv _, isv _, isv _, isv _, isv _, isv _, isv _] _ (by kernel_rfl)
                case hA => intro V; simp [putAll, dstOf, Act.put]; exact rfl
                case hsl => intro V; exact rfl
                case step =>
                  intro V lo up w' hr
                  have S := Kept.mk (S.out.quiet hr)
                  simp only [zipOk, depsImp, isv, modeNg, newb, waits, Region.binds, List.map_nil, List.map_cons, List.headD_cons, List.nil_append, List.cons_append, List.filterMap_cons, List.filterMap_nil, ↓reduceIte, modeNe, Bool.false_eq_true, true_implies, List.getD_cons_zero, List.getD_cons_succ, and_true]
                  refine ⟨?_, ?_, ?_, ?_, ?_, ?_, ?_, ?_, ?_, ?_, ?_, ?_, ?_, ?_, ?_, ?_, ?_, ?_, ?_, ?_, ?_, ?_, ?_, ?_⟩
                  · have d1 := (hr.cells.1 q1 (off1 + j) lq1).trans cq1
                    have d2 := (hr.cells.1 q2 (off2 + j) lq2).trans cq2
                    have d3 := (hr.cells.1 q3 (off3 + d) lq3).trans cq3
                    intros
                    (try simp only [*])
                    go_wp2_with (first | (refine ldIs S.out ?_) | (refine wpList_want rfl rfl ?_; dsimp only) | fail)
                    refine stepQ_mk rfl (by simp only [List.getElem?_toArray, List.getElem?_cons_succ, List.getElem?_cons_zero]; exact rfl) ?_
                    exact ⟨Ext.refl _, rfl⟩
                  · have d1 := (hr.cells.1 q1 (off1 + j) lq1).trans cq1
                    have d2 := (hr.cells.1 q2 (off2 + j) lq2).trans cq2
                    have d3 := (hr.cells.1 q3 (off3 + d) lq3).trans cq3
                    intros
                    (try simp only [*])
                    go_wp2_with (first | (refine ldIs S.out ?_) | (refine wpList_want rfl rfl ?_; dsimp only) | fail)
                    refine stepQ_mk rfl (by simp only [List.getElem?_toArray, List.getElem?_cons_succ, List.getElem?_cons_zero]; exact rfl) ?_
                    exact ⟨Ext.refl _, rfl⟩
                  · have d1 := (hr.cells.1 q1 (off1 + j) lq1).trans cq1
                    have d2 := (hr.cells.1 q2 (off2 + j) lq2).trans cq2
                    have d3 := (hr.cells.1 q3 (off3 + d) lq3).trans cq3
                    intros
                    (try simp only [*])
                    go_wp2_with (first | (refine ldIs S.out ?_) | (refine wpList_want rfl rfl ?_; dsimp only) | fail)
                    refine stepQ_mk rfl (by simp only [List.getElem?_toArray, List.getElem?_cons_succ, List.getElem?_cons_zero]; exact rfl) ?_
                    exact ⟨Ext.refl _, rfl⟩
                  · have d1 := (hr.cells.1 q1 (off1 + j) lq1).trans cq1
                    have d2 := (hr.cells.1 q2 (off2 + j) lq2).trans cq2
                    have d3 := (hr.cells.1 q3 (off3 + d) lq3).trans cq3
                    intros
                    (try simp only [*])
                    go_wp2_with (first | (refine ldIs S.out ?_) | (refine wpList_want rfl rfl ?_; dsimp only) | fail)
                    refine stepQ_mk rfl (by simp only [List.getElem?_toArray, List.getElem?_cons_succ, List.getElem?_cons_zero]; exact rfl) ?_
                    exact ⟨Ext.refl _, rfl⟩
                  · have d1 := (hr.cells.1 q1 (off1 + j) lq1).trans cq1
                    have d2 := (hr.cells.1 q2 (off2 + j) lq2).trans cq2
                    have d3 := (hr.cells.1 q3 (off3 + d) lq3).trans cq3
                    intros
                    (try simp only [*])
                    go_wp2_with (first | (refine ldIs S.out ?_) | (refine wpList_want rfl rfl ?_; dsimp only) | fail)
                    refine stepQ_mk rfl (by simp only [List.getElem?_toArray, List.getElem?_cons_succ, List.getElem?_cons_zero]; exact rfl) ?_
                    exact ⟨Ext.refl _, by first | rfl | exact congrArg Value.bool (decide_eq_false (Nat.not_le.2 (Int.ofNat_lt.1 hz3)))⟩
                  · have d1 := (hr.cells.1 q1 (off1 + j) lq1).trans cq1
                    have d2 := (hr.cells.1 q2 (off2 + j) lq2).trans cq2
                    have d3 := (hr.cells.1 q3 (off3 + d) lq3).trans cq3
                    intros
                    (try simp only [*])
                    go_wp2_with (first | (refine ldIs S.out ?_) | (refine wpList_want rfl rfl ?_; dsimp only) | fail)
                    refine stepQ_mk rfl (by simp only [List.getElem?_toArray, List.getElem?_cons_succ, List.getElem?_cons_zero]; exact rfl) ?_
                    exact ⟨Ext.refl _, rfl⟩
                  · have d1 := (hr.cells.1 q1 (off1 + j) lq1).trans cq1
                    have d2 := (hr.cells.1 q2 (off2 + j) lq2).trans cq2
                    have d3 := (hr.cells.1 q3 (off3 + d) lq3).trans cq3
                    intros
                    (try simp only [*])
                    go_wp2_with (first | (refine ldIs S.out ?_) | (refine wpList_want rfl rfl ?_; dsimp only) | fail)
                    refine stepQ_mk rfl (by simp only [List.getElem?_toArray, List.getElem?_cons_succ, List.getElem?_cons_zero]; exact rfl) ?_
                    exact ⟨Ext.refl _, rfl⟩
                  · have d1 := (hr.cells.1 q1 (off1 + j) lq1).trans cq1
                    have d2 := (hr.cells.1 q2 (off2 + j) lq2).trans cq2
                    have d3 := (hr.cells.1 q3 (off3 + d) lq3).trans cq3
                    intros
                    (try simp only [*])
                    go_wp2_with (first | (refine ldIs S.out ?_) | (refine wpList_want rfl rfl ?_; dsimp only) | fail)
                    refine stepQ_mk rfl (by simp only [List.getElem?_toArray, List.getElem?_cons_succ, List.getElem?_cons_zero]; exact rfl) ?_
                    exact ⟨Ext.refl _, rfl⟩
                  · have d1 := (hr.cells.1 q1 (off1 + j) lq1).trans cq1
                    have d2 := (hr.cells.1 q2 (off2 + j) lq2).trans cq2
                    have d3 := (hr.cells.1 q3 (off3 + d) lq3).trans cq3
                    intros
                    (try simp only [*])
                    go_wp2_with (first | (refine ldIs S.out ?_) | (refine wpList_want rfl rfl ?_; dsimp only) | fail)
                    refine stepQ_mk rfl (by simp only [List.getElem?_toArray, List.getElem?_cons_succ, List.getElem?_cons_zero]; exact rfl) ?_
                    exact ⟨Ext.refl _, rfl⟩
                  · have d1 := (hr.cells.1 q1 (off1 + j) lq1).trans cq1
                    have d2 := (hr.cells.1 q2 (off2 + j) lq2).trans cq2
                    have d3 := (hr.cells.1 q3 (off3 + d) lq3).trans cq3
                    intros
                    (try simp only [*])
                    go_wp2_with (first | (refine ldIs S.out ?_) | (refine wpList_want rfl rfl ?_; dsimp only) | fail)
                    refine stepQ_mk rfl (by simp only [List.getElem?_toArray, List.getElem?_cons_succ, List.getElem?_cons_zero]; exact rfl) ?_
                    exact ⟨Ext.refl _, rfl⟩
                  · have d1 := (hr.cells.1 q1 (off1 + j) lq1).trans cq1
                    have d2 := (hr.cells.1 q2 (off2 + j) lq2).trans cq2
                    have d3 := (hr.cells.1 q3 (off3 + d) lq3).trans cq3
                    intros
                    (try simp only [*])
                    go_wp2_with (first | (refine ldIs S.out ?_) | (refine wpList_want rfl rfl ?_; dsimp only) | fail)
                    refine stepQ_mk rfl (by simp only [List.getElem?_toArray, List.getElem?_cons_succ, List.getElem?_cons_zero]; exact rfl) ?_
                    exact ⟨Ext.refl _, rfl⟩
                  · have d1 := (hr.cells.1 q1 (off1 + j) lq1).trans cq1
                    have d2 := (hr.cells.1 q2 (off2 + j) lq2).trans cq2
                    have d3 := (hr.cells.1 q3 (off3 + d) lq3).trans cq3
                    intros
                    (try simp only [*])
                    go_wp2_with (first | (refine ldIs S.out ?_) | (refine wpList_want rfl rfl ?_; dsimp only) | fail)
                    refine stepQ_mk rfl (by simp only [List.getElem?_toArray, List.getElem?_cons_succ, List.getElem?_cons_zero]; exact rfl) ?_
                    exact ⟨Ext.refl _, rfl⟩
                  · have d1 := (hr.cells.1 q1 (off1 + j) lq1).trans cq1
                    have d2 := (hr.cells.1 q2 (off2 + j) lq2).trans cq2
                    have d3 := (hr.cells.1 q3 (off3 + d) lq3).trans cq3
                    intros
                    (try simp only [*])
                    go_wp2_with (first | (refine ldIs S.out ?_) | (refine wpList_want rfl rfl ?_; dsimp only) | fail)
                    refine stepQ_mk rfl (by simp only [List.getElem?_toArray, List.getElem?_cons_succ, List.getElem?_cons_zero]; exact rfl) ?_
                    exact ⟨Ext.refl _, rfl⟩
                  · have d1 := (hr.cells.1 q1 (off1 + j) lq1).trans cq1
                    have d2 := (hr.cells.1 q2 (off2 + j) lq2).trans cq2
                    have d3 := (hr.cells.1 q3 (off3 + d) lq3).trans cq3
                    intros
                    (try simp only [*])
                    go_wp2_with (first | (refine ldIs S.out ?_) | (refine wpList_want rfl rfl ?_; dsimp only) | fail)
                    refine stepQ_mk rfl (by simp only [List.getElem?_toArray, List.getElem?_cons_succ, List.getElem?_cons_zero]; exact rfl) ?_
                    exact ⟨Ext.refl _, rfl⟩
                  · have d1 := (hr.cells.1 q1 (off1 + j) lq1).trans cq1
                    have d2 := (hr.cells.1 q2 (off2 + j) lq2).trans cq2
                    have d3 := (hr.cells.1 q3 (off3 + d) lq3).trans cq3
                    intros
                    (try simp only [*])
                    go_wp2_with (first | (refine ldIs S.out ?_) | (refine wpList_want rfl rfl ?_; dsimp only) | fail)
                    refine stepQ_mk rfl (by simp only [List.getElem?_toArray, List.getElem?_cons_succ, List.getElem?_cons_zero]; exact rfl) ?_
                    exact ⟨Ext.refl _, rfl⟩
                  · have d1 := (hr.cells.1 q1 (off1 + j) lq1).trans cq1
                    have d2 := (hr.cells.1 q2 (off2 + j) lq2).trans cq2
                    have d3 := (hr.cells.1 q3 (off3 + d) lq3).trans cq3
                    intros
                    (try simp only [*])
                    go_wp2_with (first | (refine ldIs S.out ?_) | (refine wpList_want rfl rfl ?_; dsimp only) | fail)
                    refine stepQ_mk rfl (by simp only [List.getElem?_toArray, List.getElem?_cons_succ, List.getElem?_cons_zero]; exact rfl) ?_
                    exact ⟨Ext.refl _, rfl⟩
                  · have d1 := (hr.cells.1 q1 (off1 + j) lq1).trans cq1
                    have d2 := (hr.cells.1 q2 (off2 + j) lq2).trans cq2
                    have d3 := (hr.cells.1 q3 (off3 + d) lq3).trans cq3
                    intros
                    (try simp only [*])
                    go_wp2_with (first | (refine ldIs S.out ?_) | (refine wpList_want rfl rfl ?_; dsimp only) | fail)
                    refine stepQ_mk rfl (by simp only [List.getElem?_toArray, List.getElem?_cons_succ, List.getElem?_cons_zero]; exact rfl) ?_
                    exact ⟨Ext.refl _, rfl⟩
                  · have d1 := (hr.cells.1 q1 (off1 + j) lq1).trans cq1
                    have d2 := (hr.cells.1 q2 (off2 + j) lq2).trans cq2
                    have d3 := (hr.cells.1 q3 (off3 + d) lq3).trans cq3
                    intros
                    (try simp only [*])
                    go_wp2_with (first | (refine ldIs S.out ?_) | (refine wpList_want rfl rfl ?_; dsimp only) | fail)
                    refine stepQ_mk rfl (by simp only [List.getElem?_toArray, List.getElem?_cons_succ, List.getElem?_cons_zero]; exact rfl) ?_
                    exact ⟨Ext.refl _, rfl⟩
                  · have d1 := (hr.cells.1 q1 (off1 + j) lq1).trans cq1
                    have d2 := (hr.cells.1 q2 (off2 + j) lq2).trans cq2
                    have d3 := (hr.cells.1 q3 (off3 + d) lq3).trans cq3
                    intros
                    (try simp only [*])
                    go_wp2_with (first | (refine ldIs S.out ?_) | (refine wpList_want rfl rfl ?_; dsimp only) | fail)
                    refine stepQ_mk rfl (by simp only [List.getElem?_toArray, List.getElem?_cons_succ, List.getElem?_cons_zero]; exact rfl) ?_
                    exact ⟨Ext.refl _, rfl⟩
                  · have d1 := (hr.cells.1 q1 (off1 + j) lq1).trans cq1
                    have d2 := (hr.cells.1 q2 (off2 + j) lq2).trans cq2
                    have d3 := (hr.cells.1 q3 (off3 + d) lq3).trans cq3
                    intros
                    (try simp only [*])
                    go_wp2_with (first | (refine ldIs S.out ?_) | (refine wpList_want rfl rfl ?_; dsimp only) | fail)
                    refine stepQ_mk rfl (by simp only [List.getElem?_toArray, List.getElem?_cons_succ, List.getElem?_cons_zero]; exact rfl) ?_
                    exact ⟨Ext.refl _, rfl⟩
                  · have d1 := (hr.cells.1 q1 (off1 + j) lq1).trans cq1
                    have d2 := (hr.cells.1 q2 (off2 + j) lq2).trans cq2
                    have d3 := (hr.cells.1 q3 (off3 + d) lq3).trans cq3
                    intros
                    (try simp only [*])
                    go_wp2_with (first | (refine ldIs S.out ?_) | (refine wpList_want rfl rfl ?_; dsimp only) | fail)
                    refine stepQ_mk rfl (by simp only [List.getElem?_toArray, List.getElem?_cons_succ, List.getElem?_cons_zero]; exact rfl) ?_
                    exact ⟨Ext.refl _, rfl⟩
                  · intros
                    (try simp only [*])
                    go_wp2_with (first | (refine ldIs S.out ?_) | (refine wpList_want rfl rfl ?_; dsimp only) | fail)
                    (with_reducible refine (FA.out _).mono ?_)
                    rintro e w9 ⟨rfl, rfl⟩
                    go_wp2
                    refine stepQ_mk rfl (by simp only [List.getElem?_toArray, List.getElem?_cons_succ, List.getElem?_cons_zero]; exact rfl) ?_
                    exact ⟨Ext.refl _, rfl⟩
                  · have d1 := (hr.cells.1 q1 (off1 + j) lq1).trans cq1
                    have d2 := (hr.cells.1 q2 (off2 + j) lq2).trans cq2
                    have d3 := (hr.cells.1 q3 (off3 + d) lq3).trans cq3
                    intros
                    (try simp only [*])
                    go_wp2_with (first | (refine ldIs S.out ?_) | (refine wpList_want rfl rfl ?_; dsimp only) | fail)
                    refine stepQ_mk rfl (by simp only [List.getElem?_toArray, List.getElem?_cons_succ, List.getElem?_cons_zero]; exact rfl) ?_
                    exact ⟨Ext.refl _, rfl⟩
                  · intros
                    (try simp only [*])
                    go_wp2_with (first | (refine ldIs S.out ?_) | (refine wpList_want rfl rfl ?_; dsimp only) | fail)
                    refine stepQ_mk rfl (by simp only [List.getElem?_toArray, List.getElem?_cons_succ, List.getElem?_cons_zero]; exact rfl) ?_
                    exact ⟨Ext.refl _, rfl⟩
                case hB => kernel_rfl
                case fin =>
                  intro V lo up w' hr hf ha
                  simp only [factsOk, isv, modeNg, newb, List.map_nil, List.map_cons, List.headD_cons, and_true, Nat.zero_add, Nat.reduceAdd] at hf
                  simp only [List.length_cons, List.length_nil, Nat.zero_add, Nat.reduceAdd, List.drop_succ_cons, List.drop_zero]
                  obtain ⟨-, -, -, -, -, -, -, -, -, -, -, -, -, -, -, -, -, -, -, -, -, -, -, ⟨-, -, -, e23⟩⟩ := hf
                  clear ha
                  rw [e23]
                  clear e23
                  replace S := Kept.mk (S.out.quiet hr)
                  clear hr
                  go_wp2_with (first | (refine aliM (L := []) S.out ?_; clear S; intro b3 w9 S) | (refine aliM (L := [_]) S.out ?_; clear S; intro b4 w9 S) | (refine aliM (L := [_, _]) S.out ?_; clear S; intro b5 w9 S) | (refine aliM (L := [_, _, _]) S.out ?_; clear S; intro b6 w9 S) | (refine aliM (L := [_, _, _, _]) S.out ?_; clear S; intro b7 w9 S) | (refine aliM (L := [_, _, _, _, _]) S.out ?_; clear S; intro b8 w9 S) | (refine ldiM S.out ?_) | (refine ldI S.out ?_) | (refine ldIs S.out ?_) | (refine stiM S.out ?_; clear S; intro w9 S) | (refine wpList_want rfl rfl ?_; dsimp only) | fail)
                  go_roundw
                  case rel => exact ⟨j + 1, by omega, by go_num, S.out⟩
                  case measure => simp [intOf]; omega

              · have e : j = T := by omega
                subst e
                have hz1 : ¬ (j : Int) < (ds.length : Int) := by rw [HD.out]; omega
                go_wp2_with (first | (refine aliM (L := []) S.out ?_; clear S; intro b3 w9 S) | (refine aliM (L := [_]) S.out ?_; clear S; intro b4 w9 S) | (refine aliM (L := [_, _]) S.out ?_; clear S; intro b5 w9 S) | (refine aliM (L := [_, _, _]) S.out ?_; clear S; intro b6 w9 S) | (refine aliM (L := [_, _, _, _]) S.out ?_; clear S; intro b7 w9 S) | (refine aliM (L := [_, _, _, _, _]) S.out ?_; clear S; intro b8 w9 S) | (refine ldiM S.out ?_) | (refine ldI S.out ?_) | (refine ldIs S.out ?_) | (refine stiM S.out ?_; clear S; intro w9 S) | (refine wpList_want rfl rfl ?_; dsimp only) | fail)
                go_ret
                exact ⟨rfl, S.out.ext⟩
  · have hl' : ¬ (n : Int) ≤ 1048576 := hl
    have hg : (1048576 : Int) < n := by omega
    clear hl
    go_enter Try.func3, Try.ntmps3
    go_wp2_with (fail)
    go_ret
    exact ⟨rfl, S.out.ext⟩
end Go.Proofs.Ytpbnbhiffnnliaa
