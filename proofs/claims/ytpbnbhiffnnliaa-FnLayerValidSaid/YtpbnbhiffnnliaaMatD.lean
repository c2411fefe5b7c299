/- Matrices that are drawn from a code. -/
import Derived.Test.YtpbnbhiffnnliaaKF
import Derived.Test.YtpbnbhiffnnliaaKZ
import Derived.Test.YtpbnbhiffnnliaaKC
namespace Go.Proofs.Ytpbnbhiffnnliaa
set_option linter.unusedSimpArgs false
set_option linter.unusedVariables false
open Go.RowKit
/-- A new slice of n integers. -/
def newI {g n0 : Nat} (hg : g < n0) (n : Nat) : OpSpec (Mod g) n0 :=
  ⟨[], fun _ u lo up w => u = .slice (some ⟨lo, 0, none⟩) n n ∧ ∃ cs : List Int, cs.length = n ∧ Blk w lo (rowI cs).toArray 3, fun _ _ _ _ _ _ h0 _ _ hx ⟨h1, cs, h2, h3⟩ => ⟨h1, cs, h2, hx.blk h3 (by omega)⟩⟩
/-- The address of one of the cells of such a slice. -/
def ixI {g n0 : Nat} (hg : g < n0) : OpSpec (Mod g) n0 :=
  ⟨[], fun _ u _ _ w => ∃ (b x : Nat) (cs : List Int), u = .pointer (some ⟨b, x, none⟩) ∧ x < cs.length ∧ n0 ≤ b ∧ Blk w b (rowI cs).toArray 3, fun _ _ _ _ _ _ _ _ _ hx ⟨b, x, cs, h1, h2, h3, h4⟩ => ⟨b, x, cs, h1, h2, h3, hx.blk h4 (by omega)⟩⟩
theorem Blk.intAt {w : World} {b x : Nat} {cs : List Int} (h : Blk w b (rowI cs).toArray 3) (hx : x < cs.length) : ∃ y : Int, w.cell? ⟨b, x, none⟩ = some (.int .i64 y) := ⟨cs[x], by rw [h.cell]; simp [rowI, hx]⟩
def LessBy (m d : Int) (u : Value) : Prop := ∃ x : Nat, u = .int .i64 ((x : Int) - d) ∧ (x : Int) < m
/-- A matrix of whatever sides with a list of the call's own, from B on. -/
def IsMat (B : Nat) (w : World) (u : Value) : Prop := ∃ (r c : Int) (v : Value) (xs : List Int), u = .agg #[.int .i64 r, .int .i64 c, v] ∧ Own B w v xs ∧ xs.length ≤ 1048576
/-- A side, or one more. -/
structure Sd (n : Nat) : Prop where
  lo : 1 ≤ n
  hi : n ≤ 6
theorem Side.sd {n : Nat} (h : Side n) : Sd n := ⟨h.lo, Nat.le_trans h.hi (by decide)⟩

set_option maxHeartbeats 4000000 in
set_option maxRecDepth 4000 in
theorem mat20 (g P R C : Nat) (n : Int) (hR : Sd R) (hC : Sd C) (HN : Bnd n) (HP : Room (P + 6000)) (w : World) (hr : Rdr g P w) : Calls Try.prog 22 #[.pointer (some ⟨g, 0, none⟩), .int .i64 R, .int .i64 C, .int .i64 n] w fun e w' => ∃ v, e = .returned v ∧ IsMat w.heap.size w' v ∧ Rdr g (P + 6000) w' ∧ Mod g w w' := by
  obtain ⟨L, hL⟩ : ∃ L : Nat, L = R * C := ⟨_, rfl⟩
  have hL1 : 1 ≤ L := by rw [hL]; exact Nat.mul_pos hR.lo hC.lo
  have hL2 : L ≤ 36 := by rw [hL]; exact Nat.le_trans (Nat.mul_le_mul hR.hi hC.hi) (by decide)
  have eL : (R : Int) * (C : Int) = (L : Int) := by rw [hL, Int.natCast_mul]
  have WM : wrap64 ((R : Int) * (C : Int)) = (L : Int) := by rw [eL]; unfold wrap64; omega
  have R7 : (R : Int) ≤ 6 := by have := hR.hi; omega
  have C7 : (C : Int) ≤ 6 := by have := hC.hi; omega
  have S := Kept.mk (St.startR hr)
  clear hr hL hR hC eL
  go_enter Try.func22, Try.ntmps22
  go_wp2_with (first | (refine aliM (L := []) S.out ?_; clear S; intro gr w9 S) | (refine aliM (L := [_]) S.out ?_; clear S; intro gm w9 S) | (refine ldiM S.out ?_) | (refine ldIs S.out ?_) | (refine ldI S.out ?_) | (refine stiM S.out ?_; clear S; intro w9 S) | (refine stIs S.out ?_; clear S; intro w9 S) | (refine stI S.out ?_; clear S; intro w9 S) | (refine wpList_want rfl rfl ?_; dsimp only) | fail)
  go_loopw [10] (fun i wr => ∃ (k : Nat) (v : Value) (xs : List Int), k ≤ L ∧ i = .int .i64 k ∧ xs.length = k ∧ St (some (g, P + 160 * k)) w wr [⟨gm, 25, [.int .i64 R, .int .i64 C, v]⟩, ⟨gr, 25, [.int .i64 0, .int .i64 0, .slice none 0 0]⟩] [v] [xs]) (fun i _ => L - (intOf i).toNat)
  case atStart => exact ⟨0, _, [], Nat.zero_le _, rfl, rfl, S.out.made (Own.nil _ _) (Ext.refl _)⟩
  case round =>
    clear S
    obtain ⟨k, v, xs, hk, rfl, hxl, S⟩ := hrel
    have S := Kept.mk S
    by_cases hlt : k < L
    · have HXL := Kept.mk hxl
      have hx9 : xs.length + 1 ≤ 1099511627776 := by omega
      clear hxl
      have hltZ : (k : Int) < (L : Int) := by omega
      go_wp2_with (first | (refine ldiM S.out ?_) | (refine ldIs S.out ?_) | (refine ldI S.out ?_) | (refine stiM S.out ?_; clear S; intro w9 S) | (refine stIs S.out ?_; clear S; intro w9 S) | (refine stI S.out ?_; clear S; intro w9 S) | (refine wpList_want rfl rfl ?_; dsimp only) | fail)
      have hlt := S.out.rdr.lt
      apply wp_region_zipJ (Mod.rel g) (fun m w' => Rdr g (P + 160 * k + 10 * (15 - m)) w') [isv _, isv _, isv _, isP (Lt 64), isP (LessBy 64 32), isP AnInt, isv _, isP AnInt, newI hlt 2, isv _, isP (Lt 4), isP (Lt 2), ixI hlt, isP AnInt, newI hlt 1] _ ?hJ (by kernel_rfl)
      case hJ => exact (S.out.rdr.keep ⟨rfl, rfl, rfl, Nat.le_refl _, fun _ _ => rfl⟩).mono (by first | (simp; done) | (simp; omega) | omega) (HP.le (by first | (simp; done) | (simp; omega) | omega))
      case hA => intro V; simp [putAll, dstOf, Act.put]; exact rfl
      case hsl => intro V; exact rfl
      case step =>
        intro V lo up w' hr m hm hj
        simp only [List.length_cons, List.length_nil, Nat.zero_add, Nat.reduceAdd] at hm
        have RJ : Rdr g (P + 160 * k + 10 * (15 - m)) w' := hj.mono (by omega) (HP.le (by omega))
        have S := Kept.mk (S.out.read RJ hr)
        simp only [zipOkJ, depsImp, isv, isP, newI, ixI, waits, Region.binds, List.map_nil, List.map_cons, List.headD_cons, List.nil_append, List.cons_append, List.filterMap_cons, List.filterMap_nil, ↓reduceIte, modeNe, Bool.false_eq_true, true_implies, List.getD_cons_zero, List.getD_cons_succ, and_true]
        refine ⟨?_, ?_, ?_, ?_, ?_, ?_, ?_, ?_, ?_, ?_, ?_, ?_, ?_, ?_, ?_⟩
        · intros
          (try simp only [*])
          go_wp2_with (first | (refine ldiM S.out ?_) | (refine ldIs S.out ?_) | (refine ldI S.out ?_) | (refine stiM S.out ?_; clear S; intro w9 S) | (refine stIs S.out ?_; clear S; intro w9 S) | (refine stI S.out ?_; clear S; intro w9 S) | (refine wpList_want rfl rfl ?_; dsimp only) | fail)
          refine stepQ_mk rfl (by simp only [List.getElem?_toArray, List.getElem?_cons_succ, List.getElem?_cons_zero]; exact rfl) ?_
          exact ⟨Mod.refl _ _, rfl, RJ⟩
        · intros
          (try simp only [*])
          go_wp2_with (first | (refine ldiM S.out ?_) | (refine ldIs S.out ?_) | (refine ldI S.out ?_) | (refine stiM S.out ?_; clear S; intro w9 S) | (refine stIs S.out ?_; clear S; intro w9 S) | (refine stI S.out ?_; clear S; intro w9 S) | (refine wpList_want rfl rfl ?_; dsimp only) | fail)
          refine stepQ_mk rfl (by simp only [List.getElem?_toArray, List.getElem?_cons_succ, List.getElem?_cons_zero]; exact rfl) ?_
          exact ⟨Mod.refl _ _, rfl, RJ⟩
        · intros
          (try simp only [*])
          go_wp2_with (first | (refine ldiM S.out ?_) | (refine ldIs S.out ?_) | (refine ldI S.out ?_) | (refine stiM S.out ?_; clear S; intro w9 S) | (refine stIs S.out ?_; clear S; intro w9 S) | (refine stI S.out ?_; clear S; intro w9 S) | (refine wpList_want rfl rfl ?_; dsimp only) | fail)
          refine stepQ_mk rfl (by simp only [List.getElem?_toArray, List.getElem?_cons_succ, List.getElem?_cons_zero]; exact rfl) ?_
          exact ⟨Mod.refl _ _, rfl, RJ⟩
        · intros
          go_wp2_with (fail)
          (with_reducible refine (pick g _ _ (HP.le (by omega)) _ hj).mono ?_)
          rintro e w7 ⟨v7, rfl, ⟨x, rfl, hx, -⟩, hr7, hm7⟩
          go_wp2
          refine stepQ_mk rfl (by simp only [List.getElem?_toArray, List.getElem?_cons_succ, List.getElem?_cons_zero]; exact rfl) ?_
          exact ⟨hm7, ⟨x, rfl, hx (by omega)⟩, hr7.mono (by omega) (HP.le (by omega))⟩
        · intro _ _ _ ⟨x, e3, lx⟩
          intros
          go_wp2
          refine stepQ_mk rfl (by simp only [List.getElem?_toArray, List.getElem?_cons_succ, List.getElem?_cons_zero]; exact rfl) ?_
          exact ⟨Mod.refl _ _, ⟨x, rfl, lx⟩, RJ⟩
        · intro _ _ _ ⟨x, e4, lx⟩
          intros
          go_wp2_with (fail)
          (with_reducible refine (spec_l1Ring _ _).mono ?_)
          rintro e wr ⟨rfl, rfl⟩
          go_wp2
          refine stepQ_mk rfl (by simp only [List.getElem?_toArray, List.getElem?_cons_succ, List.getElem?_cons_zero]; exact rfl) ?_
          exact ⟨Mod.refl _ _, ⟨_, rfl⟩, RJ⟩
        · intros
          (try simp only [*])
          go_wp2_with (first | (refine ldiM S.out ?_) | (refine ldIs S.out ?_) | (refine ldI S.out ?_) | (refine stiM S.out ?_; clear S; intro w9 S) | (refine stIs S.out ?_; clear S; intro w9 S) | (refine stI S.out ?_; clear S; intro w9 S) | (refine wpList_want rfl rfl ?_; dsimp only) | fail)
          refine stepQ_mk rfl (by simp only [List.getElem?_toArray, List.getElem?_cons_succ, List.getElem?_cons_zero]; exact rfl) ?_
          exact ⟨Mod.refl _ _, rfl, RJ⟩
        · intros
          go_wp2_with (fail)
          (with_reducible refine (ring20 g _ 0 ⟨by omega, by omega⟩ (HP.le (by omega)) _ hj).mono ?_)
          rintro e w7 ⟨v7, rfl, ⟨x, rfl, -⟩, hr7, hm7⟩
          go_wp2
          refine stepQ_mk rfl (by simp only [List.getElem?_toArray, List.getElem?_cons_succ, List.getElem?_cons_zero]; exact rfl) ?_
          exact ⟨hm7, ⟨x, rfl⟩, hr7.mono (by omega) (HP.le (by omega))⟩
        · intro _ _ _ ⟨x, e5⟩ _ _ _ ⟨y, e7⟩
          intros
          go_wp2
          refine stepQ_mk rfl (by simp only [List.getElem?_toArray, List.getElem?_cons_succ, List.getElem?_cons_zero]; exact rfl) ?_
          exact ⟨Mod.of_ext ((Ext.refl _).alloc _), ⟨rfl, [x, y], rfl, Blk.new _ _ _⟩, RJ.keep ((Ext.refl _).alloc _)⟩
        · intros
          (try simp only [*])
          go_wp2_with (first | (refine ldiM S.out ?_) | (refine ldIs S.out ?_) | (refine ldI S.out ?_) | (refine stiM S.out ?_; clear S; intro w9 S) | (refine stIs S.out ?_; clear S; intro w9 S) | (refine stI S.out ?_; clear S; intro w9 S) | (refine wpList_want rfl rfl ?_; dsimp only) | fail)
          refine stepQ_mk rfl (by simp only [List.getElem?_toArray, List.getElem?_cons_succ, List.getElem?_cons_zero]; exact rfl) ?_
          exact ⟨Mod.refl _ _, rfl, RJ⟩
        · intros
          go_wp2_with (fail)
          (with_reducible refine (pick g _ _ (HP.le (by omega)) _ hj).mono ?_)
          rintro e w7 ⟨v7, rfl, ⟨x, rfl, hx, -⟩, hr7, hm7⟩
          go_wp2
          refine stepQ_mk rfl (by simp only [List.getElem?_toArray, List.getElem?_cons_succ, List.getElem?_cons_zero]; exact rfl) ?_
          exact ⟨hm7, ⟨x, rfl, hx (by omega)⟩, hr7.mono (by omega) (HP.le (by omega))⟩
        · intro _ _ _ ⟨x, e10, lx⟩
          have hq : wrap64 ((x : Int) / 3) = ((x / 3 : Nat) : Int) := by unfold wrap64; omega
          intros
          go_wp2
          refine stepQ_mk rfl (by simp only [List.getElem?_toArray, List.getElem?_cons_succ, List.getElem?_cons_zero]; exact rfl) ?_
          exact ⟨Mod.refl _ _, ⟨x / 3, rfl, by omega⟩, RJ⟩
        · intro s1 _ _ ⟨e8, cs, l8, k8⟩ _ _ _ ⟨x, e11, l11⟩
          intros
          go_wp2
          refine stepQ_mk rfl (by simp only [List.getElem?_toArray, List.getElem?_cons_succ, List.getElem?_cons_zero]; exact rfl) ?_
          exact ⟨Mod.refl _ _, ⟨_, x, cs, rfl, by omega, s1, k8⟩, RJ⟩
        · intro _ _ _ ⟨b, x, cs, e12, lx, lb, kb⟩
          obtain ⟨y, hy⟩ := kb.intAt lx
          intros
          go_wp2
          refine stepQ_mk rfl (by simp only [List.getElem?_toArray, List.getElem?_cons_succ, List.getElem?_cons_zero]; exact rfl) ?_
          exact ⟨Mod.refl _ _, ⟨y, rfl⟩, RJ⟩
        · intro _ _ _ ⟨y, e13⟩
          intros
          go_wp2
          refine stepQ_mk rfl (by simp only [List.getElem?_toArray, List.getElem?_cons_succ, List.getElem?_cons_zero]; exact rfl) ?_
          exact ⟨Mod.of_ext ((Ext.refl _).alloc _), ⟨rfl, [y], rfl, Blk.new _ _ _⟩, RJ.keep ((Ext.refl _).alloc _)⟩
      case hB => kernel_rfl
      case fin =>
        intro V lo up w' hr hj hf ha
        simp only [factsOk, isv, isP, newI, ixI, List.map_nil, List.map_cons, List.headD_cons, and_true, Nat.zero_add, Nat.reduceAdd] at hf
        simp only [List.length_cons, List.length_nil, Nat.zero_add, Nat.reduceAdd, List.drop_succ_cons, List.drop_zero]
        obtain ⟨-, ⟨-, -, -, e1⟩, -, -, -, -, -, -, -, -, -, -, -, -, ⟨-, -, -, e14, cs, lc, k14⟩⟩ := hf
        clear ha
        have RJ : Rdr g (P + 160 * k + 150) w' := hj.mono (by omega) (HP.le (by omega))
        clear hj
        replace S := Kept.mk (S.out.read RJ hr)
        clear RJ hr
        obtain ⟨y, rfl⟩ := List.length_eq_one_iff.1 lc
        rw [e1, e14]
        clear e1 e14
        go_wp2_with (first | (at_builtin; refine wpList_append_one rfl _ _ rfl w.heap.size _ xs rfl S.out.grp.o0 _ y rfl k14 hx9 S.out.size ?_; intro v' w8 o8 t8; have S9 := Kept.mk (S.out.grown t8 o8 (by intro p hp; simp only [List.mem_cons, List.not_mem_nil, or_false] at hp; rcases hp with rfl | rfl <;> exact (by decide : (25 : TypeId) ≠ 3))); clear S t8; have S := S9; clear S9; obtain ⟨p2, m2, hu9, -, -⟩ := id o8.ints; (try simp only [List.length_append, List.length_cons, List.length_nil, Nat.zero_add] at hu9); (try rw [HXL.out] at hu9); subst hu9; clear o8) | (refine ldiM S.out ?_) | (refine ldIs S.out ?_) | (refine ldI S.out ?_) | (refine stiM S.out ?_; clear S; intro w9 S) | (refine stIs S.out ?_; clear S; intro w9 S) | (refine stI S.out ?_; clear S; intro w9 S) | (refine wpList_want rfl rfl ?_; dsimp only) | fail)
        go_roundw
        case rel => exact ⟨k + 1, .slice p2 (k + 1) m2, xs ++ [y], by omega, by go_num, by rw [List.length_append, HXL.out]; rfl, S.out.more (m := P + 160 * (k + 1)) (by omega) (HP.le (by omega))⟩
        case measure => simp [intOf]; omega

    · have e : k = L := by omega
      subst e
      subst hxl
      clear hlt hk
      have hltZ : ¬ (xs.length : Int) < (xs.length : Int) := by omega
      obtain ⟨p2, m2, hu9, -, -⟩ := id S.out.own.ints
      try simp only at hu9
      subst hu9
      go_wp2_with (first | (refine ldiM S.out ?_) | (refine ldIs S.out ?_) | (refine ldI S.out ?_) | (refine stiM S.out ?_; clear S; intro w9 S) | (refine stIs S.out ?_; clear S; intro w9 S) | (refine stI S.out ?_; clear S; intro w9 S) | (refine wpList_want rfl rfl ?_; dsimp only) | fail)
      (with_reducible refine (odd g _ n HN (HP.le (by omega)) _ S.out.rdr).mono ?_)
      rintro e u9 ⟨v7, rfl, ⟨b7, rfl⟩, hr7, hm7⟩
      replace S := Kept.mk (S.out.read hr7 hm7)
      clear hr7 hm7
      clear hltZ
      cases b7
      · go_wp2_with (first | (refine ldiM S.out ?_) | (refine ldIs S.out ?_) | (refine ldI S.out ?_) | (refine stiM S.out ?_; clear S; intro w9 S) | (refine stIs S.out ?_; clear S; intro w9 S) | (refine stI S.out ?_; clear S; intro w9 S) | (refine wpList_want rfl rfl ?_; dsimp only) | fail)
        exact bodyPost_ret (v := .agg #[.int .i64 R, .int .i64 C, .slice p2 xs.length m2]) (by exact res1 rfl (by exact (rsiM S.out))) rfl ⟨_, rfl, ⟨_, _, _, _, rfl, S.out.own, by omega⟩, S.out.rdr.mono (by omega) HP, S.out.mod⟩
      · go_wp2_with (first | (refine ldiM S.out ?_) | (refine ldIs S.out ?_) | (refine ldI S.out ?_) | (refine stiM S.out ?_; clear S; intro w9 S) | (refine stIs S.out ?_; clear S; intro w9 S) | (refine stI S.out ?_; clear S; intro w9 S) | (refine wpList_want rfl rfl ?_; dsimp only) | fail)
        (with_reducible refine (pick g _ _ (HP.le (by omega)) _ S.out.rdr).mono ?_)
        rintro e u9 ⟨v7, rfl, ⟨x7, rfl, h7, -⟩, hr7, hm7⟩
        replace S := Kept.mk (S.out.read hr7 hm7)
        clear hr7 hm7
        have l7 : (x7 : Int) < 4 := h7 (by omega)
        clear h7
        by_cases e0 : x7 = 0
        · subst e0
          go_wp2_with (first | (refine ldiM S.out ?_) | (refine ldIs S.out ?_) | (refine ldI S.out ?_) | (refine stiM S.out ?_; clear S; intro w9 S) | (refine stIs S.out ?_; clear S; intro w9 S) | (refine stI S.out ?_; clear S; intro w9 S) | (refine wpList_want rfl rfl ?_; dsimp only) | fail)
          replace S := Kept.mk (S.out.alloc 3 [.int .i64 0, .int .i64 6, .int .i64 (-1)])
          (with_reducible refine (pick g _ _ (HP.le (by omega)) _ S.out.rdr).mono ?_)
          rintro e u9 ⟨v7, rfl, ⟨x8, rfl, h8, -⟩, hr7, hm7⟩
          replace S := Kept.mk (S.out.read hr7 hm7)
          clear hr7 hm7
          have l8 : (x8 : Int) < 3 := h8 (by omega)
          clear h8
          obtain ⟨y, hy⟩ := Blk.intAt (cs := [0, 6, -1]) (S.out.box _ (List.Mem.head _)).1 (x := x8) (by show x8 < 3; omega)
          replace S := Kept.mk (S.out.boxes (List.sublist_cons_self _ _))
          go_wp2_with (first | (refine ldiM S.out ?_) | (refine ldIs S.out ?_) | (refine ldI S.out ?_) | (refine stiM S.out ?_; clear S; intro w9 S) | (refine stIs S.out ?_; clear S; intro w9 S) | (refine stI S.out ?_; clear S; intro w9 S) | (refine wpList_want rfl rfl ?_; dsimp only) | fail)
          exact bodyPost_ret (v := .agg #[.int .i64 y, .int .i64 C, .slice p2 xs.length m2]) (by exact res1 rfl (by exact (rsiM S.out))) rfl ⟨_, rfl, ⟨_, _, _, _, rfl, S.out.own, by omega⟩, S.out.rdr.mono (by omega) HP, S.out.mod⟩
        · have n0 : ((x7 : Int) == 0) = false := by simp; omega
          by_cases e1 : x7 = 1
          · subst e1
            have w1 : wrap64 ((C : Int) + 1) = (C : Int) + 1 := by unfold wrap64; omega
            go_wp2_with (first | (refine ldiM S.out ?_) | (refine ldIs S.out ?_) | (refine ldI S.out ?_) | (refine stiM S.out ?_; clear S; intro w9 S) | (refine stIs S.out ?_; clear S; intro w9 S) | (refine stI S.out ?_; clear S; intro w9 S) | (refine wpList_want rfl rfl ?_; dsimp only) | fail)
            exact bodyPost_ret (v := .agg #[.int .i64 R, .int .i64 ((C : Int) + 1), .slice p2 xs.length m2]) (by exact res1 rfl (by exact (rsiM S.out))) rfl ⟨_, rfl, ⟨_, _, _, _, rfl, S.out.own, by omega⟩, S.out.rdr.mono (by omega) HP, S.out.mod⟩
          · have n1 : ((x7 : Int) == 1) = false := by simp; omega
            by_cases e2 : x7 = 2
            · subst e2
              go_wp2_with (first | (at_builtin; replace S := Kept.mk (S.out.alloc 3 [.int .i64 1]); refine wpList_append_one rfl _ _ rfl w.heap.size _ xs rfl S.out.grp.o0 _ 1 rfl (S.out.box _ (List.Mem.head _)).1 (by omega) S.out.size ?_; intro v' w8 o8 t8; have S9 := Kept.mk ((S.out.boxes (List.sublist_cons_self _ _)).grown t8 o8 (by intro p hp; simp only [List.mem_cons, List.not_mem_nil, or_false] at hp; rcases hp with rfl | rfl <;> exact (by decide : (25 : TypeId) ≠ 3))); clear S t8; have S := S9; clear S9; obtain ⟨p3, m3, hu9, -, -⟩ := id o8.ints; (try simp only [List.length_append, List.length_cons, List.length_nil, Nat.zero_add] at hu9); (try rw [HXL.out] at hu9); subst hu9; clear o8) | (refine ldiM S.out ?_) | (refine ldIs S.out ?_) | (refine ldI S.out ?_) | (refine stiM S.out ?_; clear S; intro w9 S) | (refine stIs S.out ?_; clear S; intro w9 S) | (refine stI S.out ?_; clear S; intro w9 S) | (refine wpList_want rfl rfl ?_; dsimp only) | fail)
              exact bodyPost_ret (v := .agg #[.int .i64 R, .int .i64 C, .slice p3 (xs.length + 1) m3]) (by exact res1 rfl (by exact (rsiM S.out))) rfl ⟨_, rfl, ⟨_, _, _, _, rfl, S.out.own, by simp; omega⟩, S.out.rdr.mono (by omega) HP, S.out.mod⟩
            · have n2 : ((x7 : Int) == 2) = false := by simp; omega
              obtain ⟨q, cap, hq, bq, lq, -⟩ := S.out.own.form (by omega)
              cases hq
              have lc0 : (0 : Int) < (xs.length : Int) := by omega
              go_wp2_with (first | (refine ldiM S.out ?_) | (refine ldIs S.out ?_) | (refine ldI S.out ?_) | (refine stiM S.out ?_; clear S; intro w9 S) | (refine stIs S.out ?_; clear S; intro w9 S) | (refine stI S.out ?_; clear S; intro w9 S) | (refine wpList_want rfl rfl ?_; dsimp only) | fail)
              have hlt := S.out.rdr.lt
              apply wp_region_zipJ (Mod.rel g) (fun m w' => Rdr g (P + 160 * xs.length + 1 + 1 + 10 * (8 - m)) w') [isv _, isv _, newI hlt 2, isv _, isP (Lt 2), ixI hlt, isP AnInt, isv _] _ ?hJ (by kernel_rfl)
              case hJ => exact (S.out.rdr.keep ⟨rfl, rfl, rfl, Nat.le_refl _, fun _ _ => rfl⟩).mono (by first | (simp; done) | (simp; omega) | omega) (HP.le (by first | (simp; done) | (simp; omega) | omega))
              case hA => intro V; simp [putAll, dstOf, Act.put]; exact rfl
              case hsl => intro V; exact rfl
              case step =>
                intro V lo up w' hr m hm hj
                simp only [List.length_cons, List.length_nil, Nat.zero_add, Nat.reduceAdd] at hm
                have RJ : Rdr g (P + 160 * xs.length + 1 + 1 + 10 * (8 - m)) w' := hj.mono (by omega) (HP.le (by omega))
                have S := Kept.mk (S.out.read RJ hr)
                simp only [zipOkJ, depsImp, isv, isP, newI, ixI, waits, Region.binds, List.map_nil, List.map_cons, List.headD_cons, List.nil_append, List.cons_append, List.filterMap_cons, List.filterMap_nil, ↓reduceIte, modeNe, Bool.false_eq_true, true_implies, List.getD_cons_zero, List.getD_cons_succ, and_true]
                refine ⟨?_, ?_, ?_, ?_, ?_, ?_, ?_, ?_⟩
                · intros
                  (try simp only [*])
                  go_wp2_with (first | (refine ldiM S.out ?_) | (refine ldIs S.out ?_) | (refine ldI S.out ?_) | (refine stiM S.out ?_; clear S; intro w9 S) | (refine stIs S.out ?_; clear S; intro w9 S) | (refine stI S.out ?_; clear S; intro w9 S) | (refine wpList_want rfl rfl ?_; dsimp only) | fail)
                  refine stepQ_mk rfl (by simp only [List.getElem?_toArray, List.getElem?_cons_succ, List.getElem?_cons_zero]; exact rfl) ?_
                  exact ⟨Mod.refl _ _, rfl, RJ⟩
                · intros
                  (try simp only [*])
                  go_wp2_with (first | (refine ldiM S.out ?_) | (refine ldIs S.out ?_) | (refine ldI S.out ?_) | (refine stiM S.out ?_; clear S; intro w9 S) | (refine stIs S.out ?_; clear S; intro w9 S) | (refine stI S.out ?_; clear S; intro w9 S) | (refine wpList_want rfl rfl ?_; dsimp only) | fail)
                  refine stepQ_mk rfl (by simp only [List.getElem?_toArray, List.getElem?_cons_succ, List.getElem?_cons_zero]; exact rfl) ?_
                  exact ⟨Mod.refl _ _, rfl, RJ⟩
                · intros
                  go_wp2
                  refine stepQ_mk rfl (by simp only [List.getElem?_toArray, List.getElem?_cons_succ, List.getElem?_cons_zero]; exact rfl) ?_
                  exact ⟨Mod.of_ext ((Ext.refl _).alloc _), ⟨rfl, [-1, 4096], rfl, Blk.new _ _ _⟩, RJ.keep ((Ext.refl _).alloc _)⟩
                · intros
                  (try simp only [*])
                  go_wp2_with (first | (refine ldiM S.out ?_) | (refine ldIs S.out ?_) | (refine ldI S.out ?_) | (refine stiM S.out ?_; clear S; intro w9 S) | (refine stIs S.out ?_; clear S; intro w9 S) | (refine stI S.out ?_; clear S; intro w9 S) | (refine wpList_want rfl rfl ?_; dsimp only) | fail)
                  refine stepQ_mk rfl (by simp only [List.getElem?_toArray, List.getElem?_cons_succ, List.getElem?_cons_zero]; exact rfl) ?_
                  exact ⟨Mod.refl _ _, rfl, RJ⟩
                · intros
                  go_wp2_with (fail)
                  (with_reducible refine (pick g _ _ (HP.le (by omega)) _ hj).mono ?_)
                  rintro e w7 ⟨v7, rfl, ⟨x, rfl, hx, -⟩, hr7, hm7⟩
                  go_wp2
                  refine stepQ_mk rfl (by simp only [List.getElem?_toArray, List.getElem?_cons_succ, List.getElem?_cons_zero]; exact rfl) ?_
                  exact ⟨hm7, ⟨x, rfl, hx (by omega)⟩, hr7.mono (by omega) (HP.le (by omega))⟩
                · intro s1 _ _ ⟨e8, cs, l8, k8⟩ _ _ _ ⟨x, e11, l11⟩
                  intros
                  go_wp2
                  refine stepQ_mk rfl (by simp only [List.getElem?_toArray, List.getElem?_cons_succ, List.getElem?_cons_zero]; exact rfl) ?_
                  exact ⟨Mod.refl _ _, ⟨_, x, cs, rfl, by omega, s1, k8⟩, RJ⟩
                · intro _ _ _ ⟨b, x, cs, e12, lx, lb, kb⟩
                  obtain ⟨y, hy⟩ := kb.intAt lx
                  intros
                  go_wp2
                  refine stepQ_mk rfl (by simp only [List.getElem?_toArray, List.getElem?_cons_succ, List.getElem?_cons_zero]; exact rfl) ?_
                  exact ⟨Mod.refl _ _, ⟨y, rfl⟩, RJ⟩
                · intro _ _ _ e0 _ _ _ e1
                  intros
                  go_wp2
                  refine stepQ_mk rfl (by simp only [List.getElem?_toArray, List.getElem?_cons_succ, List.getElem?_cons_zero]; exact rfl) ?_
                  exact ⟨Mod.refl _ _, rfl, RJ⟩
              case hB => kernel_rfl
              case fin =>
                intro V lo up w' hr hj hf ha
                simp only [factsOk, isv, isP, newI, ixI, List.map_nil, List.map_cons, List.headD_cons, and_true, Nat.zero_add, Nat.reduceAdd] at hf
                simp only [List.length_cons, List.length_nil, Nat.zero_add, Nat.reduceAdd, List.drop_succ_cons, List.drop_zero]
                obtain ⟨-, -, -, -, -, -, ⟨-, -, -, y, e6⟩, ⟨-, -, -, e7⟩⟩ := hf
                clear ha
                have RJ : Rdr g (P + 160 * xs.length + 1 + 1 + 80) w' := hj.mono (by omega) (HP.le (by omega))
                clear hj
                replace S := Kept.mk (S.out.read RJ hr)
                clear RJ hr
                rw [e6, e7]
                clear e6 e7
                obtain ⟨c1, c2⟩ := S.out.own.cell rfl 0 (by omega)
                have ST := S.out.own.store rfl 0 y
                replace S := Kept.mk (S.out.turned ST.2.toL (by simp) (Grp.one ST.1))
                clear ST
                go_wp2_with (first | (refine ldiM S.out ?_) | (refine ldIs S.out ?_) | (refine ldI S.out ?_) | (refine stiM S.out ?_; clear S; intro w9 S) | (refine stIs S.out ?_; clear S; intro w9 S) | (refine stI S.out ?_; clear S; intro w9 S) | (refine wpList_want rfl rfl ?_; dsimp only) | fail)
                exact bodyPost_ret (v := .agg #[.int .i64 R, .int .i64 C, .slice (some ⟨q, 0, none⟩) xs.length m2]) (by exact res1 rfl (by exact (rsiM S.out))) rfl ⟨_, rfl, ⟨_, _, _, _, rfl, S.out.own, by simp; omega⟩, S.out.rdr.mono (by omega) HP, S.out.mod⟩
end Go.Proofs.Ytpbnbhiffnnliaa
