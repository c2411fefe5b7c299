/- The walk through FnMapShared. -/
import Derived.Test.YtkkdikoknegpjaaDrawMp
import Derived.Test.YtkkdikoknegpjaaMapI
import Derived.Test.YtkkdikoknegpjaaMapS
import Derived.Test.YtkkdikoknegpjaaMapP
import Derived.Test.YtkkdikoknegpjaaKW
namespace Go.Proofs.Ytkkdikoknegpjaa
set_option linter.unusedSimpArgs false
set_option linter.unusedVariables false
open Go.RowKit
theorem laws_alive (w : World) : Calls Try.prog 27 #[] w fun e w' => e = .returned (.bool true) ∧ w = w' := by
  go_enter Try.func27, Try.ntmps27
  go_wp2_with (go_at_call 63; (with_reducible refine (impl_RingValid 5 true (by decide) _).mono ?_); rintro e w1 ⟨rfl, rfl⟩)
  go_ret
  exact ⟨rfl, rfl⟩

set_option maxHeartbeats 8000000 in
set_option maxRecDepth 4000 in
theorem walk_FnMapShared (v : Value) (w : World) (hb : Bytes w v) : Calls Try.prog 9 #[v] w fun e w' => e = .returned (.bool true) ∧ Ext w w' := by
  obtain ⟨a, n, cap, rfl, hn, hm, hc⟩ := id hb
  clear hc
  have HB := Kept.mk hb
  clear hb
  have S := Kept.mk (St.start w)
  by_cases hl : (n : Int) ≤ 1048576
  · go_enter Try.func9, Try.ntmps9
    go_wp2_with (fail)
    clear hl
    (with_reducible refine (spec_DrawMapShared _ _ (HB.out.ext S.out.ext)).mono ?_)
    rintro e u9 ⟨k, r0, c0, r1, c1, v0, v1, x0, x1, s, rfl, ln, gg, x9⟩
    obtain ⟨p0, m0, hu9, -, -⟩ := id gg.o0.ints
    try simp only at hu9
    subst hu9
    obtain ⟨p1, m1, hu9, -, -⟩ := id gg.o1.ints
    try simp only at hu9
    subst hu9
    have S9 := S.out.madeG gg x9
    simp only [List.cons_append, List.nil_append] at S9
    replace S := Kept.mk S9
    clear S9 gg x9
    cases g : mpOk k ⟨⟨r0, c0, x0⟩, ⟨r1, c1, x1⟩⟩ s
    · have IM := Kept.mk (fun (v0 v1 : Value) (w' : World) (h0 : Ints w' v0 x0) (h1 : Ints w' v1 x1) => impl_MapShared k r0 c0 r1 c1 v0 v1 x0 x1 s w' h0 h1)
      have SM := Kept.mk (fun (v0 v1 : Value) (w' : World) (h0 : Arg w' v0 x0) (h1 : Arg w' v1 x1) => spec_MapShared k r0 c0 r1 c1 v0 v1 x0 x1 s w' h0 h1)
      obtain ⟨z1, z2, z3⟩ := mpSh_bad g
      rw [z1, z2, z3] at IM SM
      clear z1 z2 z3 g
      unfold ShLN shZ matZ at IM SM
      simp only at IM SM
      obtain ⟨z, hz⟩ : ∃ x, x = ([] : List Int) := ⟨_, rfl⟩
      rw [← hz] at IM SM
      have Lz := Kept.mk (show z.length = 0 by rw [hz]; rfl)
      clear hz
      go_wp2_with (first | (refine ldiS S.out ?_) | (refine ldI S.out ?_) | (refine ldIs S.out ?_) | (refine stiS S.out ?_; clear S; intro w9 S) | (refine aliS S.out ?_; clear S; intro b9 w9 S) | (refine wpList_want rfl rfl ?_; dsimp only) | fail)
      (with_reducible refine (IM.out _ _ _ (S.out.grp.get 0 rfl rfl).ints (S.out.grp.get 1 rfl rfl).ints).mono ?_)
      rintro e u9 ⟨v0, v1, v2, rfl, gg, x9⟩
      obtain ⟨pG0, mG0, hu9, -, -⟩ := id gg.o0.ints
      try simp only at hu9
      subst hu9
      obtain ⟨pG1, mG1, hu9, -, -⟩ := id gg.o1.ints
      try simp only at hu9
      subst hu9
      obtain ⟨pG2, mG2, hu9, -, -⟩ := id gg.o2.ints
      try simp only at hu9
      subst hu9
      have S9 := S.out.madeG gg x9
      simp only [List.cons_append, List.nil_append] at S9
      replace S := Kept.mk S9
      clear S9 gg x9
      go_wp2_with (first | (refine ldiS S.out ?_) | (refine ldI S.out ?_) | (refine ldIs S.out ?_) | (refine stiS S.out ?_; clear S; intro w9 S) | (refine aliS S.out ?_; clear S; intro b9 w9 S) | (refine wpList_want rfl rfl ?_; dsimp only) | fail)
      (with_reducible refine (SM.out _ _ _ ((S.out.grp.get 3 rfl rfl).arg ln.1) ((S.out.grp.get 4 rfl rfl).arg ln.2)).mono ?_)
      rintro e u9 ⟨v0, v1, v2, rfl, gg, x9⟩
      obtain ⟨pW0, mW0, hu9, -, -⟩ := id gg.o0.ints
      try simp only at hu9
      subst hu9
      obtain ⟨pW1, mW1, hu9, -, -⟩ := id gg.o1.ints
      try simp only at hu9
      subst hu9
      obtain ⟨pW2, mW2, hu9, -, -⟩ := id gg.o2.ints
      try simp only at hu9
      subst hu9
      have S9 := S.out.madeG gg x9
      simp only [List.cons_append, List.nil_append] at S9
      replace S := Kept.mk S9
      clear S9 gg x9
      clear IM SM ln
      go_wp2_with (first | (refine ldiS S.out ?_) | (refine ldI S.out ?_) | (refine ldIs S.out ?_) | (refine stiS S.out ?_; clear S; intro w9 S) | (refine aliS S.out ?_; clear S; intro b9 w9 S) | (refine wpList_want rfl rfl ?_; dsimp only) | fail)
      (with_reducible refine (laws_sameShares 0 0 0 0 _ _ _ _ z z _ (S.out.grp.get 3 rfl rfl).ints (S.out.grp.get 4 rfl rfl).ints (S.out.grp.get 0 rfl rfl).ints (S.out.grp.get 1 rfl rfl).ints).mono ?_)
      rintro e u9 ⟨rfl, x9⟩
      replace S := Kept.mk (S.out.quiet x9)
      clear x9
      go_wp2_with (first | (refine ldiS S.out ?_) | (refine ldI S.out ?_) | (refine ldIs S.out ?_) | (refine stiS S.out ?_; clear S; intro w9 S) | (refine aliS S.out ?_; clear S; intro b9 w9 S) | (refine wpList_want rfl rfl ?_; dsimp only) | fail)
      (with_reducible refine (laws_sameInts _ _ z _ (S.out.grp.get 5 rfl rfl).ints (S.out.grp.get 2 rfl rfl).ints).mono ?_)
      rintro e u9 ⟨rfl, x9⟩
      replace S := Kept.mk (S.out.quiet x9)
      clear x9
      have L0 := Lz.out
      go_wp2_with (first | (refine ldiS S.out ?_) | (refine ldI S.out ?_) | (refine ldIs S.out ?_) | (refine stiS S.out ?_; clear S; intro w9 S) | (refine aliS S.out ?_; clear S; intro b9 w9 S) | (refine wpList_want rfl rfl ?_; dsimp only) | fail)
      (with_reducible refine (laws_alive _).mono ?_)
      rintro e u9 ⟨rfl, rfl⟩
      go_wp2_with (first | (refine ldiS S.out ?_) | (refine ldI S.out ?_) | (refine ldIs S.out ?_) | (refine stiS S.out ?_; clear S; intro w9 S) | (refine aliS S.out ?_; clear S; intro b9 w9 S) | (refine wpList_want rfl rfl ?_; dsimp only) | fail)
      go_ret
      exact ⟨rfl, S.out.ext⟩
    · have IM := Kept.mk (fun (v0 v1 : Value) (w' : World) (h0 : Ints w' v0 x0) (h1 : Ints w' v1 x1) => impl_MapShared k r0 c0 r1 c1 v0 v1 x0 x1 s w' h0 h1)
      have SM := Kept.mk (fun (v0 v1 : Value) (w' : World) (h0 : Arg w' v0 x0) (h1 : Arg w' v1 x1) => spec_MapShared k r0 c0 r1 c1 v0 v1 x0 x1 s w' h0 h1)
      obtain ⟨JQ, -, -, -, gs, gl⟩ := join_map g
      simp only at gl
      clear g
      unfold ShLN at IM SM
      generalize mpSh k ⟨⟨r0, c0, x0⟩, ⟨r1, c1, x1⟩⟩ s = DM at *
      generalize mpO k ⟨⟨r0, c0, x0⟩, ⟨r1, c1, x1⟩⟩ s = ls at *
      generalize mpS k ⟨⟨r0, c0, x0⟩, ⟨r1, c1, x1⟩⟩ s = N at *
      obtain ⟨⟨fr, fc, fs⟩, ⟨sr, sc, ss⟩⟩ := DM
      simp only at IM SM
      have n0 : (N == 0) = false := by simp; omega
      have nN : (N != N) = false := by simp
      clear gs
      have JA := Kept.mk (fun (v u : Value) (w' : World) (h : Ints w' v x0) (k : Ints w' u x1) => impl_JoinMatrix r0 c0 r1 c1 v u x0 x1 w' h k)
      unfold MatPost at JA
      generalize joinM ⟨⟨r0, c0, x0⟩, ⟨r1, c1, x1⟩⟩ = Da at *
      obtain ⟨ar, ac, as_⟩ := Da
      simp only at JA JQ
      have MM := Kept.mk (fun (v : Value) (w' : World) (h : Ints w' v as_) => impl_MapMatrix k ar ac v as_ w' h)
      unfold MatPost at MM
      rw [← JQ] at MM
      clear JQ
      have JS := Kept.mk (fun (v u : Value) (w' : World) (h : Ints w' v fs) (k : Ints w' u ss) => impl_JoinMatrix fr fc sr sc v u fs ss w' h k)
      unfold MatPost at JS
      generalize joinM ⟨⟨fr, fc, fs⟩, ⟨sr, sc, ss⟩⟩ = Dq at *
      obtain ⟨qr, qc, qs⟩ := Dq
      simp only at JS MM
      have GL := Kept.mk gl
      clear gl
      have ge : ((ls.length : Int) == (x0.length : Int)) = true := by rw [GL.out]; simp
      go_wp2_with (first | (refine ldiS S.out ?_) | (refine ldI S.out ?_) | (refine ldIs S.out ?_) | (refine stiS S.out ?_; clear S; intro w9 S) | (refine aliS S.out ?_; clear S; intro b9 w9 S) | (refine wpList_want rfl rfl ?_; dsimp only) | fail)
      (with_reducible refine (IM.out _ _ _ (S.out.grp.get 0 rfl rfl).ints (S.out.grp.get 1 rfl rfl).ints).mono ?_)
      rintro e u9 ⟨v0, v1, v2, rfl, gg, x9⟩
      obtain ⟨pG0, mG0, hu9, -, -⟩ := id gg.o0.ints
      try simp only at hu9
      subst hu9
      obtain ⟨pG1, mG1, hu9, -, -⟩ := id gg.o1.ints
      try simp only at hu9
      subst hu9
      obtain ⟨pG2, mG2, hu9, -, -⟩ := id gg.o2.ints
      try simp only at hu9
      subst hu9
      have S9 := S.out.madeG gg x9
      simp only [List.cons_append, List.nil_append] at S9
      replace S := Kept.mk S9
      clear S9 gg x9
      go_wp2_with (first | (refine ldiS S.out ?_) | (refine ldI S.out ?_) | (refine ldIs S.out ?_) | (refine stiS S.out ?_; clear S; intro w9 S) | (refine aliS S.out ?_; clear S; intro b9 w9 S) | (refine wpList_want rfl rfl ?_; dsimp only) | fail)
      (with_reducible refine (SM.out _ _ _ ((S.out.grp.get 3 rfl rfl).arg ln.1) ((S.out.grp.get 4 rfl rfl).arg ln.2)).mono ?_)
      rintro e u9 ⟨v0, v1, v2, rfl, gg, x9⟩
      obtain ⟨pW0, mW0, hu9, -, -⟩ := id gg.o0.ints
      try simp only at hu9
      subst hu9
      obtain ⟨pW1, mW1, hu9, -, -⟩ := id gg.o1.ints
      try simp only at hu9
      subst hu9
      obtain ⟨pW2, mW2, hu9, -, -⟩ := id gg.o2.ints
      try simp only at hu9
      subst hu9
      have S9 := S.out.madeG gg x9
      simp only [List.cons_append, List.nil_append] at S9
      replace S := Kept.mk S9
      clear S9 gg x9
      clear IM SM ln
      go_wp2_with (first | (refine ldiS S.out ?_) | (refine ldI S.out ?_) | (refine ldIs S.out ?_) | (refine stiS S.out ?_; clear S; intro w9 S) | (refine aliS S.out ?_; clear S; intro b9 w9 S) | (refine wpList_want rfl rfl ?_; dsimp only) | fail)
      (with_reducible refine (laws_sameShares fr fc sr sc _ _ _ _ fs ss _ (S.out.grp.get 3 rfl rfl).ints (S.out.grp.get 4 rfl rfl).ints (S.out.grp.get 0 rfl rfl).ints (S.out.grp.get 1 rfl rfl).ints).mono ?_)
      rintro e u9 ⟨rfl, x9⟩
      replace S := Kept.mk (S.out.quiet x9)
      clear x9
      go_wp2_with (first | (refine ldiS S.out ?_) | (refine ldI S.out ?_) | (refine ldIs S.out ?_) | (refine stiS S.out ?_; clear S; intro w9 S) | (refine aliS S.out ?_; clear S; intro b9 w9 S) | (refine wpList_want rfl rfl ?_; dsimp only) | fail)
      (with_reducible refine (laws_sameInts _ _ ls _ (S.out.grp.get 5 rfl rfl).ints (S.out.grp.get 2 rfl rfl).ints).mono ?_)
      rintro e u9 ⟨rfl, x9⟩
      replace S := Kept.mk (S.out.quiet x9)
      clear x9
      go_wp2_with (first | (refine ldiS S.out ?_) | (refine ldI S.out ?_) | (refine ldIs S.out ?_) | (refine stiS S.out ?_; clear S; intro w9 S) | (refine aliS S.out ?_; clear S; intro b9 w9 S) | (refine wpList_want rfl rfl ?_; dsimp only) | fail)
      apply wp_region_zip [isv _, matR qr qc qs, isv _, isv _, matR ar ac as_, matR qr qc qs, isv _, isv _, isv _, isv _, isv _, isv _, isv _, isv _, isv (.bool true), isv _, isv _] _ (by kernel_rfl)
      case hA => intro V; simp [putAll, dstOf, Act.put]; exact rfl
      case hsl => intro V; exact rfl
      case step =>
        intro V lo up w' hr
        have S := Kept.mk (S.out.quiet hr)
        simp only [zipOk, depsImp, isv, matR, modeNg, newb, waits, Region.binds, List.map_nil, List.map_cons, List.headD_cons, List.nil_append, List.cons_append, List.filterMap_cons, List.filterMap_nil, ↓reduceIte, modeNe, Bool.false_eq_true, true_implies, List.getD_cons_zero, List.getD_cons_succ, and_true]
        refine ⟨?_, ?_, ?_, ?_, ?_, ?_, ?_, ?_, ?_, ?_, ?_, ?_, ?_, ?_, ?_, ?_, ?_⟩
        · intros
          (try simp only [*])
          go_wp2_with (first | (refine ldiS S.out ?_) | (refine ldI S.out ?_) | (refine ldIs S.out ?_) | (refine wpList_want rfl rfl ?_; dsimp only) | fail)
          refine stepQ_mk rfl (by simp only [List.getElem?_toArray, List.getElem?_cons_succ, List.getElem?_cons_zero]; exact rfl) ?_
          exact ⟨Ext.refl _, rfl⟩
        · intros
          (try simp only [*])
          go_wp2_with (first | (refine ldiS S.out ?_) | (refine ldI S.out ?_) | (refine ldIs S.out ?_) | (refine wpList_want rfl rfl ?_; dsimp only) | fail)
          (with_reducible refine (JS.out _ _ _ (S.out.grp.get 3 rfl rfl).ints (S.out.grp.get 4 rfl rfl).ints).mono ?_)
          rintro e w9 ⟨v9, rfl, o9, x9⟩
          go_wp2
          refine stepQ_mk rfl (by simp only [List.getElem?_toArray, List.getElem?_cons_succ, List.getElem?_cons_zero]; exact rfl) ?_
          exact ⟨x9, v9, rfl, o9, fun q hq => (o9.block q hq).2⟩
        · intros
          (try simp only [*])
          go_wp2_with (first | (refine ldiS S.out ?_) | (refine ldI S.out ?_) | (refine ldIs S.out ?_) | (refine wpList_want rfl rfl ?_; dsimp only) | fail)
          refine stepQ_mk rfl (by simp only [List.getElem?_toArray, List.getElem?_cons_succ, List.getElem?_cons_zero]; exact rfl) ?_
          exact ⟨Ext.refl _, rfl⟩
        · intros
          (try simp only [*])
          go_wp2_with (first | (refine ldiS S.out ?_) | (refine ldI S.out ?_) | (refine ldIs S.out ?_) | (refine wpList_want rfl rfl ?_; dsimp only) | fail)
          refine stepQ_mk rfl (by simp only [List.getElem?_toArray, List.getElem?_cons_succ, List.getElem?_cons_zero]; exact rfl) ?_
          exact ⟨Ext.refl _, rfl⟩
        · intros
          (try simp only [*])
          go_wp2_with (first | (refine ldiS S.out ?_) | (refine ldI S.out ?_) | (refine ldIs S.out ?_) | (refine wpList_want rfl rfl ?_; dsimp only) | fail)
          (with_reducible refine (JA.out _ _ _ (S.out.grp.get 6 rfl rfl).ints (S.out.grp.get 7 rfl rfl).ints).mono ?_)
          rintro e w9 ⟨v9, rfl, o9, x9⟩
          go_wp2
          refine stepQ_mk rfl (by simp only [List.getElem?_toArray, List.getElem?_cons_succ, List.getElem?_cons_zero]; exact rfl) ?_
          exact ⟨x9, v9, rfl, o9, fun q hq => (o9.block q hq).2⟩
        · intros
          obtain ⟨v4, e4, o4, b4⟩ := ‹∃ v, V 4 = _ ∧ Own _ _ v as_ ∧ _›
          (try simp only [*])
          go_wp2_with (first | (refine ldiS S.out ?_) | (refine ldI S.out ?_) | (refine ldIs S.out ?_) | (refine wpList_want rfl rfl ?_; dsimp only) | fail)
          (with_reducible refine (MM.out _ _ o4.ints).mono ?_)
          rintro e w9 ⟨v9, rfl, o9, x9⟩
          go_wp2
          refine stepQ_mk rfl (by simp only [List.getElem?_toArray, List.getElem?_cons_succ, List.getElem?_cons_zero]; exact rfl) ?_
          exact ⟨x9, v9, rfl, o9, fun q hq => (o9.block q hq).2⟩
        · intros
          obtain ⟨v1, e1, o1, b1⟩ := ‹∃ v, V 1 = _ ∧ Own _ _ v qs ∧ _›
          obtain ⟨v5, e5, o5, b5⟩ := ‹∃ v, V 5 = _ ∧ Own _ _ v qs ∧ _›
          (try simp only [*])
          go_wp2_with (first | (refine ldiS S.out ?_) | (refine ldI S.out ?_) | (refine ldIs S.out ?_) | (refine wpList_want rfl rfl ?_; dsimp only) | fail)
          (with_reducible refine (laws_sameMatrix qr qc _ _ qs _ o1.ints o5.ints).mono ?_)
          rintro e w9 ⟨rfl, x9⟩
          go_wp2
          refine stepQ_mk rfl (by simp only [List.getElem?_toArray, List.getElem?_cons_succ, List.getElem?_cons_zero]; exact rfl) ?_
          exact ⟨x9, rfl⟩
        · intros
          (try simp only [*])
          go_wp2_with (first | (refine ldiS S.out ?_) | (refine ldI S.out ?_) | (refine ldIs S.out ?_) | (refine wpList_want rfl rfl ?_; dsimp only) | fail)
          refine stepQ_mk rfl (by simp only [List.getElem?_toArray, List.getElem?_cons_succ, List.getElem?_cons_zero]; exact rfl) ?_
          exact ⟨Ext.refl _, rfl⟩
        · intros
          (try simp only [*])
          go_wp2_with (first | (refine ldiS S.out ?_) | (refine ldI S.out ?_) | (refine ldIs S.out ?_) | (refine wpList_want rfl rfl ?_; dsimp only) | fail)
          refine stepQ_mk rfl (by simp only [List.getElem?_toArray, List.getElem?_cons_succ, List.getElem?_cons_zero]; exact rfl) ?_
          exact ⟨Ext.refl _, rfl⟩
        · intros
          (try simp only [*])
          go_wp2_with (first | (refine ldiS S.out ?_) | (refine ldI S.out ?_) | (refine ldIs S.out ?_) | (refine wpList_want rfl rfl ?_; dsimp only) | fail)
          refine stepQ_mk rfl (by simp only [List.getElem?_toArray, List.getElem?_cons_succ, List.getElem?_cons_zero]; exact rfl) ?_
          exact ⟨Ext.refl _, rfl⟩
        · intros
          (try simp only [*])
          go_wp2_with (first | (refine ldiS S.out ?_) | (refine ldI S.out ?_) | (refine ldIs S.out ?_) | (refine wpList_want rfl rfl ?_; dsimp only) | fail)
          refine stepQ_mk rfl (by simp only [List.getElem?_toArray, List.getElem?_cons_succ, List.getElem?_cons_zero]; exact rfl) ?_
          exact ⟨Ext.refl _, rfl⟩
        · intros
          (try simp only [*])
          go_wp2_with (first | (refine ldiS S.out ?_) | (refine ldI S.out ?_) | (refine ldIs S.out ?_) | (refine wpList_want rfl rfl ?_; dsimp only) | fail)
          refine stepQ_mk rfl (by simp only [List.getElem?_toArray, List.getElem?_cons_succ, List.getElem?_cons_zero]; exact rfl) ?_
          exact ⟨Ext.refl _, rfl⟩
        · intros
          (try simp only [*])
          go_wp2_with (first | (refine ldiS S.out ?_) | (refine ldI S.out ?_) | (refine ldIs S.out ?_) | (refine wpList_want rfl rfl ?_; dsimp only) | fail)
          refine stepQ_mk rfl (by simp only [List.getElem?_toArray, List.getElem?_cons_succ, List.getElem?_cons_zero]; exact rfl) ?_
          exact ⟨Ext.refl _, rfl⟩
        · intros
          (try simp only [*])
          go_wp2_with (first | (refine ldiS S.out ?_) | (refine ldI S.out ?_) | (refine ldIs S.out ?_) | (refine wpList_want rfl rfl ?_; dsimp only) | fail)
          refine stepQ_mk rfl (by simp only [List.getElem?_toArray, List.getElem?_cons_succ, List.getElem?_cons_zero]; exact rfl) ?_
          exact ⟨Ext.refl _, rfl⟩
        · intros
          (try simp only [*])
          go_wp2_with (first | (refine ldiS S.out ?_) | (refine ldI S.out ?_) | (refine ldIs S.out ?_) | (refine wpList_want rfl rfl ?_; dsimp only) | fail)
          refine stepQ_mk rfl (by simp only [List.getElem?_toArray, List.getElem?_cons_succ, List.getElem?_cons_zero]; exact rfl) ?_
          exact ⟨Ext.refl _, by first | rfl | (rw [GL.out]; simp) | (simp [GL.out])⟩
        · intros
          (try simp only [*])
          go_wp2_with (first | (refine ldiS S.out ?_) | (refine ldI S.out ?_) | (refine ldIs S.out ?_) | (refine wpList_want rfl rfl ?_; dsimp only) | fail)
          refine stepQ_mk rfl (by simp only [List.getElem?_toArray, List.getElem?_cons_succ, List.getElem?_cons_zero]; exact rfl) ?_
          exact ⟨Ext.refl _, rfl⟩
        · intros
          (try simp only [*])
          go_wp2_with (first | (refine ldiS S.out ?_) | (refine ldI S.out ?_) | (refine ldIs S.out ?_) | (refine wpList_want rfl rfl ?_; dsimp only) | fail)
          refine stepQ_mk rfl (by simp only [List.getElem?_toArray, List.getElem?_cons_succ, List.getElem?_cons_zero]; exact rfl) ?_
          exact ⟨Ext.refl _, rfl⟩
      case hB => kernel_rfl
      case fin =>
        intro V lo up w' hr hf ha
        simp only [factsOk, isv, matR, modeNg, newb, List.map_nil, List.map_cons, List.headD_cons, and_true, Nat.zero_add, Nat.reduceAdd] at hf
        simp only [List.length_cons, List.length_nil, Nat.zero_add, Nat.reduceAdd, List.drop_succ_cons, List.drop_zero]
        obtain ⟨-, -, -, -, -, -, -, -, -, -, -, -, -, -, -, -, ⟨-, -, -, e16⟩⟩ := hf
        clear ha
        rw [e16]
        clear e16
        replace S := Kept.mk (S.out.quiet hr)
        clear hr
        go_wp2_with (first | (refine ldiS S.out ?_) | (refine ldI S.out ?_) | (refine ldIs S.out ?_) | (refine stiS S.out ?_; clear S; intro w9 S) | (refine aliS S.out ?_; clear S; intro b9 w9 S) | (refine wpList_want rfl rfl ?_; dsimp only) | fail)
        go_ret
        exact ⟨rfl, S.out.ext⟩
  · have hl' : ¬ (n : Int) ≤ 1048576 := hl
    have hg : (1048576 : Int) < n := by omega
    clear hl
    go_enter Try.func9, Try.ntmps9
    go_wp2_with (fail)
    go_ret
    exact ⟨rfl, S.out.ext⟩
end Go.Proofs.Ytkkdikoknegpjaa
