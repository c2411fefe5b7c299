/- The walk through FnAddSharedMatrices. -/
import Derived.Test.YtjoomdihjffmlaaDrawAS
import Derived.Test.YtjoomdihjffmlaaShB
import Derived.Test.YtjoomdihjffmlaaShL
import Derived.Test.YtjoomdihjffmlaaExL
namespace Go.Proofs.Ytjoomdihjffmlaa
set_option linter.unusedSimpArgs false
set_option linter.unusedVariables false
open Go.RowKit
theorem laws_alive (w : World) : Calls Try.prog 15 #[] w fun e w' => e = .returned (.bool true) ∧ w = w' := by
  go_enter Try.func15, Try.ntmps15
  go_wp2_with (go_at_call 51; (with_reducible refine (impl_RingValid 5 true (by decide) _).mono ?_); rintro e w1 ⟨rfl, rfl⟩)
  go_ret
  exact ⟨rfl, rfl⟩

set_option maxHeartbeats 8000000 in
set_option maxRecDepth 4000 in
theorem walk_FnAddSharedMatrices (v : Value) (w : World) (hb : Bytes w v) : Calls Try.prog 7 #[v] w fun e w' => e = .returned (.bool true) ∧ Ext w w' := by
  obtain ⟨a, n, cap, rfl, hn, hm, hc⟩ := id hb
  clear hc
  have HB := Kept.mk hb
  clear hb
  have S := Kept.mk (St.start w)
  by_cases hl : (n : Int) ≤ 1048576
  · go_enter Try.func7, Try.ntmps7
    go_wp2_with (fail)
    clear hl
    (with_reducible refine (spec_DrawAddSharedMatrices _ _ (HB.out.ext S.out.ext)).mono ?_)
    rintro e u9 ⟨r0, c0, r1, c1, r2, c2, r3, c3, v0, v1, v2, v3, x0, x1, x2, x3, rfl, ln, gg, x9⟩
    obtain ⟨p0, m0, hu9, -, -⟩ := id gg.o0.ints
    try simp only at hu9
    subst hu9
    obtain ⟨p1, m1, hu9, -, -⟩ := id gg.o1.ints
    try simp only at hu9
    subst hu9
    obtain ⟨p2, m2, hu9, -, -⟩ := id gg.o2.ints
    try simp only at hu9
    subst hu9
    obtain ⟨p3, m3, hu9, -, -⟩ := id gg.o3.ints
    try simp only at hu9
    subst hu9
    have S9 := S.out.madeG gg x9
    simp only [List.cons_append, List.nil_append] at S9
    replace S := Kept.mk S9
    clear S9 gg x9
    cases g : shAddOk ⟨⟨r0, c0, x0⟩, ⟨r1, c1, x1⟩⟩ ⟨⟨r2, c2, x2⟩, ⟨r3, c3, x3⟩⟩
    · have IA := Kept.mk (fun (v0 v1 v2 v3 : Value) (w' : World) (h0 : Ints w' v0 x0) (h1 : Ints w' v1 x1) (h2 : Ints w' v2 x2) (h3 : Ints w' v3 x3) => (impl_AddSharedMatrices r0 c0 v0 x0 r1 c1 v1 x1 r2 c2 v2 x2 r3 c3 v3 x3 w' h0 h1 h2 h3).mono fun e w'' h => h.grp)
      have SA := Kept.mk (fun (v0 v1 v2 v3 : Value) (w' : World) (h0 : Arg w' v0 x0) (h1 : Arg w' v1 x1) (h2 : Arg w' v2 x2) (h3 : Arg w' v3 x3) => (spec_AddSharedMatrices r0 c0 v0 x0 r1 c1 v1 x1 r2 c2 v2 x2 r3 c3 v3 x3 w' h0 h1 h2 h3).mono fun e w'' h => h.grp)
      unfold ShGrp at IA SA
      rw [show addSh ⟨⟨r0, c0, x0⟩, ⟨r1, c1, x1⟩⟩ ⟨⟨r2, c2, x2⟩, ⟨r3, c3, x3⟩⟩ = shZ by unfold addSh; rw [if_neg (by rw [g]; decide)]] at IA SA
      unfold shZ matZ at IA SA
      simp only at IA SA
      obtain ⟨x4, h4⟩ : ∃ x, x = ([] : List Int) := ⟨_, rfl⟩
      rw [← h4] at IA SA
      clear h4 g
      go_wp2_with (first | (refine ldiS S.out ?_) | (refine ldiM S.out ?_) | (refine ldI S.out ?_) | (refine stiS S.out ?_; clear S; intro w9 S) | (refine aliS S.out ?_; clear S; intro b9 w9 S) | (refine wpList_want rfl rfl ?_; dsimp only) | fail)
      (with_reducible refine (IA.out _ _ _ _ _ (S.out.grp.get 0 rfl rfl).ints (S.out.grp.get 1 rfl rfl).ints (S.out.grp.get 2 rfl rfl).ints (S.out.grp.get 3 rfl rfl).ints).mono ?_)
      rintro e u9 ⟨v4, v5, rfl, gg, x9⟩
      obtain ⟨p4, m4, hu9, -, -⟩ := id gg.o0.ints
      try simp only at hu9
      subst hu9
      obtain ⟨p5, m5, hu9, -, -⟩ := id gg.o1.ints
      try simp only at hu9
      subst hu9
      have S9 := S.out.madeG gg x9
      simp only [List.cons_append, List.nil_append] at S9
      replace S := Kept.mk S9
      clear S9 gg x9
      go_wp2_with (first | (refine ldiS S.out ?_) | (refine ldiM S.out ?_) | (refine ldI S.out ?_) | (refine stiS S.out ?_; clear S; intro w9 S) | (refine aliS S.out ?_; clear S; intro b9 w9 S) | (refine wpList_want rfl rfl ?_; dsimp only) | fail)
      apply wp_region_zip [isv _, isv _, isv _, grpR2 0 0 0 0 x4 x4, isv _, isv _] _ (by kernel_rfl)
      case hA => intro V; simp [putAll, dstOf, Act.put]; exact rfl
      case hsl => intro V; exact rfl
      case step =>
        intro V lo up w' hr
        have S := Kept.mk (S.out.quiet hr)
        simp only [zipOk, depsImp, isv, grpR2, modeNg, newb, waits, Region.binds, List.map_nil, List.map_cons, List.headD_cons, List.nil_append, List.cons_append, List.filterMap_cons, List.filterMap_nil, ↓reduceIte, modeNe, Bool.false_eq_true, true_implies, List.getD_cons_zero, List.getD_cons_succ, and_true]
        refine ⟨?_, ?_, ?_, ?_, ?_, ?_⟩
        · intros
          (try simp only [*])
          go_wp2_with (first | (refine ldiS S.out ?_) | (refine ldiM S.out ?_) | (refine ldI S.out ?_) | (refine wpList_want rfl rfl ?_; dsimp only) | fail)
          refine stepQ_mk rfl (by simp only [List.getElem?_toArray, List.getElem?_cons_succ, List.getElem?_cons_zero]; exact rfl) ?_
          exact ⟨Ext.refl _, rfl⟩
        · intros
          (try simp only [*])
          go_wp2_with (first | (refine ldiS S.out ?_) | (refine ldiM S.out ?_) | (refine ldI S.out ?_) | (refine wpList_want rfl rfl ?_; dsimp only) | fail)
          refine stepQ_mk rfl (by simp only [List.getElem?_toArray, List.getElem?_cons_succ, List.getElem?_cons_zero]; exact rfl) ?_
          exact ⟨Ext.refl _, rfl⟩
        · intros
          (try simp only [*])
          go_wp2_with (first | (refine ldiS S.out ?_) | (refine ldiM S.out ?_) | (refine ldI S.out ?_) | (refine wpList_want rfl rfl ?_; dsimp only) | fail)
          refine stepQ_mk rfl (by simp only [List.getElem?_toArray, List.getElem?_cons_succ, List.getElem?_cons_zero]; exact rfl) ?_
          exact ⟨Ext.refl _, rfl⟩
        · intros
          (try simp only [*])
          go_wp2_with (fail)
          (with_reducible refine (SA.out _ _ _ _ _ ((S.out.grp.get 2 rfl rfl).arg ln.1) ((S.out.grp.get 3 rfl rfl).arg ln.2.1) ((S.out.grp.get 4 rfl rfl).arg ln.2.2.1) ((S.out.grp.get 5 rfl rfl).arg ln.2.2.2)).mono ?_)
          rintro e w9 ⟨v8, v9, rfl, g9, x9⟩
          go_wp2
          refine stepQ_mk rfl (by simp only [List.getElem?_toArray, List.getElem?_cons_succ, List.getElem?_cons_zero]; exact rfl) ?_
          exact ⟨x9, v8, v9, rfl, g9⟩
        · intros
          obtain ⟨v8, v9, e3, g3⟩ := ‹∃ u v, V 3 = _ ∧ Grp _ _ [u, v] [x4, x4]›
          (try simp only [*])
          go_wp2_with (fail)
          (with_reducible refine (laws_sameShares 0 0 0 0 _ _ _ _ x4 x4 _ S.out.grp.o0.ints S.out.grp.o1.ints g3.o0.ints g3.o1.ints).mono ?_)
          rintro e w9 ⟨rfl, x9⟩
          go_wp2
          refine stepQ_mk rfl (by simp only [List.getElem?_toArray, List.getElem?_cons_succ, List.getElem?_cons_zero]; exact rfl) ?_
          exact ⟨x9, rfl⟩
        · intros
          (try simp only [*])
          go_wp2_with (first | (refine ldiS S.out ?_) | (refine ldiM S.out ?_) | (refine ldI S.out ?_) | (refine wpList_want rfl rfl ?_; dsimp only) | fail)
          refine stepQ_mk rfl (by simp only [List.getElem?_toArray, List.getElem?_cons_succ, List.getElem?_cons_zero]; exact rfl) ?_
          exact ⟨Ext.refl _, rfl⟩
      case hB => kernel_rfl
      case fin =>
        intro V lo up w' hr hf ha
        simp only [factsOk, isv, grpR2, modeNg, newb, List.map_nil, List.map_cons, List.headD_cons, and_true, Nat.zero_add, Nat.reduceAdd] at hf
        simp only [List.length_cons, List.length_nil, Nat.zero_add, Nat.reduceAdd, List.drop_succ_cons, List.drop_zero]
        obtain ⟨-, -, -, -, -, ⟨-, -, -, e5⟩⟩ := hf
        clear ha
        rw [e5]
        clear e5
        replace S := Kept.mk (S.out.quiet hr)
        clear hr
        go_wp2_with (first | (refine ldiS S.out ?_) | (refine ldiM S.out ?_) | (refine ldI S.out ?_) | (refine stiS S.out ?_; clear S; intro w9 S) | (refine aliS S.out ?_; clear S; intro b9 w9 S) | (refine wpList_want rfl rfl ?_; dsimp only) | fail)
        (with_reducible refine (laws_alive _).mono ?_)
        rintro e u9 ⟨rfl, rfl⟩
        go_wp2_with (first | (refine ldiS S.out ?_) | (refine ldiM S.out ?_) | (refine ldI S.out ?_) | (refine stiS S.out ?_; clear S; intro w9 S) | (refine aliS S.out ?_; clear S; intro b9 w9 S) | (refine wpList_want rfl rfl ?_; dsimp only) | fail)
        go_ret
        exact ⟨rfl, S.out.ext⟩
    · have IA := Kept.mk (fun (v0 v1 v2 v3 : Value) (w' : World) (h0 : Ints w' v0 x0) (h1 : Ints w' v1 x1) (h2 : Ints w' v2 x2) (h3 : Ints w' v3 x3) => (impl_AddSharedMatrices r0 c0 v0 x0 r1 c1 v1 x1 r2 c2 v2 x2 r3 c3 v3 x3 w' h0 h1 h2 h3).mono fun e w'' h => h.grp)
      have SA := Kept.mk (fun (v0 v1 v2 v3 : Value) (w' : World) (h0 : Arg w' v0 x0) (h1 : Arg w' v1 x1) (h2 : Arg w' v2 x2) (h3 : Arg w' v3 x3) => (spec_AddSharedMatrices r0 c0 v0 x0 r1 c1 v1 x1 r2 c2 v2 x2 r3 c3 v3 x3 w' h0 h1 h2 h3).mono fun e w'' h => h.grp)
      unfold ShGrp at IA SA
      have JN := join_addSh g
      clear g
      generalize addSh ⟨⟨r0, c0, x0⟩, ⟨r1, c1, x1⟩⟩ ⟨⟨r2, c2, x2⟩, ⟨r3, c3, x3⟩⟩ = DS at *
      obtain ⟨⟨r4, c4, x4⟩, ⟨r5, c5, x5⟩⟩ := DS
      simp only at IA SA
      have r4n : (r4 == 0) = false := by
        have h := JN.1
        simp only [ShM.ok, Bool.and_eq_true] at h
        obtain ⟨R, C, f, e, hR, hC, _⟩ := Mat.ok_form h.1.1
        have e1 : r4 = (R : Int) := congrArg Mat.r e
        have := hR.lo
        simp; omega
      have JQ := JN.2
      clear JN
      have JS := Kept.mk (fun (v u : Value) (w' : World) (h : Ints w' v x4) (k : Ints w' u x5) => impl_JoinMatrix r4 c4 r5 c5 v u x4 x5 w' h k)
      unfold MatPost at JS
      generalize joinM ⟨⟨r4, c4, x4⟩, ⟨r5, c5, x5⟩⟩ = DS at *
      obtain ⟨qr, qc, qs⟩ := DS
      simp only at JS
      have JA := Kept.mk (fun (v u : Value) (w' : World) (h : Ints w' v x0) (k : Ints w' u x1) => impl_JoinMatrix r0 c0 r1 c1 v u x0 x1 w' h k)
      unfold MatPost at JA
      generalize joinM ⟨⟨r0, c0, x0⟩, ⟨r1, c1, x1⟩⟩ = DA at *
      obtain ⟨ar, ac, as_⟩ := DA
      simp only at JA
      have JB := Kept.mk (fun (v u : Value) (w' : World) (h : Ints w' v x2) (k : Ints w' u x3) => impl_JoinMatrix r2 c2 r3 c3 v u x2 x3 w' h k)
      unfold MatPost at JB
      generalize joinM ⟨⟨r2, c2, x2⟩, ⟨r3, c3, x3⟩⟩ = DB at *
      obtain ⟨br, bc, bs⟩ := DB
      simp only at JB
      have AD := Kept.mk (fun (v u : Value) (w' : World) (h : Ints w' v as_) (k : Ints w' u bs) => impl_AddMatrices ar ac br bc v u as_ bs w' h k)
      unfold MatPost at AD
      rw [← JQ] at AD
      simp only at AD
      clear JQ
      go_wp2_with (first | (refine ldiS S.out ?_) | (refine ldiM S.out ?_) | (refine ldI S.out ?_) | (refine stiS S.out ?_; clear S; intro w9 S) | (refine aliS S.out ?_; clear S; intro b9 w9 S) | (refine wpList_want rfl rfl ?_; dsimp only) | fail)
      (with_reducible refine (IA.out _ _ _ _ _ (S.out.grp.get 0 rfl rfl).ints (S.out.grp.get 1 rfl rfl).ints (S.out.grp.get 2 rfl rfl).ints (S.out.grp.get 3 rfl rfl).ints).mono ?_)
      rintro e u9 ⟨v4, v5, rfl, gg, x9⟩
      obtain ⟨p4, m4, hu9, -, -⟩ := id gg.o0.ints
      try simp only at hu9
      subst hu9
      obtain ⟨p5, m5, hu9, -, -⟩ := id gg.o1.ints
      try simp only at hu9
      subst hu9
      have S9 := S.out.madeG gg x9
      simp only [List.cons_append, List.nil_append] at S9
      replace S := Kept.mk S9
      clear S9 gg x9
      go_wp2_with (first | (refine ldiS S.out ?_) | (refine ldiM S.out ?_) | (refine ldI S.out ?_) | (refine stiS S.out ?_; clear S; intro w9 S) | (refine aliS S.out ?_; clear S; intro b9 w9 S) | (refine wpList_want rfl rfl ?_; dsimp only) | fail)
      apply wp_region_zip [isv _, isv _, isv _, grpR2 r4 c4 r5 c5 x4 x5, isv _, isv _] _ (by kernel_rfl)
      case hA => intro V; simp [putAll, dstOf, Act.put]; exact rfl
      case hsl => intro V; exact rfl
      case step =>
        intro V lo up w' hr
        have S := Kept.mk (S.out.quiet hr)
        simp only [zipOk, depsImp, isv, grpR2, modeNg, newb, waits, Region.binds, List.map_nil, List.map_cons, List.headD_cons, List.nil_append, List.cons_append, List.filterMap_cons, List.filterMap_nil, ↓reduceIte, modeNe, Bool.false_eq_true, true_implies, List.getD_cons_zero, List.getD_cons_succ, and_true]
        refine ⟨?_, ?_, ?_, ?_, ?_, ?_⟩
        · intros
          (try simp only [*])
          go_wp2_with (first | (refine ldiS S.out ?_) | (refine ldiM S.out ?_) | (refine ldI S.out ?_) | (refine wpList_want rfl rfl ?_; dsimp only) | fail)
          refine stepQ_mk rfl (by simp only [List.getElem?_toArray, List.getElem?_cons_succ, List.getElem?_cons_zero]; exact rfl) ?_
          exact ⟨Ext.refl _, rfl⟩
        · intros
          (try simp only [*])
          go_wp2_with (first | (refine ldiS S.out ?_) | (refine ldiM S.out ?_) | (refine ldI S.out ?_) | (refine wpList_want rfl rfl ?_; dsimp only) | fail)
          refine stepQ_mk rfl (by simp only [List.getElem?_toArray, List.getElem?_cons_succ, List.getElem?_cons_zero]; exact rfl) ?_
          exact ⟨Ext.refl _, rfl⟩
        · intros
          (try simp only [*])
          go_wp2_with (first | (refine ldiS S.out ?_) | (refine ldiM S.out ?_) | (refine ldI S.out ?_) | (refine wpList_want rfl rfl ?_; dsimp only) | fail)
          refine stepQ_mk rfl (by simp only [List.getElem?_toArray, List.getElem?_cons_succ, List.getElem?_cons_zero]; exact rfl) ?_
          exact ⟨Ext.refl _, rfl⟩
        · intros
          (try simp only [*])
          go_wp2_with (fail)
          (with_reducible refine (SA.out _ _ _ _ _ ((S.out.grp.get 2 rfl rfl).arg ln.1) ((S.out.grp.get 3 rfl rfl).arg ln.2.1) ((S.out.grp.get 4 rfl rfl).arg ln.2.2.1) ((S.out.grp.get 5 rfl rfl).arg ln.2.2.2)).mono ?_)
          rintro e w9 ⟨v8, v9, rfl, g9, x9⟩
          go_wp2
          refine stepQ_mk rfl (by simp only [List.getElem?_toArray, List.getElem?_cons_succ, List.getElem?_cons_zero]; exact rfl) ?_
          exact ⟨x9, v8, v9, rfl, g9⟩
        · intros
          obtain ⟨v8, v9, e3, g3⟩ := ‹∃ u v, V 3 = _ ∧ Grp _ _ [u, v] [x4, x5]›
          (try simp only [*])
          go_wp2_with (fail)
          (with_reducible refine (laws_sameShares r4 c4 r5 c5 _ _ _ _ x4 x5 _ S.out.grp.o0.ints S.out.grp.o1.ints g3.o0.ints g3.o1.ints).mono ?_)
          rintro e w9 ⟨rfl, x9⟩
          go_wp2
          refine stepQ_mk rfl (by simp only [List.getElem?_toArray, List.getElem?_cons_succ, List.getElem?_cons_zero]; exact rfl) ?_
          exact ⟨x9, rfl⟩
        · intros
          (try simp only [*])
          go_wp2_with (first | (refine ldiS S.out ?_) | (refine ldiM S.out ?_) | (refine ldI S.out ?_) | (refine wpList_want rfl rfl ?_; dsimp only) | fail)
          refine stepQ_mk rfl (by simp only [List.getElem?_toArray, List.getElem?_cons_succ, List.getElem?_cons_zero]; exact rfl) ?_
          exact ⟨Ext.refl _, rfl⟩
      case hB => kernel_rfl
      case fin =>
        intro V lo up w' hr hf ha
        simp only [factsOk, isv, grpR2, modeNg, newb, List.map_nil, List.map_cons, List.headD_cons, and_true, Nat.zero_add, Nat.reduceAdd] at hf
        simp only [List.length_cons, List.length_nil, Nat.zero_add, Nat.reduceAdd, List.drop_succ_cons, List.drop_zero]
        obtain ⟨-, -, -, -, -, ⟨-, -, -, e5⟩⟩ := hf
        clear ha
        rw [e5]
        clear e5
        replace S := Kept.mk (S.out.quiet hr)
        clear hr
        go_wp2_with (first | (refine ldiS S.out ?_) | (refine ldiM S.out ?_) | (refine ldI S.out ?_) | (refine stiS S.out ?_; clear S; intro w9 S) | (refine aliS S.out ?_; clear S; intro b9 w9 S) | (refine wpList_want rfl rfl ?_; dsimp only) | fail)
        apply wp_region_zip [isv _, matR qr qc qs, isv _, matR ar ac as_, isv _, matR br bc bs, matR qr qc qs, isv _, isv _] _ (by kernel_rfl)
        case hA => intro V; simp [putAll, dstOf, Act.put]; exact rfl
        case hsl => intro V; exact rfl
        case step =>
          intro V lo up w' hr
          have S := Kept.mk (S.out.quiet hr)
          simp only [zipOk, depsImp, isv, matR, modeNg, newb, waits, Region.binds, List.map_nil, List.map_cons, List.headD_cons, List.nil_append, List.cons_append, List.filterMap_cons, List.filterMap_nil, ↓reduceIte, modeNe, Bool.false_eq_true, true_implies, List.getD_cons_zero, List.getD_cons_succ, and_true]
          refine ⟨?_, ?_, ?_, ?_, ?_, ?_, ?_, ?_, ?_⟩
          · intros
            (try simp only [*])
            go_wp2_with (first | (refine ldiS S.out ?_) | (refine ldiM S.out ?_) | (refine ldI S.out ?_) | (refine wpList_want rfl rfl ?_; dsimp only) | fail)
            refine stepQ_mk rfl (by simp only [List.getElem?_toArray, List.getElem?_cons_succ, List.getElem?_cons_zero]; exact rfl) ?_
            exact ⟨Ext.refl _, rfl⟩
          · intros
            (try simp only [*])
            go_wp2_with (first | (refine ldiS S.out ?_) | (refine ldiM S.out ?_) | (refine ldI S.out ?_) | (refine wpList_want rfl rfl ?_; dsimp only) | fail)
            (with_reducible refine (JS.out _ _ _ (S.out.grp.get 0 rfl rfl).ints (S.out.grp.get 1 rfl rfl).ints).mono ?_)
            rintro e w9 ⟨v9, rfl, o9, x9⟩
            go_wp2
            refine stepQ_mk rfl (by simp only [List.getElem?_toArray, List.getElem?_cons_succ, List.getElem?_cons_zero]; exact rfl) ?_
            exact ⟨x9, v9, rfl, o9, fun q hq => (o9.block q hq).2⟩
          · intros
            (try simp only [*])
            go_wp2_with (first | (refine ldiS S.out ?_) | (refine ldiM S.out ?_) | (refine ldI S.out ?_) | (refine wpList_want rfl rfl ?_; dsimp only) | fail)
            refine stepQ_mk rfl (by simp only [List.getElem?_toArray, List.getElem?_cons_succ, List.getElem?_cons_zero]; exact rfl) ?_
            exact ⟨Ext.refl _, rfl⟩
          · intros
            (try simp only [*])
            go_wp2_with (first | (refine ldiS S.out ?_) | (refine ldiM S.out ?_) | (refine ldI S.out ?_) | (refine wpList_want rfl rfl ?_; dsimp only) | fail)
            (with_reducible refine (JA.out _ _ _ (S.out.grp.get 2 rfl rfl).ints (S.out.grp.get 3 rfl rfl).ints).mono ?_)
            rintro e w9 ⟨v9, rfl, o9, x9⟩
            go_wp2
            refine stepQ_mk rfl (by simp only [List.getElem?_toArray, List.getElem?_cons_succ, List.getElem?_cons_zero]; exact rfl) ?_
            exact ⟨x9, v9, rfl, o9, fun q hq => (o9.block q hq).2⟩
          · intros
            (try simp only [*])
            go_wp2_with (first | (refine ldiS S.out ?_) | (refine ldiM S.out ?_) | (refine ldI S.out ?_) | (refine wpList_want rfl rfl ?_; dsimp only) | fail)
            refine stepQ_mk rfl (by simp only [List.getElem?_toArray, List.getElem?_cons_succ, List.getElem?_cons_zero]; exact rfl) ?_
            exact ⟨Ext.refl _, rfl⟩
          · intros
            (try simp only [*])
            go_wp2_with (first | (refine ldiS S.out ?_) | (refine ldiM S.out ?_) | (refine ldI S.out ?_) | (refine wpList_want rfl rfl ?_; dsimp only) | fail)
            (with_reducible refine (JB.out _ _ _ (S.out.grp.get 4 rfl rfl).ints (S.out.grp.get 5 rfl rfl).ints).mono ?_)
            rintro e w9 ⟨v9, rfl, o9, x9⟩
            go_wp2
            refine stepQ_mk rfl (by simp only [List.getElem?_toArray, List.getElem?_cons_succ, List.getElem?_cons_zero]; exact rfl) ?_
            exact ⟨x9, v9, rfl, o9, fun q hq => (o9.block q hq).2⟩
          · intros
            obtain ⟨v3, e3, o3, b3⟩ := ‹∃ v, V 3 = _ ∧ Own _ _ v as_ ∧ _›
            obtain ⟨v5, e5, o5, b5⟩ := ‹∃ v, V 5 = _ ∧ Own _ _ v bs ∧ _›
            (try simp only [*])
            go_wp2_with (first | (refine ldiS S.out ?_) | (refine ldiM S.out ?_) | (refine ldI S.out ?_) | (refine wpList_want rfl rfl ?_; dsimp only) | fail)
            (with_reducible refine (AD.out _ _ _ o3.ints o5.ints).mono ?_)
            rintro e w9 ⟨v9, rfl, o9, x9⟩
            go_wp2
            refine stepQ_mk rfl (by simp only [List.getElem?_toArray, List.getElem?_cons_succ, List.getElem?_cons_zero]; exact rfl) ?_
            exact ⟨x9, v9, rfl, o9, fun q hq => (o9.block q hq).2⟩
          · intros
            obtain ⟨v1, e1, o1, b1⟩ := ‹∃ v, V 1 = _ ∧ Own _ _ v qs ∧ _›
            obtain ⟨v6, e6, o6, b6⟩ := ‹∃ v, V 6 = _ ∧ Own _ _ v qs ∧ _›
            (try simp only [*])
            go_wp2_with (first | (refine ldiS S.out ?_) | (refine ldiM S.out ?_) | (refine ldI S.out ?_) | (refine wpList_want rfl rfl ?_; dsimp only) | fail)
            (with_reducible refine (laws_sameMatrix qr qc _ _ qs _ o1.ints o6.ints).mono ?_)
            rintro e w9 ⟨rfl, x9⟩
            go_wp2
            refine stepQ_mk rfl (by simp only [List.getElem?_toArray, List.getElem?_cons_succ, List.getElem?_cons_zero]; exact rfl) ?_
            exact ⟨x9, rfl⟩
          · intros
            (try simp only [*])
            go_wp2_with (first | (refine ldiS S.out ?_) | (refine ldiM S.out ?_) | (refine ldI S.out ?_) | (refine wpList_want rfl rfl ?_; dsimp only) | fail)
            refine stepQ_mk rfl (by simp only [List.getElem?_toArray, List.getElem?_cons_succ, List.getElem?_cons_zero]; exact rfl) ?_
            exact ⟨Ext.refl _, rfl⟩
        case hB => kernel_rfl
        case fin =>
          intro V lo up w' hr hf ha
          simp only [factsOk, isv, matR, modeNg, newb, List.map_nil, List.map_cons, List.headD_cons, and_true, Nat.zero_add, Nat.reduceAdd] at hf
          simp only [List.length_cons, List.length_nil, Nat.zero_add, Nat.reduceAdd, List.drop_succ_cons, List.drop_zero]
          obtain ⟨-, -, -, -, -, -, -, -, ⟨-, -, -, e8⟩⟩ := hf
          clear ha
          rw [e8]
          clear e8
          replace S := Kept.mk (S.out.quiet hr)
          clear hr
          go_wp2_with (first | (refine ldiS S.out ?_) | (refine ldiM S.out ?_) | (refine ldI S.out ?_) | (refine stiS S.out ?_; clear S; intro w9 S) | (refine aliS S.out ?_; clear S; intro b9 w9 S) | (refine wpList_want rfl rfl ?_; dsimp only) | fail)
          go_ret
          exact ⟨rfl, S.out.ext⟩
  · have hl' : ¬ (n : Int) ≤ 1048576 := hl
    have hg : (1048576 : Int) < n := by omega
    clear hl
    go_enter Try.func7, Try.ntmps7
    go_wp2_with (fail)
    go_ret
    exact ⟨rfl, S.out.ext⟩
end Go.Proofs.Ytjoomdihjffmlaa
