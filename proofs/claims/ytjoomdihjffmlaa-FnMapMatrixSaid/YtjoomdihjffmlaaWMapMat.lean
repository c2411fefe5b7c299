/- The walk through FnMapMatrix. -/
import Derived.Test.YtjoomdihjffmlaaDrawMM
import Derived.Test.YtjoomdihjffmlaaMapT
import Derived.Test.YtjoomdihjffmlaaRowP
import Derived.Test.YtjoomdihjffmlaaExL
import Derived.BigQuiet
namespace Go.Proofs.Ytjoomdihjffmlaa
set_option linter.unusedSimpArgs false
set_option linter.unusedVariables false
open Go.RowKit
theorem laws_alive (w : World) : Calls Try.prog 15 #[] w fun e w' => e = .returned (.bool true) ∧ w = w' := by
  go_enter Try.func15, Try.ntmps15
  go_wp2_with (go_at_call 51; (with_reducible refine (impl_RingValid 5 true (by decide) _).mono ?_); rintro e w1 ⟨rfl, rfl⟩)
  go_ret
  exact ⟨rfl, rfl⟩

theorem mapM_good {k r c : Int} {xs : List Int} (hk : fKnown k = true) (h : mOk r c xs = true) : mOk r c (mapM k r c xs).xs = true := by
  rw [mapM_ok hk h]
  obtain ⟨h1, h2, h3, h4⟩ := mOk_parts h
  refine mOk_mk h1 h2 (by rw [mapTo_len]; exact h3) (mapTo_all _ _ fun i hi => rv_fAt' hk ?_)
  rw [List.all_eq_true] at h4
  have e : xs.getD i 0 = xs[i] := by simp [hi]
  rw [e]; exact h4 _ (List.getElem_mem hi)
theorem mapM_twice {r c : Int} {xs : List Int} (h : mOk r c xs = true) : mapM 2 r c (mapM 2 r c xs).xs = mapM 2 r c xs := by
  have g := mapM_good (k := 2) (by decide) h
  rw [mapM_ok (k := 2) (by decide) g, mapM_ok (k := 2) (by decide) h]
  simp only [mapTo_len]
  congr 1
  apply mapTo_congr
  intro i hi
  rw [mapTo_get _ _ _ hi]
  obtain ⟨_, _, _, h4⟩ := mOk_parts h
  rw [List.all_eq_true] at h4
  have e : xs.getD i 0 = xs[i] := by simp [hi]
  rw [e]; exact ramp_twice (h4 _ (List.getElem_mem hi))

set_option maxHeartbeats 8000000 in
set_option maxRecDepth 4000 in
theorem walk_FnMapMatrix (v : Value) (w : World) (hb : Bytes w v) : Calls Try.prog 6 #[v] w fun e w' => e = .returned (.bool true) ∧ Ext w w' := by
  obtain ⟨a, n, cap, rfl, hn, hm, hc⟩ := id hb
  clear hc
  have HB := Kept.mk hb
  clear hb
  have S := Kept.mk (St.start w)
  by_cases hl : (n : Int) ≤ 1048576
  · go_enter Try.func6, Try.ntmps6
    go_wp2_with (fail)
    clear hl
    (with_reducible refine (spec_DrawMapMatrix _ _ (HB.out.ext S.out.ext)).mono ?_)
    rintro e u9 ⟨k, u7, rfl, ⟨r0, c0, v0, x0, rfl, o0, l0⟩, x9⟩
    replace S := Kept.mk (S.out.made o0 x9)
    clear x9
    obtain ⟨p0, m0, hu9, -, -⟩ := id o0.ints
    try simp only at hu9
    subst hu9
    clear o0
    cases g : (fKnown k && mOk r0 c0 x0)
    · have IM := Kept.mk (fun (u : Value) (w' : World) (h : Ints w' u x0) => impl_MapMatrix k r0 c0 u x0 w' h)
      have SM := Kept.mk (fun (u : Value) (w' : World) (h : Ints w' u x0) (hn : NilOk u) => spec_MapMatrix k r0 c0 u x0 w' h hn l0)
      unfold MatPost at IM SM
      rw [mapM_bad g] at IM SM
      unfold matZ at IM SM
      simp only at IM SM
      have e0 : ∃ ds, ds = ([] : List Int) := ⟨_, rfl⟩
      obtain ⟨ds, e0⟩ := e0
      rw [← e0] at IM SM
      have L0 : ds.length = 0 := by rw [e0]; rfl
      clear g e0
      have hL0 := Kept.mk L0
      clear L0
      go_wp2_with (first | (refine ldiM S.out rfl _ rfl _ _ rfl _ _ _ (by repeat (first | exact List.Mem.head _ | refine List.Mem.tail _ ?_)) (by simp only [List.drop_succ_cons, List.drop_zero, List.take_succ_cons, List.take_zero]; exact rfl) (by exact rfl) ?_) | (refine ldI S.out rfl _ rfl _ _ rfl _ _ _ (by repeat (first | exact List.Mem.head _ | refine List.Mem.tail _ ?_)) (by simp only [List.getElem?_cons_succ, List.getElem?_cons_zero]; exact rfl) ?_) | (refine ldIs S.out rfl _ rfl _ _ rfl _ _ _ (by repeat (first | exact List.Mem.head _ | refine List.Mem.tail _ ?_)) (by simp only [List.getElem?_cons_succ, List.getElem?_cons_zero]; exact rfl) ?_) | (refine stiM S.out rfl rfl _ _ rfl _ _ rfl _ rfl (by exact rfl) (by exact rfl) _ _ _ _ (by repeat (first | exact List.Mem.head _ | refine List.Mem.tail _ ?_)) (by simp only [splice, List.take_succ_cons, List.take_zero, List.drop_succ_cons, List.drop_zero, List.drop_nil, List.length_cons, List.length_nil, List.cons_append, List.nil_append, Nat.zero_add, Nat.add_zero, Nat.reduceAdd]; exact rfl) (by repeat (first | exact Put.head | apply Put.tail)) (by exact Nat.le_of_ble_eq_true rfl) ?_; clear S; intro w9 S9; have S := Kept.mk S9; clear S9) | (refine aliM S.out rfl rfl ?_; clear S; intro b9 w9 S9; have S := Kept.mk S9; clear S9) | (refine wpList_want rfl rfl ?_; dsimp only) | fail)
      (with_reducible refine (IM.out _ _ S.out.own.ints).mono ?_)
      rintro e u9 ⟨v1, rfl, o1, x9⟩
      replace S := Kept.mk (S.out.made o1 x9)
      clear x9
      obtain ⟨p1, m1, hu9, -, -⟩ := id o1.ints
      try simp only at hu9
      subst hu9
      clear o1
      go_wp2_with (first | (refine ldiM S.out rfl _ rfl _ _ rfl _ _ _ (by repeat (first | exact List.Mem.head _ | refine List.Mem.tail _ ?_)) (by simp only [List.drop_succ_cons, List.drop_zero, List.take_succ_cons, List.take_zero]; exact rfl) (by exact rfl) ?_) | (refine ldI S.out rfl _ rfl _ _ rfl _ _ _ (by repeat (first | exact List.Mem.head _ | refine List.Mem.tail _ ?_)) (by simp only [List.getElem?_cons_succ, List.getElem?_cons_zero]; exact rfl) ?_) | (refine ldIs S.out rfl _ rfl _ _ rfl _ _ _ (by repeat (first | exact List.Mem.head _ | refine List.Mem.tail _ ?_)) (by simp only [List.getElem?_cons_succ, List.getElem?_cons_zero]; exact rfl) ?_) | (refine stiM S.out rfl rfl _ _ rfl _ _ rfl _ rfl (by exact rfl) (by exact rfl) _ _ _ _ (by repeat (first | exact List.Mem.head _ | refine List.Mem.tail _ ?_)) (by simp only [splice, List.take_succ_cons, List.take_zero, List.drop_succ_cons, List.drop_zero, List.drop_nil, List.length_cons, List.length_nil, List.cons_append, List.nil_append, Nat.zero_add, Nat.add_zero, Nat.reduceAdd]; exact rfl) (by repeat (first | exact Put.head | apply Put.tail)) (by exact Nat.le_of_ble_eq_true rfl) ?_; clear S; intro w9 S9; have S := Kept.mk S9; clear S9) | (refine aliM S.out rfl rfl ?_; clear S; intro b9 w9 S9; have S := Kept.mk S9; clear S9) | (refine wpList_want rfl rfl ?_; dsimp only) | fail)
      apply wp_region_zip [isv _, isv _, isv _, matR 0 0 ds, isv _, isv _] _ (by kernel_rfl)
      case hA => intro V; simp [putAll, dstOf, Act.put]; exact rfl
      case hsl => intro V; exact rfl
      case step =>
        intro V lo up w' hr
        have S := Kept.mk (S.out.quiet hr)
        simp only [zipOk, depsImp, isv, matR, modeNg, newb, waits, Region.binds, List.map_nil, List.map_cons, List.headD_cons, List.nil_append, List.cons_append, List.filterMap_cons, List.filterMap_nil, ↓reduceIte, modeNe, Bool.false_eq_true, true_implies, List.getD_cons_zero, List.getD_cons_succ, and_true]
        refine ⟨?_, ?_, ?_, ?_, ?_, ?_⟩
        · intros
          (try simp only [*])
          go_wp2_with (first | (refine ldiM S.out rfl _ rfl _ _ rfl _ _ _ (by repeat (first | exact List.Mem.head _ | refine List.Mem.tail _ ?_)) (by simp only [List.drop_succ_cons, List.drop_zero, List.take_succ_cons, List.take_zero]; exact rfl) (by exact rfl) ?_) | (refine ldI S.out rfl _ rfl _ _ rfl _ _ _ (by repeat (first | exact List.Mem.head _ | refine List.Mem.tail _ ?_)) (by simp only [List.getElem?_cons_succ, List.getElem?_cons_zero]; exact rfl) ?_) | (refine ldIs S.out rfl _ rfl _ _ rfl _ _ _ (by repeat (first | exact List.Mem.head _ | refine List.Mem.tail _ ?_)) (by simp only [List.getElem?_cons_succ, List.getElem?_cons_zero]; exact rfl) ?_) | (refine stiM S.out rfl rfl _ _ rfl _ _ rfl _ rfl (by exact rfl) (by exact rfl) _ _ _ _ (by repeat (first | exact List.Mem.head _ | refine List.Mem.tail _ ?_)) (by simp only [splice, List.take_succ_cons, List.take_zero, List.drop_succ_cons, List.drop_zero, List.drop_nil, List.length_cons, List.length_nil, List.cons_append, List.nil_append, Nat.zero_add, Nat.add_zero, Nat.reduceAdd]; exact rfl) (by repeat (first | exact Put.head | apply Put.tail)) (by exact Nat.le_of_ble_eq_true rfl) ?_; clear S; intro w9 S9; have S := Kept.mk S9; clear S9) | (refine aliM S.out rfl rfl ?_; clear S; intro b9 w9 S9; have S := Kept.mk S9; clear S9) | (refine wpList_want rfl rfl ?_; dsimp only) | fail)
          refine stepQ_mk rfl (by simp only [List.getElem?_toArray, List.getElem?_cons_succ, List.getElem?_cons_zero]; exact rfl) ?_
          exact ⟨Ext.refl _, rfl⟩
        · intros
          (try simp only [*])
          go_wp2_with (first | (refine ldiM S.out rfl _ rfl _ _ rfl _ _ _ (by repeat (first | exact List.Mem.head _ | refine List.Mem.tail _ ?_)) (by simp only [List.drop_succ_cons, List.drop_zero, List.take_succ_cons, List.take_zero]; exact rfl) (by exact rfl) ?_) | (refine ldI S.out rfl _ rfl _ _ rfl _ _ _ (by repeat (first | exact List.Mem.head _ | refine List.Mem.tail _ ?_)) (by simp only [List.getElem?_cons_succ, List.getElem?_cons_zero]; exact rfl) ?_) | (refine ldIs S.out rfl _ rfl _ _ rfl _ _ _ (by repeat (first | exact List.Mem.head _ | refine List.Mem.tail _ ?_)) (by simp only [List.getElem?_cons_succ, List.getElem?_cons_zero]; exact rfl) ?_) | (refine stiM S.out rfl rfl _ _ rfl _ _ rfl _ rfl (by exact rfl) (by exact rfl) _ _ _ _ (by repeat (first | exact List.Mem.head _ | refine List.Mem.tail _ ?_)) (by simp only [splice, List.take_succ_cons, List.take_zero, List.drop_succ_cons, List.drop_zero, List.drop_nil, List.length_cons, List.length_nil, List.cons_append, List.nil_append, Nat.zero_add, Nat.add_zero, Nat.reduceAdd]; exact rfl) (by repeat (first | exact Put.head | apply Put.tail)) (by exact Nat.le_of_ble_eq_true rfl) ?_; clear S; intro w9 S9; have S := Kept.mk S9; clear S9) | (refine aliM S.out rfl rfl ?_; clear S; intro b9 w9 S9; have S := Kept.mk S9; clear S9) | (refine wpList_want rfl rfl ?_; dsimp only) | fail)
          refine stepQ_mk rfl (by simp only [List.getElem?_toArray, List.getElem?_cons_succ, List.getElem?_cons_zero]; exact rfl) ?_
          exact ⟨Ext.refl _, rfl⟩
        · intros
          (try simp only [*])
          go_wp2_with (first | (refine ldiM S.out rfl _ rfl _ _ rfl _ _ _ (by repeat (first | exact List.Mem.head _ | refine List.Mem.tail _ ?_)) (by simp only [List.drop_succ_cons, List.drop_zero, List.take_succ_cons, List.take_zero]; exact rfl) (by exact rfl) ?_) | (refine ldI S.out rfl _ rfl _ _ rfl _ _ _ (by repeat (first | exact List.Mem.head _ | refine List.Mem.tail _ ?_)) (by simp only [List.getElem?_cons_succ, List.getElem?_cons_zero]; exact rfl) ?_) | (refine ldIs S.out rfl _ rfl _ _ rfl _ _ _ (by repeat (first | exact List.Mem.head _ | refine List.Mem.tail _ ?_)) (by simp only [List.getElem?_cons_succ, List.getElem?_cons_zero]; exact rfl) ?_) | (refine stiM S.out rfl rfl _ _ rfl _ _ rfl _ rfl (by exact rfl) (by exact rfl) _ _ _ _ (by repeat (first | exact List.Mem.head _ | refine List.Mem.tail _ ?_)) (by simp only [splice, List.take_succ_cons, List.take_zero, List.drop_succ_cons, List.drop_zero, List.drop_nil, List.length_cons, List.length_nil, List.cons_append, List.nil_append, Nat.zero_add, Nat.add_zero, Nat.reduceAdd]; exact rfl) (by repeat (first | exact Put.head | apply Put.tail)) (by exact Nat.le_of_ble_eq_true rfl) ?_; clear S; intro w9 S9; have S := Kept.mk S9; clear S9) | (refine aliM S.out rfl rfl ?_; clear S; intro b9 w9 S9; have S := Kept.mk S9; clear S9) | (refine wpList_want rfl rfl ?_; dsimp only) | fail)
          refine stepQ_mk rfl (by simp only [List.getElem?_toArray, List.getElem?_cons_succ, List.getElem?_cons_zero]; exact rfl) ?_
          exact ⟨Ext.refl _, rfl⟩
        · intros
          (try simp only [*])
          go_wp2_with (fail)
          (with_reducible refine (SM.out _ _ S.out.grp.o1.ints S.out.grp.o1.nilOk).mono ?_)
          rintro e w9 ⟨v9, rfl, o9, x9⟩
          go_wp2
          refine stepQ_mk rfl (by simp only [List.getElem?_toArray, List.getElem?_cons_succ, List.getElem?_cons_zero]; exact rfl) ?_
          exact ⟨x9, v9, rfl, o9, fun q hq => (o9.block q hq).2⟩
        · intro _ _ _ e0 _ _ _ ⟨v3, e3, o3, b3⟩
          intros
          (try simp only [*])
          go_wp2_with (fail)
          (with_reducible refine (laws_sameMatrix 0 0 _ _ ds _ S.out.grp.o0.ints o3.ints).mono ?_)
          rintro e w9 ⟨rfl, x9⟩
          go_wp2
          refine stepQ_mk rfl (by simp only [List.getElem?_toArray, List.getElem?_cons_succ, List.getElem?_cons_zero]; exact rfl) ?_
          exact ⟨x9, rfl⟩
        · intros
          (try simp only [*])
          go_wp2_with (first | (refine ldiM S.out rfl _ rfl _ _ rfl _ _ _ (by repeat (first | exact List.Mem.head _ | refine List.Mem.tail _ ?_)) (by simp only [List.drop_succ_cons, List.drop_zero, List.take_succ_cons, List.take_zero]; exact rfl) (by exact rfl) ?_) | (refine ldI S.out rfl _ rfl _ _ rfl _ _ _ (by repeat (first | exact List.Mem.head _ | refine List.Mem.tail _ ?_)) (by simp only [List.getElem?_cons_succ, List.getElem?_cons_zero]; exact rfl) ?_) | (refine ldIs S.out rfl _ rfl _ _ rfl _ _ _ (by repeat (first | exact List.Mem.head _ | refine List.Mem.tail _ ?_)) (by simp only [List.getElem?_cons_succ, List.getElem?_cons_zero]; exact rfl) ?_) | (refine stiM S.out rfl rfl _ _ rfl _ _ rfl _ rfl (by exact rfl) (by exact rfl) _ _ _ _ (by repeat (first | exact List.Mem.head _ | refine List.Mem.tail _ ?_)) (by simp only [splice, List.take_succ_cons, List.take_zero, List.drop_succ_cons, List.drop_zero, List.drop_nil, List.length_cons, List.length_nil, List.cons_append, List.nil_append, Nat.zero_add, Nat.add_zero, Nat.reduceAdd]; exact rfl) (by repeat (first | exact Put.head | apply Put.tail)) (by exact Nat.le_of_ble_eq_true rfl) ?_; clear S; intro w9 S9; have S := Kept.mk S9; clear S9) | (refine aliM S.out rfl rfl ?_; clear S; intro b9 w9 S9; have S := Kept.mk S9; clear S9) | (refine wpList_want rfl rfl ?_; dsimp only) | fail)
          refine stepQ_mk rfl (by simp only [List.getElem?_toArray, List.getElem?_cons_succ, List.getElem?_cons_zero]; exact rfl) ?_
          exact ⟨Ext.refl _, rfl⟩
      case hB => kernel_rfl
      case fin =>
        intro V lo up w' hr hf ha
        simp only [factsOk, isv, matR, modeNg, newb, List.map_nil, List.map_cons, List.headD_cons, and_true, Nat.zero_add, Nat.reduceAdd] at hf
        simp only [List.length_cons, List.length_nil, Nat.zero_add, Nat.reduceAdd, List.drop_succ_cons, List.drop_zero]
        obtain ⟨-, -, -, -, -, ⟨-, -, -, e5⟩⟩ := hf
        clear ha
        rw [e5]
        clear e5
        replace S := Kept.mk (S.out.quiet hr)
        clear hr
        have L0 := hL0.out
        go_wp2_with (first | (refine ldiM S.out rfl _ rfl _ _ rfl _ _ _ (by repeat (first | exact List.Mem.head _ | refine List.Mem.tail _ ?_)) (by simp only [List.drop_succ_cons, List.drop_zero, List.take_succ_cons, List.take_zero]; exact rfl) (by exact rfl) ?_) | (refine ldI S.out rfl _ rfl _ _ rfl _ _ _ (by repeat (first | exact List.Mem.head _ | refine List.Mem.tail _ ?_)) (by simp only [List.getElem?_cons_succ, List.getElem?_cons_zero]; exact rfl) ?_) | (refine ldIs S.out rfl _ rfl _ _ rfl _ _ _ (by repeat (first | exact List.Mem.head _ | refine List.Mem.tail _ ?_)) (by simp only [List.getElem?_cons_succ, List.getElem?_cons_zero]; exact rfl) ?_) | (refine stiM S.out rfl rfl _ _ rfl _ _ rfl _ rfl (by exact rfl) (by exact rfl) _ _ _ _ (by repeat (first | exact List.Mem.head _ | refine List.Mem.tail _ ?_)) (by simp only [splice, List.take_succ_cons, List.take_zero, List.drop_succ_cons, List.drop_zero, List.drop_nil, List.length_cons, List.length_nil, List.cons_append, List.nil_append, Nat.zero_add, Nat.add_zero, Nat.reduceAdd]; exact rfl) (by repeat (first | exact Put.head | apply Put.tail)) (by exact Nat.le_of_ble_eq_true rfl) ?_; clear S; intro w9 S9; have S := Kept.mk S9; clear S9) | (refine aliM S.out rfl rfl ?_; clear S; intro b9 w9 S9; have S := Kept.mk S9; clear S9) | (refine wpList_want rfl rfl ?_; dsimp only) | fail)
        (with_reducible refine (laws_alive _).mono ?_)
        rintro e u9 ⟨rfl, rfl⟩
        go_wp2_with (first | (refine ldiM S.out rfl _ rfl _ _ rfl _ _ _ (by repeat (first | exact List.Mem.head _ | refine List.Mem.tail _ ?_)) (by simp only [List.drop_succ_cons, List.drop_zero, List.take_succ_cons, List.take_zero]; exact rfl) (by exact rfl) ?_) | (refine ldI S.out rfl _ rfl _ _ rfl _ _ _ (by repeat (first | exact List.Mem.head _ | refine List.Mem.tail _ ?_)) (by simp only [List.getElem?_cons_succ, List.getElem?_cons_zero]; exact rfl) ?_) | (refine ldIs S.out rfl _ rfl _ _ rfl _ _ _ (by repeat (first | exact List.Mem.head _ | refine List.Mem.tail _ ?_)) (by simp only [List.getElem?_cons_succ, List.getElem?_cons_zero]; exact rfl) ?_) | (refine stiM S.out rfl rfl _ _ rfl _ _ rfl _ rfl (by exact rfl) (by exact rfl) _ _ _ _ (by repeat (first | exact List.Mem.head _ | refine List.Mem.tail _ ?_)) (by simp only [splice, List.take_succ_cons, List.take_zero, List.drop_succ_cons, List.drop_zero, List.drop_nil, List.length_cons, List.length_nil, List.cons_append, List.nil_append, Nat.zero_add, Nat.add_zero, Nat.reduceAdd]; exact rfl) (by repeat (first | exact Put.head | apply Put.tail)) (by exact Nat.le_of_ble_eq_true rfl) ?_; clear S; intro w9 S9; have S := Kept.mk S9; clear S9) | (refine aliM S.out rfl rfl ?_; clear S; intro b9 w9 S9; have S := Kept.mk S9; clear S9) | (refine wpList_want rfl rfl ?_; dsimp only) | fail)
        go_ret
        exact ⟨rfl, S.out.ext⟩
    · have IM := Kept.mk (fun (u : Value) (w' : World) (h : Ints w' u x0) => impl_MapMatrix k r0 c0 u x0 w' h)
      have SM := Kept.mk (fun (u : Value) (w' : World) (h : Ints w' u x0) (hn : NilOk u) => spec_MapMatrix k r0 c0 u x0 w' h hn l0)
      unfold MatPost at IM SM
      obtain ⟨gk, gm⟩ : fKnown k = true ∧ mOk r0 c0 x0 = true := by simpa only [Bool.and_eq_true] using g
      clear g
      have GM := mapM_good gk gm
      have e9 := mapM_ok gk gm
      have FAk := Kept.mk (fun (i : Nat) (hi : i < x0.length) => (show (mapM k r0 c0 x0).xs.getD i 0 = fAt k (x0.getD i 0) by rw [e9]; exact mapTo_get _ _ _ hi))
      have LE := Kept.mk (show (mapM k r0 c0 x0).xs.length = x0.length by rw [e9]; exact mapTo_len _ _)
      rw [show (mapM k r0 c0 x0).r = r0 by rw [e9], show (mapM k r0 c0 x0).c = c0 by rw [e9]] at IM SM
      clear e9
      have IR := Kept.mk (fun (u : Value) (w' : World) (h : Ints w' u x0) => impl_MapMatrix 2 r0 c0 u x0 w' h)
      unfold MatPost at IR
      rw [show (mapM 2 r0 c0 x0).r = r0 by rw [mapM_ok (by decide) gm], show (mapM 2 r0 c0 x0).c = c0 by rw [mapM_ok (by decide) gm]] at IR
      have IT := Kept.mk (fun (u : Value) (w' : World) (h : Ints w' u (mapM 2 r0 c0 x0).xs) => impl_MapMatrix 2 r0 c0 u (mapM 2 r0 c0 x0).xs w' h)
      unfold MatPost at IT
      rw [mapM_twice gm, show (mapM 2 r0 c0 x0).r = r0 by rw [mapM_ok (by decide) gm], show (mapM 2 r0 c0 x0).c = c0 by rw [mapM_ok (by decide) gm]] at IT
      generalize (mapM 2 r0 c0 x0).xs = ts at *
      generalize (mapM k r0 c0 x0).xs = ds at *
      have HGM := Kept.mk GM
      obtain ⟨R, C, eR, eC, R1, R5, -, -, -, l25, -⟩ := mOk_nat gm
      have lx0 : x0.length ≤ 25 := by obtain ⟨_, _, h3, _⟩ := mOk_parts gm; rw [eR, eC, ← Int.natCast_mul] at h3; omega
      have r0n : (r0 == 0) = false := by simp; omega
      clear GM gm gk eR eC R1 R5 l25
      go_wp2_with (first | (refine aliM (L := []) S.out rfl rfl ?_; clear S; intro b4 w9 S9; have S := Kept.mk S9; clear S9) | (refine aliM (L := [_]) S.out rfl rfl ?_; clear S; intro b5 w9 S9; have S := Kept.mk S9; clear S9) | (refine ldiM S.out rfl _ rfl _ _ rfl _ _ _ (by repeat (first | exact List.Mem.head _ | refine List.Mem.tail _ ?_)) (by simp only [List.drop_succ_cons, List.drop_zero, List.take_succ_cons, List.take_zero]; exact rfl) (by exact rfl) ?_) | (refine ldI S.out rfl _ rfl _ _ rfl _ _ _ (by repeat (first | exact List.Mem.head _ | refine List.Mem.tail _ ?_)) (by simp only [List.getElem?_cons_succ, List.getElem?_cons_zero]; exact rfl) ?_) | (refine ldIs S.out rfl _ rfl _ _ rfl _ _ _ (by repeat (first | exact List.Mem.head _ | refine List.Mem.tail _ ?_)) (by simp only [List.getElem?_cons_succ, List.getElem?_cons_zero]; exact rfl) ?_) | (refine stiM S.out rfl rfl _ _ rfl _ _ rfl _ rfl (by exact rfl) (by exact rfl) _ _ _ _ (by repeat (first | exact List.Mem.head _ | refine List.Mem.tail _ ?_)) (by simp only [splice, List.take_succ_cons, List.take_zero, List.drop_succ_cons, List.drop_zero, List.drop_nil, List.length_cons, List.length_nil, List.cons_append, List.nil_append, Nat.zero_add, Nat.add_zero, Nat.reduceAdd]; exact rfl) (by repeat (first | exact Put.head | apply Put.tail)) (by exact Nat.le_of_ble_eq_true rfl) ?_; clear S; intro w9 S9; have S := Kept.mk S9; clear S9) | (refine aliM S.out rfl rfl ?_; clear S; intro b9 w9 S9; have S := Kept.mk S9; clear S9) | (refine wpList_want rfl rfl ?_; dsimp only) | fail)
      (with_reducible refine (IM.out _ _ S.out.own.ints).mono ?_)
      rintro e u9 ⟨v1, rfl, o1, x9⟩
      replace S := Kept.mk (S.out.made o1 x9)
      clear x9
      obtain ⟨p1, m1, hu9, -, -⟩ := id o1.ints
      try simp only at hu9
      subst hu9
      clear o1
      go_wp2_with (first | (refine aliM (L := []) S.out rfl rfl ?_; clear S; intro b4 w9 S9; have S := Kept.mk S9; clear S9) | (refine aliM (L := [_]) S.out rfl rfl ?_; clear S; intro b5 w9 S9; have S := Kept.mk S9; clear S9) | (refine ldiM S.out rfl _ rfl _ _ rfl _ _ _ (by repeat (first | exact List.Mem.head _ | refine List.Mem.tail _ ?_)) (by simp only [List.drop_succ_cons, List.drop_zero, List.take_succ_cons, List.take_zero]; exact rfl) (by exact rfl) ?_) | (refine ldI S.out rfl _ rfl _ _ rfl _ _ _ (by repeat (first | exact List.Mem.head _ | refine List.Mem.tail _ ?_)) (by simp only [List.getElem?_cons_succ, List.getElem?_cons_zero]; exact rfl) ?_) | (refine ldIs S.out rfl _ rfl _ _ rfl _ _ _ (by repeat (first | exact List.Mem.head _ | refine List.Mem.tail _ ?_)) (by simp only [List.getElem?_cons_succ, List.getElem?_cons_zero]; exact rfl) ?_) | (refine stiM S.out rfl rfl _ _ rfl _ _ rfl _ rfl (by exact rfl) (by exact rfl) _ _ _ _ (by repeat (first | exact List.Mem.head _ | refine List.Mem.tail _ ?_)) (by simp only [splice, List.take_succ_cons, List.take_zero, List.drop_succ_cons, List.drop_zero, List.drop_nil, List.length_cons, List.length_nil, List.cons_append, List.nil_append, Nat.zero_add, Nat.add_zero, Nat.reduceAdd]; exact rfl) (by repeat (first | exact Put.head | apply Put.tail)) (by exact Nat.le_of_ble_eq_true rfl) ?_; clear S; intro w9 S9; have S := Kept.mk S9; clear S9) | (refine aliM S.out rfl rfl ?_; clear S; intro b9 w9 S9; have S := Kept.mk S9; clear S9) | (refine wpList_want rfl rfl ?_; dsimp only) | fail)
      apply wp_region_zip [isv _, isv _, isv _, matR r0 c0 ds, isv _, isv _] _ (by kernel_rfl)
      case hA => intro V; simp [putAll, dstOf, Act.put]; exact rfl
      case hsl => intro V; exact rfl
      case step =>
        intro V lo up w' hr
        have S := Kept.mk (S.out.quiet hr)
        simp only [zipOk, depsImp, isv, matR, modeNg, newb, waits, Region.binds, List.map_nil, List.map_cons, List.headD_cons, List.nil_append, List.cons_append, List.filterMap_cons, List.filterMap_nil, ↓reduceIte, modeNe, Bool.false_eq_true, true_implies, List.getD_cons_zero, List.getD_cons_succ, and_true]
        refine ⟨?_, ?_, ?_, ?_, ?_, ?_⟩
        · intros
          (try simp only [*])
          go_wp2_with (first | (refine aliM (L := []) S.out rfl rfl ?_; clear S; intro b4 w9 S9; have S := Kept.mk S9; clear S9) | (refine aliM (L := [_]) S.out rfl rfl ?_; clear S; intro b5 w9 S9; have S := Kept.mk S9; clear S9) | (refine ldiM S.out rfl _ rfl _ _ rfl _ _ _ (by repeat (first | exact List.Mem.head _ | refine List.Mem.tail _ ?_)) (by simp only [List.drop_succ_cons, List.drop_zero, List.take_succ_cons, List.take_zero]; exact rfl) (by exact rfl) ?_) | (refine ldI S.out rfl _ rfl _ _ rfl _ _ _ (by repeat (first | exact List.Mem.head _ | refine List.Mem.tail _ ?_)) (by simp only [List.getElem?_cons_succ, List.getElem?_cons_zero]; exact rfl) ?_) | (refine ldIs S.out rfl _ rfl _ _ rfl _ _ _ (by repeat (first | exact List.Mem.head _ | refine List.Mem.tail _ ?_)) (by simp only [List.getElem?_cons_succ, List.getElem?_cons_zero]; exact rfl) ?_) | (refine stiM S.out rfl rfl _ _ rfl _ _ rfl _ rfl (by exact rfl) (by exact rfl) _ _ _ _ (by repeat (first | exact List.Mem.head _ | refine List.Mem.tail _ ?_)) (by simp only [splice, List.take_succ_cons, List.take_zero, List.drop_succ_cons, List.drop_zero, List.drop_nil, List.length_cons, List.length_nil, List.cons_append, List.nil_append, Nat.zero_add, Nat.add_zero, Nat.reduceAdd]; exact rfl) (by repeat (first | exact Put.head | apply Put.tail)) (by exact Nat.le_of_ble_eq_true rfl) ?_; clear S; intro w9 S9; have S := Kept.mk S9; clear S9) | (refine aliM S.out rfl rfl ?_; clear S; intro b9 w9 S9; have S := Kept.mk S9; clear S9) | (refine wpList_want rfl rfl ?_; dsimp only) | fail)
          refine stepQ_mk rfl (by simp only [List.getElem?_toArray, List.getElem?_cons_succ, List.getElem?_cons_zero]; exact rfl) ?_
          exact ⟨Ext.refl _, rfl⟩
        · intros
          (try simp only [*])
          go_wp2_with (first | (refine aliM (L := []) S.out rfl rfl ?_; clear S; intro b4 w9 S9; have S := Kept.mk S9; clear S9) | (refine aliM (L := [_]) S.out rfl rfl ?_; clear S; intro b5 w9 S9; have S := Kept.mk S9; clear S9) | (refine ldiM S.out rfl _ rfl _ _ rfl _ _ _ (by repeat (first | exact List.Mem.head _ | refine List.Mem.tail _ ?_)) (by simp only [List.drop_succ_cons, List.drop_zero, List.take_succ_cons, List.take_zero]; exact rfl) (by exact rfl) ?_) | (refine ldI S.out rfl _ rfl _ _ rfl _ _ _ (by repeat (first | exact List.Mem.head _ | refine List.Mem.tail _ ?_)) (by simp only [List.getElem?_cons_succ, List.getElem?_cons_zero]; exact rfl) ?_) | (refine ldIs S.out rfl _ rfl _ _ rfl _ _ _ (by repeat (first | exact List.Mem.head _ | refine List.Mem.tail _ ?_)) (by simp only [List.getElem?_cons_succ, List.getElem?_cons_zero]; exact rfl) ?_) | (refine stiM S.out rfl rfl _ _ rfl _ _ rfl _ rfl (by exact rfl) (by exact rfl) _ _ _ _ (by repeat (first | exact List.Mem.head _ | refine List.Mem.tail _ ?_)) (by simp only [splice, List.take_succ_cons, List.take_zero, List.drop_succ_cons, List.drop_zero, List.drop_nil, List.length_cons, List.length_nil, List.cons_append, List.nil_append, Nat.zero_add, Nat.add_zero, Nat.reduceAdd]; exact rfl) (by repeat (first | exact Put.head | apply Put.tail)) (by exact Nat.le_of_ble_eq_true rfl) ?_; clear S; intro w9 S9; have S := Kept.mk S9; clear S9) | (refine aliM S.out rfl rfl ?_; clear S; intro b9 w9 S9; have S := Kept.mk S9; clear S9) | (refine wpList_want rfl rfl ?_; dsimp only) | fail)
          refine stepQ_mk rfl (by simp only [List.getElem?_toArray, List.getElem?_cons_succ, List.getElem?_cons_zero]; exact rfl) ?_
          exact ⟨Ext.refl _, rfl⟩
        · intros
          (try simp only [*])
          go_wp2_with (first | (refine aliM (L := []) S.out rfl rfl ?_; clear S; intro b4 w9 S9; have S := Kept.mk S9; clear S9) | (refine aliM (L := [_]) S.out rfl rfl ?_; clear S; intro b5 w9 S9; have S := Kept.mk S9; clear S9) | (refine ldiM S.out rfl _ rfl _ _ rfl _ _ _ (by repeat (first | exact List.Mem.head _ | refine List.Mem.tail _ ?_)) (by simp only [List.drop_succ_cons, List.drop_zero, List.take_succ_cons, List.take_zero]; exact rfl) (by exact rfl) ?_) | (refine ldI S.out rfl _ rfl _ _ rfl _ _ _ (by repeat (first | exact List.Mem.head _ | refine List.Mem.tail _ ?_)) (by simp only [List.getElem?_cons_succ, List.getElem?_cons_zero]; exact rfl) ?_) | (refine ldIs S.out rfl _ rfl _ _ rfl _ _ _ (by repeat (first | exact List.Mem.head _ | refine List.Mem.tail _ ?_)) (by simp only [List.getElem?_cons_succ, List.getElem?_cons_zero]; exact rfl) ?_) | (refine stiM S.out rfl rfl _ _ rfl _ _ rfl _ rfl (by exact rfl) (by exact rfl) _ _ _ _ (by repeat (first | exact List.Mem.head _ | refine List.Mem.tail _ ?_)) (by simp only [splice, List.take_succ_cons, List.take_zero, List.drop_succ_cons, List.drop_zero, List.drop_nil, List.length_cons, List.length_nil, List.cons_append, List.nil_append, Nat.zero_add, Nat.add_zero, Nat.reduceAdd]; exact rfl) (by repeat (first | exact Put.head | apply Put.tail)) (by exact Nat.le_of_ble_eq_true rfl) ?_; clear S; intro w9 S9; have S := Kept.mk S9; clear S9) | (refine aliM S.out rfl rfl ?_; clear S; intro b9 w9 S9; have S := Kept.mk S9; clear S9) | (refine wpList_want rfl rfl ?_; dsimp only) | fail)
          refine stepQ_mk rfl (by simp only [List.getElem?_toArray, List.getElem?_cons_succ, List.getElem?_cons_zero]; exact rfl) ?_
          exact ⟨Ext.refl _, rfl⟩
        · intros
          (try simp only [*])
          go_wp2_with (fail)
          (with_reducible refine (SM.out _ _ S.out.grp.o1.ints S.out.grp.o1.nilOk).mono ?_)
          rintro e w9 ⟨v9, rfl, o9, x9⟩
          go_wp2
          refine stepQ_mk rfl (by simp only [List.getElem?_toArray, List.getElem?_cons_succ, List.getElem?_cons_zero]; exact rfl) ?_
          exact ⟨x9, v9, rfl, o9, fun q hq => (o9.block q hq).2⟩
        · intro _ _ _ e0 _ _ _ ⟨v3, e3, o3, b3⟩
          intros
          (try simp only [*])
          go_wp2_with (fail)
          (with_reducible refine (laws_sameMatrix r0 c0 _ _ ds _ S.out.grp.o0.ints o3.ints).mono ?_)
          rintro e w9 ⟨rfl, x9⟩
          go_wp2
          refine stepQ_mk rfl (by simp only [List.getElem?_toArray, List.getElem?_cons_succ, List.getElem?_cons_zero]; exact rfl) ?_
          exact ⟨x9, rfl⟩
        · intros
          (try simp only [*])
          go_wp2_with (first | (refine aliM (L := []) S.out rfl rfl ?_; clear S; intro b4 w9 S9; have S := Kept.mk S9; clear S9) | (refine aliM (L := [_]) S.out rfl rfl ?_; clear S; intro b5 w9 S9; have S := Kept.mk S9; clear S9) | (refine ldiM S.out rfl _ rfl _ _ rfl _ _ _ (by repeat (first | exact List.Mem.head _ | refine List.Mem.tail _ ?_)) (by simp only [List.drop_succ_cons, List.drop_zero, List.take_succ_cons, List.take_zero]; exact rfl) (by exact rfl) ?_) | (refine ldI S.out rfl _ rfl _ _ rfl _ _ _ (by repeat (first | exact List.Mem.head _ | refine List.Mem.tail _ ?_)) (by simp only [List.getElem?_cons_succ, List.getElem?_cons_zero]; exact rfl) ?_) | (refine ldIs S.out rfl _ rfl _ _ rfl _ _ _ (by repeat (first | exact List.Mem.head _ | refine List.Mem.tail _ ?_)) (by simp only [List.getElem?_cons_succ, List.getElem?_cons_zero]; exact rfl) ?_) | (refine stiM S.out rfl rfl _ _ rfl _ _ rfl _ rfl (by exact rfl) (by exact rfl) _ _ _ _ (by repeat (first | exact List.Mem.head _ | refine List.Mem.tail _ ?_)) (by simp only [splice, List.take_succ_cons, List.take_zero, List.drop_succ_cons, List.drop_zero, List.drop_nil, List.length_cons, List.length_nil, List.cons_append, List.nil_append, Nat.zero_add, Nat.add_zero, Nat.reduceAdd]; exact rfl) (by repeat (first | exact Put.head | apply Put.tail)) (by exact Nat.le_of_ble_eq_true rfl) ?_; clear S; intro w9 S9; have S := Kept.mk S9; clear S9) | (refine aliM S.out rfl rfl ?_; clear S; intro b9 w9 S9; have S := Kept.mk S9; clear S9) | (refine wpList_want rfl rfl ?_; dsimp only) | fail)
          refine stepQ_mk rfl (by simp only [List.getElem?_toArray, List.getElem?_cons_succ, List.getElem?_cons_zero]; exact rfl) ?_
          exact ⟨Ext.refl _, rfl⟩
      case hB => kernel_rfl
      case fin =>
        intro V lo up w' hr hf ha
        simp only [factsOk, isv, matR, modeNg, newb, List.map_nil, List.map_cons, List.headD_cons, and_true, Nat.zero_add, Nat.reduceAdd] at hf
        simp only [List.length_cons, List.length_nil, Nat.zero_add, Nat.reduceAdd, List.drop_succ_cons, List.drop_zero]
        obtain ⟨-, -, -, -, -, ⟨-, -, -, e5⟩⟩ := hf
        clear ha
        rw [e5]
        clear e5
        replace S := Kept.mk (S.out.quiet hr)
        clear hr
        go_wp2_with (first | (refine aliM (L := []) S.out rfl rfl ?_; clear S; intro b4 w9 S9; have S := Kept.mk S9; clear S9) | (refine aliM (L := [_]) S.out rfl rfl ?_; clear S; intro b5 w9 S9; have S := Kept.mk S9; clear S9) | (refine ldiM S.out rfl _ rfl _ _ rfl _ _ _ (by repeat (first | exact List.Mem.head _ | refine List.Mem.tail _ ?_)) (by simp only [List.drop_succ_cons, List.drop_zero, List.take_succ_cons, List.take_zero]; exact rfl) (by exact rfl) ?_) | (refine ldI S.out rfl _ rfl _ _ rfl _ _ _ (by repeat (first | exact List.Mem.head _ | refine List.Mem.tail _ ?_)) (by simp only [List.getElem?_cons_succ, List.getElem?_cons_zero]; exact rfl) ?_) | (refine ldIs S.out rfl _ rfl _ _ rfl _ _ _ (by repeat (first | exact List.Mem.head _ | refine List.Mem.tail _ ?_)) (by simp only [List.getElem?_cons_succ, List.getElem?_cons_zero]; exact rfl) ?_) | (refine stiM S.out rfl rfl _ _ rfl _ _ rfl _ rfl (by exact rfl) (by exact rfl) _ _ _ _ (by repeat (first | exact List.Mem.head _ | refine List.Mem.tail _ ?_)) (by simp only [splice, List.take_succ_cons, List.take_zero, List.drop_succ_cons, List.drop_zero, List.drop_nil, List.length_cons, List.length_nil, List.cons_append, List.nil_append, Nat.zero_add, Nat.add_zero, Nat.reduceAdd]; exact rfl) (by repeat (first | exact Put.head | apply Put.tail)) (by exact Nat.le_of_ble_eq_true rfl) ?_; clear S; intro w9 S9; have S := Kept.mk S9; clear S9) | (refine aliM S.out rfl rfl ?_; clear S; intro b9 w9 S9; have S := Kept.mk S9; clear S9) | (refine wpList_want rfl rfl ?_; dsimp only) | fail)
        go_loopw [6] (fun i wr => ∃ j : Nat, j ≤ x0.length ∧ i = .int .i64 j ∧ St none w wr [⟨b5, 25, [.int .i64 r0, .int .i64 c0, .slice p1 ds.length m1]⟩, ⟨b4, 25, [.int .i64 r0, .int .i64 c0, .slice p0 x0.length m0]⟩] [.slice p1 ds.length m1, .slice p0 x0.length m0] [ds, x0]) (fun i _ => x0.length - (intOf i).toNat)
        case atStart => exact ⟨0, Nat.zero_le _, rfl, S.out⟩
        case round =>
          clear S
          obtain ⟨j, hj, rfl, S⟩ := hrel
          have S := Kept.mk S
          by_cases hlt : j < x0.length
          · have hz1 : (j : Int) < (ds.length : Int) := by rw [LE.out]; omega
            have hz0 : (j : Int) < (x0.length : Int) := by omega
            obtain ⟨q1, off1, es, lq1, cq1⟩ := at_len S.out.grp.o0.ints rfl (n := j) (by rw [LE.out]; exact hlt)
            subst es
            obtain ⟨q0, off0, es, lq0, cq0⟩ := at_len S.out.grp.o1.ints rfl (n := j) hlt
            subst es
            rw [FAk.out j hlt] at cq1
            generalize x0.getD j 0 = y0 at *
            generalize hfa : fAt k y0 = y1 at *
            have FA : Kept (∀ w, Calls Try.prog 26 #[.int .i64 k, .int .i64 y0] w fun e w' => e = .returned (.int .i64 y1) ∧ w = w') := ⟨fun w => hfa ▸ impl_FunctionAt k y0 w⟩
            clear hfa
            go_wp2_with (first | (refine aliM (L := []) S.out rfl rfl ?_; clear S; intro b4 w9 S9; have S := Kept.mk S9; clear S9) | (refine aliM (L := [_]) S.out rfl rfl ?_; clear S; intro b5 w9 S9; have S := Kept.mk S9; clear S9) | (refine ldiM S.out rfl _ rfl _ _ rfl _ _ _ (by repeat (first | exact List.Mem.head _ | refine List.Mem.tail _ ?_)) (by simp only [List.drop_succ_cons, List.drop_zero, List.take_succ_cons, List.take_zero]; exact rfl) (by exact rfl) ?_) | (refine ldI S.out rfl _ rfl _ _ rfl _ _ _ (by repeat (first | exact List.Mem.head _ | refine List.Mem.tail _ ?_)) (by simp only [List.getElem?_cons_succ, List.getElem?_cons_zero]; exact rfl) ?_) | (refine ldIs S.out rfl _ rfl _ _ rfl _ _ _ (by repeat (first | exact List.Mem.head _ | refine List.Mem.tail _ ?_)) (by simp only [List.getElem?_cons_succ, List.getElem?_cons_zero]; exact rfl) ?_) | (refine stiM S.out rfl rfl _ _ rfl _ _ rfl _ rfl (by exact rfl) (by exact rfl) _ _ _ _ (by repeat (first | exact List.Mem.head _ | refine List.Mem.tail _ ?_)) (by simp only [splice, List.take_succ_cons, List.take_zero, List.drop_succ_cons, List.drop_zero, List.drop_nil, List.length_cons, List.length_nil, List.cons_append, List.nil_append, Nat.zero_add, Nat.add_zero, Nat.reduceAdd]; exact rfl) (by repeat (first | exact Put.head | apply Put.tail)) (by exact Nat.le_of_ble_eq_true rfl) ?_; clear S; intro w9 S9; have S := Kept.mk S9; clear S9) | (refine aliM S.out rfl rfl ?_; clear S; intro b9 w9 S9; have S := Kept.mk S9; clear S9) | (refine wpList_want rfl rfl ?_; dsimp only) | fail)
            apply wp_region_zip [isv _, isv _, isv _, isv _, isv _, isv _, isv _, isv _, isv _, isv _, isv _, isv _, isv _] _ (by kernel_rfl)
            case hA => intro V; simp [putAll, dstOf, Act.put]; exact rfl
            case hsl => intro V; exact rfl
            case step =>
              intro V lo up w' hr
              have S := Kept.mk (S.out.quiet hr)
              simp only [zipOk, depsImp, isv, modeNg, newb, waits, Region.binds, List.map_nil, List.map_cons, List.headD_cons, List.nil_append, List.cons_append, List.filterMap_cons, List.filterMap_nil, ↓reduceIte, modeNe, Bool.false_eq_true, true_implies, List.getD_cons_zero, List.getD_cons_succ, and_true]
              refine ⟨?_, ?_, ?_, ?_, ?_, ?_, ?_, ?_, ?_, ?_, ?_, ?_, ?_⟩
              · have d1 := (hr.cells.1 q1 (off1 + j) lq1).trans cq1
                have d0 := (hr.cells.1 q0 (off0 + j) lq0).trans cq0
                intros
                (try simp only [*])
                go_wp2_with (first | (refine aliM (L := []) S.out rfl rfl ?_; clear S; intro b4 w9 S9; have S := Kept.mk S9; clear S9) | (refine aliM (L := [_]) S.out rfl rfl ?_; clear S; intro b5 w9 S9; have S := Kept.mk S9; clear S9) | (refine ldiM S.out rfl _ rfl _ _ rfl _ _ _ (by repeat (first | exact List.Mem.head _ | refine List.Mem.tail _ ?_)) (by simp only [List.drop_succ_cons, List.drop_zero, List.take_succ_cons, List.take_zero]; exact rfl) (by exact rfl) ?_) | (refine ldI S.out rfl _ rfl _ _ rfl _ _ _ (by repeat (first | exact List.Mem.head _ | refine List.Mem.tail _ ?_)) (by simp only [List.getElem?_cons_succ, List.getElem?_cons_zero]; exact rfl) ?_) | (refine ldIs S.out rfl _ rfl _ _ rfl _ _ _ (by repeat (first | exact List.Mem.head _ | refine List.Mem.tail _ ?_)) (by simp only [List.getElem?_cons_succ, List.getElem?_cons_zero]; exact rfl) ?_) | (refine stiM S.out rfl rfl _ _ rfl _ _ rfl _ rfl (by exact rfl) (by exact rfl) _ _ _ _ (by repeat (first | exact List.Mem.head _ | refine List.Mem.tail _ ?_)) (by simp only [splice, List.take_succ_cons, List.take_zero, List.drop_succ_cons, List.drop_zero, List.drop_nil, List.length_cons, List.length_nil, List.cons_append, List.nil_append, Nat.zero_add, Nat.add_zero, Nat.reduceAdd]; exact rfl) (by repeat (first | exact Put.head | apply Put.tail)) (by exact Nat.le_of_ble_eq_true rfl) ?_; clear S; intro w9 S9; have S := Kept.mk S9; clear S9) | (refine aliM S.out rfl rfl ?_; clear S; intro b9 w9 S9; have S := Kept.mk S9; clear S9) | (refine wpList_want rfl rfl ?_; dsimp only) | fail)
                refine stepQ_mk rfl (by simp only [List.getElem?_toArray, List.getElem?_cons_succ, List.getElem?_cons_zero]; exact rfl) ?_
                exact ⟨Ext.refl _, rfl⟩
              · have d1 := (hr.cells.1 q1 (off1 + j) lq1).trans cq1
                have d0 := (hr.cells.1 q0 (off0 + j) lq0).trans cq0
                intros
                (try simp only [*])
                go_wp2_with (first | (refine aliM (L := []) S.out rfl rfl ?_; clear S; intro b4 w9 S9; have S := Kept.mk S9; clear S9) | (refine aliM (L := [_]) S.out rfl rfl ?_; clear S; intro b5 w9 S9; have S := Kept.mk S9; clear S9) | (refine ldiM S.out rfl _ rfl _ _ rfl _ _ _ (by repeat (first | exact List.Mem.head _ | refine List.Mem.tail _ ?_)) (by simp only [List.drop_succ_cons, List.drop_zero, List.take_succ_cons, List.take_zero]; exact rfl) (by exact rfl) ?_) | (refine ldI S.out rfl _ rfl _ _ rfl _ _ _ (by repeat (first | exact List.Mem.head _ | refine List.Mem.tail _ ?_)) (by simp only [List.getElem?_cons_succ, List.getElem?_cons_zero]; exact rfl) ?_) | (refine ldIs S.out rfl _ rfl _ _ rfl _ _ _ (by repeat (first | exact List.Mem.head _ | refine List.Mem.tail _ ?_)) (by simp only [List.getElem?_cons_succ, List.getElem?_cons_zero]; exact rfl) ?_) | (refine stiM S.out rfl rfl _ _ rfl _ _ rfl _ rfl (by exact rfl) (by exact rfl) _ _ _ _ (by repeat (first | exact List.Mem.head _ | refine List.Mem.tail _ ?_)) (by simp only [splice, List.take_succ_cons, List.take_zero, List.drop_succ_cons, List.drop_zero, List.drop_nil, List.length_cons, List.length_nil, List.cons_append, List.nil_append, Nat.zero_add, Nat.add_zero, Nat.reduceAdd]; exact rfl) (by repeat (first | exact Put.head | apply Put.tail)) (by exact Nat.le_of_ble_eq_true rfl) ?_; clear S; intro w9 S9; have S := Kept.mk S9; clear S9) | (refine aliM S.out rfl rfl ?_; clear S; intro b9 w9 S9; have S := Kept.mk S9; clear S9) | (refine wpList_want rfl rfl ?_; dsimp only) | fail)
                refine stepQ_mk rfl (by simp only [List.getElem?_toArray, List.getElem?_cons_succ, List.getElem?_cons_zero]; exact rfl) ?_
                exact ⟨Ext.refl _, rfl⟩
              · have d1 := (hr.cells.1 q1 (off1 + j) lq1).trans cq1
                have d0 := (hr.cells.1 q0 (off0 + j) lq0).trans cq0
                intros
                (try simp only [*])
                go_wp2_with (first | (refine aliM (L := []) S.out rfl rfl ?_; clear S; intro b4 w9 S9; have S := Kept.mk S9; clear S9) | (refine aliM (L := [_]) S.out rfl rfl ?_; clear S; intro b5 w9 S9; have S := Kept.mk S9; clear S9) | (refine ldiM S.out rfl _ rfl _ _ rfl _ _ _ (by repeat (first | exact List.Mem.head _ | refine List.Mem.tail _ ?_)) (by simp only [List.drop_succ_cons, List.drop_zero, List.take_succ_cons, List.take_zero]; exact rfl) (by exact rfl) ?_) | (refine ldI S.out rfl _ rfl _ _ rfl _ _ _ (by repeat (first | exact List.Mem.head _ | refine List.Mem.tail _ ?_)) (by simp only [List.getElem?_cons_succ, List.getElem?_cons_zero]; exact rfl) ?_) | (refine ldIs S.out rfl _ rfl _ _ rfl _ _ _ (by repeat (first | exact List.Mem.head _ | refine List.Mem.tail _ ?_)) (by simp only [List.getElem?_cons_succ, List.getElem?_cons_zero]; exact rfl) ?_) | (refine stiM S.out rfl rfl _ _ rfl _ _ rfl _ rfl (by exact rfl) (by exact rfl) _ _ _ _ (by repeat (first | exact List.Mem.head _ | refine List.Mem.tail _ ?_)) (by simp only [splice, List.take_succ_cons, List.take_zero, List.drop_succ_cons, List.drop_zero, List.drop_nil, List.length_cons, List.length_nil, List.cons_append, List.nil_append, Nat.zero_add, Nat.add_zero, Nat.reduceAdd]; exact rfl) (by repeat (first | exact Put.head | apply Put.tail)) (by exact Nat.le_of_ble_eq_true rfl) ?_; clear S; intro w9 S9; have S := Kept.mk S9; clear S9) | (refine aliM S.out rfl rfl ?_; clear S; intro b9 w9 S9; have S := Kept.mk S9; clear S9) | (refine wpList_want rfl rfl ?_; dsimp only) | fail)
                refine stepQ_mk rfl (by simp only [List.getElem?_toArray, List.getElem?_cons_succ, List.getElem?_cons_zero]; exact rfl) ?_
                exact ⟨Ext.refl _, rfl⟩
              · have d1 := (hr.cells.1 q1 (off1 + j) lq1).trans cq1
                have d0 := (hr.cells.1 q0 (off0 + j) lq0).trans cq0
                intros
                (try simp only [*])
                go_wp2_with (first | (refine aliM (L := []) S.out rfl rfl ?_; clear S; intro b4 w9 S9; have S := Kept.mk S9; clear S9) | (refine aliM (L := [_]) S.out rfl rfl ?_; clear S; intro b5 w9 S9; have S := Kept.mk S9; clear S9) | (refine ldiM S.out rfl _ rfl _ _ rfl _ _ _ (by repeat (first | exact List.Mem.head _ | refine List.Mem.tail _ ?_)) (by simp only [List.drop_succ_cons, List.drop_zero, List.take_succ_cons, List.take_zero]; exact rfl) (by exact rfl) ?_) | (refine ldI S.out rfl _ rfl _ _ rfl _ _ _ (by repeat (first | exact List.Mem.head _ | refine List.Mem.tail _ ?_)) (by simp only [List.getElem?_cons_succ, List.getElem?_cons_zero]; exact rfl) ?_) | (refine ldIs S.out rfl _ rfl _ _ rfl _ _ _ (by repeat (first | exact List.Mem.head _ | refine List.Mem.tail _ ?_)) (by simp only [List.getElem?_cons_succ, List.getElem?_cons_zero]; exact rfl) ?_) | (refine stiM S.out rfl rfl _ _ rfl _ _ rfl _ rfl (by exact rfl) (by exact rfl) _ _ _ _ (by repeat (first | exact List.Mem.head _ | refine List.Mem.tail _ ?_)) (by simp only [splice, List.take_succ_cons, List.take_zero, List.drop_succ_cons, List.drop_zero, List.drop_nil, List.length_cons, List.length_nil, List.cons_append, List.nil_append, Nat.zero_add, Nat.add_zero, Nat.reduceAdd]; exact rfl) (by repeat (first | exact Put.head | apply Put.tail)) (by exact Nat.le_of_ble_eq_true rfl) ?_; clear S; intro w9 S9; have S := Kept.mk S9; clear S9) | (refine aliM S.out rfl rfl ?_; clear S; intro b9 w9 S9; have S := Kept.mk S9; clear S9) | (refine wpList_want rfl rfl ?_; dsimp only) | fail)
                refine stepQ_mk rfl (by simp only [List.getElem?_toArray, List.getElem?_cons_succ, List.getElem?_cons_zero]; exact rfl) ?_
                exact ⟨Ext.refl _, rfl⟩
              · have d1 := (hr.cells.1 q1 (off1 + j) lq1).trans cq1
                have d0 := (hr.cells.1 q0 (off0 + j) lq0).trans cq0
                intros
                (try simp only [*])
                go_wp2_with (first | (refine aliM (L := []) S.out rfl rfl ?_; clear S; intro b4 w9 S9; have S := Kept.mk S9; clear S9) | (refine aliM (L := [_]) S.out rfl rfl ?_; clear S; intro b5 w9 S9; have S := Kept.mk S9; clear S9) | (refine ldiM S.out rfl _ rfl _ _ rfl _ _ _ (by repeat (first | exact List.Mem.head _ | refine List.Mem.tail _ ?_)) (by simp only [List.drop_succ_cons, List.drop_zero, List.take_succ_cons, List.take_zero]; exact rfl) (by exact rfl) ?_) | (refine ldI S.out rfl _ rfl _ _ rfl _ _ _ (by repeat (first | exact List.Mem.head _ | refine List.Mem.tail _ ?_)) (by simp only [List.getElem?_cons_succ, List.getElem?_cons_zero]; exact rfl) ?_) | (refine ldIs S.out rfl _ rfl _ _ rfl _ _ _ (by repeat (first | exact List.Mem.head _ | refine List.Mem.tail _ ?_)) (by simp only [List.getElem?_cons_succ, List.getElem?_cons_zero]; exact rfl) ?_) | (refine stiM S.out rfl rfl _ _ rfl _ _ rfl _ rfl (by exact rfl) (by exact rfl) _ _ _ _ (by repeat (first | exact List.Mem.head _ | refine List.Mem.tail _ ?_)) (by simp only [splice, List.take_succ_cons, List.take_zero, List.drop_succ_cons, List.drop_zero, List.drop_nil, List.length_cons, List.length_nil, List.cons_append, List.nil_append, Nat.zero_add, Nat.add_zero, Nat.reduceAdd]; exact rfl) (by repeat (first | exact Put.head | apply Put.tail)) (by exact Nat.le_of_ble_eq_true rfl) ?_; clear S; intro w9 S9; have S := Kept.mk S9; clear S9) | (refine aliM S.out rfl rfl ?_; clear S; intro b9 w9 S9; have S := Kept.mk S9; clear S9) | (refine wpList_want rfl rfl ?_; dsimp only) | fail)
                refine stepQ_mk rfl (by simp only [List.getElem?_toArray, List.getElem?_cons_succ, List.getElem?_cons_zero]; exact rfl) ?_
                exact ⟨Ext.refl _, rfl⟩
              · have d1 := (hr.cells.1 q1 (off1 + j) lq1).trans cq1
                have d0 := (hr.cells.1 q0 (off0 + j) lq0).trans cq0
                intros
                (try simp only [*])
                go_wp2_with (first | (refine aliM (L := []) S.out rfl rfl ?_; clear S; intro b4 w9 S9; have S := Kept.mk S9; clear S9) | (refine aliM (L := [_]) S.out rfl rfl ?_; clear S; intro b5 w9 S9; have S := Kept.mk S9; clear S9) | (refine ldiM S.out rfl _ rfl _ _ rfl _ _ _ (by repeat (first | exact List.Mem.head _ | refine List.Mem.tail _ ?_)) (by simp only [List.drop_succ_cons, List.drop_zero, List.take_succ_cons, List.take_zero]; exact rfl) (by exact rfl) ?_) | (refine ldI S.out rfl _ rfl _ _ rfl _ _ _ (by repeat (first | exact List.Mem.head _ | refine List.Mem.tail _ ?_)) (by simp only [List.getElem?_cons_succ, List.getElem?_cons_zero]; exact rfl) ?_) | (refine ldIs S.out rfl _ rfl _ _ rfl _ _ _ (by repeat (first | exact List.Mem.head _ | refine List.Mem.tail _ ?_)) (by simp only [List.getElem?_cons_succ, List.getElem?_cons_zero]; exact rfl) ?_) | (refine stiM S.out rfl rfl _ _ rfl _ _ rfl _ rfl (by exact rfl) (by exact rfl) _ _ _ _ (by repeat (first | exact List.Mem.head _ | refine List.Mem.tail _ ?_)) (by simp only [splice, List.take_succ_cons, List.take_zero, List.drop_succ_cons, List.drop_zero, List.drop_nil, List.length_cons, List.length_nil, List.cons_append, List.nil_append, Nat.zero_add, Nat.add_zero, Nat.reduceAdd]; exact rfl) (by repeat (first | exact Put.head | apply Put.tail)) (by exact Nat.le_of_ble_eq_true rfl) ?_; clear S; intro w9 S9; have S := Kept.mk S9; clear S9) | (refine aliM S.out rfl rfl ?_; clear S; intro b9 w9 S9; have S := Kept.mk S9; clear S9) | (refine wpList_want rfl rfl ?_; dsimp only) | fail)
                refine stepQ_mk rfl (by simp only [List.getElem?_toArray, List.getElem?_cons_succ, List.getElem?_cons_zero]; exact rfl) ?_
                exact ⟨Ext.refl _, rfl⟩
              · have d1 := (hr.cells.1 q1 (off1 + j) lq1).trans cq1
                have d0 := (hr.cells.1 q0 (off0 + j) lq0).trans cq0
                intros
                (try simp only [*])
                go_wp2_with (first | (refine aliM (L := []) S.out rfl rfl ?_; clear S; intro b4 w9 S9; have S := Kept.mk S9; clear S9) | (refine aliM (L := [_]) S.out rfl rfl ?_; clear S; intro b5 w9 S9; have S := Kept.mk S9; clear S9) | (refine ldiM S.out rfl _ rfl _ _ rfl _ _ _ (by repeat (first | exact List.Mem.head _ | refine List.Mem.tail _ ?_)) (by simp only [List.drop_succ_cons, List.drop_zero, List.take_succ_cons, List.take_zero]; exact rfl) (by exact rfl) ?_) | (refine ldI S.out rfl _ rfl _ _ rfl _ _ _ (by repeat (first | exact List.Mem.head _ | refine List.Mem.tail _ ?_)) (by simp only [List.getElem?_cons_succ, List.getElem?_cons_zero]; exact rfl) ?_) | (refine ldIs S.out rfl _ rfl _ _ rfl _ _ _ (by repeat (first | exact List.Mem.head _ | refine List.Mem.tail _ ?_)) (by simp only [List.getElem?_cons_succ, List.getElem?_cons_zero]; exact rfl) ?_) | (refine stiM S.out rfl rfl _ _ rfl _ _ rfl _ rfl (by exact rfl) (by exact rfl) _ _ _ _ (by repeat (first | exact List.Mem.head _ | refine List.Mem.tail _ ?_)) (by simp only [splice, List.take_succ_cons, List.take_zero, List.drop_succ_cons, List.drop_zero, List.drop_nil, List.length_cons, List.length_nil, List.cons_append, List.nil_append, Nat.zero_add, Nat.add_zero, Nat.reduceAdd]; exact rfl) (by repeat (first | exact Put.head | apply Put.tail)) (by exact Nat.le_of_ble_eq_true rfl) ?_; clear S; intro w9 S9; have S := Kept.mk S9; clear S9) | (refine aliM S.out rfl rfl ?_; clear S; intro b9 w9 S9; have S := Kept.mk S9; clear S9) | (refine wpList_want rfl rfl ?_; dsimp only) | fail)
                refine stepQ_mk rfl (by simp only [List.getElem?_toArray, List.getElem?_cons_succ, List.getElem?_cons_zero]; exact rfl) ?_
                exact ⟨Ext.refl _, rfl⟩
              · have d1 := (hr.cells.1 q1 (off1 + j) lq1).trans cq1
                have d0 := (hr.cells.1 q0 (off0 + j) lq0).trans cq0
                intros
                (try simp only [*])
                go_wp2_with (first | (refine aliM (L := []) S.out rfl rfl ?_; clear S; intro b4 w9 S9; have S := Kept.mk S9; clear S9) | (refine aliM (L := [_]) S.out rfl rfl ?_; clear S; intro b5 w9 S9; have S := Kept.mk S9; clear S9) | (refine ldiM S.out rfl _ rfl _ _ rfl _ _ _ (by repeat (first | exact List.Mem.head _ | refine List.Mem.tail _ ?_)) (by simp only [List.drop_succ_cons, List.drop_zero, List.take_succ_cons, List.take_zero]; exact rfl) (by exact rfl) ?_) | (refine ldI S.out rfl _ rfl _ _ rfl _ _ _ (by repeat (first | exact List.Mem.head _ | refine List.Mem.tail _ ?_)) (by simp only [List.getElem?_cons_succ, List.getElem?_cons_zero]; exact rfl) ?_) | (refine ldIs S.out rfl _ rfl _ _ rfl _ _ _ (by repeat (first | exact List.Mem.head _ | refine List.Mem.tail _ ?_)) (by simp only [List.getElem?_cons_succ, List.getElem?_cons_zero]; exact rfl) ?_) | (refine stiM S.out rfl rfl _ _ rfl _ _ rfl _ rfl (by exact rfl) (by exact rfl) _ _ _ _ (by repeat (first | exact List.Mem.head _ | refine List.Mem.tail _ ?_)) (by simp only [splice, List.take_succ_cons, List.take_zero, List.drop_succ_cons, List.drop_zero, List.drop_nil, List.length_cons, List.length_nil, List.cons_append, List.nil_append, Nat.zero_add, Nat.add_zero, Nat.reduceAdd]; exact rfl) (by repeat (first | exact Put.head | apply Put.tail)) (by exact Nat.le_of_ble_eq_true rfl) ?_; clear S; intro w9 S9; have S := Kept.mk S9; clear S9) | (refine aliM S.out rfl rfl ?_; clear S; intro b9 w9 S9; have S := Kept.mk S9; clear S9) | (refine wpList_want rfl rfl ?_; dsimp only) | fail)
                refine stepQ_mk rfl (by simp only [List.getElem?_toArray, List.getElem?_cons_succ, List.getElem?_cons_zero]; exact rfl) ?_
                exact ⟨Ext.refl _, rfl⟩
              · have d1 := (hr.cells.1 q1 (off1 + j) lq1).trans cq1
                have d0 := (hr.cells.1 q0 (off0 + j) lq0).trans cq0
                intros
                (try simp only [*])
                go_wp2_with (first | (refine aliM (L := []) S.out rfl rfl ?_; clear S; intro b4 w9 S9; have S := Kept.mk S9; clear S9) | (refine aliM (L := [_]) S.out rfl rfl ?_; clear S; intro b5 w9 S9; have S := Kept.mk S9; clear S9) | (refine ldiM S.out rfl _ rfl _ _ rfl _ _ _ (by repeat (first | exact List.Mem.head _ | refine List.Mem.tail _ ?_)) (by simp only [List.drop_succ_cons, List.drop_zero, List.take_succ_cons, List.take_zero]; exact rfl) (by exact rfl) ?_) | (refine ldI S.out rfl _ rfl _ _ rfl _ _ _ (by repeat (first | exact List.Mem.head _ | refine List.Mem.tail _ ?_)) (by simp only [List.getElem?_cons_succ, List.getElem?_cons_zero]; exact rfl) ?_) | (refine ldIs S.out rfl _ rfl _ _ rfl _ _ _ (by repeat (first | exact List.Mem.head _ | refine List.Mem.tail _ ?_)) (by simp only [List.getElem?_cons_succ, List.getElem?_cons_zero]; exact rfl) ?_) | (refine stiM S.out rfl rfl _ _ rfl _ _ rfl _ rfl (by exact rfl) (by exact rfl) _ _ _ _ (by repeat (first | exact List.Mem.head _ | refine List.Mem.tail _ ?_)) (by simp only [splice, List.take_succ_cons, List.take_zero, List.drop_succ_cons, List.drop_zero, List.drop_nil, List.length_cons, List.length_nil, List.cons_append, List.nil_append, Nat.zero_add, Nat.add_zero, Nat.reduceAdd]; exact rfl) (by repeat (first | exact Put.head | apply Put.tail)) (by exact Nat.le_of_ble_eq_true rfl) ?_; clear S; intro w9 S9; have S := Kept.mk S9; clear S9) | (refine aliM S.out rfl rfl ?_; clear S; intro b9 w9 S9; have S := Kept.mk S9; clear S9) | (refine wpList_want rfl rfl ?_; dsimp only) | fail)
                refine stepQ_mk rfl (by simp only [List.getElem?_toArray, List.getElem?_cons_succ, List.getElem?_cons_zero]; exact rfl) ?_
                exact ⟨Ext.refl _, rfl⟩
              · have d1 := (hr.cells.1 q1 (off1 + j) lq1).trans cq1
                have d0 := (hr.cells.1 q0 (off0 + j) lq0).trans cq0
                intros
                (try simp only [*])
                go_wp2_with (first | (refine aliM (L := []) S.out rfl rfl ?_; clear S; intro b4 w9 S9; have S := Kept.mk S9; clear S9) | (refine aliM (L := [_]) S.out rfl rfl ?_; clear S; intro b5 w9 S9; have S := Kept.mk S9; clear S9) | (refine ldiM S.out rfl _ rfl _ _ rfl _ _ _ (by repeat (first | exact List.Mem.head _ | refine List.Mem.tail _ ?_)) (by simp only [List.drop_succ_cons, List.drop_zero, List.take_succ_cons, List.take_zero]; exact rfl) (by exact rfl) ?_) | (refine ldI S.out rfl _ rfl _ _ rfl _ _ _ (by repeat (first | exact List.Mem.head _ | refine List.Mem.tail _ ?_)) (by simp only [List.getElem?_cons_succ, List.getElem?_cons_zero]; exact rfl) ?_) | (refine ldIs S.out rfl _ rfl _ _ rfl _ _ _ (by repeat (first | exact List.Mem.head _ | refine List.Mem.tail _ ?_)) (by simp only [List.getElem?_cons_succ, List.getElem?_cons_zero]; exact rfl) ?_) | (refine stiM S.out rfl rfl _ _ rfl _ _ rfl _ rfl (by exact rfl) (by exact rfl) _ _ _ _ (by repeat (first | exact List.Mem.head _ | refine List.Mem.tail _ ?_)) (by simp only [splice, List.take_succ_cons, List.take_zero, List.drop_succ_cons, List.drop_zero, List.drop_nil, List.length_cons, List.length_nil, List.cons_append, List.nil_append, Nat.zero_add, Nat.add_zero, Nat.reduceAdd]; exact rfl) (by repeat (first | exact Put.head | apply Put.tail)) (by exact Nat.le_of_ble_eq_true rfl) ?_; clear S; intro w9 S9; have S := Kept.mk S9; clear S9) | (refine aliM S.out rfl rfl ?_; clear S; intro b9 w9 S9; have S := Kept.mk S9; clear S9) | (refine wpList_want rfl rfl ?_; dsimp only) | fail)
                refine stepQ_mk rfl (by simp only [List.getElem?_toArray, List.getElem?_cons_succ, List.getElem?_cons_zero]; exact rfl) ?_
                exact ⟨Ext.refl _, rfl⟩
              · have d1 := (hr.cells.1 q1 (off1 + j) lq1).trans cq1
                have d0 := (hr.cells.1 q0 (off0 + j) lq0).trans cq0
                intros
                (try simp only [*])
                go_wp2_with (first | (refine aliM (L := []) S.out rfl rfl ?_; clear S; intro b4 w9 S9; have S := Kept.mk S9; clear S9) | (refine aliM (L := [_]) S.out rfl rfl ?_; clear S; intro b5 w9 S9; have S := Kept.mk S9; clear S9) | (refine ldiM S.out rfl _ rfl _ _ rfl _ _ _ (by repeat (first | exact List.Mem.head _ | refine List.Mem.tail _ ?_)) (by simp only [List.drop_succ_cons, List.drop_zero, List.take_succ_cons, List.take_zero]; exact rfl) (by exact rfl) ?_) | (refine ldI S.out rfl _ rfl _ _ rfl _ _ _ (by repeat (first | exact List.Mem.head _ | refine List.Mem.tail _ ?_)) (by simp only [List.getElem?_cons_succ, List.getElem?_cons_zero]; exact rfl) ?_) | (refine ldIs S.out rfl _ rfl _ _ rfl _ _ _ (by repeat (first | exact List.Mem.head _ | refine List.Mem.tail _ ?_)) (by simp only [List.getElem?_cons_succ, List.getElem?_cons_zero]; exact rfl) ?_) | (refine stiM S.out rfl rfl _ _ rfl _ _ rfl _ rfl (by exact rfl) (by exact rfl) _ _ _ _ (by repeat (first | exact List.Mem.head _ | refine List.Mem.tail _ ?_)) (by simp only [splice, List.take_succ_cons, List.take_zero, List.drop_succ_cons, List.drop_zero, List.drop_nil, List.length_cons, List.length_nil, List.cons_append, List.nil_append, Nat.zero_add, Nat.add_zero, Nat.reduceAdd]; exact rfl) (by repeat (first | exact Put.head | apply Put.tail)) (by exact Nat.le_of_ble_eq_true rfl) ?_; clear S; intro w9 S9; have S := Kept.mk S9; clear S9) | (refine aliM S.out rfl rfl ?_; clear S; intro b9 w9 S9; have S := Kept.mk S9; clear S9) | (refine wpList_want rfl rfl ?_; dsimp only) | fail)
                refine stepQ_mk rfl (by simp only [List.getElem?_toArray, List.getElem?_cons_succ, List.getElem?_cons_zero]; exact rfl) ?_
                exact ⟨Ext.refl _, rfl⟩
              · intros
                (try simp only [*])
                go_wp2_with (fail)
                (with_reducible refine (FA.out _).mono ?_)
                rintro e w9 ⟨rfl, rfl⟩
                go_wp2
                refine stepQ_mk rfl (by simp only [List.getElem?_toArray, List.getElem?_cons_succ, List.getElem?_cons_zero]; exact rfl) ?_
                exact ⟨Ext.refl _, rfl⟩
              · intros
                (try simp only [*])
                go_wp2_with (first | (refine aliM (L := []) S.out rfl rfl ?_; clear S; intro b4 w9 S9; have S := Kept.mk S9; clear S9) | (refine aliM (L := [_]) S.out rfl rfl ?_; clear S; intro b5 w9 S9; have S := Kept.mk S9; clear S9) | (refine ldiM S.out rfl _ rfl _ _ rfl _ _ _ (by repeat (first | exact List.Mem.head _ | refine List.Mem.tail _ ?_)) (by simp only [List.drop_succ_cons, List.drop_zero, List.take_succ_cons, List.take_zero]; exact rfl) (by exact rfl) ?_) | (refine ldI S.out rfl _ rfl _ _ rfl _ _ _ (by repeat (first | exact List.Mem.head _ | refine List.Mem.tail _ ?_)) (by simp only [List.getElem?_cons_succ, List.getElem?_cons_zero]; exact rfl) ?_) | (refine ldIs S.out rfl _ rfl _ _ rfl _ _ _ (by repeat (first | exact List.Mem.head _ | refine List.Mem.tail _ ?_)) (by simp only [List.getElem?_cons_succ, List.getElem?_cons_zero]; exact rfl) ?_) | (refine stiM S.out rfl rfl _ _ rfl _ _ rfl _ rfl (by exact rfl) (by exact rfl) _ _ _ _ (by repeat (first | exact List.Mem.head _ | refine List.Mem.tail _ ?_)) (by simp only [splice, List.take_succ_cons, List.take_zero, List.drop_succ_cons, List.drop_zero, List.drop_nil, List.length_cons, List.length_nil, List.cons_append, List.nil_append, Nat.zero_add, Nat.add_zero, Nat.reduceAdd]; exact rfl) (by repeat (first | exact Put.head | apply Put.tail)) (by exact Nat.le_of_ble_eq_true rfl) ?_; clear S; intro w9 S9; have S := Kept.mk S9; clear S9) | (refine aliM S.out rfl rfl ?_; clear S; intro b9 w9 S9; have S := Kept.mk S9; clear S9) | (refine wpList_want rfl rfl ?_; dsimp only) | fail)
                refine stepQ_mk rfl (by simp only [List.getElem?_toArray, List.getElem?_cons_succ, List.getElem?_cons_zero]; exact rfl) ?_
                exact ⟨Ext.refl _, rfl⟩
            case hB => kernel_rfl
            case fin =>
              intro V lo up w' hr hf ha
              simp only [factsOk, isv, modeNg, newb, List.map_nil, List.map_cons, List.headD_cons, and_true, Nat.zero_add, Nat.reduceAdd] at hf
              simp only [List.length_cons, List.length_nil, Nat.zero_add, Nat.reduceAdd, List.drop_succ_cons, List.drop_zero]
              obtain ⟨-, -, -, -, -, -, -, -, -, -, -, -, ⟨-, -, -, e12⟩⟩ := hf
              clear ha
              rw [e12]
              clear e12
              replace S := Kept.mk (S.out.quiet hr)
              clear hr
              go_wp2_with (first | (refine aliM (L := []) S.out rfl rfl ?_; clear S; intro b4 w9 S9; have S := Kept.mk S9; clear S9) | (refine aliM (L := [_]) S.out rfl rfl ?_; clear S; intro b5 w9 S9; have S := Kept.mk S9; clear S9) | (refine ldiM S.out rfl _ rfl _ _ rfl _ _ _ (by repeat (first | exact List.Mem.head _ | refine List.Mem.tail _ ?_)) (by simp only [List.drop_succ_cons, List.drop_zero, List.take_succ_cons, List.take_zero]; exact rfl) (by exact rfl) ?_) | (refine ldI S.out rfl _ rfl _ _ rfl _ _ _ (by repeat (first | exact List.Mem.head _ | refine List.Mem.tail _ ?_)) (by simp only [List.getElem?_cons_succ, List.getElem?_cons_zero]; exact rfl) ?_) | (refine ldIs S.out rfl _ rfl _ _ rfl _ _ _ (by repeat (first | exact List.Mem.head _ | refine List.Mem.tail _ ?_)) (by simp only [List.getElem?_cons_succ, List.getElem?_cons_zero]; exact rfl) ?_) | (refine stiM S.out rfl rfl _ _ rfl _ _ rfl _ rfl (by exact rfl) (by exact rfl) _ _ _ _ (by repeat (first | exact List.Mem.head _ | refine List.Mem.tail _ ?_)) (by simp only [splice, List.take_succ_cons, List.take_zero, List.drop_succ_cons, List.drop_zero, List.drop_nil, List.length_cons, List.length_nil, List.cons_append, List.nil_append, Nat.zero_add, Nat.add_zero, Nat.reduceAdd]; exact rfl) (by repeat (first | exact Put.head | apply Put.tail)) (by exact Nat.le_of_ble_eq_true rfl) ?_; clear S; intro w9 S9; have S := Kept.mk S9; clear S9) | (refine aliM S.out rfl rfl ?_; clear S; intro b9 w9 S9; have S := Kept.mk S9; clear S9) | (refine wpList_want rfl rfl ?_; dsimp only) | fail)
              go_roundw
              case rel => exact ⟨j + 1, by omega, by go_num, S.out⟩
              case measure => simp [intOf]; omega

          · have e : j = x0.length := by omega
            subst e
            have hz1 : ¬ (x0.length : Int) < (ds.length : Int) := by rw [LE.out]; omega
            go_wp2_with (first | (refine aliM (L := []) S.out rfl rfl ?_; clear S; intro b4 w9 S9; have S := Kept.mk S9; clear S9) | (refine aliM (L := [_]) S.out rfl rfl ?_; clear S; intro b5 w9 S9; have S := Kept.mk S9; clear S9) | (refine ldiM S.out rfl _ rfl _ _ rfl _ _ _ (by repeat (first | exact List.Mem.head _ | refine List.Mem.tail _ ?_)) (by simp only [List.drop_succ_cons, List.drop_zero, List.take_succ_cons, List.take_zero]; exact rfl) (by exact rfl) ?_) | (refine ldI S.out rfl _ rfl _ _ rfl _ _ _ (by repeat (first | exact List.Mem.head _ | refine List.Mem.tail _ ?_)) (by simp only [List.getElem?_cons_succ, List.getElem?_cons_zero]; exact rfl) ?_) | (refine ldIs S.out rfl _ rfl _ _ rfl _ _ _ (by repeat (first | exact List.Mem.head _ | refine List.Mem.tail _ ?_)) (by simp only [List.getElem?_cons_succ, List.getElem?_cons_zero]; exact rfl) ?_) | (refine stiM S.out rfl rfl _ _ rfl _ _ rfl _ rfl (by exact rfl) (by exact rfl) _ _ _ _ (by repeat (first | exact List.Mem.head _ | refine List.Mem.tail _ ?_)) (by simp only [splice, List.take_succ_cons, List.take_zero, List.drop_succ_cons, List.drop_zero, List.drop_nil, List.length_cons, List.length_nil, List.cons_append, List.nil_append, Nat.zero_add, Nat.add_zero, Nat.reduceAdd]; exact rfl) (by repeat (first | exact Put.head | apply Put.tail)) (by exact Nat.le_of_ble_eq_true rfl) ?_; clear S; intro w9 S9; have S := Kept.mk S9; clear S9) | (refine aliM S.out rfl rfl ?_; clear S; intro b9 w9 S9; have S := Kept.mk S9; clear S9) | (refine wpList_want rfl rfl ?_; dsimp only) | fail)
            (with_reducible refine (IR.out _ _ S.out.grp.o1.ints).mono ?_)
            rintro e u9 ⟨v2, rfl, o2, x9⟩
            replace S := Kept.mk (S.out.made o2 x9)
            clear x9
            obtain ⟨p2, m2, hu9, -, -⟩ := id o2.ints
            try simp only at hu9
            subst hu9
            clear o2
            go_wp2_with (first | (refine aliM (L := []) S.out rfl rfl ?_; clear S; intro b4 w9 S9; have S := Kept.mk S9; clear S9) | (refine aliM (L := [_]) S.out rfl rfl ?_; clear S; intro b5 w9 S9; have S := Kept.mk S9; clear S9) | (refine ldiM S.out rfl _ rfl _ _ rfl _ _ _ (by repeat (first | exact List.Mem.head _ | refine List.Mem.tail _ ?_)) (by simp only [List.drop_succ_cons, List.drop_zero, List.take_succ_cons, List.take_zero]; exact rfl) (by exact rfl) ?_) | (refine ldI S.out rfl _ rfl _ _ rfl _ _ _ (by repeat (first | exact List.Mem.head _ | refine List.Mem.tail _ ?_)) (by simp only [List.getElem?_cons_succ, List.getElem?_cons_zero]; exact rfl) ?_) | (refine ldIs S.out rfl _ rfl _ _ rfl _ _ _ (by repeat (first | exact List.Mem.head _ | refine List.Mem.tail _ ?_)) (by simp only [List.getElem?_cons_succ, List.getElem?_cons_zero]; exact rfl) ?_) | (refine stiM S.out rfl rfl _ _ rfl _ _ rfl _ rfl (by exact rfl) (by exact rfl) _ _ _ _ (by repeat (first | exact List.Mem.head _ | refine List.Mem.tail _ ?_)) (by simp only [splice, List.take_succ_cons, List.take_zero, List.drop_succ_cons, List.drop_zero, List.drop_nil, List.length_cons, List.length_nil, List.cons_append, List.nil_append, Nat.zero_add, Nat.add_zero, Nat.reduceAdd]; exact rfl) (by repeat (first | exact Put.head | apply Put.tail)) (by exact Nat.le_of_ble_eq_true rfl) ?_; clear S; intro w9 S9; have S := Kept.mk S9; clear S9) | (refine aliM S.out rfl rfl ?_; clear S; intro b9 w9 S9; have S := Kept.mk S9; clear S9) | (refine wpList_want rfl rfl ?_; dsimp only) | fail)
            apply wp_region_zip [isv _, isv _, isv _, isv _, isv _, isv _, isv _, isv _, isv _, isv _, isv _, matR r0 c0 ts, isv _, isv _, isv _, isv _] _ (by kernel_rfl)
            case hA => intro V; simp [putAll, dstOf, Act.put]; exact rfl
            case hsl => intro V; exact rfl
            case step =>
              intro V lo up w' hr
              have S := Kept.mk (S.out.quiet hr)
              simp only [zipOk, depsImp, isv, matR, modeNg, newb, waits, Region.binds, List.map_nil, List.map_cons, List.headD_cons, List.nil_append, List.cons_append, List.filterMap_cons, List.filterMap_nil, ↓reduceIte, modeNe, Bool.false_eq_true, true_implies, List.getD_cons_zero, List.getD_cons_succ, and_true]
              refine ⟨?_, ?_, ?_, ?_, ?_, ?_, ?_, ?_, ?_, ?_, ?_, ?_, ?_, ?_, ?_, ?_⟩
              · intros
                (try simp only [*])
                go_wp2_with (first | (refine aliM (L := []) S.out rfl rfl ?_; clear S; intro b4 w9 S9; have S := Kept.mk S9; clear S9) | (refine aliM (L := [_]) S.out rfl rfl ?_; clear S; intro b5 w9 S9; have S := Kept.mk S9; clear S9) | (refine ldiM S.out rfl _ rfl _ _ rfl _ _ _ (by repeat (first | exact List.Mem.head _ | refine List.Mem.tail _ ?_)) (by simp only [List.drop_succ_cons, List.drop_zero, List.take_succ_cons, List.take_zero]; exact rfl) (by exact rfl) ?_) | (refine ldI S.out rfl _ rfl _ _ rfl _ _ _ (by repeat (first | exact List.Mem.head _ | refine List.Mem.tail _ ?_)) (by simp only [List.getElem?_cons_succ, List.getElem?_cons_zero]; exact rfl) ?_) | (refine ldIs S.out rfl _ rfl _ _ rfl _ _ _ (by repeat (first | exact List.Mem.head _ | refine List.Mem.tail _ ?_)) (by simp only [List.getElem?_cons_succ, List.getElem?_cons_zero]; exact rfl) ?_) | (refine stiM S.out rfl rfl _ _ rfl _ _ rfl _ rfl (by exact rfl) (by exact rfl) _ _ _ _ (by repeat (first | exact List.Mem.head _ | refine List.Mem.tail _ ?_)) (by simp only [splice, List.take_succ_cons, List.take_zero, List.drop_succ_cons, List.drop_zero, List.drop_nil, List.length_cons, List.length_nil, List.cons_append, List.nil_append, Nat.zero_add, Nat.add_zero, Nat.reduceAdd]; exact rfl) (by repeat (first | exact Put.head | apply Put.tail)) (by exact Nat.le_of_ble_eq_true rfl) ?_; clear S; intro w9 S9; have S := Kept.mk S9; clear S9) | (refine aliM S.out rfl rfl ?_; clear S; intro b9 w9 S9; have S := Kept.mk S9; clear S9) | (refine wpList_want rfl rfl ?_; dsimp only) | fail)
                refine stepQ_mk rfl (by simp only [List.getElem?_toArray, List.getElem?_cons_succ, List.getElem?_cons_zero]; exact rfl) ?_
                exact ⟨Ext.refl _, rfl⟩
              · intros
                (try simp only [*])
                go_wp2_with (fail)
                (with_reducible refine (impl_MatrixValid r0 c0 _ ds _ S.out.grp.o1.ints).mono ?_)
                rintro e w9 ⟨rfl, x9⟩
                rw [HGM.out]
                go_wp2
                refine stepQ_mk rfl (by simp only [List.getElem?_toArray, List.getElem?_cons_succ, List.getElem?_cons_zero]; exact rfl) ?_
                exact ⟨x9, rfl⟩
              · intros
                (try simp only [*])
                go_wp2_with (first | (refine aliM (L := []) S.out rfl rfl ?_; clear S; intro b4 w9 S9; have S := Kept.mk S9; clear S9) | (refine aliM (L := [_]) S.out rfl rfl ?_; clear S; intro b5 w9 S9; have S := Kept.mk S9; clear S9) | (refine ldiM S.out rfl _ rfl _ _ rfl _ _ _ (by repeat (first | exact List.Mem.head _ | refine List.Mem.tail _ ?_)) (by simp only [List.drop_succ_cons, List.drop_zero, List.take_succ_cons, List.take_zero]; exact rfl) (by exact rfl) ?_) | (refine ldI S.out rfl _ rfl _ _ rfl _ _ _ (by repeat (first | exact List.Mem.head _ | refine List.Mem.tail _ ?_)) (by simp only [List.getElem?_cons_succ, List.getElem?_cons_zero]; exact rfl) ?_) | (refine ldIs S.out rfl _ rfl _ _ rfl _ _ _ (by repeat (first | exact List.Mem.head _ | refine List.Mem.tail _ ?_)) (by simp only [List.getElem?_cons_succ, List.getElem?_cons_zero]; exact rfl) ?_) | (refine stiM S.out rfl rfl _ _ rfl _ _ rfl _ rfl (by exact rfl) (by exact rfl) _ _ _ _ (by repeat (first | exact List.Mem.head _ | refine List.Mem.tail _ ?_)) (by simp only [splice, List.take_succ_cons, List.take_zero, List.drop_succ_cons, List.drop_zero, List.drop_nil, List.length_cons, List.length_nil, List.cons_append, List.nil_append, Nat.zero_add, Nat.add_zero, Nat.reduceAdd]; exact rfl) (by repeat (first | exact Put.head | apply Put.tail)) (by exact Nat.le_of_ble_eq_true rfl) ?_; clear S; intro w9 S9; have S := Kept.mk S9; clear S9) | (refine aliM S.out rfl rfl ?_; clear S; intro b9 w9 S9; have S := Kept.mk S9; clear S9) | (refine wpList_want rfl rfl ?_; dsimp only) | fail)
                refine stepQ_mk rfl (by simp only [List.getElem?_toArray, List.getElem?_cons_succ, List.getElem?_cons_zero]; exact rfl) ?_
                exact ⟨Ext.refl _, rfl⟩
              · intros
                (try simp only [*])
                go_wp2_with (first | (refine aliM (L := []) S.out rfl rfl ?_; clear S; intro b4 w9 S9; have S := Kept.mk S9; clear S9) | (refine aliM (L := [_]) S.out rfl rfl ?_; clear S; intro b5 w9 S9; have S := Kept.mk S9; clear S9) | (refine ldiM S.out rfl _ rfl _ _ rfl _ _ _ (by repeat (first | exact List.Mem.head _ | refine List.Mem.tail _ ?_)) (by simp only [List.drop_succ_cons, List.drop_zero, List.take_succ_cons, List.take_zero]; exact rfl) (by exact rfl) ?_) | (refine ldI S.out rfl _ rfl _ _ rfl _ _ _ (by repeat (first | exact List.Mem.head _ | refine List.Mem.tail _ ?_)) (by simp only [List.getElem?_cons_succ, List.getElem?_cons_zero]; exact rfl) ?_) | (refine ldIs S.out rfl _ rfl _ _ rfl _ _ _ (by repeat (first | exact List.Mem.head _ | refine List.Mem.tail _ ?_)) (by simp only [List.getElem?_cons_succ, List.getElem?_cons_zero]; exact rfl) ?_) | (refine stiM S.out rfl rfl _ _ rfl _ _ rfl _ rfl (by exact rfl) (by exact rfl) _ _ _ _ (by repeat (first | exact List.Mem.head _ | refine List.Mem.tail _ ?_)) (by simp only [splice, List.take_succ_cons, List.take_zero, List.drop_succ_cons, List.drop_zero, List.drop_nil, List.length_cons, List.length_nil, List.cons_append, List.nil_append, Nat.zero_add, Nat.add_zero, Nat.reduceAdd]; exact rfl) (by repeat (first | exact Put.head | apply Put.tail)) (by exact Nat.le_of_ble_eq_true rfl) ?_; clear S; intro w9 S9; have S := Kept.mk S9; clear S9) | (refine aliM S.out rfl rfl ?_; clear S; intro b9 w9 S9; have S := Kept.mk S9; clear S9) | (refine wpList_want rfl rfl ?_; dsimp only) | fail)
                refine stepQ_mk rfl (by simp only [List.getElem?_toArray, List.getElem?_cons_succ, List.getElem?_cons_zero]; exact rfl) ?_
                exact ⟨Ext.refl _, rfl⟩
              · intros
                (try simp only [*])
                go_wp2_with (first | (refine aliM (L := []) S.out rfl rfl ?_; clear S; intro b4 w9 S9; have S := Kept.mk S9; clear S9) | (refine aliM (L := [_]) S.out rfl rfl ?_; clear S; intro b5 w9 S9; have S := Kept.mk S9; clear S9) | (refine ldiM S.out rfl _ rfl _ _ rfl _ _ _ (by repeat (first | exact List.Mem.head _ | refine List.Mem.tail _ ?_)) (by simp only [List.drop_succ_cons, List.drop_zero, List.take_succ_cons, List.take_zero]; exact rfl) (by exact rfl) ?_) | (refine ldI S.out rfl _ rfl _ _ rfl _ _ _ (by repeat (first | exact List.Mem.head _ | refine List.Mem.tail _ ?_)) (by simp only [List.getElem?_cons_succ, List.getElem?_cons_zero]; exact rfl) ?_) | (refine ldIs S.out rfl _ rfl _ _ rfl _ _ _ (by repeat (first | exact List.Mem.head _ | refine List.Mem.tail _ ?_)) (by simp only [List.getElem?_cons_succ, List.getElem?_cons_zero]; exact rfl) ?_) | (refine stiM S.out rfl rfl _ _ rfl _ _ rfl _ rfl (by exact rfl) (by exact rfl) _ _ _ _ (by repeat (first | exact List.Mem.head _ | refine List.Mem.tail _ ?_)) (by simp only [splice, List.take_succ_cons, List.take_zero, List.drop_succ_cons, List.drop_zero, List.drop_nil, List.length_cons, List.length_nil, List.cons_append, List.nil_append, Nat.zero_add, Nat.add_zero, Nat.reduceAdd]; exact rfl) (by repeat (first | exact Put.head | apply Put.tail)) (by exact Nat.le_of_ble_eq_true rfl) ?_; clear S; intro w9 S9; have S := Kept.mk S9; clear S9) | (refine aliM S.out rfl rfl ?_; clear S; intro b9 w9 S9; have S := Kept.mk S9; clear S9) | (refine wpList_want rfl rfl ?_; dsimp only) | fail)
                refine stepQ_mk rfl (by simp only [List.getElem?_toArray, List.getElem?_cons_succ, List.getElem?_cons_zero]; exact rfl) ?_
                exact ⟨Ext.refl _, rfl⟩
              · intros
                (try simp only [*])
                go_wp2_with (first | (refine aliM (L := []) S.out rfl rfl ?_; clear S; intro b4 w9 S9; have S := Kept.mk S9; clear S9) | (refine aliM (L := [_]) S.out rfl rfl ?_; clear S; intro b5 w9 S9; have S := Kept.mk S9; clear S9) | (refine ldiM S.out rfl _ rfl _ _ rfl _ _ _ (by repeat (first | exact List.Mem.head _ | refine List.Mem.tail _ ?_)) (by simp only [List.drop_succ_cons, List.drop_zero, List.take_succ_cons, List.take_zero]; exact rfl) (by exact rfl) ?_) | (refine ldI S.out rfl _ rfl _ _ rfl _ _ _ (by repeat (first | exact List.Mem.head _ | refine List.Mem.tail _ ?_)) (by simp only [List.getElem?_cons_succ, List.getElem?_cons_zero]; exact rfl) ?_) | (refine ldIs S.out rfl _ rfl _ _ rfl _ _ _ (by repeat (first | exact List.Mem.head _ | refine List.Mem.tail _ ?_)) (by simp only [List.getElem?_cons_succ, List.getElem?_cons_zero]; exact rfl) ?_) | (refine stiM S.out rfl rfl _ _ rfl _ _ rfl _ rfl (by exact rfl) (by exact rfl) _ _ _ _ (by repeat (first | exact List.Mem.head _ | refine List.Mem.tail _ ?_)) (by simp only [splice, List.take_succ_cons, List.take_zero, List.drop_succ_cons, List.drop_zero, List.drop_nil, List.length_cons, List.length_nil, List.cons_append, List.nil_append, Nat.zero_add, Nat.add_zero, Nat.reduceAdd]; exact rfl) (by repeat (first | exact Put.head | apply Put.tail)) (by exact Nat.le_of_ble_eq_true rfl) ?_; clear S; intro w9 S9; have S := Kept.mk S9; clear S9) | (refine aliM S.out rfl rfl ?_; clear S; intro b9 w9 S9; have S := Kept.mk S9; clear S9) | (refine wpList_want rfl rfl ?_; dsimp only) | fail)
                refine stepQ_mk rfl (by simp only [List.getElem?_toArray, List.getElem?_cons_succ, List.getElem?_cons_zero]; exact rfl) ?_
                exact ⟨Ext.refl _, rfl⟩
              · intros
                (try simp only [*])
                go_wp2_with (first | (refine aliM (L := []) S.out rfl rfl ?_; clear S; intro b4 w9 S9; have S := Kept.mk S9; clear S9) | (refine aliM (L := [_]) S.out rfl rfl ?_; clear S; intro b5 w9 S9; have S := Kept.mk S9; clear S9) | (refine ldiM S.out rfl _ rfl _ _ rfl _ _ _ (by repeat (first | exact List.Mem.head _ | refine List.Mem.tail _ ?_)) (by simp only [List.drop_succ_cons, List.drop_zero, List.take_succ_cons, List.take_zero]; exact rfl) (by exact rfl) ?_) | (refine ldI S.out rfl _ rfl _ _ rfl _ _ _ (by repeat (first | exact List.Mem.head _ | refine List.Mem.tail _ ?_)) (by simp only [List.getElem?_cons_succ, List.getElem?_cons_zero]; exact rfl) ?_) | (refine ldIs S.out rfl _ rfl _ _ rfl _ _ _ (by repeat (first | exact List.Mem.head _ | refine List.Mem.tail _ ?_)) (by simp only [List.getElem?_cons_succ, List.getElem?_cons_zero]; exact rfl) ?_) | (refine stiM S.out rfl rfl _ _ rfl _ _ rfl _ rfl (by exact rfl) (by exact rfl) _ _ _ _ (by repeat (first | exact List.Mem.head _ | refine List.Mem.tail _ ?_)) (by simp only [splice, List.take_succ_cons, List.take_zero, List.drop_succ_cons, List.drop_zero, List.drop_nil, List.length_cons, List.length_nil, List.cons_append, List.nil_append, Nat.zero_add, Nat.add_zero, Nat.reduceAdd]; exact rfl) (by repeat (first | exact Put.head | apply Put.tail)) (by exact Nat.le_of_ble_eq_true rfl) ?_; clear S; intro w9 S9; have S := Kept.mk S9; clear S9) | (refine aliM S.out rfl rfl ?_; clear S; intro b9 w9 S9; have S := Kept.mk S9; clear S9) | (refine wpList_want rfl rfl ?_; dsimp only) | fail)
                refine stepQ_mk rfl (by simp only [List.getElem?_toArray, List.getElem?_cons_succ, List.getElem?_cons_zero]; exact rfl) ?_
                exact ⟨Ext.refl _, rfl⟩
              · intros
                (try simp only [*])
                go_wp2_with (first | (refine aliM (L := []) S.out rfl rfl ?_; clear S; intro b4 w9 S9; have S := Kept.mk S9; clear S9) | (refine aliM (L := [_]) S.out rfl rfl ?_; clear S; intro b5 w9 S9; have S := Kept.mk S9; clear S9) | (refine ldiM S.out rfl _ rfl _ _ rfl _ _ _ (by repeat (first | exact List.Mem.head _ | refine List.Mem.tail _ ?_)) (by simp only [List.drop_succ_cons, List.drop_zero, List.take_succ_cons, List.take_zero]; exact rfl) (by exact rfl) ?_) | (refine ldI S.out rfl _ rfl _ _ rfl _ _ _ (by repeat (first | exact List.Mem.head _ | refine List.Mem.tail _ ?_)) (by simp only [List.getElem?_cons_succ, List.getElem?_cons_zero]; exact rfl) ?_) | (refine ldIs S.out rfl _ rfl _ _ rfl _ _ _ (by repeat (first | exact List.Mem.head _ | refine List.Mem.tail _ ?_)) (by simp only [List.getElem?_cons_succ, List.getElem?_cons_zero]; exact rfl) ?_) | (refine stiM S.out rfl rfl _ _ rfl _ _ rfl _ rfl (by exact rfl) (by exact rfl) _ _ _ _ (by repeat (first | exact List.Mem.head _ | refine List.Mem.tail _ ?_)) (by simp only [splice, List.take_succ_cons, List.take_zero, List.drop_succ_cons, List.drop_zero, List.drop_nil, List.length_cons, List.length_nil, List.cons_append, List.nil_append, Nat.zero_add, Nat.add_zero, Nat.reduceAdd]; exact rfl) (by repeat (first | exact Put.head | apply Put.tail)) (by exact Nat.le_of_ble_eq_true rfl) ?_; clear S; intro w9 S9; have S := Kept.mk S9; clear S9) | (refine aliM S.out rfl rfl ?_; clear S; intro b9 w9 S9; have S := Kept.mk S9; clear S9) | (refine wpList_want rfl rfl ?_; dsimp only) | fail)
                refine stepQ_mk rfl (by simp only [List.getElem?_toArray, List.getElem?_cons_succ, List.getElem?_cons_zero]; exact rfl) ?_
                exact ⟨Ext.refl _, rfl⟩
              · intros
                (try simp only [*])
                go_wp2_with (first | (refine aliM (L := []) S.out rfl rfl ?_; clear S; intro b4 w9 S9; have S := Kept.mk S9; clear S9) | (refine aliM (L := [_]) S.out rfl rfl ?_; clear S; intro b5 w9 S9; have S := Kept.mk S9; clear S9) | (refine ldiM S.out rfl _ rfl _ _ rfl _ _ _ (by repeat (first | exact List.Mem.head _ | refine List.Mem.tail _ ?_)) (by simp only [List.drop_succ_cons, List.drop_zero, List.take_succ_cons, List.take_zero]; exact rfl) (by exact rfl) ?_) | (refine ldI S.out rfl _ rfl _ _ rfl _ _ _ (by repeat (first | exact List.Mem.head _ | refine List.Mem.tail _ ?_)) (by simp only [List.getElem?_cons_succ, List.getElem?_cons_zero]; exact rfl) ?_) | (refine ldIs S.out rfl _ rfl _ _ rfl _ _ _ (by repeat (first | exact List.Mem.head _ | refine List.Mem.tail _ ?_)) (by simp only [List.getElem?_cons_succ, List.getElem?_cons_zero]; exact rfl) ?_) | (refine stiM S.out rfl rfl _ _ rfl _ _ rfl _ rfl (by exact rfl) (by exact rfl) _ _ _ _ (by repeat (first | exact List.Mem.head _ | refine List.Mem.tail _ ?_)) (by simp only [splice, List.take_succ_cons, List.take_zero, List.drop_succ_cons, List.drop_zero, List.drop_nil, List.length_cons, List.length_nil, List.cons_append, List.nil_append, Nat.zero_add, Nat.add_zero, Nat.reduceAdd]; exact rfl) (by repeat (first | exact Put.head | apply Put.tail)) (by exact Nat.le_of_ble_eq_true rfl) ?_; clear S; intro w9 S9; have S := Kept.mk S9; clear S9) | (refine aliM S.out rfl rfl ?_; clear S; intro b9 w9 S9; have S := Kept.mk S9; clear S9) | (refine wpList_want rfl rfl ?_; dsimp only) | fail)
                refine stepQ_mk rfl (by simp only [List.getElem?_toArray, List.getElem?_cons_succ, List.getElem?_cons_zero]; exact rfl) ?_
                exact ⟨Ext.refl _, rfl⟩
              · intros
                (try simp only [*])
                go_wp2_with (first | (refine aliM (L := []) S.out rfl rfl ?_; clear S; intro b4 w9 S9; have S := Kept.mk S9; clear S9) | (refine aliM (L := [_]) S.out rfl rfl ?_; clear S; intro b5 w9 S9; have S := Kept.mk S9; clear S9) | (refine ldiM S.out rfl _ rfl _ _ rfl _ _ _ (by repeat (first | exact List.Mem.head _ | refine List.Mem.tail _ ?_)) (by simp only [List.drop_succ_cons, List.drop_zero, List.take_succ_cons, List.take_zero]; exact rfl) (by exact rfl) ?_) | (refine ldI S.out rfl _ rfl _ _ rfl _ _ _ (by repeat (first | exact List.Mem.head _ | refine List.Mem.tail _ ?_)) (by simp only [List.getElem?_cons_succ, List.getElem?_cons_zero]; exact rfl) ?_) | (refine ldIs S.out rfl _ rfl _ _ rfl _ _ _ (by repeat (first | exact List.Mem.head _ | refine List.Mem.tail _ ?_)) (by simp only [List.getElem?_cons_succ, List.getElem?_cons_zero]; exact rfl) ?_) | (refine stiM S.out rfl rfl _ _ rfl _ _ rfl _ rfl (by exact rfl) (by exact rfl) _ _ _ _ (by repeat (first | exact List.Mem.head _ | refine List.Mem.tail _ ?_)) (by simp only [splice, List.take_succ_cons, List.take_zero, List.drop_succ_cons, List.drop_zero, List.drop_nil, List.length_cons, List.length_nil, List.cons_append, List.nil_append, Nat.zero_add, Nat.add_zero, Nat.reduceAdd]; exact rfl) (by repeat (first | exact Put.head | apply Put.tail)) (by exact Nat.le_of_ble_eq_true rfl) ?_; clear S; intro w9 S9; have S := Kept.mk S9; clear S9) | (refine aliM S.out rfl rfl ?_; clear S; intro b9 w9 S9; have S := Kept.mk S9; clear S9) | (refine wpList_want rfl rfl ?_; dsimp only) | fail)
                refine stepQ_mk rfl (by simp only [List.getElem?_toArray, List.getElem?_cons_succ, List.getElem?_cons_zero]; exact rfl) ?_
                exact ⟨Ext.refl _, rfl⟩
              · intros
                (try simp only [*])
                go_wp2_with (first | (refine aliM (L := []) S.out rfl rfl ?_; clear S; intro b4 w9 S9; have S := Kept.mk S9; clear S9) | (refine aliM (L := [_]) S.out rfl rfl ?_; clear S; intro b5 w9 S9; have S := Kept.mk S9; clear S9) | (refine ldiM S.out rfl _ rfl _ _ rfl _ _ _ (by repeat (first | exact List.Mem.head _ | refine List.Mem.tail _ ?_)) (by simp only [List.drop_succ_cons, List.drop_zero, List.take_succ_cons, List.take_zero]; exact rfl) (by exact rfl) ?_) | (refine ldI S.out rfl _ rfl _ _ rfl _ _ _ (by repeat (first | exact List.Mem.head _ | refine List.Mem.tail _ ?_)) (by simp only [List.getElem?_cons_succ, List.getElem?_cons_zero]; exact rfl) ?_) | (refine ldIs S.out rfl _ rfl _ _ rfl _ _ _ (by repeat (first | exact List.Mem.head _ | refine List.Mem.tail _ ?_)) (by simp only [List.getElem?_cons_succ, List.getElem?_cons_zero]; exact rfl) ?_) | (refine stiM S.out rfl rfl _ _ rfl _ _ rfl _ rfl (by exact rfl) (by exact rfl) _ _ _ _ (by repeat (first | exact List.Mem.head _ | refine List.Mem.tail _ ?_)) (by simp only [splice, List.take_succ_cons, List.take_zero, List.drop_succ_cons, List.drop_zero, List.drop_nil, List.length_cons, List.length_nil, List.cons_append, List.nil_append, Nat.zero_add, Nat.add_zero, Nat.reduceAdd]; exact rfl) (by repeat (first | exact Put.head | apply Put.tail)) (by exact Nat.le_of_ble_eq_true rfl) ?_; clear S; intro w9 S9; have S := Kept.mk S9; clear S9) | (refine aliM S.out rfl rfl ?_; clear S; intro b9 w9 S9; have S := Kept.mk S9; clear S9) | (refine wpList_want rfl rfl ?_; dsimp only) | fail)
                refine stepQ_mk rfl (by simp only [List.getElem?_toArray, List.getElem?_cons_succ, List.getElem?_cons_zero]; exact rfl) ?_
                exact ⟨Ext.refl _, rfl⟩
              · intros
                (try simp only [*])
                go_wp2_with (first | (refine wpList_want rfl rfl ?_; dsimp only) | fail)
                (with_reducible refine (IT.out _ _ S.out.grp.o0.ints).mono ?_)
                rintro e w9 ⟨v9, rfl, o9, x9⟩
                go_wp2
                refine stepQ_mk rfl (by simp only [List.getElem?_toArray, List.getElem?_cons_succ, List.getElem?_cons_zero]; exact rfl) ?_
                exact ⟨x9, v9, rfl, o9, fun q hq => (o9.block q hq).2⟩
              · intros
                (try simp only [*])
                go_wp2_with (first | (refine aliM (L := []) S.out rfl rfl ?_; clear S; intro b4 w9 S9; have S := Kept.mk S9; clear S9) | (refine aliM (L := [_]) S.out rfl rfl ?_; clear S; intro b5 w9 S9; have S := Kept.mk S9; clear S9) | (refine ldiM S.out rfl _ rfl _ _ rfl _ _ _ (by repeat (first | exact List.Mem.head _ | refine List.Mem.tail _ ?_)) (by simp only [List.drop_succ_cons, List.drop_zero, List.take_succ_cons, List.take_zero]; exact rfl) (by exact rfl) ?_) | (refine ldI S.out rfl _ rfl _ _ rfl _ _ _ (by repeat (first | exact List.Mem.head _ | refine List.Mem.tail _ ?_)) (by simp only [List.getElem?_cons_succ, List.getElem?_cons_zero]; exact rfl) ?_) | (refine ldIs S.out rfl _ rfl _ _ rfl _ _ _ (by repeat (first | exact List.Mem.head _ | refine List.Mem.tail _ ?_)) (by simp only [List.getElem?_cons_succ, List.getElem?_cons_zero]; exact rfl) ?_) | (refine stiM S.out rfl rfl _ _ rfl _ _ rfl _ rfl (by exact rfl) (by exact rfl) _ _ _ _ (by repeat (first | exact List.Mem.head _ | refine List.Mem.tail _ ?_)) (by simp only [splice, List.take_succ_cons, List.take_zero, List.drop_succ_cons, List.drop_zero, List.drop_nil, List.length_cons, List.length_nil, List.cons_append, List.nil_append, Nat.zero_add, Nat.add_zero, Nat.reduceAdd]; exact rfl) (by repeat (first | exact Put.head | apply Put.tail)) (by exact Nat.le_of_ble_eq_true rfl) ?_; clear S; intro w9 S9; have S := Kept.mk S9; clear S9) | (refine aliM S.out rfl rfl ?_; clear S; intro b9 w9 S9; have S := Kept.mk S9; clear S9) | (refine wpList_want rfl rfl ?_; dsimp only) | fail)
                refine stepQ_mk rfl (by simp only [List.getElem?_toArray, List.getElem?_cons_succ, List.getElem?_cons_zero]; exact rfl) ?_
                exact ⟨Ext.refl _, rfl⟩
              · intros
                obtain ⟨v11, e11, o11, b11⟩ := ‹∃ v, V 11 = _ ∧ Own _ _ v ts ∧ _›
                (try simp only [*])
                go_wp2_with (first | (refine wpList_want rfl rfl ?_; dsimp only) | fail)
                (with_reducible refine (laws_sameMatrix r0 c0 _ _ ts _ o11.ints S.out.grp.o0.ints).mono ?_)
                rintro e w9 ⟨rfl, x9⟩
                go_wp2
                refine stepQ_mk rfl (by simp only [List.getElem?_toArray, List.getElem?_cons_succ, List.getElem?_cons_zero]; exact rfl) ?_
                exact ⟨x9, rfl⟩
              · intros
                (try simp only [*])
                go_wp2_with (first | (refine aliM (L := []) S.out rfl rfl ?_; clear S; intro b4 w9 S9; have S := Kept.mk S9; clear S9) | (refine aliM (L := [_]) S.out rfl rfl ?_; clear S; intro b5 w9 S9; have S := Kept.mk S9; clear S9) | (refine ldiM S.out rfl _ rfl _ _ rfl _ _ _ (by repeat (first | exact List.Mem.head _ | refine List.Mem.tail _ ?_)) (by simp only [List.drop_succ_cons, List.drop_zero, List.take_succ_cons, List.take_zero]; exact rfl) (by exact rfl) ?_) | (refine ldI S.out rfl _ rfl _ _ rfl _ _ _ (by repeat (first | exact List.Mem.head _ | refine List.Mem.tail _ ?_)) (by simp only [List.getElem?_cons_succ, List.getElem?_cons_zero]; exact rfl) ?_) | (refine ldIs S.out rfl _ rfl _ _ rfl _ _ _ (by repeat (first | exact List.Mem.head _ | refine List.Mem.tail _ ?_)) (by simp only [List.getElem?_cons_succ, List.getElem?_cons_zero]; exact rfl) ?_) | (refine stiM S.out rfl rfl _ _ rfl _ _ rfl _ rfl (by exact rfl) (by exact rfl) _ _ _ _ (by repeat (first | exact List.Mem.head _ | refine List.Mem.tail _ ?_)) (by simp only [splice, List.take_succ_cons, List.take_zero, List.drop_succ_cons, List.drop_zero, List.drop_nil, List.length_cons, List.length_nil, List.cons_append, List.nil_append, Nat.zero_add, Nat.add_zero, Nat.reduceAdd]; exact rfl) (by repeat (first | exact Put.head | apply Put.tail)) (by exact Nat.le_of_ble_eq_true rfl) ?_; clear S; intro w9 S9; have S := Kept.mk S9; clear S9) | (refine aliM S.out rfl rfl ?_; clear S; intro b9 w9 S9; have S := Kept.mk S9; clear S9) | (refine wpList_want rfl rfl ?_; dsimp only) | fail)
                refine stepQ_mk rfl (by simp only [List.getElem?_toArray, List.getElem?_cons_succ, List.getElem?_cons_zero]; exact rfl) ?_
                exact ⟨Ext.refl _, rfl⟩
              · intros
                (try simp only [*])
                go_wp2_with (first | (refine aliM (L := []) S.out rfl rfl ?_; clear S; intro b4 w9 S9; have S := Kept.mk S9; clear S9) | (refine aliM (L := [_]) S.out rfl rfl ?_; clear S; intro b5 w9 S9; have S := Kept.mk S9; clear S9) | (refine ldiM S.out rfl _ rfl _ _ rfl _ _ _ (by repeat (first | exact List.Mem.head _ | refine List.Mem.tail _ ?_)) (by simp only [List.drop_succ_cons, List.drop_zero, List.take_succ_cons, List.take_zero]; exact rfl) (by exact rfl) ?_) | (refine ldI S.out rfl _ rfl _ _ rfl _ _ _ (by repeat (first | exact List.Mem.head _ | refine List.Mem.tail _ ?_)) (by simp only [List.getElem?_cons_succ, List.getElem?_cons_zero]; exact rfl) ?_) | (refine ldIs S.out rfl _ rfl _ _ rfl _ _ _ (by repeat (first | exact List.Mem.head _ | refine List.Mem.tail _ ?_)) (by simp only [List.getElem?_cons_succ, List.getElem?_cons_zero]; exact rfl) ?_) | (refine stiM S.out rfl rfl _ _ rfl _ _ rfl _ rfl (by exact rfl) (by exact rfl) _ _ _ _ (by repeat (first | exact List.Mem.head _ | refine List.Mem.tail _ ?_)) (by simp only [splice, List.take_succ_cons, List.take_zero, List.drop_succ_cons, List.drop_zero, List.drop_nil, List.length_cons, List.length_nil, List.cons_append, List.nil_append, Nat.zero_add, Nat.add_zero, Nat.reduceAdd]; exact rfl) (by repeat (first | exact Put.head | apply Put.tail)) (by exact Nat.le_of_ble_eq_true rfl) ?_; clear S; intro w9 S9; have S := Kept.mk S9; clear S9) | (refine aliM S.out rfl rfl ?_; clear S; intro b9 w9 S9; have S := Kept.mk S9; clear S9) | (refine wpList_want rfl rfl ?_; dsimp only) | fail)
                refine stepQ_mk rfl (by simp only [List.getElem?_toArray, List.getElem?_cons_succ, List.getElem?_cons_zero]; exact rfl) ?_
                exact ⟨Ext.refl _, rfl⟩
            case hB => kernel_rfl
            case fin =>
              intro V lo up w' hr hf ha
              simp only [factsOk, isv, matR, modeNg, newb, List.map_nil, List.map_cons, List.headD_cons, and_true, Nat.zero_add, Nat.reduceAdd] at hf
              simp only [List.length_cons, List.length_nil, Nat.zero_add, Nat.reduceAdd, List.drop_succ_cons, List.drop_zero]
              obtain ⟨-, -, -, -, -, -, -, -, -, -, -, -, -, -, -, ⟨-, -, -, e15⟩⟩ := hf
              clear ha
              rw [e15]
              clear e15
              replace S := Kept.mk (S.out.quiet hr)
              clear hr
              go_wp2_with (first | (refine aliM (L := []) S.out rfl rfl ?_; clear S; intro b4 w9 S9; have S := Kept.mk S9; clear S9) | (refine aliM (L := [_]) S.out rfl rfl ?_; clear S; intro b5 w9 S9; have S := Kept.mk S9; clear S9) | (refine ldiM S.out rfl _ rfl _ _ rfl _ _ _ (by repeat (first | exact List.Mem.head _ | refine List.Mem.tail _ ?_)) (by simp only [List.drop_succ_cons, List.drop_zero, List.take_succ_cons, List.take_zero]; exact rfl) (by exact rfl) ?_) | (refine ldI S.out rfl _ rfl _ _ rfl _ _ _ (by repeat (first | exact List.Mem.head _ | refine List.Mem.tail _ ?_)) (by simp only [List.getElem?_cons_succ, List.getElem?_cons_zero]; exact rfl) ?_) | (refine ldIs S.out rfl _ rfl _ _ rfl _ _ _ (by repeat (first | exact List.Mem.head _ | refine List.Mem.tail _ ?_)) (by simp only [List.getElem?_cons_succ, List.getElem?_cons_zero]; exact rfl) ?_) | (refine stiM S.out rfl rfl _ _ rfl _ _ rfl _ rfl (by exact rfl) (by exact rfl) _ _ _ _ (by repeat (first | exact List.Mem.head _ | refine List.Mem.tail _ ?_)) (by simp only [splice, List.take_succ_cons, List.take_zero, List.drop_succ_cons, List.drop_zero, List.drop_nil, List.length_cons, List.length_nil, List.cons_append, List.nil_append, Nat.zero_add, Nat.add_zero, Nat.reduceAdd]; exact rfl) (by repeat (first | exact Put.head | apply Put.tail)) (by exact Nat.le_of_ble_eq_true rfl) ?_; clear S; intro w9 S9; have S := Kept.mk S9; clear S9) | (refine aliM S.out rfl rfl ?_; clear S; intro b9 w9 S9; have S := Kept.mk S9; clear S9) | (refine wpList_want rfl rfl ?_; dsimp only) | fail)
              go_ret
              exact ⟨rfl, S.out.ext⟩
  · have hl' : ¬ (n : Int) ≤ 1048576 := hl
    have hg : (1048576 : Int) < n := by omega
    clear hl
    go_enter Try.func6, Try.ntmps6
    go_wp2_with (fail)
    go_ret
    exact ⟨rfl, S.out.ext⟩
end Go.Proofs.Ytjoomdihjffmlaa
