/- What DrawMapMatrix returns. -/
import Derived.Test.YtjoomdihjffmlaaMatD
import Derived.Test.YtjoomdihjffmlaaSideD
import Derived.Test.YtjoomdihjffmlaaTabD
namespace Go.Proofs.Ytjoomdihjffmlaa
set_option linter.unusedSimpArgs false
set_option linter.unusedVariables false
open Go.RowKit
/-- A new matrix. -/
def matM {g n0 : Nat} (hg : g < n0) : OpSpec (Mod g) n0 :=
  ⟨[], fun _ u _ _ w => IsMat n0 w u, fun _ _ _ _ _ _ _ _ _ hx ⟨r, c, v, xs, h1, h2, h3⟩ => ⟨r, c, v, xs, h1, h2.modO hx (fun e => by have := (h2.block g e).1; omega), h3⟩⟩

set_option maxHeartbeats 4000000 in
theorem spec_DrawMapMatrix (v : Value) (w : World) (hb : Bytes w v) : Calls Try.prog 23 #[v] w fun e w' => ∃ (k : Int) (u : Value), e = .returned (.tuple #[.int .i64 k, u]) ∧ IsMat w.heap.size w' u ∧ Ext w w' := by
  have S := Kept.mk (St.start w)
  have HP : Room 90000 := ⟨by omega⟩
  go_enter Try.func23, Try.ntmps23
  go_wp2_with (first | (refine aliM (L := []) S.out rfl rfl ?_; clear S; intro rb w9 S9; have S := Kept.mk S9; clear S9) | (refine ldiM S.out rfl _ rfl _ _ rfl _ _ _ (by repeat (first | exact List.Mem.head _ | refine List.Mem.tail _ ?_)) (by simp only [List.drop_succ_cons, List.drop_zero, List.take_succ_cons, List.take_zero]; exact rfl) (by exact rfl) ?_) | (refine ldI S.out rfl _ rfl _ _ rfl _ _ _ (by repeat (first | exact List.Mem.head _ | refine List.Mem.tail _ ?_)) (by simp only [List.getElem?_cons_succ, List.getElem?_cons_zero]; exact rfl) ?_) | (refine ldIs S.out rfl _ rfl _ _ rfl _ _ _ (by repeat (first | exact List.Mem.head _ | refine List.Mem.tail _ ?_)) (by simp only [List.getElem?_cons_succ, List.getElem?_cons_zero]; exact rfl) ?_) | (refine stiM S.out rfl rfl _ _ rfl _ _ rfl _ rfl (by exact rfl) (by exact rfl) _ _ _ _ (by repeat (first | exact List.Mem.head _ | refine List.Mem.tail _ ?_)) (by simp only [splice, List.take_succ_cons, List.take_zero, List.drop_succ_cons, List.drop_zero, List.drop_nil, List.length_cons, List.length_nil, List.cons_append, List.nil_append, Nat.zero_add, Nat.add_zero, Nat.reduceAdd]; exact rfl) (by repeat (first | exact Put.head | apply Put.tail)) (by exact Nat.le_of_ble_eq_true rfl) ?_; clear S; intro w9 S9; have S := Kept.mk S9; clear S9) | (refine wpList_want rfl rfl ?_; dsimp only) | fail)
  (with_reducible refine (open' _ _ (hb.ext S.out.ext)).mono ?_)
  rintro e w1 ⟨g, rfl, hg, hr1, hx1⟩
  have O := S
  replace S := Kept.mk (St.startR hr1)
  clear hr1
  go_wp2_with (first | (refine aliM (L := []) S.out rfl rfl ?_; clear S; intro rb w9 S9; have S := Kept.mk S9; clear S9) | (refine ldiM S.out rfl _ rfl _ _ rfl _ _ _ (by repeat (first | exact List.Mem.head _ | refine List.Mem.tail _ ?_)) (by simp only [List.drop_succ_cons, List.drop_zero, List.take_succ_cons, List.take_zero]; exact rfl) (by exact rfl) ?_) | (refine ldI S.out rfl _ rfl _ _ rfl _ _ _ (by repeat (first | exact List.Mem.head _ | refine List.Mem.tail _ ?_)) (by simp only [List.getElem?_cons_succ, List.getElem?_cons_zero]; exact rfl) ?_) | (refine ldIs S.out rfl _ rfl _ _ rfl _ _ _ (by repeat (first | exact List.Mem.head _ | refine List.Mem.tail _ ?_)) (by simp only [List.getElem?_cons_succ, List.getElem?_cons_zero]; exact rfl) ?_) | (refine stiM S.out rfl rfl _ _ rfl _ _ rfl _ rfl (by exact rfl) (by exact rfl) _ _ _ _ (by repeat (first | exact List.Mem.head _ | refine List.Mem.tail _ ?_)) (by simp only [splice, List.take_succ_cons, List.take_zero, List.drop_succ_cons, List.drop_zero, List.drop_nil, List.length_cons, List.length_nil, List.cons_append, List.nil_append, Nat.zero_add, Nat.add_zero, Nat.reduceAdd]; exact rfl) (by repeat (first | exact Put.head | apply Put.tail)) (by exact Nat.le_of_ble_eq_true rfl) ?_; clear S; intro w9 S9; have S := Kept.mk S9; clear S9) | (refine wpList_want rfl rfl ?_; dsimp only) | fail)
  have S0 := S.out
  have hlt := S.out.rdr.lt
  apply wp_region_zipJ (Mod.rel g) (fun m w' => Rdr g (0 + 6001 * (12 - m)) w') [newI hlt 7, isv _, isP (Lt 7), ixI hlt, isP AnInt, isv _, isv _, isP IsSide, isv _, isP IsSide, matM hlt, isP AnInt] _ ?hJ (by kernel_rfl)
  case hJ => exact (S.out.rdr.keep ⟨rfl, rfl, rfl, Nat.le_refl _, fun _ _ => rfl⟩).mono (by first | (simp; done) | (simp; omega) | omega) (HP.le (by first | (simp; done) | (simp; omega) | omega))
  case hA => intro V; simp [putAll, dstOf, Act.put]; exact rfl
  case hsl => intro V; exact rfl
  case step =>
    intro V lo up w' hr m hm hj
    simp only [List.length_cons, List.length_nil, Nat.zero_add, Nat.reduceAdd] at hm
    have RJ : Rdr g (0 + 6001 * (12 - m)) w' := hj.mono (by omega) (HP.le (by omega))
    have S := Kept.mk (S.out.read RJ hr)
    simp only [zipOkJ, depsImp, isv, isP, newI, ixI, matM, waits, Region.binds, List.map_nil, List.map_cons, List.headD_cons, List.nil_append, List.cons_append, List.filterMap_cons, List.filterMap_nil, ↓reduceIte, modeNe, Bool.false_eq_true, true_implies, List.getD_cons_zero, List.getD_cons_succ, and_true]
    refine ⟨?_, ?_, ?_, ?_, ?_, ?_, ?_, ?_, ?_, ?_, ?_, ?_⟩
    · intros
      go_wp2
      refine stepQ_mk rfl (by simp only [List.getElem?_toArray, List.getElem?_cons_succ, List.getElem?_cons_zero]; exact rfl) ?_
      exact ⟨Mod.of_ext ((Ext.refl _).alloc _), ⟨rfl, [1, 2, 3, 4, 5, 0, 6], rfl, Blk.new _ _ _⟩, RJ.keep ((Ext.refl _).alloc _)⟩
    · intros
      (try simp only [*])
      go_wp2
      refine stepQ_mk rfl (by simp only [List.getElem?_toArray, List.getElem?_cons_succ, List.getElem?_cons_zero]; exact rfl) ?_
      exact ⟨Mod.refl _ _, rfl, RJ⟩
    · intros
      go_wp2_with (fail)
      (with_reducible refine (pick g _ _ (HP.le (by omega)) _ hj).mono ?_)
      rintro e w7 ⟨v7, rfl, ⟨x, rfl, hx, -⟩, hr7, hm7⟩
      go_wp2
      refine stepQ_mk rfl (by simp only [List.getElem?_toArray, List.getElem?_cons_succ, List.getElem?_cons_zero]; exact rfl) ?_
      exact ⟨hm7, ⟨x, rfl, hx (by omega)⟩, hr7.mono (by omega) (HP.le (by omega))⟩
    · intro s1 _ _ ⟨e8, cs, l8, k8⟩ _ _ _ ⟨x, e11, l11⟩
      intros
      go_wp2
      refine stepQ_mk rfl (by simp only [List.getElem?_toArray, List.getElem?_cons_succ, List.getElem?_cons_zero]; exact rfl) ?_
      exact ⟨Mod.refl _ _, ⟨_, x, cs, rfl, by omega, s1, k8⟩, RJ⟩
    · intro _ _ _ ⟨b, x, cs, e12, lx, lb, kb⟩
      obtain ⟨y, hy⟩ := kb.intAt lx
      intros
      go_wp2
      refine stepQ_mk rfl (by simp only [List.getElem?_toArray, List.getElem?_cons_succ, List.getElem?_cons_zero]; exact rfl) ?_
      exact ⟨Mod.refl _ _, ⟨y, rfl⟩, RJ⟩
    · intros
      (try simp only [*])
      go_wp2
      refine stepQ_mk rfl (by simp only [List.getElem?_toArray, List.getElem?_cons_succ, List.getElem?_cons_zero]; exact rfl) ?_
      exact ⟨Mod.refl _ _, rfl, RJ⟩
    · intros
      (try simp only [*])
      go_wp2
      refine stepQ_mk rfl (by simp only [List.getElem?_toArray, List.getElem?_cons_succ, List.getElem?_cons_zero]; exact rfl) ?_
      exact ⟨Mod.refl _ _, rfl, RJ⟩
    · intros
      (try simp only [*])
      go_wp2_with (fail)
      (with_reducible refine (side20 g _ (HP.le (by omega)) _ hj).mono ?_)
      rintro e w7 ⟨v7, rfl, sv, hr7, hm7⟩
      go_wp2
      refine stepQ_mk rfl (by simp only [List.getElem?_toArray, List.getElem?_cons_succ, List.getElem?_cons_zero]; exact rfl) ?_
      exact ⟨hm7, sv, hr7.mono (by omega) (HP.le (by omega))⟩
    · intros
      (try simp only [*])
      go_wp2
      refine stepQ_mk rfl (by simp only [List.getElem?_toArray, List.getElem?_cons_succ, List.getElem?_cons_zero]; exact rfl) ?_
      exact ⟨Mod.refl _ _, rfl, RJ⟩
    · intros
      (try simp only [*])
      go_wp2_with (fail)
      (with_reducible refine (side20 g _ (HP.le (by omega)) _ hj).mono ?_)
      rintro e w7 ⟨v7, rfl, sv, hr7, hm7⟩
      go_wp2
      refine stepQ_mk rfl (by simp only [List.getElem?_toArray, List.getElem?_cons_succ, List.getElem?_cons_zero]; exact rfl) ?_
      exact ⟨hm7, sv, hr7.mono (by omega) (HP.le (by omega))⟩
    · intros
      obtain ⟨n1, e7, sn1⟩ := ‹IsSide (V 7)›
      obtain ⟨n2, e9, sn2⟩ := ‹IsSide (V 9)›
      (try simp only [*])
      go_wp2_with (fail)
      (with_reducible refine (mat20 g _ n1 n2 9 sn1.sd sn2.sd ⟨by omega, by omega⟩ (HP.le (by omega)) _ hj).mono ?_)
      rintro e w7 ⟨v7, rfl, ⟨r, c, v, xs, rfl, o, l⟩, hr7, hm7⟩
      go_wp2
      refine stepQ_mk rfl (by simp only [List.getElem?_toArray, List.getElem?_cons_succ, List.getElem?_cons_zero]; exact rfl) ?_
      exact ⟨hm7, ⟨r, c, v, xs, rfl, o.mono hr.size, l⟩, hr7.mono (by omega) (HP.le (by omega))⟩
    · intros
      obtain ⟨y, e4⟩ := ‹AnInt (V 4)›
      (try simp only [*])
      go_wp2
      refine stepQ_mk rfl (by simp only [List.getElem?_toArray, List.getElem?_cons_succ, List.getElem?_cons_zero]; exact rfl) ?_
      exact ⟨Mod.refl _ _, ⟨y, rfl⟩, RJ⟩
  case hB => kernel_rfl
  case fin =>
    intro V lo up w' hr hj hf ha
    simp only [factsOk, isv, isP, newI, ixI, matM, List.map_nil, List.map_cons, List.headD_cons, and_true, Nat.zero_add, Nat.reduceAdd] at hf
    simp only [List.length_cons, List.length_nil, Nat.zero_add, Nat.reduceAdd, List.drop_succ_cons, List.drop_zero]
    obtain ⟨-, -, -, -, -, -, -, -, -, -, ⟨-, -, -, m10⟩, ⟨-, -, -, y, e11⟩⟩ := hf
    clear ha
    have RJ : Rdr g (0 + 72012) w' := hj.mono (by omega) (HP.le (by omega))
    clear hj
    replace S := Kept.mk (S.out.read RJ hr)
    clear RJ
    obtain ⟨r0, c0, v0, x0, e10, o0, l0⟩ := m10
    rw [e10, e11]
    clear e10 e11
    obtain ⟨p0, m0, hu9, -, -⟩ := id o0.ints
    try simp only at hu9
    subst hu9
    replace S := Kept.mk (show St none w _ [⟨rb, 25, [.int .i64 0, .int .i64 0, .slice none 0 0]⟩] [.slice p0 x0.length m0] [x0] from O.out.nest hx1 hg (S0.grp_read (Grp.one o0) S.out.rdr hr))
    clear O S0 o0 hr
    go_wp2_with (first | (refine aliM (L := []) S.out rfl rfl ?_; clear S; intro rb w9 S9; have S := Kept.mk S9; clear S9) | (refine ldiM S.out rfl _ rfl _ _ rfl _ _ _ (by repeat (first | exact List.Mem.head _ | refine List.Mem.tail _ ?_)) (by simp only [List.drop_succ_cons, List.drop_zero, List.take_succ_cons, List.take_zero]; exact rfl) (by exact rfl) ?_) | (refine ldI S.out rfl _ rfl _ _ rfl _ _ _ (by repeat (first | exact List.Mem.head _ | refine List.Mem.tail _ ?_)) (by simp only [List.getElem?_cons_succ, List.getElem?_cons_zero]; exact rfl) ?_) | (refine ldIs S.out rfl _ rfl _ _ rfl _ _ _ (by repeat (first | exact List.Mem.head _ | refine List.Mem.tail _ ?_)) (by simp only [List.getElem?_cons_succ, List.getElem?_cons_zero]; exact rfl) ?_) | (refine stiM S.out rfl rfl _ _ rfl _ _ rfl _ rfl (by exact rfl) (by exact rfl) _ _ _ _ (by repeat (first | exact List.Mem.head _ | refine List.Mem.tail _ ?_)) (by simp only [splice, List.take_succ_cons, List.take_zero, List.drop_succ_cons, List.drop_zero, List.drop_nil, List.length_cons, List.length_nil, List.cons_append, List.nil_append, Nat.zero_add, Nat.add_zero, Nat.reduceAdd]; exact rfl) (by repeat (first | exact Put.head | apply Put.tail)) (by exact Nat.le_of_ble_eq_true rfl) ?_; clear S; intro w9 S9; have S := Kept.mk S9; clear S9) | (refine wpList_want rfl rfl ?_; dsimp only) | fail)
    exact bodyPost_ret (v := .tuple #[.int .i64 y, .agg #[.int .i64 r0, .int .i64 c0, .slice p0 x0.length m0]]) (by exact res2 rfl rfl (by exact (rsiM S.out _ _ rfl _ _ (by repeat (first | exact List.Mem.head _ | refine List.Mem.tail _ ?_)) rfl))) rfl ⟨_, _, rfl, ⟨_, _, _, _, rfl, S.out.own, l0⟩, S.out.ext⟩
end Go.Proofs.Ytjoomdihjffmlaa
