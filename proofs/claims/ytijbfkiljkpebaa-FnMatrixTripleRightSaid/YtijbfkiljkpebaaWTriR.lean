/- The walk through FnMatrixTripleRight. -/
import Derived.Test.YtijbfkiljkpebaaDrawTR
import Derived.Test.YtijbfkiljkpebaaTriP
import Derived.Test.YtijbfkiljkpebaaTriT
namespace Go.Proofs.Ytijbfkiljkpebaa
set_option linter.unusedSimpArgs false
set_option linter.unusedVariables false
open Go.RowKit
theorem laws_alive (w : World) : Calls Try.prog 20 #[] w fun e w' => e = .returned (.bool true) ∧ w = w' := by
  go_enter Try.func20, Try.ntmps20
  go_wp2_with (go_at_call 66; (with_reducible refine (impl_RingValid 5 true (by decide) _).mono ?_); rintro e w1 ⟨rfl, rfl⟩)
  go_ret
  exact ⟨rfl, rfl⟩

/-- The value is as p says, by that of operation k. -/
def byE {m : Nat} (ks : List Nat) (p : Value → Value → Prop) : OpSpec Ext m := ⟨ks, fun vs u _ _ _ => p (vs.headD undef) u, fun _ _ _ _ _ _ _ _ _ _ h => h⟩
theorem tri_len4 {r0 c0 r1 c1 r2 c2 r3 c3 r4 c4 r5 c5 : Int} {x0 x1 x2 x3 x4 x5 : List Int} (g : TrM.ok ⟨⟨⟨r0, c0, x0⟩, ⟨r1, c1, x1⟩⟩, ⟨⟨r2, c2, x2⟩, ⟨r3, c3, x3⟩⟩, ⟨⟨r4, c4, x4⟩, ⟨r5, c5, x5⟩⟩⟩ = true) : r4.toNat * c4.toNat = x4.length := by
  simp only [TrM.ok, ShM.ok, Bool.and_eq_true] at g
  obtain ⟨R, C, f, e, hR, hC, _⟩ := Mat.ok_form g.1.2.1.1
  obtain ⟨rfl, rfl, rfl⟩ : r4 = (R : Int) ∧ c4 = (C : Int) ∧ x4 = mapTo f (R * C) := by simpa [Fm] using e
  simp [mapTo_len]
theorem tri_len25 {r0 c0 r1 c1 r2 c2 r3 c3 r4 c4 r5 c5 : Int} {x0 x1 x2 x3 x4 x5 : List Int} (g : TrM.ok ⟨⟨⟨r0, c0, x0⟩, ⟨r1, c1, x1⟩⟩, ⟨⟨r2, c2, x2⟩, ⟨r3, c3, x3⟩⟩, ⟨⟨r4, c4, x4⟩, ⟨r5, c5, x5⟩⟩⟩ = true) : x4.length ≤ 25 := by
  simp only [TrM.ok, ShM.ok, Bool.and_eq_true] at g
  obtain ⟨R, C, f, e, hR, hC, _⟩ := Mat.ok_form g.1.2.1.1
  obtain ⟨rfl, rfl, rfl⟩ : r4 = (R : Int) ∧ c4 = (C : Int) ∧ x4 = mapTo f (R * C) := by simpa [Fm] using e
  rw [mapTo_len]
  exact Nat.le_trans (Nat.mul_le_mul hR.hi hC.hi) (by decide)

set_option maxHeartbeats 8000000 in
set_option maxRecDepth 4000 in
theorem walk_FnMatrixTripleRight (v : Value) (w : World) (hb : Bytes w v) : Calls Try.prog 4 #[v] w fun e w' => e = .returned (.bool true) ∧ Ext w w' := by
  obtain ⟨a, n, cap, rfl, hn, hm, hc⟩ := id hb
  clear hc
  have HB := Kept.mk hb
  clear hb
  have S := Kept.mk (St.start w)
  by_cases hl : (n : Int) ≤ 1048576
  · go_enter Try.func4, Try.ntmps4
    go_wp2_with (fail)
    clear hl
    (with_reducible refine (spec_DrawMatrixTripleRight _ _ (HB.out.ext S.out.ext)).mono ?_)
    rintro e u9 ⟨u7, rfl, ⟨r0, c0, r1, c1, r2, c2, r3, c3, r4, c4, r5, c5, v0, v1, v2, v3, v4, v5, x0, x1, x2, x3, x4, x5, rfl, gg, ln⟩, x9⟩
    obtain ⟨p0, m0, hu9, -, -⟩ := id gg.o0.ints
    try simp only at hu9
    subst hu9
    obtain ⟨p1, m1, hu9, -, -⟩ := id gg.o1.ints
    try simp only at hu9
    subst hu9
    obtain ⟨p2, m2, hu9, -, -⟩ := id gg.o2.ints
    try simp only at hu9
    subst hu9
    obtain ⟨p3, m3, hu9, -, -⟩ := id gg.o3.ints
    try simp only at hu9
    subst hu9
    obtain ⟨p4, m4, hu9, -, -⟩ := id gg.o4.ints
    try simp only at hu9
    subst hu9
    obtain ⟨p5, m5, hu9, -, -⟩ := id gg.o5.ints
    try simp only at hu9
    subst hu9
    replace S := Kept.mk (S.out.made6 gg x9)
    clear gg x9
    cases g : TrM.ok ⟨⟨⟨r0, c0, x0⟩, ⟨r1, c1, x1⟩⟩, ⟨⟨r2, c2, x2⟩, ⟨r3, c3, x3⟩⟩, ⟨⟨r4, c4, x4⟩, ⟨r5, c5, x5⟩⟩⟩
    · have HG := Kept.mk g
      clear g
      go_wp2_with (first | (refine aliT (L := []) S.out ?_; clear S; intro b3 w9 S) | (refine aliM (L := [_]) S.out ?_; clear S; intro b5 w9 S) | (refine ldiT S.out ?_) | (refine ldiS S.out ?_) | (refine ldiM S.out ?_) | (refine ldI S.out ?_) | (refine ldIs S.out ?_) | (refine stiT S.out ?_; clear S; intro w9 S) | (refine stiM S.out ?_; clear S; intro w9 S) | (refine stIs S.out ?_; clear S; intro w9 S) | (refine aliT S.out ?_; clear S; intro b9 w9 S) | (refine aliM S.out ?_; clear S; intro b9 w9 S) | (refine wpList_want rfl rfl ?_; dsimp only) | fail)
      (with_reducible refine (impl_MatrixTripleRight r0 c0 r1 c1 r2 c2 r3 c3 r4 c4 r5 c5 _ _ _ _ _ _ x0 x1 x2 x3 x4 x5 _ (S.out.grp.get 0 rfl rfl).ints (S.out.grp.get 1 rfl rfl).ints (S.out.grp.get 2 rfl rfl).ints (S.out.grp.get 3 rfl rfl).ints (S.out.grp.get 4 rfl rfl).ints (S.out.grp.get 5 rfl rfl).ints false HG.out).mono ?_)
      rintro e u9 ⟨rfl, x9⟩
      replace S := Kept.mk (S.out.quiet x9)
      clear x9
      go_wp2_with (first | (refine aliT (L := []) S.out ?_; clear S; intro b3 w9 S) | (refine aliM (L := [_]) S.out ?_; clear S; intro b5 w9 S) | (refine ldiT S.out ?_) | (refine ldiS S.out ?_) | (refine ldiM S.out ?_) | (refine ldI S.out ?_) | (refine ldIs S.out ?_) | (refine stiT S.out ?_; clear S; intro w9 S) | (refine stiM S.out ?_; clear S; intro w9 S) | (refine stIs S.out ?_; clear S; intro w9 S) | (refine aliT S.out ?_; clear S; intro b9 w9 S) | (refine aliM S.out ?_; clear S; intro b9 w9 S) | (refine wpList_want rfl rfl ?_; dsimp only) | fail)
      (with_reducible refine (spec_MatrixTripleRight r0 c0 r1 c1 r2 c2 r3 c3 r4 c4 r5 c5 _ _ _ _ _ _ x0 x1 x2 x3 x4 x5 _ ((S.out.grp.get 0 rfl rfl).arg ln.1) ((S.out.grp.get 1 rfl rfl).arg ln.2.1) ((S.out.grp.get 2 rfl rfl).arg ln.2.2.1) ((S.out.grp.get 3 rfl rfl).arg ln.2.2.2.1) ((S.out.grp.get 4 rfl rfl).arg ln.2.2.2.2.1) ((S.out.grp.get 5 rfl rfl).arg ln.2.2.2.2.2) false HG.out).mono ?_)
      rintro e u9 ⟨rfl, x9⟩
      replace S := Kept.mk (S.out.quiet x9)
      clear x9
      go_wp2_with (first | (refine aliT (L := []) S.out ?_; clear S; intro b3 w9 S) | (refine aliM (L := [_]) S.out ?_; clear S; intro b5 w9 S) | (refine ldiT S.out ?_) | (refine ldiS S.out ?_) | (refine ldiM S.out ?_) | (refine ldI S.out ?_) | (refine ldIs S.out ?_) | (refine stiT S.out ?_; clear S; intro w9 S) | (refine stiM S.out ?_; clear S; intro w9 S) | (refine stIs S.out ?_; clear S; intro w9 S) | (refine aliT S.out ?_; clear S; intro b9 w9 S) | (refine aliM S.out ?_; clear S; intro b9 w9 S) | (refine wpList_want rfl rfl ?_; dsimp only) | fail)
      (with_reducible refine (laws_alive _).mono ?_)
      rintro e u9 ⟨rfl, rfl⟩
      go_wp2_with (first | (refine aliT (L := []) S.out ?_; clear S; intro b3 w9 S) | (refine aliM (L := [_]) S.out ?_; clear S; intro b5 w9 S) | (refine ldiT S.out ?_) | (refine ldiS S.out ?_) | (refine ldiM S.out ?_) | (refine ldI S.out ?_) | (refine ldIs S.out ?_) | (refine stiT S.out ?_; clear S; intro w9 S) | (refine stiM S.out ?_; clear S; intro w9 S) | (refine stIs S.out ?_; clear S; intro w9 S) | (refine aliT S.out ?_; clear S; intro b9 w9 S) | (refine aliM S.out ?_; clear S; intro b9 w9 S) | (refine wpList_want rfl rfl ?_; dsimp only) | fail)
      go_ret
      exact ⟨rfl, S.out.ext⟩
    · have HG := Kept.mk g
      have RW := right_wrong g
      simp only at RW
      obtain ⟨L, hL⟩ : ∃ L, L = x4.length := ⟨_, rfl⟩
      have e4 : r4.toNat * c4.toNat = L := by rw [hL]; exact tri_len4 g
      have l25 : L ≤ 25 := by rw [hL]; exact tri_len25 g
      unfold onesM at RW
      rw [e4] at RW
      have AD := Kept.mk (fun (v u : Value) (w' : World) (h1 : Ints w' v x4) (h2 : Ints w' u (List.replicate L 1)) => impl_AddMatrices r4 c4 r4 c4 v u x4 (List.replicate L 1) w' h1 h2)
      unfold MatPost at AD
      generalize addM ⟨r4, c4, x4⟩ ⟨r4, c4, List.replicate L 1⟩ = DA at *
      obtain ⟨ar, ac, as_⟩ := DA
      simp only at AD
      have HRW := Kept.mk RW
      have hLL := Kept.mk hL.symm
      clear RW g e4 hL
      go_wp2_with (first | (refine aliT (L := []) S.out ?_; clear S; intro b3 w9 S) | (refine aliM (L := [_]) S.out ?_; clear S; intro b5 w9 S) | (refine ldiT S.out ?_) | (refine ldiS S.out ?_) | (refine ldiM S.out ?_) | (refine ldI S.out ?_) | (refine ldIs S.out ?_) | (refine stiT S.out ?_; clear S; intro w9 S) | (refine stiM S.out ?_; clear S; intro w9 S) | (refine stIs S.out ?_; clear S; intro w9 S) | (refine aliT S.out ?_; clear S; intro b9 w9 S) | (refine aliM S.out ?_; clear S; intro b9 w9 S) | (refine wpList_want rfl rfl ?_; dsimp only) | fail)
      (with_reducible refine (impl_MatrixTripleRight r0 c0 r1 c1 r2 c2 r3 c3 r4 c4 r5 c5 _ _ _ _ _ _ x0 x1 x2 x3 x4 x5 _ (S.out.grp.get 0 rfl rfl).ints (S.out.grp.get 1 rfl rfl).ints (S.out.grp.get 2 rfl rfl).ints (S.out.grp.get 3 rfl rfl).ints (S.out.grp.get 4 rfl rfl).ints (S.out.grp.get 5 rfl rfl).ints true HG.out).mono ?_)
      rintro e u9 ⟨rfl, x9⟩
      replace S := Kept.mk (S.out.quiet x9)
      clear x9
      go_wp2_with (first | (refine aliT (L := []) S.out ?_; clear S; intro b3 w9 S) | (refine aliM (L := [_]) S.out ?_; clear S; intro b5 w9 S) | (refine ldiT S.out ?_) | (refine ldiS S.out ?_) | (refine ldiM S.out ?_) | (refine ldI S.out ?_) | (refine ldIs S.out ?_) | (refine stiT S.out ?_; clear S; intro w9 S) | (refine stiM S.out ?_; clear S; intro w9 S) | (refine stIs S.out ?_; clear S; intro w9 S) | (refine aliT S.out ?_; clear S; intro b9 w9 S) | (refine aliM S.out ?_; clear S; intro b9 w9 S) | (refine wpList_want rfl rfl ?_; dsimp only) | fail)
      (with_reducible refine (spec_MatrixTripleRight r0 c0 r1 c1 r2 c2 r3 c3 r4 c4 r5 c5 _ _ _ _ _ _ x0 x1 x2 x3 x4 x5 _ ((S.out.grp.get 0 rfl rfl).arg ln.1) ((S.out.grp.get 1 rfl rfl).arg ln.2.1) ((S.out.grp.get 2 rfl rfl).arg ln.2.2.1) ((S.out.grp.get 3 rfl rfl).arg ln.2.2.2.1) ((S.out.grp.get 4 rfl rfl).arg ln.2.2.2.2.1) ((S.out.grp.get 5 rfl rfl).arg ln.2.2.2.2.2) true HG.out).mono ?_)
      rintro e u9 ⟨rfl, x9⟩
      replace S := Kept.mk (S.out.quiet x9)
      clear x9
      go_wp2_with (first | (refine aliT (L := []) S.out ?_; clear S; intro b3 w9 S) | (refine aliM (L := [_]) S.out ?_; clear S; intro b5 w9 S) | (refine ldiT S.out ?_) | (refine ldiS S.out ?_) | (refine ldiM S.out ?_) | (refine ldI S.out ?_) | (refine ldIs S.out ?_) | (refine stiT S.out ?_; clear S; intro w9 S) | (refine stiM S.out ?_; clear S; intro w9 S) | (refine stIs S.out ?_; clear S; intro w9 S) | (refine aliT S.out ?_; clear S; intro b9 w9 S) | (refine aliM S.out ?_; clear S; intro b9 w9 S) | (refine wpList_want rfl rfl ?_; dsimp only) | fail)
      obtain ⟨B2, hB2⟩ : ∃ B2, B2 = w9.heap.size := ⟨_, rfl⟩
      have HV : Kept (∀ u ∈ ([.slice p0 x0.length m0, .slice p1 x1.length m1, .slice p2 x2.length m2, .slice p3 x3.length m3, .slice p4 x4.length m4, .slice p5 x5.length m5] : List Value), ∀ q, u.ownBlock = some q → q < B2) := ⟨fun u hu q hq => by rw [hB2]; exact (S.out.grp.own.block u hu q hq).2⟩
      have HB2 : w.heap.size ≤ B2 := by rw [hB2]; exact S.out.size
      go_loopw [6] (fun i wr => ∃ (k : Nat) (v : Value), k ≤ L ∧ i = .int .i64 k ∧ (∀ q, v.ownBlock = some q → B2 ≤ q) ∧ B2 ≤ wr.heap.size ∧ St none w wr [⟨b5, 31, [.int .i64 r4, .int .i64 c4, v]⟩, ⟨b3, 35, [.int .i64 r0, .int .i64 c0, .slice p0 x0.length m0, .int .i64 r1, .int .i64 c1, .slice p1 x1.length m1, .int .i64 r2, .int .i64 c2, .slice p2 x2.length m2, .int .i64 r3, .int .i64 c3, .slice p3 x3.length m3, .int .i64 r4, .int .i64 c4, .slice p4 x4.length m4, .int .i64 r5, .int .i64 c5, .slice p5 x5.length m5]⟩] [v, .slice p0 x0.length m0, .slice p1 x1.length m1, .slice p2 x2.length m2, .slice p3 x3.length m3, .slice p4 x4.length m4, .slice p5 x5.length m5] [List.replicate k 1, x0, x1, x2, x3, x4, x5]) (fun i _ => L - (intOf i).toNat)
      case atStart => exact ⟨0, .slice none 0 0, Nat.zero_le _, rfl, fun _ h => (by cases h), Nat.le_of_eq hB2, S.out.made (Own.nil _ _) (Ext.refl _)⟩
      case round =>
        clear S
        obtain ⟨k, v, hk, rfl, ho, hB9, S⟩ := hrel
        have HO := Kept.mk ho
        clear ho
        have S := Kept.mk S
        by_cases hlt : k < L
        · have hltZ : (k : Int) < (x4.length : Int) := by rw [hLL.out]; omega
          go_wp2_with (first | (at_builtin; replace S := Kept.mk (S.out.alloc 3 [.int .i64 1]); refine wpList_append_one rfl _ _ rfl B2 _ (List.replicate k 1) rfl (S.out.grp.o0.rebase HO.out) _ 1 rfl (S.out.box _ (List.Mem.head _)).1 (by rw [List.length_replicate]; omega) (Nat.le_trans hB9 (by simp)) ?_; intro v' w8 o8 t8; have S9 := Kept.mk ((S.out.boxes (List.sublist_cons_self _ _)).grownH t8 o8 HB2 HV.out HO.out (by intro p hp; simp only [List.mem_cons, List.not_mem_nil, or_false] at hp; rcases hp with rfl | rfl; (exact (by decide : (31 : TypeId) ≠ 3)); exact (by decide : (35 : TypeId) ≠ 3))); have HO' := Kept.mk (fun q hq => (o8.block q hq).1); have sz8 := t8.size; clear S t8; have S := S9; clear S9; obtain ⟨p9, m9, hu9, -, -⟩ := id o8.ints; (try simp only [List.length_append, List.length_cons, List.length_nil, Nat.zero_add, List.length_replicate] at hu9); subst hu9; clear o8) | (refine aliT (L := []) S.out ?_; clear S; intro b3 w9 S) | (refine aliM (L := [_]) S.out ?_; clear S; intro b5 w9 S) | (refine ldiT S.out ?_) | (refine ldiS S.out ?_) | (refine ldiM S.out ?_) | (refine ldI S.out ?_) | (refine ldIs S.out ?_) | (refine stiT S.out ?_; clear S; intro w9 S) | (refine stiM S.out ?_; clear S; intro w9 S) | (refine stIs S.out ?_; clear S; intro w9 S) | (refine aliT S.out ?_; clear S; intro b9 w9 S) | (refine aliM S.out ?_; clear S; intro b9 w9 S) | (refine wpList_want rfl rfl ?_; dsimp only) | fail)
          go_roundw
          case rel => exact ⟨k + 1, .slice p9 (k + 1) m9, by omega, by go_num, HO'.out, S.out.grp.o0.below HO'.out (by simp), by rw [List.replicate_succ']; exact S.out⟩
          case measure => simp [intOf]; omega

        · have e : k = L := by omega
          subst e
          have hltZ : ¬ (k : Int) < (x4.length : Int) := by rw [hLL.out]; omega
          obtain ⟨p9, m9, hu9, -, -⟩ := id S.out.own.ints
          (try simp only [List.length_replicate] at hu9)
          subst hu9
          go_wp2_with (first | (refine aliT (L := []) S.out ?_; clear S; intro b3 w9 S) | (refine aliM (L := [_]) S.out ?_; clear S; intro b5 w9 S) | (refine ldiT S.out ?_) | (refine ldiS S.out ?_) | (refine ldiM S.out ?_) | (refine ldI S.out ?_) | (refine ldIs S.out ?_) | (refine stiT S.out ?_; clear S; intro w9 S) | (refine stiM S.out ?_; clear S; intro w9 S) | (refine stIs S.out ?_; clear S; intro w9 S) | (refine aliT S.out ?_; clear S; intro b9 w9 S) | (refine aliM S.out ?_; clear S; intro b9 w9 S) | (refine wpList_want rfl rfl ?_; dsimp only) | fail)
          apply wp_region_zip [isv _, isv _, isv _, isv _, isv _, isv _, isv _, isv _, matR ar ac as_, isv _, isv _, isv _, byE [8] (fun a u => ∃ v, a = .agg #[.int .i64 ar, .int .i64 ac, v] ∧ u = .agg #[.int .i64 ar, .int .i64 ac, v, .int .i64 r5, .int .i64 c5, .slice p5 x5.length m5]), byE [8, 12] (fun a u => ∃ v, a = .agg #[.int .i64 ar, .int .i64 ac, v] ∧ u = .agg #[.int .i64 r0, .int .i64 c0, .slice p0 x0.length m0, .int .i64 r1, .int .i64 c1, .slice p1 x1.length m1, .int .i64 r2, .int .i64 c2, .slice p2 x2.length m2, .int .i64 r3, .int .i64 c3, .slice p3 x3.length m3, .int .i64 ar, .int .i64 ac, v, .int .i64 r5, .int .i64 c5, .slice p5 x5.length m5]), newb _ 35] _ (by kernel_rfl)
          case hA => intro V; simp [putAll, dstOf, Act.put]; exact rfl
          case hsl => intro V; exact rfl
          case step =>
            intro V lo up w' hr
            have S := Kept.mk (S.out.quiet hr)
            simp only [zipOk, depsImp, isv, matR, byE, modeNg, newb, waits, Region.binds, List.map_nil, List.map_cons, List.headD_cons, List.nil_append, List.cons_append, List.filterMap_cons, List.filterMap_nil, ↓reduceIte, modeNe, Bool.false_eq_true, true_implies, List.getD_cons_zero, List.getD_cons_succ, and_true]
            refine ⟨?_, ?_, ?_, ?_, ?_, ?_, ?_, ?_, ?_, ?_, ?_, ?_, ?_, ?_, ?_⟩
            · intros
              (try simp only [*])
              go_wp2_with (first | (refine ldiT S.out ?_) | (refine ldiS S.out ?_) | (refine ldiM S.out ?_) | (refine ldI S.out ?_) | (refine ldIs S.out ?_) | (refine wpList_want rfl rfl ?_; dsimp only) | fail)
              refine stepQ_mk rfl (by simp only [List.getElem?_toArray, List.getElem?_cons_succ, List.getElem?_cons_zero]; exact rfl) ?_
              exact ⟨Ext.refl _, rfl⟩
            · intros
              (try simp only [*])
              go_wp2_with (first | (refine ldiT S.out ?_) | (refine ldiS S.out ?_) | (refine ldiM S.out ?_) | (refine ldI S.out ?_) | (refine ldIs S.out ?_) | (refine wpList_want rfl rfl ?_; dsimp only) | fail)
              refine stepQ_mk rfl (by simp only [List.getElem?_toArray, List.getElem?_cons_succ, List.getElem?_cons_zero]; exact rfl) ?_
              exact ⟨Ext.refl _, rfl⟩
            · intros
              (try simp only [*])
              go_wp2_with (first | (refine ldiT S.out ?_) | (refine ldiS S.out ?_) | (refine ldiM S.out ?_) | (refine ldI S.out ?_) | (refine ldIs S.out ?_) | (refine wpList_want rfl rfl ?_; dsimp only) | fail)
              refine stepQ_mk rfl (by simp only [List.getElem?_toArray, List.getElem?_cons_succ, List.getElem?_cons_zero]; exact rfl) ?_
              exact ⟨Ext.refl _, rfl⟩
            · intros
              (try simp only [*])
              go_wp2_with (first | (refine ldiT S.out ?_) | (refine ldiS S.out ?_) | (refine ldiM S.out ?_) | (refine ldI S.out ?_) | (refine ldIs S.out ?_) | (refine wpList_want rfl rfl ?_; dsimp only) | fail)
              refine stepQ_mk rfl (by simp only [List.getElem?_toArray, List.getElem?_cons_succ, List.getElem?_cons_zero]; exact rfl) ?_
              exact ⟨Ext.refl _, rfl⟩
            · intros
              (try simp only [*])
              go_wp2_with (first | (refine ldiT S.out ?_) | (refine ldiS S.out ?_) | (refine ldiM S.out ?_) | (refine ldI S.out ?_) | (refine ldIs S.out ?_) | (refine wpList_want rfl rfl ?_; dsimp only) | fail)
              refine stepQ_mk rfl (by simp only [List.getElem?_toArray, List.getElem?_cons_succ, List.getElem?_cons_zero]; exact rfl) ?_
              exact ⟨Ext.refl _, rfl⟩
            · intros
              (try simp only [*])
              go_wp2_with (first | (refine ldiT S.out ?_) | (refine ldiS S.out ?_) | (refine ldiM S.out ?_) | (refine ldI S.out ?_) | (refine ldIs S.out ?_) | (refine wpList_want rfl rfl ?_; dsimp only) | fail)
              refine stepQ_mk rfl (by simp only [List.getElem?_toArray, List.getElem?_cons_succ, List.getElem?_cons_zero]; exact rfl) ?_
              exact ⟨Ext.refl _, rfl⟩
            · intros
              (try simp only [*])
              go_wp2_with (first | (refine ldiT S.out ?_) | (refine ldiS S.out ?_) | (refine ldiM S.out ?_) | (refine ldI S.out ?_) | (refine ldIs S.out ?_) | (refine wpList_want rfl rfl ?_; dsimp only) | fail)
              refine stepQ_mk rfl (by simp only [List.getElem?_toArray, List.getElem?_cons_succ, List.getElem?_cons_zero]; exact rfl) ?_
              exact ⟨Ext.refl _, rfl⟩
            · intros
              (try simp only [*])
              go_wp2_with (first | (refine ldiT S.out ?_) | (refine ldiS S.out ?_) | (refine ldiM S.out ?_) | (refine ldI S.out ?_) | (refine ldIs S.out ?_) | (refine wpList_want rfl rfl ?_; dsimp only) | fail)
              refine stepQ_mk rfl (by simp only [List.getElem?_toArray, List.getElem?_cons_succ, List.getElem?_cons_zero]; exact rfl) ?_
              exact ⟨Ext.refl _, rfl⟩
            · intros
              (try simp only [*])
              go_wp2_with (fail)
              (with_reducible refine (AD.out _ _ _ (S.out.grp.get 5 rfl rfl).ints S.out.grp.o0.ints).mono ?_)
              rintro e w9 ⟨v9, rfl, o9, x9⟩
              go_wp2
              refine stepQ_mk rfl (by simp only [List.getElem?_toArray, List.getElem?_cons_succ, List.getElem?_cons_zero]; exact rfl) ?_
              exact ⟨x9, v9, rfl, o9, fun q hq => (o9.block q hq).2⟩
            · intros
              (try simp only [*])
              go_wp2_with (first | (refine ldiT S.out ?_) | (refine ldiS S.out ?_) | (refine ldiM S.out ?_) | (refine ldI S.out ?_) | (refine ldIs S.out ?_) | (refine wpList_want rfl rfl ?_; dsimp only) | fail)
              refine stepQ_mk rfl (by simp only [List.getElem?_toArray, List.getElem?_cons_succ, List.getElem?_cons_zero]; exact rfl) ?_
              exact ⟨Ext.refl _, rfl⟩
            · intros
              (try simp only [*])
              go_wp2_with (first | (refine ldiT S.out ?_) | (refine ldiS S.out ?_) | (refine ldiM S.out ?_) | (refine ldI S.out ?_) | (refine ldIs S.out ?_) | (refine wpList_want rfl rfl ?_; dsimp only) | fail)
              refine stepQ_mk rfl (by simp only [List.getElem?_toArray, List.getElem?_cons_succ, List.getElem?_cons_zero]; exact rfl) ?_
              exact ⟨Ext.refl _, rfl⟩
            · intros
              (try simp only [*])
              go_wp2_with (first | (refine ldiT S.out ?_) | (refine ldiS S.out ?_) | (refine ldiM S.out ?_) | (refine ldI S.out ?_) | (refine ldIs S.out ?_) | (refine wpList_want rfl rfl ?_; dsimp only) | fail)
              refine stepQ_mk rfl (by simp only [List.getElem?_toArray, List.getElem?_cons_succ, List.getElem?_cons_zero]; exact rfl) ?_
              exact ⟨Ext.refl _, rfl⟩
            · intro _ _ _ ⟨v8, e8, o8, b8⟩
              intros
              (try simp only [*])
              go_wp2_with (first | (refine ldiT S.out ?_) | (refine ldiS S.out ?_) | (refine ldiM S.out ?_) | (refine ldI S.out ?_) | (refine ldIs S.out ?_) | (refine wpList_want rfl rfl ?_; dsimp only) | fail)
              refine stepQ_mk rfl (by simp only [List.getElem?_toArray, List.getElem?_cons_succ, List.getElem?_cons_zero]; exact rfl) ?_
              exact ⟨Ext.refl _, v8, rfl, rfl⟩
            · intro _ _ _ ⟨v8, e8, o8, b8⟩
              intros
              obtain ⟨v7, e7, e12⟩ := ‹∃ v, V 8 = _ ∧ V 12 = _›
              rw [e8] at e7
              simp only [Value.agg.injEq, Array.mk.injEq, List.cons.injEq, and_true, true_and] at e7
              subst e7
              (try simp only [*])
              go_wp2_with (first | (refine ldiT S.out ?_) | (refine ldiS S.out ?_) | (refine ldiM S.out ?_) | (refine ldI S.out ?_) | (refine ldIs S.out ?_) | (refine wpList_want rfl rfl ?_; dsimp only) | fail)
              refine stepQ_mk rfl (by simp only [List.getElem?_toArray, List.getElem?_cons_succ, List.getElem?_cons_zero]; exact rfl) ?_
              exact ⟨Ext.refl _, v8, rfl, rfl⟩
            · intros
              go_wp2
              refine stepQ_mk rfl (by simp only [List.getElem?_toArray, List.getElem?_cons_succ, List.getElem?_cons_zero]; exact rfl) ?_
              exact ⟨(Ext.refl _).alloc _, rfl, by simp, Blk.new _ _ _⟩
          case hB => kernel_rfl
          case fin =>
            intro V lo up w' hr hf ha
            simp only [factsOk, isv, matR, byE, modeNg, newb, List.map_nil, List.map_cons, List.headD_cons, and_true, Nat.zero_add, Nat.reduceAdd] at hf
            simp only [List.length_cons, List.length_nil, Nat.zero_add, Nat.reduceAdd, List.drop_succ_cons, List.drop_zero]
            obtain ⟨-, -, -, -, -, -, -, -, ⟨l8, -, -, v8, e8, o8, -⟩, -, -, -, -, ⟨-, -, -, v9, e9, e13⟩, ⟨l14, -, -, e14, -, k14⟩⟩ := hf
            clear ha
            rw [e8] at e9
            simp only [Value.agg.injEq, Array.mk.injEq, List.cons.injEq, and_true, true_and] at e9
            subst e9
            rw [e13, e14]
            clear e8 e13 e14
            replace S := Kept.mk (S.out.grow (S.out.quiet hr) [⟨lo 14, 35, [.int .i64 0, .int .i64 0, .slice none 0 0, .int .i64 0, .int .i64 0, .slice none 0 0, .int .i64 0, .int .i64 0, .slice none 0 0, .int .i64 0, .int .i64 0, .slice none 0 0, .int .i64 0, .int .i64 0, .slice none 0 0, .int .i64 0, .int .i64 0, .slice none 0 0]⟩] (fun p hp => by rw [List.mem_singleton] at hp; subst hp; exact ⟨k14, l14⟩) (by simp) (Grp.one (o8.mono l8)) (fun p hp v hv => by rw [List.mem_singleton] at hp hv; subst hp hv; exact o8.ne k14 (by decide)))
            clear hr l8 l14 k14
            generalize lo 14 = b7 at *
            obtain ⟨p8, m8, hu9, -, -⟩ := id o8.ints
            try simp only at hu9
            subst hu9
            clear o8
            simp only [List.cons_append, List.nil_append] at S
            go_wp2_with (first | (refine ldiT S.out ?_) | (refine ldiS S.out ?_) | (refine ldiM S.out ?_) | (refine ldI S.out ?_) | (refine ldIs S.out ?_) | (refine stiT S.out ?_; clear S; intro w9 S) | (refine wpList_want rfl rfl ?_; dsimp only) | fail)
            (with_reducible refine (impl_MatrixTripleRight r0 c0 r1 c1 r2 c2 r3 c3 ar ac r5 c5 _ _ _ _ _ _ x0 x1 x2 x3 as_ x5 _ (S.out.grp.get 2 rfl rfl).ints (S.out.grp.get 3 rfl rfl).ints (S.out.grp.get 4 rfl rfl).ints (S.out.grp.get 5 rfl rfl).ints S.out.grp.o0.ints (S.out.grp.get 7 rfl rfl).ints false HRW.out).mono ?_)
            rintro e u9 ⟨rfl, x9⟩
            replace S := Kept.mk (S.out.quiet x9)
            clear x9
            go_wp2_with (first | (refine ldiT S.out ?_) | (refine wpList_want rfl rfl ?_; dsimp only) | fail)
            go_ret
            exact ⟨rfl, S.out.ext⟩
  · have hl' : ¬ (n : Int) ≤ 1048576 := hl
    have hg : (1048576 : Int) < n := by omega
    clear hl
    go_enter Try.func4, Try.ntmps4
    go_wp2_with (fail)
    go_ret
    exact ⟨rfl, S.out.ext⟩
end Go.Proofs.Ytijbfkiljkpebaa
