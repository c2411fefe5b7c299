/- Shared matrices that are drawn from a code. -/
import Derived.Test.YtkkdikoknegpjaaMatD
import Derived.Test.YtkkdikoknegpjaaKG
import Derived.Test.YtkkdikoknegpjaaSPair
import Derived.Test.YtkkdikoknegpjaaTriT
import Derived.Test.YtkkdikoknegpjaaKR
import Derived.Test.YtkkdikoknegpjaaMTriS
import Derived.Test.YtkkdikoknegpjaaExM
namespace Go.Proofs.Ytkkdikoknegpjaa
set_option linter.unusedSimpArgs false
set_option linter.unusedVariables false
open Go.RowKit
/-- A shared matrix of whatever sides with lists of the call's own, from B on. -/
def IsShM (B : Nat) (w : World) (u : Value) : Prop := ∃ (r c r' c' : Int) (v v' : Value) (xs xs' : List Int), u = .agg #[.int .i64 r, .int .i64 c, v, .int .i64 r', .int .i64 c', v'] ∧ Grp B w [v, v'] [xs, xs'] ∧ xs.length ≤ 1048576 ∧ xs'.length ≤ 1048576

/-- A new matrix, its list from B on. -/
def matV {n0 m : Nat} {rs : List Nat} {Ts : List TypeId} (hT : 3 ∉ Ts) (r c : Int) (xs : List Int) : OpSpec (XS n0 rs Ts) m :=
  ⟨[], fun _ u _ _ w => ∃ v, u = .agg #[.int .i64 r, .int .i64 c, v] ∧ Own n0 w v xs, fun _ _ _ _ _ _ _ _ _ hx ⟨v, h1, h2⟩ => ⟨v, h1, h2.xs hx (Nat.le_refl _) hT⟩⟩
/-- Two matrices, the list of the second one new. -/
def matW {n0 m : Nat} {rs : List Nat} {Ts : List TypeId} (hT : 3 ∉ Ts) (r c : Int) (s : Value) (r' c' : Int) (xs : List Int) : OpSpec (XS n0 rs Ts) m :=
  ⟨[], fun _ u _ _ w => ∃ v, u = .agg #[.int .i64 r, .int .i64 c, s, .int .i64 r', .int .i64 c', v] ∧ Own n0 w v xs, fun _ _ _ _ _ _ _ _ _ hx ⟨v, h1, h2⟩ => ⟨v, h1, h2.xs hx (Nat.le_refl _) hT⟩⟩
/-- Nothing is asked. -/
def anyV {X : World → World → Prop} {m : Nat} : OpSpec X m := ⟨[], fun _ _ _ _ _ => True, fun _ _ _ _ _ _ _ _ _ _ h => h⟩

set_option maxHeartbeats 8000000 in
set_option maxRecDepth 4000 in
theorem spec_SplitMatrix (r c : Int) (v : Value) (xs : List Int) (s : Int) (w : World) (h1 : Arg w v xs) : Calls Try.prog 100 #[.agg #[.int .i64 r, .int .i64 c, v], .int .i64 s] w fun e w' => ∃ (u : Value) (n : Int), e = .returned (.tuple #[u, .int .i64 n]) ∧ IsShM w.heap.size w' u ∧ Ext w w' := by
  cases g1 : mOk r c xs
  · obtain ⟨s1, n1, rfl, hm1, hc1⟩ := id h1.ints
    clear hm1 hc1
    have H1 := Kept.mk h1
    clear h1
    have OA : Kept (∀ w', Ints w' (.slice s1 xs.length n1) xs → Calls Try.prog 91 #[.agg #[.int .i64 r, .int .i64 c, .slice s1 xs.length n1]] w' (MatPost ⟨r, c, xs⟩ w')) := ⟨fun w' h => spec_l1OwnMatrix r c _ xs w' h H1.out.fit.nil H1.out.len⟩
    unfold MatPost at OA
    have S := Kept.mk (St.start w)
    go_enter Try.func100, Try.ntmps100
    go_wp2_with (first | (refine ldiM S.out ?_) | (refine ldiS S.out ?_) | (refine ldI S.out ?_) | (refine ldIs S.out ?_) | (refine stiM S.out ?_; clear S; intro w9 S) | (refine stiS S.out ?_; clear S; intro w9 S) | (refine stI S.out ?_; clear S; intro w9 S) | (refine stIs S.out ?_; clear S; intro w9 S) | (refine aliM S.out ?_; clear S; intro b9 w9 S) | (refine aliS S.out ?_; clear S; intro b9 w9 S) | (refine bxiM S.out ?_; clear S; intro b9 w9 S) | (refine wpList_want rfl rfl ?_; dsimp only) | fail)
    (with_reducible refine (OA.out _ (H1.out.ints.keep S.out.ext)).mono ?_)
    rintro e u9 ⟨v0, rfl, o0, x9⟩
    replace S := Kept.mk (S.out.made o0 x9)
    clear x9
    obtain ⟨p0, m0, hu9, -, -⟩ := id o0.ints
    try simp only at hu9
    subst hu9
    clear o0
    have MV : Kept (∀ w', Ints w' (.slice p0 xs.length m0) xs → Calls Try.prog 93 #[.agg #[.int .i64 r, .int .i64 c, .slice p0 xs.length m0]] w' fun e w'' => e = .returned (.bool (mOk r c xs)) ∧ Ext w' w'') := ⟨fun w' h => spec_MatrixValid r c _ xs w' h⟩
    go_wp2_with (first | (refine ldiM S.out ?_) | (refine ldiS S.out ?_) | (refine ldI S.out ?_) | (refine ldIs S.out ?_) | (refine stiM S.out ?_; clear S; intro w9 S) | (refine stiS S.out ?_; clear S; intro w9 S) | (refine stI S.out ?_; clear S; intro w9 S) | (refine stIs S.out ?_; clear S; intro w9 S) | (refine aliM S.out ?_; clear S; intro b9 w9 S) | (refine aliS S.out ?_; clear S; intro b9 w9 S) | (refine bxiM S.out ?_; clear S; intro b9 w9 S) | (refine wpList_want rfl rfl ?_; dsimp only) | fail)
    rw [g1] at MV
    (with_reducible refine (MV.out _ S.out.own.ints).mono ?_)
    rintro e u9 ⟨rfl, x9⟩
    replace S := Kept.mk (S.out.quiet x9)
    clear x9
    go_wp2_with (first | (refine ldiM S.out ?_) | (refine ldiS S.out ?_) | (refine ldI S.out ?_) | (refine ldIs S.out ?_) | (refine stiM S.out ?_; clear S; intro w9 S) | (refine stiS S.out ?_; clear S; intro w9 S) | (refine stI S.out ?_; clear S; intro w9 S) | (refine stIs S.out ?_; clear S; intro w9 S) | (refine aliM S.out ?_; clear S; intro b9 w9 S) | (refine aliS S.out ?_; clear S; intro b9 w9 S) | (refine bxiM S.out ?_; clear S; intro b9 w9 S) | (refine wpList_want rfl rfl ?_; dsimp only) | fail)
    exact bodyPost_ret (v := .tuple #[.agg #[.int .i64 0, .int .i64 0, .slice none 0 0, .int .i64 0, .int .i64 0, .slice none 0 0], .int .i64 0]) (by exact res2 rfl (by exact (rsiS S.out)) rfl) rfl ⟨_, _, rfl, ⟨_, _, _, _, _, _, [], [], rfl, Grp.two (Own.nil _ _) (Own.nil _ _) (Apt.nil _ _ rfl), Nat.zero_le _, Nat.zero_le _⟩, S.out.ext⟩
  · cases g2 : seedOk s
    · have SD : Kept ((decide (1 ≤ s) && decide (s ≤ 2147483646)) = false) := ⟨g2⟩
      clear g2
      obtain ⟨s1, n1, rfl, hm1, hc1⟩ := id h1.ints
      clear hm1 hc1
      have H1 := Kept.mk h1
      clear h1
      have OA : Kept (∀ w', Ints w' (.slice s1 xs.length n1) xs → Calls Try.prog 91 #[.agg #[.int .i64 r, .int .i64 c, .slice s1 xs.length n1]] w' (MatPost ⟨r, c, xs⟩ w')) := ⟨fun w' h => spec_l1OwnMatrix r c _ xs w' h H1.out.fit.nil H1.out.len⟩
      unfold MatPost at OA
      have S := Kept.mk (St.start w)
      go_enter Try.func100, Try.ntmps100
      go_wp2_with (first | (refine ldiM S.out ?_) | (refine ldiS S.out ?_) | (refine ldI S.out ?_) | (refine ldIs S.out ?_) | (refine stiM S.out ?_; clear S; intro w9 S) | (refine stiS S.out ?_; clear S; intro w9 S) | (refine stI S.out ?_; clear S; intro w9 S) | (refine stIs S.out ?_; clear S; intro w9 S) | (refine aliM S.out ?_; clear S; intro b9 w9 S) | (refine aliS S.out ?_; clear S; intro b9 w9 S) | (refine bxiM S.out ?_; clear S; intro b9 w9 S) | (refine wpList_want rfl rfl ?_; dsimp only) | fail)
      (with_reducible refine (OA.out _ (H1.out.ints.keep S.out.ext)).mono ?_)
      rintro e u9 ⟨v0, rfl, o0, x9⟩
      replace S := Kept.mk (S.out.made o0 x9)
      clear x9
      obtain ⟨p0, m0, hu9, -, -⟩ := id o0.ints
      try simp only at hu9
      subst hu9
      clear o0
      have MV : Kept (∀ w', Ints w' (.slice p0 xs.length m0) xs → Calls Try.prog 93 #[.agg #[.int .i64 r, .int .i64 c, .slice p0 xs.length m0]] w' fun e w'' => e = .returned (.bool (mOk r c xs)) ∧ Ext w' w'') := ⟨fun w' h => spec_MatrixValid r c _ xs w' h⟩
      go_wp2_with (first | (refine ldiM S.out ?_) | (refine ldiS S.out ?_) | (refine ldI S.out ?_) | (refine ldIs S.out ?_) | (refine stiM S.out ?_; clear S; intro w9 S) | (refine stiS S.out ?_; clear S; intro w9 S) | (refine stI S.out ?_; clear S; intro w9 S) | (refine stIs S.out ?_; clear S; intro w9 S) | (refine aliM S.out ?_; clear S; intro b9 w9 S) | (refine aliS S.out ?_; clear S; intro b9 w9 S) | (refine bxiM S.out ?_; clear S; intro b9 w9 S) | (refine wpList_want rfl rfl ?_; dsimp only) | fail)
      rw [g1] at MV
      (with_reducible refine (MV.out _ S.out.own.ints).mono ?_)
      rintro e u9 ⟨rfl, x9⟩
      replace S := Kept.mk (S.out.quiet x9)
      clear x9
      go_wp2_with (first | (refine ldiM S.out ?_) | (refine ldiS S.out ?_) | (refine ldI S.out ?_) | (refine ldIs S.out ?_) | (refine stiM S.out ?_; clear S; intro w9 S) | (refine stiS S.out ?_; clear S; intro w9 S) | (refine stI S.out ?_; clear S; intro w9 S) | (refine stIs S.out ?_; clear S; intro w9 S) | (refine aliM S.out ?_; clear S; intro b9 w9 S) | (refine aliS S.out ?_; clear S; intro b9 w9 S) | (refine bxiM S.out ?_; clear S; intro b9 w9 S) | (refine wpList_want rfl rfl ?_; dsimp only) | fail)
      (with_reducible refine (spec_l1In s 1 2147483646 false SD.out _).mono ?_)
      rintro e u9 ⟨rfl, rfl⟩
      go_wp2_with (first | (refine ldiM S.out ?_) | (refine ldiS S.out ?_) | (refine ldI S.out ?_) | (refine ldIs S.out ?_) | (refine stiM S.out ?_; clear S; intro w9 S) | (refine stiS S.out ?_; clear S; intro w9 S) | (refine stI S.out ?_; clear S; intro w9 S) | (refine stIs S.out ?_; clear S; intro w9 S) | (refine aliM S.out ?_; clear S; intro b9 w9 S) | (refine aliS S.out ?_; clear S; intro b9 w9 S) | (refine bxiM S.out ?_; clear S; intro b9 w9 S) | (refine wpList_want rfl rfl ?_; dsimp only) | fail)
      exact bodyPost_ret (v := .tuple #[.agg #[.int .i64 0, .int .i64 0, .slice none 0 0, .int .i64 0, .int .i64 0, .slice none 0 0], .int .i64 0]) (by exact res2 rfl (by exact (rsiS S.out)) rfl) rfl ⟨_, _, rfl, ⟨_, _, _, _, _, _, [], [], rfl, Grp.two (Own.nil _ _) (Own.nil _ _) (Apt.nil _ _ rfl), Nat.zero_le _, Nat.zero_le _⟩, S.out.ext⟩
    · have SD : Kept ((decide (1 ≤ s) && decide (s ≤ 2147483646)) = true) := ⟨g2⟩
      obtain ⟨R, C, f, e9, hR, hC, hf⟩ := Mat.ok_form (m := ⟨r, c, xs⟩) g1
      obtain ⟨rfl, rfl, hxs⟩ : r = (R : Int) ∧ c = (C : Int) ∧ xs = mapTo f (R * C) := by simpa [Fm] using e9
      clear e9 hxs hf f
      have RM := Kept.mk (fun w' => spec_RandomMatrix R C hR hC s (seed_of g2) w')
      unfold RmPost at RM
      have L1 : Kept ((rlist s (R * C)).length ≤ 1048576) := ⟨by rw [rlist_len]; exact Nat.le_trans (side_mul' hR hC) (by decide)⟩
      have L0 : Kept (xs.length ≤ 1048576) := ⟨h1.len⟩
      clear hR hC
      generalize rlist s (R * C) = x1 at *
      generalize strm s (R * C) = t1 at *
      have SB := Kept.mk (fun (v u : Value) (w' : World) (h1 : Arg w' v xs) (h2 : Arg w' u x1) => spec_SubMatrices R C R C v u xs x1 w' h1 h2)
      unfold MatPost at SB
      have L9 := Kept.mk (pairM_len subR ⟨R, C, xs⟩ ⟨R, C, x1⟩)
      rw [show pairM subR = subM from rfl] at L9
      generalize subM ⟨R, C, xs⟩ ⟨R, C, x1⟩ = DE at *
      obtain ⟨er, ec, es⟩ := DE
      simp only at SB L9
      obtain ⟨s1, n1, rfl, hm1, hc1⟩ := id h1.ints
      clear hm1 hc1
      have H1 := Kept.mk h1
      clear h1
      have OA : Kept (∀ w', Ints w' (.slice s1 xs.length n1) xs → Calls Try.prog 91 #[.agg #[.int .i64 R, .int .i64 C, .slice s1 xs.length n1]] w' (MatPost ⟨R, C, xs⟩ w')) := ⟨fun w' h => spec_l1OwnMatrix R C _ xs w' h H1.out.fit.nil H1.out.len⟩
      unfold MatPost at OA
      have S := Kept.mk (St.start w)
      go_enter Try.func100, Try.ntmps100
      go_wp2_with (first | (refine aliS S.out ?_; clear S; intro rb w9 S) | (refine ldiM S.out ?_) | (refine ldiS S.out ?_) | (refine ldI S.out ?_) | (refine ldIs S.out ?_) | (refine stiM S.out ?_; clear S; intro w9 S) | (refine stiS S.out ?_; clear S; intro w9 S) | (refine stI S.out ?_; clear S; intro w9 S) | (refine stIs S.out ?_; clear S; intro w9 S) | (refine aliM S.out ?_; clear S; intro b9 w9 S) | (refine bxiM S.out ?_; clear S; intro b9 w9 S) | (refine wpList_want rfl rfl ?_; dsimp only) | fail)
      (with_reducible refine (OA.out _ (H1.out.ints.keep S.out.ext)).mono ?_)
      rintro e u9 ⟨v0, rfl, o0, x9⟩
      replace S := Kept.mk (S.out.made o0 x9)
      clear x9
      obtain ⟨p0, m0, hu9, -, -⟩ := id o0.ints
      try simp only at hu9
      subst hu9
      clear o0
      have MV : Kept (∀ w', Ints w' (.slice p0 xs.length m0) xs → Calls Try.prog 93 #[.agg #[.int .i64 R, .int .i64 C, .slice p0 xs.length m0]] w' fun e w'' => e = .returned (.bool (mOk R C xs)) ∧ Ext w' w'') := ⟨fun w' h => spec_MatrixValid R C _ xs w' h⟩
      go_wp2_with (first | (refine aliS S.out ?_; clear S; intro rb w9 S) | (refine ldiM S.out ?_) | (refine ldiS S.out ?_) | (refine ldI S.out ?_) | (refine ldIs S.out ?_) | (refine stiM S.out ?_; clear S; intro w9 S) | (refine stiS S.out ?_; clear S; intro w9 S) | (refine stI S.out ?_; clear S; intro w9 S) | (refine stIs S.out ?_; clear S; intro w9 S) | (refine aliM S.out ?_; clear S; intro b9 w9 S) | (refine bxiM S.out ?_; clear S; intro b9 w9 S) | (refine wpList_want rfl rfl ?_; dsimp only) | fail)
      rw [g1] at MV
      (with_reducible refine (MV.out _ S.out.own.ints).mono ?_)
      rintro e u9 ⟨rfl, x9⟩
      replace S := Kept.mk (S.out.quiet x9)
      clear x9
      go_wp2_with (first | (refine ldiM S.out ?_) | (refine ldiS S.out ?_) | (refine ldI S.out ?_) | (refine ldIs S.out ?_) | (refine stiM S.out ?_; clear S; intro w9 S) | (refine stiS S.out ?_; clear S; intro w9 S) | (refine stI S.out ?_; clear S; intro w9 S) | (refine stIs S.out ?_; clear S; intro w9 S) | (refine aliM S.out ?_; clear S; intro b9 w9 S) | (refine aliS S.out ?_; clear S; intro b9 w9 S) | (refine bxiM S.out ?_; clear S; intro b9 w9 S) | (refine wpList_want rfl rfl ?_; dsimp only) | fail)
      (with_reducible refine (spec_l1In s 1 2147483646 true SD.out _).mono ?_)
      rintro e u9 ⟨rfl, rfl⟩
      go_wp2_with (first | (refine ldiM S.out ?_) | (refine ldiS S.out ?_) | (refine ldI S.out ?_) | (refine ldIs S.out ?_) | (refine stiM S.out ?_; clear S; intro w9 S) | (refine stiS S.out ?_; clear S; intro w9 S) | (refine stI S.out ?_; clear S; intro w9 S) | (refine stIs S.out ?_; clear S; intro w9 S) | (refine aliM S.out ?_; clear S; intro b9 w9 S) | (refine aliS S.out ?_; clear S; intro b9 w9 S) | (refine bxiM S.out ?_; clear S; intro b9 w9 S) | (refine wpList_want rfl rfl ?_; dsimp only) | fail)
      (with_reducible refine (RM.out _).mono ?_)
      rintro e u9 ⟨v1, rfl, o1, x9⟩
      replace S := Kept.mk (S.out.made o1 x9)
      clear x9
      obtain ⟨p1, m1, hu9, -, -⟩ := id o1.ints
      try simp only at hu9
      subst hu9
      clear o1
      go_wp2_with (first | (refine ldiM S.out ?_) | (refine ldiS S.out ?_) | (refine ldI S.out ?_) | (refine ldIs S.out ?_) | (refine stiM S.out ?_; clear S; intro w9 S) | (refine stiS S.out ?_; clear S; intro w9 S) | (refine stI S.out ?_; clear S; intro w9 S) | (refine stIs S.out ?_; clear S; intro w9 S) | (refine aliM S.out ?_; clear S; intro b9 w9 S) | (refine aliS S.out ?_; clear S; intro b9 w9 S) | (refine bxiM S.out ?_; clear S; intro b9 w9 S) | (refine wpList_want rfl rfl ?_; dsimp only) | fail)
      obtain ⟨S1, A1⟩ := S.out.del (r := rb) (T := 33) (cs := [.int .i64 0, .int .i64 0, .slice none 0 0, .int .i64 0, .int .i64 0, .slice none 0 0]) (by repeat (first | exact Del.head | apply Del.tail))
      clear S
      have S := Kept.mk S1
      have AL := Kept.mk A1
      clear S1 A1
      apply wp_region_zipV (XS.rel _ [rb] []) (fun L _ w' => Px rb 6 33 #[.int .i64 0, .int .i64 0, .slice none 0 0, .int .i64 0, .int .i64 0, .slice none 0 0] (fun w' cs => ∃ v, cs = #[.int .i64 R, .int .i64 C, .slice p1 x1.length m1, .int .i64 er, .int .i64 ec, v] ∧ Own w9.heap.size w' v es) L w') [isv _, isv _, isv _, matV (by decide) er ec es, matW (by decide) R C (.slice p1 x1.length m1) er ec es, isv _, anyV] _ ?hJ (by kernel_rfl)
      case hJ => exact ⟨fun _ => AL.out.blk.keep ⟨rfl, rfl, rfl, Nat.le_refl _, fun _ _ => rfl⟩, fun h => by cases h⟩
      case hA => intro V; simp [putAll, dstOf, Act.put]; exact rfl
      case hsl => intro V; exact rfl
      case step =>
        intro V lo up w' hr L hj
        have S := Kept.mk (S.out.xs1 AL.out hr)
        simp only [zipOkV, depsImp, isv, matV, matW, anyV, modeNg, newb, waits, Region.binds, List.map_nil, List.map_cons, List.headD_cons, List.nil_append, List.cons_append, List.filterMap_cons, List.filterMap_nil, ↓reduceIte, modeNe, Bool.false_eq_true, true_implies, List.getD_cons_zero, List.getD_cons_succ, and_true, Nat.zero_add, Nat.reduceAdd]
        refine ⟨?_, ?_, ?_, ?_, ?_, ?_, ?_⟩
        · intro hl hw hd
          intros
          (try simp only [*])
          go_wp2_with (first | (refine ldiM S.out ?_) | (refine ldiS S.out ?_) | (refine ldI S.out ?_) | (refine ldIs S.out ?_) | (refine stiM S.out ?_; clear S; intro w9 S) | (refine stiS S.out ?_; clear S; intro w9 S) | (refine stI S.out ?_; clear S; intro w9 S) | (refine stIs S.out ?_; clear S; intro w9 S) | (refine aliM S.out ?_; clear S; intro b9 w9 S) | (refine aliS S.out ?_; clear S; intro b9 w9 S) | (refine bxiM S.out ?_; clear S; intro b9 w9 S) | (refine wpList_want rfl rfl ?_; dsimp only) | fail)
          refine stepS_mk rfl (by simp only [List.getElem?_toArray, List.getElem?_cons_succ, List.getElem?_cons_zero]; exact rfl) ?_
          exact ⟨XS.refl _, rfl, hj.ext (fun _ h => h) (fun _ => rfl) (by decide)⟩
        · intro hl hw hd
          intros
          (try simp only [*])
          go_wp2_with (first | (refine ldiM S.out ?_) | (refine ldiS S.out ?_) | (refine ldI S.out ?_) | (refine ldIs S.out ?_) | (refine stiM S.out ?_; clear S; intro w9 S) | (refine stiS S.out ?_; clear S; intro w9 S) | (refine stI S.out ?_; clear S; intro w9 S) | (refine stIs S.out ?_; clear S; intro w9 S) | (refine aliM S.out ?_; clear S; intro b9 w9 S) | (refine aliS S.out ?_; clear S; intro b9 w9 S) | (refine bxiM S.out ?_; clear S; intro b9 w9 S) | (refine wpList_want rfl rfl ?_; dsimp only) | fail)
          refine stepS_mk rfl (by simp only [List.getElem?_toArray, List.getElem?_cons_succ, List.getElem?_cons_zero]; exact rfl) ?_
          exact ⟨XS.refl _, rfl, hj.ext (fun _ h => h) (fun _ => rfl) (by decide)⟩
        · intro hl hw hd
          intros
          (try simp only [*])
          go_wp2_with (first | (refine ldiM S.out ?_) | (refine ldiS S.out ?_) | (refine ldI S.out ?_) | (refine ldIs S.out ?_) | (refine stiM S.out ?_; clear S; intro w9 S) | (refine stiS S.out ?_; clear S; intro w9 S) | (refine stI S.out ?_; clear S; intro w9 S) | (refine stIs S.out ?_; clear S; intro w9 S) | (refine aliM S.out ?_; clear S; intro b9 w9 S) | (refine aliS S.out ?_; clear S; intro b9 w9 S) | (refine bxiM S.out ?_; clear S; intro b9 w9 S) | (refine wpList_want rfl rfl ?_; dsimp only) | fail)
          refine stepS_mk rfl (by simp only [List.getElem?_toArray, List.getElem?_cons_succ, List.getElem?_cons_zero]; exact rfl) ?_
          exact ⟨XS.refl _, rfl, hj.ext (fun _ h => h) (fun _ => rfl) (by decide)⟩
        · intro hl hw hd
          intros
          (try simp only [*])
          go_wp2_with (fail)
          (with_reducible refine (SB.out _ _ _ (S.out.grp.o1.arg L0.out) (S.out.grp.o0.arg L1.out)).mono ?_)
          rintro e w9 ⟨v9, rfl, o9, x9⟩
          go_wp2
          refine stepS_mk rfl (by simp only [List.getElem?_toArray, List.getElem?_cons_succ, List.getElem?_cons_zero]; exact rfl) ?_
          exact ⟨XS.of_ext x9, ⟨v9, rfl, o9.mono hr.size⟩, hj.ext (fun cs ⟨v, e, o⟩ => ⟨v, e, o.keep x9⟩) (fun hk => Below.block x9 _ hk) (by decide)⟩
        · intro hl hw hd
          intro _ _ _ e0 _ _ _ ⟨v9, e3, o9⟩
          intros
          (try simp only [*])
          go_wp2_with (first | (refine ldiM S.out ?_) | (refine ldiS S.out ?_) | (refine ldI S.out ?_) | (refine ldIs S.out ?_) | (refine stiM S.out ?_; clear S; intro w9 S) | (refine stiS S.out ?_; clear S; intro w9 S) | (refine stI S.out ?_; clear S; intro w9 S) | (refine stIs S.out ?_; clear S; intro w9 S) | (refine aliM S.out ?_; clear S; intro b9 w9 S) | (refine aliS S.out ?_; clear S; intro b9 w9 S) | (refine bxiM S.out ?_; clear S; intro b9 w9 S) | (refine wpList_want rfl rfl ?_; dsimp only) | fail)
          refine stepS_mk rfl (by simp only [List.getElem?_toArray, List.getElem?_cons_succ, List.getElem?_cons_zero]; exact rfl) ?_
          exact ⟨XS.refl _, ⟨v9, rfl, o9⟩, hj.ext (fun _ h => h) (fun _ => rfl) (by decide)⟩
        · intro hl hw hd
          intros
          (try simp only [*])
          go_wp2_with (first | (refine ldiM S.out ?_) | (refine ldiS S.out ?_) | (refine ldI S.out ?_) | (refine ldIs S.out ?_) | (refine stiM S.out ?_; clear S; intro w9 S) | (refine stiS S.out ?_; clear S; intro w9 S) | (refine stI S.out ?_; clear S; intro w9 S) | (refine stIs S.out ?_; clear S; intro w9 S) | (refine aliM S.out ?_; clear S; intro b9 w9 S) | (refine aliS S.out ?_; clear S; intro b9 w9 S) | (refine bxiM S.out ?_; clear S; intro b9 w9 S) | (refine wpList_want rfl rfl ?_; dsimp only) | fail)
          refine stepS_mk rfl (by simp only [List.getElem?_toArray, List.getElem?_cons_succ, List.getElem?_cons_zero]; exact rfl) ?_
          exact ⟨XS.refl _, rfl, hj.ext (fun _ h => h) (fun _ => rfl) (by decide)⟩
        · intro hl hw hd
          obtain ⟨kz⟩ : Kept (Blk w' rb #[.int .i64 0, .int .i64 0, .slice none 0 0, .int .i64 0, .int .i64 0, .slice none 0 0] 33) := ⟨hj.no hl⟩
          intros
          obtain ⟨v9, e4, o9⟩ := ‹∃ v, V 4 = _ ∧ Own _ _ v es›
          obtain ⟨p9, m9, hu9, -, -⟩ := id o9.ints
          try simp only at hu9
          subst hu9
          exact wpList_putX rfl rfl _ _ rfl rb _ _ rfl e4 kz (by kernel_rfl) rfl (by simp [Value.oneCell']) (.inl ⟨by simp, AL.out.blk.lt⟩) (fun w'' f k hoth hsz u => ⟨f, trivial, Px.put k ⟨_, rfl, o9.xs f (Nat.le_refl _) (by decide)⟩⟩)
      case hB => kernel_rfl
      case fin =>
        intro V lo up w' hr L hj hL hf ha
        simp only [factsOk, isv, matV, matW, anyV, modeNg, newb, List.map_nil, List.map_cons, List.headD_cons, and_true, Nat.zero_add, Nat.reduceAdd] at hf
        simp only [List.length_cons, List.length_nil, Nat.zero_add, Nat.reduceAdd, List.drop_succ_cons, List.drop_zero]
        obtain ⟨-, -, -, -, -, ⟨-, -, -, e5⟩, -⟩ := hf
        clear ha
        rw [e5]
        clear e5
        obtain ⟨cs, kb, v9, rfl, o9⟩ := hj.yes (hL 6 (by simp))
        obtain ⟨p9, m9, hu9, -, -⟩ := id o9.ints
        try simp only at hu9
        subst hu9
        replace S := Kept.mk (S.out.fill1 (cs := [.int .i64 R, .int .i64 C, .slice p1 x1.length m1, .int .i64 er, .int .i64 ec, .slice p9 es.length m9]) AL.out hr (Grp.one o9) kb)
        clear kb hr AL hj
        go_wp2_with (first | (refine ldiM S.out ?_) | (refine ldiS S.out ?_) | (refine ldI S.out ?_) | (refine ldIs S.out ?_) | (refine stiM S.out ?_; clear S; intro w9 S) | (refine stiS S.out ?_; clear S; intro w9 S) | (refine stI S.out ?_; clear S; intro w9 S) | (refine stIs S.out ?_; clear S; intro w9 S) | (refine aliM S.out ?_; clear S; intro b9 w9 S) | (refine aliS S.out ?_; clear S; intro b9 w9 S) | (refine bxiM S.out ?_; clear S; intro b9 w9 S) | (refine wpList_want rfl rfl ?_; dsimp only) | fail)
        exact bodyPost_ret (v := .tuple #[.agg #[.int .i64 R, .int .i64 C, .slice p1 x1.length m1, .int .i64 er, .int .i64 ec, .slice p9 es.length m9], .int .i64 t1]) (by exact res2 rfl (by exact (rsiS S.out)) rfl) rfl ⟨_, _, rfl, ⟨_, _, _, _, _, _, _, _, rfl, (Grp.two S.out.grp.o1 S.out.grp.o0 (Apt.symm ((List.pairwise_cons.1 S.out.grp.apt).1 _ (by simp)))), L1.out, L9.out⟩, S.out.ext⟩
end Go.Proofs.Ytkkdikoknegpjaa
namespace Go.Proofs.Ytkkdikoknegpjaa
set_option linter.unusedSimpArgs false
set_option linter.unusedVariables false
open Go.RowKit

set_option maxHeartbeats 4000000 in
set_option maxRecDepth 4000 in
theorem sh20M (g P R C : Nat) (n : Int) (hR : Sd R) (hC : Sd C) (HN : Bnd n) (HP : Room (P + 13000)) (w : World) (hr : Rdr g P w) : Calls Try.prog 60 #[.pointer (some ⟨g, 0, none⟩), .int .i64 R, .int .i64 C, .int .i64 n] w fun e w' => ∃ v, e = .returned v ∧ IsShM w.heap.size w' v ∧ Rdr g (P + 13000) w' ∧ Mod g w w' := by
  have S := Kept.mk (St.startR hr)
  clear hr
  go_enter Try.func60, Try.ntmps60
  go_wp2_with (first | (refine ldiM S.out ?_) | (refine ldiS S.out ?_) | (refine ldI S.out ?_) | (refine ldIs S.out ?_) | (refine stiM S.out ?_; clear S; intro w9 S) | (refine stiS S.out ?_; clear S; intro w9 S) | (refine stI S.out ?_; clear S; intro w9 S) | (refine stIs S.out ?_; clear S; intro w9 S) | (refine aliM S.out ?_; clear S; intro b9 w9 S) | (refine aliS S.out ?_; clear S; intro b9 w9 S) | (refine bxiM S.out ?_; clear S; intro b9 w9 S) | (refine wpList_want rfl rfl ?_; dsimp only) | fail)
  (with_reducible refine (mat20 g _ R C 0 hR hC ⟨by omega, by omega⟩ (HP.le (by omega)) _ S.out.rdr).mono ?_)
  rintro e u9 ⟨v7, rfl, ⟨ra, ca, va, xa, rfl, oa, la⟩, hr7, hm7⟩
  replace S := Kept.mk (S.out.madeR oa hr7 hm7)
  clear hr7 hm7
  obtain ⟨pa, ma, hu9, -, -⟩ := id oa.ints
  try simp only at hu9
  subst hu9
  clear oa
  go_wp2_with (first | (refine ldiM S.out ?_) | (refine ldiS S.out ?_) | (refine ldI S.out ?_) | (refine ldIs S.out ?_) | (refine stiM S.out ?_; clear S; intro w9 S) | (refine stiS S.out ?_; clear S; intro w9 S) | (refine stI S.out ?_; clear S; intro w9 S) | (refine stIs S.out ?_; clear S; intro w9 S) | (refine aliM S.out ?_; clear S; intro b9 w9 S) | (refine aliS S.out ?_; clear S; intro b9 w9 S) | (refine bxiM S.out ?_; clear S; intro b9 w9 S) | (refine wpList_want rfl rfl ?_; dsimp only) | fail)
  (with_reducible refine (seed20 g _ 0 ⟨by omega, by omega⟩ (HP.le (by omega)) _ S.out.rdr).mono ?_)
  rintro e u9 ⟨v7, rfl, ⟨s, rfl, -⟩, hr7, hm7⟩
  replace S := Kept.mk (S.out.read hr7 hm7)
  clear hr7 hm7
  go_wp2_with (first | (refine ldiM S.out ?_) | (refine ldiS S.out ?_) | (refine ldI S.out ?_) | (refine ldIs S.out ?_) | (refine stiM S.out ?_; clear S; intro w9 S) | (refine stiS S.out ?_; clear S; intro w9 S) | (refine stI S.out ?_; clear S; intro w9 S) | (refine stIs S.out ?_; clear S; intro w9 S) | (refine aliM S.out ?_; clear S; intro b9 w9 S) | (refine aliS S.out ?_; clear S; intro b9 w9 S) | (refine bxiM S.out ?_; clear S; intro b9 w9 S) | (refine wpList_want rfl rfl ?_; dsimp only) | fail)
  (with_reducible refine (spec_SplitMatrix _ _ _ xa s _ (S.out.own.arg la)).mono ?_)
  rintro e u9 ⟨u7, n7, rfl, ⟨r0, c0, r1, c1, v0, v1, x0, x1, rfl, gg, l0, l1⟩, x9⟩
  obtain ⟨p0, m0, hu9, -, -⟩ := id gg.o0.ints
  try simp only at hu9
  subst hu9
  obtain ⟨p1, m1, hu9, -, -⟩ := id gg.o1.ints
  try simp only at hu9
  subst hu9
  replace S := Kept.mk (S.out.made2 gg x9)
  clear x9 gg
  go_wp2_with (first | (refine ldiM S.out ?_) | (refine ldiS S.out ?_) | (refine ldI S.out ?_) | (refine ldIs S.out ?_) | (refine stiM S.out ?_; clear S; intro w9 S) | (refine stiS S.out ?_; clear S; intro w9 S) | (refine stI S.out ?_; clear S; intro w9 S) | (refine stIs S.out ?_; clear S; intro w9 S) | (refine aliM S.out ?_; clear S; intro b9 w9 S) | (refine aliS S.out ?_; clear S; intro b9 w9 S) | (refine bxiM S.out ?_; clear S; intro b9 w9 S) | (refine wpList_want rfl rfl ?_; dsimp only) | fail)
  (with_reducible refine (odd g _ n HN (HP.le (by omega)) _ S.out.rdr).mono ?_)
  rintro e u9 ⟨v7, rfl, ⟨b7, rfl⟩, hr7, hm7⟩
  replace S := Kept.mk (S.out.read hr7 hm7)
  clear hr7 hm7
  cases b7
  · go_wp2_with (first | (refine ldiM S.out ?_) | (refine ldiS S.out ?_) | (refine ldI S.out ?_) | (refine ldIs S.out ?_) | (refine stiM S.out ?_; clear S; intro w9 S) | (refine stiS S.out ?_; clear S; intro w9 S) | (refine stI S.out ?_; clear S; intro w9 S) | (refine stIs S.out ?_; clear S; intro w9 S) | (refine aliM S.out ?_; clear S; intro b9 w9 S) | (refine aliS S.out ?_; clear S; intro b9 w9 S) | (refine bxiM S.out ?_; clear S; intro b9 w9 S) | (refine wpList_want rfl rfl ?_; dsimp only) | fail)
    exact bodyPost_ret (v := .agg #[.int .i64 r0, .int .i64 c0, .slice p0 x0.length m0, .int .i64 r1, .int .i64 c1, .slice p1 x1.length m1]) (by exact res1 rfl (by exact (rsiS S.out))) rfl ⟨_, rfl, ⟨_, _, _, _, _, _, _, _, rfl, (Grp.two S.out.grp.o0 S.out.grp.o1 ((List.pairwise_cons.1 S.out.grp.apt).1 _ (by simp))), l0, l1⟩, S.out.rdr.mono (by omega) HP, S.out.mod⟩
  · go_wp2_with (first | (refine ldiM S.out ?_) | (refine ldiS S.out ?_) | (refine ldI S.out ?_) | (refine ldIs S.out ?_) | (refine stiM S.out ?_; clear S; intro w9 S) | (refine stiS S.out ?_; clear S; intro w9 S) | (refine stI S.out ?_; clear S; intro w9 S) | (refine stIs S.out ?_; clear S; intro w9 S) | (refine aliM S.out ?_; clear S; intro b9 w9 S) | (refine aliS S.out ?_; clear S; intro b9 w9 S) | (refine bxiM S.out ?_; clear S; intro b9 w9 S) | (refine wpList_want rfl rfl ?_; dsimp only) | fail)
    (with_reducible refine (pick g _ _ (HP.le (by omega)) _ S.out.rdr).mono ?_)
    rintro e u9 ⟨v7, rfl, ⟨x7, rfl, h7, -⟩, hr7, hm7⟩
    replace S := Kept.mk (S.out.read hr7 hm7)
    clear hr7 hm7
    have l7 : (x7 : Int) < 3 := h7 (by omega)
    clear h7
    by_cases e0 : x7 = 0
    · subst e0
      go_wp2_with (first | (refine ldiM S.out ?_) | (refine ldiS S.out ?_) | (refine ldI S.out ?_) | (refine ldIs S.out ?_) | (refine stiM S.out ?_; clear S; intro w9 S) | (refine stiS S.out ?_; clear S; intro w9 S) | (refine stI S.out ?_; clear S; intro w9 S) | (refine stIs S.out ?_; clear S; intro w9 S) | (refine aliM S.out ?_; clear S; intro b9 w9 S) | (refine aliS S.out ?_; clear S; intro b9 w9 S) | (refine bxiM S.out ?_; clear S; intro b9 w9 S) | (refine wpList_want rfl rfl ?_; dsimp only) | fail)
      (with_reducible refine (mat20 g _ R C 1 hR hC ⟨by omega, by omega⟩ (HP.le (by omega)) _ S.out.rdr).mono ?_)
      rintro e u9 ⟨v7, rfl, ⟨r2, c2, v2, x2, rfl, o2, l2⟩, hr7, hm7⟩
      replace S := Kept.mk (S.out.madeR o2 hr7 hm7)
      clear hr7 hm7
      obtain ⟨p2, m2, hu9, -, -⟩ := id o2.ints
      try simp only at hu9
      subst hu9
      clear o2
      go_wp2_with (first | (refine ldiM S.out ?_) | (refine ldiS S.out ?_) | (refine ldI S.out ?_) | (refine ldIs S.out ?_) | (refine stiM S.out ?_; clear S; intro w9 S) | (refine stiS S.out ?_; clear S; intro w9 S) | (refine stI S.out ?_; clear S; intro w9 S) | (refine stIs S.out ?_; clear S; intro w9 S) | (refine aliM S.out ?_; clear S; intro b9 w9 S) | (refine aliS S.out ?_; clear S; intro b9 w9 S) | (refine bxiM S.out ?_; clear S; intro b9 w9 S) | (refine wpList_want rfl rfl ?_; dsimp only) | fail)
      exact bodyPost_ret (v := .agg #[.int .i64 r2, .int .i64 c2, .slice p2 x2.length m2, .int .i64 r1, .int .i64 c1, .slice p1 x1.length m1]) (by exact res1 rfl (by exact (rsiS S.out))) rfl ⟨_, rfl, ⟨_, _, _, _, _, _, _, _, rfl, (Grp.two S.out.grp.o0 S.out.grp.o2 ((List.pairwise_cons.1 S.out.grp.apt).1 _ (by simp))), l2, l1⟩, S.out.rdr.mono (by omega) HP, S.out.mod⟩
    · have n0 : ((x7 : Int) == 0) = false := by simp; omega
      by_cases e1 : x7 = 1
      · subst e1
        obtain ⟨R2, hR2⟩ : ∃ R2 : Nat, R2 = 1 + R % 5 := ⟨_, rfl⟩
        have sR2 : Sd R2 := ⟨by omega, by omega⟩
        have q1 : wrap64 (1 + (R : Int) % 5) = (R2 : Int) := by unfold wrap64; omega
        have q2 : 1 + (R : Int) % 5 = (R2 : Int) := by omega
        clear hR2
        go_wp2_with (first | (refine ldiM S.out ?_) | (refine ldiS S.out ?_) | (refine ldI S.out ?_) | (refine ldIs S.out ?_) | (refine stiM S.out ?_; clear S; intro w9 S) | (refine stiS S.out ?_; clear S; intro w9 S) | (refine stI S.out ?_; clear S; intro w9 S) | (refine stIs S.out ?_; clear S; intro w9 S) | (refine aliM S.out ?_; clear S; intro b9 w9 S) | (refine aliS S.out ?_; clear S; intro b9 w9 S) | (refine bxiM S.out ?_; clear S; intro b9 w9 S) | (refine wpList_want rfl rfl ?_; dsimp only) | fail)
        (with_reducible refine (mat20 g _ R2 C 0 sR2 hC ⟨by omega, by omega⟩ (HP.le (by omega)) _ S.out.rdr).mono ?_)
        rintro e u9 ⟨v7, rfl, ⟨r2, c2, v2, x2, rfl, o2, l2⟩, hr7, hm7⟩
        replace S := Kept.mk (S.out.madeR o2 hr7 hm7)
        clear hr7 hm7
        obtain ⟨p2, m2, hu9, -, -⟩ := id o2.ints
        try simp only at hu9
        subst hu9
        clear o2
        go_wp2_with (first | (refine ldiM S.out ?_) | (refine ldiS S.out ?_) | (refine ldI S.out ?_) | (refine ldIs S.out ?_) | (refine stiM S.out ?_; clear S; intro w9 S) | (refine stiS S.out ?_; clear S; intro w9 S) | (refine stI S.out ?_; clear S; intro w9 S) | (refine stIs S.out ?_; clear S; intro w9 S) | (refine aliM S.out ?_; clear S; intro b9 w9 S) | (refine aliS S.out ?_; clear S; intro b9 w9 S) | (refine bxiM S.out ?_; clear S; intro b9 w9 S) | (refine wpList_want rfl rfl ?_; dsimp only) | fail)
        exact bodyPost_ret (v := .agg #[.int .i64 r0, .int .i64 c0, .slice p0 x0.length m0, .int .i64 r2, .int .i64 c2, .slice p2 x2.length m2]) (by exact res1 rfl (by exact (rsiS S.out))) rfl ⟨_, rfl, ⟨_, _, _, _, _, _, _, _, rfl, (Grp.two S.out.grp.o1 S.out.grp.o0 (Apt.symm ((List.pairwise_cons.1 S.out.grp.apt).1 _ (by simp)))), l0, l2⟩, S.out.rdr.mono (by omega) HP, S.out.mod⟩
      · have n1 : ((x7 : Int) == 1) = false := by simp; omega
        go_wp2_with (first | (refine ldiM S.out ?_) | (refine ldiS S.out ?_) | (refine ldI S.out ?_) | (refine ldIs S.out ?_) | (refine stiM S.out ?_; clear S; intro w9 S) | (refine stiS S.out ?_; clear S; intro w9 S) | (refine stI S.out ?_; clear S; intro w9 S) | (refine stIs S.out ?_; clear S; intro w9 S) | (refine aliM S.out ?_; clear S; intro b9 w9 S) | (refine aliS S.out ?_; clear S; intro b9 w9 S) | (refine bxiM S.out ?_; clear S; intro b9 w9 S) | (refine wpList_want rfl rfl ?_; dsimp only) | fail)
        exact bodyPost_ret (v := .agg #[.int .i64 0, .int .i64 0, .slice none 0 0, .int .i64 0, .int .i64 0, .slice none 0 0]) (by exact res1 rfl (by exact (rsiS S.out))) rfl ⟨_, rfl, ⟨_, _, _, _, _, _, [], [], rfl, (Grp.two (Own.nil _ _) (Own.nil _ _) (Apt.nil _ _ rfl)), (Nat.zero_le _), (Nat.zero_le _)⟩, S.out.rdr.mono (by omega) HP, S.out.mod⟩
end Go.Proofs.Ytkkdikoknegpjaa
namespace Go.Proofs.Ytkkdikoknegpjaa
set_option linter.unusedSimpArgs false
set_option linter.unusedVariables false
open Go.RowKit
/-- A triple of shared matrices of whatever sides with lists of the call's own, from B on. -/
def IsTr (B : Nat) (w : World) (u : Value) : Prop := ∃ (r0 c0 r1 c1 r2 c2 r3 c3 r4 c4 r5 c5 : Int) (v0 v1 v2 v3 v4 v5 : Value) (x0 x1 x2 x3 x4 x5 : List Int), u = .agg #[.int .i64 r0, .int .i64 c0, v0, .int .i64 r1, .int .i64 c1, v1, .int .i64 r2, .int .i64 c2, v2, .int .i64 r3, .int .i64 c3, v3, .int .i64 r4, .int .i64 c4, v4, .int .i64 r5, .int .i64 c5, v5] ∧ Grp B w [v0, v1, v2, v3, v4, v5] [x0, x1, x2, x3, x4, x5] ∧
  (x0.length ≤ 1048576 ∧ x1.length ≤ 1048576 ∧ x2.length ≤ 1048576 ∧ x3.length ≤ 1048576 ∧ x4.length ≤ 1048576 ∧ x5.length ≤ 1048576)

set_option maxHeartbeats 4000000 in
set_option maxRecDepth 4000 in
theorem tri20M (g P R K C : Nat) (n : Int) (hR : Side R) (hK : Side K) (hC : Side C) (HN : Bnd n) (HP : Room (P + 14000)) (w : World) (hr : Rdr g P w) : Calls Try.prog 62 #[.pointer (some ⟨g, 0, none⟩), .int .i64 R, .int .i64 K, .int .i64 C, .int .i64 n] w fun e w' => ∃ v, e = .returned v ∧ IsTr w.heap.size w' v ∧ Rdr g (P + 14000) w' ∧ Mod g w w' := by
  have S := Kept.mk (St.startR hr)
  clear hr
  have sR := hR.sd
  have sK := hK.sd
  have sC := hC.sd
  go_enter Try.func62, Try.ntmps62
  go_wp2_with (first | (refine ldiT S.out ?_) | (refine ldiS S.out ?_) | (refine ldiM S.out ?_) | (refine ldI S.out ?_) | (refine ldIs S.out ?_) | (refine stiT S.out ?_; clear S; intro w9 S) | (refine stiS S.out ?_; clear S; intro w9 S) | (refine stiM S.out ?_; clear S; intro w9 S) | (refine stI S.out ?_; clear S; intro w9 S) | (refine stIs S.out ?_; clear S; intro w9 S) | (refine aliT S.out ?_; clear S; intro b9 w9 S) | (refine wpList_want rfl rfl ?_; dsimp only) | fail)
  (with_reducible refine (seed20 g _ 0 ⟨by omega, by omega⟩ (HP.le (by omega)) _ S.out.rdr).mono ?_)
  rintro e u9 ⟨v7, rfl, ⟨s, rfl, hs⟩, hr7, hm7⟩
  replace S := Kept.mk (S.out.read hr7 hm7)
  clear hr7 hm7
  have SP := Kept.mk (fun w' => spec_MakeTripleN R K C hR hK hC s (hs rfl) w')
  have NL := tripN_short hR hK hC s
  have l4 : 0 < (rlist (sd4 R K C s) (R * C)).length := by rw [rlist_len]; exact Nat.mul_pos hR.lo hC.lo
  clear hs hR hK hC
  unfold TrNPost tripN tripA tripB tripC at SP
  unfold tripN tripA tripB tripC at NL
  simp only at SP
  generalize subM _ _ = DE at *
  obtain ⟨r5, c5, x5⟩ := DE
  simp only at SP
  generalize rlist s (R * K) = x0 at *
  generalize rlist (sd1 R K s) (R * K) = x1 at *
  generalize rlist (sd2 R K s) (K * C) = x2 at *
  generalize rlist (sd3 R K C s) (K * C) = x3 at *
  generalize rlist (sd4 R K C s) (R * C) = x4 at *
  have L0 := Kept.mk NL.l0
  simp only at L0
  have L1 := Kept.mk NL.l1
  simp only at L1
  have L2 := Kept.mk NL.l2
  simp only at L2
  have L3 := Kept.mk NL.l3
  simp only at L3
  have L4 := Kept.mk NL.l4
  simp only at L4
  have L5 := Kept.mk NL.l5
  simp only at L5
  clear NL
  go_wp2_with (first | (refine ldiT S.out ?_) | (refine ldiS S.out ?_) | (refine ldiM S.out ?_) | (refine ldI S.out ?_) | (refine ldIs S.out ?_) | (refine stiT S.out ?_; clear S; intro w9 S) | (refine stiS S.out ?_; clear S; intro w9 S) | (refine stiM S.out ?_; clear S; intro w9 S) | (refine stI S.out ?_; clear S; intro w9 S) | (refine stIs S.out ?_; clear S; intro w9 S) | (refine aliT S.out ?_; clear S; intro b9 w9 S) | (refine wpList_want rfl rfl ?_; dsimp only) | fail)
  (with_reducible refine (SP.out _).mono ?_)
  rintro e u9 ⟨v0, v1, v2, v3, v4, v5, rfl, gg, x9⟩
  obtain ⟨p0, m0, hu9, -, -⟩ := id gg.o0.ints
  try simp only at hu9
  subst hu9
  obtain ⟨p1, m1, hu9, -, -⟩ := id gg.o1.ints
  try simp only at hu9
  subst hu9
  obtain ⟨p2, m2, hu9, -, -⟩ := id gg.o2.ints
  try simp only at hu9
  subst hu9
  obtain ⟨p3, m3, hu9, -, -⟩ := id gg.o3.ints
  try simp only at hu9
  subst hu9
  obtain ⟨p4, m4, hu9, -, -⟩ := id gg.o4.ints
  try simp only at hu9
  subst hu9
  obtain ⟨p5, m5, hu9, -, -⟩ := id gg.o5.ints
  try simp only at hu9
  subst hu9
  replace S := Kept.mk (S.out.made6 gg x9)
  clear gg x9 SP
  go_wp2_with (first | (refine ldiT S.out ?_) | (refine ldiS S.out ?_) | (refine ldiM S.out ?_) | (refine ldI S.out ?_) | (refine ldIs S.out ?_) | (refine stiT S.out ?_; clear S; intro w9 S) | (refine stiS S.out ?_; clear S; intro w9 S) | (refine stiM S.out ?_; clear S; intro w9 S) | (refine stI S.out ?_; clear S; intro w9 S) | (refine stIs S.out ?_; clear S; intro w9 S) | (refine aliT S.out ?_; clear S; intro b9 w9 S) | (refine wpList_want rfl rfl ?_; dsimp only) | fail)
  (with_reducible refine (odd g _ n HN (HP.le (by omega)) _ S.out.rdr).mono ?_)
  rintro e u9 ⟨v7, rfl, ⟨b7, rfl⟩, hr7, hm7⟩
  replace S := Kept.mk (S.out.read hr7 hm7)
  clear hr7 hm7
  cases b7
  · go_wp2_with (first | (refine ldiT S.out ?_) | (refine ldiS S.out ?_) | (refine ldiM S.out ?_) | (refine ldI S.out ?_) | (refine ldIs S.out ?_) | (refine stiT S.out ?_; clear S; intro w9 S) | (refine stiS S.out ?_; clear S; intro w9 S) | (refine stiM S.out ?_; clear S; intro w9 S) | (refine stI S.out ?_; clear S; intro w9 S) | (refine stIs S.out ?_; clear S; intro w9 S) | (refine aliT S.out ?_; clear S; intro b9 w9 S) | (refine wpList_want rfl rfl ?_; dsimp only) | fail)
    exact bodyPost_ret (v := .agg #[.int .i64 R, .int .i64 K, .slice p0 x0.length m0, .int .i64 R, .int .i64 K, .slice p1 x1.length m1, .int .i64 K, .int .i64 C, .slice p2 x2.length m2, .int .i64 K, .int .i64 C, .slice p3 x3.length m3, .int .i64 R, .int .i64 C, .slice p4 x4.length m4, .int .i64 r5, .int .i64 c5, .slice p5 x5.length m5]) (by exact res1 rfl (by exact (rsiT S.out))) rfl ⟨_, rfl, ⟨_, _, _, _, _, _, _, _, _, _, _, _, _, _, _, _, _, _, _, _, _, _, _, _, rfl, S.out.grp, ⟨L0.out, L1.out, L2.out, L3.out, L4.out, L5.out⟩⟩, S.out.rdr.mono (by omega) HP, S.out.mod⟩
  · go_wp2_with (first | (refine ldiT S.out ?_) | (refine ldiS S.out ?_) | (refine ldiM S.out ?_) | (refine ldI S.out ?_) | (refine ldIs S.out ?_) | (refine stiT S.out ?_; clear S; intro w9 S) | (refine stiS S.out ?_; clear S; intro w9 S) | (refine stiM S.out ?_; clear S; intro w9 S) | (refine stI S.out ?_; clear S; intro w9 S) | (refine stIs S.out ?_; clear S; intro w9 S) | (refine aliT S.out ?_; clear S; intro b9 w9 S) | (refine wpList_want rfl rfl ?_; dsimp only) | fail)
    (with_reducible refine (pick g _ _ (HP.le (by omega)) _ S.out.rdr).mono ?_)
    rintro e u9 ⟨v7, rfl, ⟨x7, rfl, h7, -⟩, hr7, hm7⟩
    replace S := Kept.mk (S.out.read hr7 hm7)
    clear hr7 hm7
    have l7 : (x7 : Int) < 3 := h7 (by omega)
    clear h7
    by_cases e0 : x7 = 0
    · subst e0
      obtain ⟨q, cap, hq, -, -, -⟩ := (S.out.grp.get 4 rfl rfl).form l4
      cases hq
      have lc0 : (0 : Int) < (x4.length : Int) := by omega
      go_wp2_with (first | (refine ldiT S.out ?_) | (refine ldiS S.out ?_) | (refine ldiM S.out ?_) | (refine ldI S.out ?_) | (refine ldIs S.out ?_) | (refine stiT S.out ?_; clear S; intro w9 S) | (refine stiS S.out ?_; clear S; intro w9 S) | (refine stiM S.out ?_; clear S; intro w9 S) | (refine stI S.out ?_; clear S; intro w9 S) | (refine stIs S.out ?_; clear S; intro w9 S) | (refine aliT S.out ?_; clear S; intro b9 w9 S) | (refine wpList_want rfl rfl ?_; dsimp only) | fail)
      apply wp_region_zip [isv _, isv _, isv _, isv _, isv _, isv _, isv _, isv _, isv _, isP AnInt, isP AnInt, isP AnInt, isv _] _ (by kernel_rfl)
      case hA => intro V; simp [putAll, dstOf, Act.put]; exact rfl
      case hsl => intro V; exact rfl
      case step =>
        intro V lo up w' hr
        have S := Kept.mk (S.out.quiet hr)
        simp only [zipOk, depsImp, isv, isP, modeNg, newb, waits, Region.binds, List.map_nil, List.map_cons, List.headD_cons, List.nil_append, List.cons_append, List.filterMap_cons, List.filterMap_nil, ↓reduceIte, modeNe, Bool.false_eq_true, true_implies, List.getD_cons_zero, List.getD_cons_succ, and_true]
        refine ⟨?_, ?_, ?_, ?_, ?_, ?_, ?_, ?_, ?_, ?_, ?_, ?_, ?_⟩
        · obtain ⟨c1, c2⟩ := (S.out.grp.get 4 rfl rfl).cell rfl 0 l4
          intros
          (try simp only [*])
          go_wp2_with (first | (refine ldiT S.out ?_) | (refine ldiS S.out ?_) | (refine ldiM S.out ?_) | (refine ldI S.out ?_) | (refine ldIs S.out ?_) | (refine stiT S.out ?_; clear S; intro w9 S) | (refine stiS S.out ?_; clear S; intro w9 S) | (refine stiM S.out ?_; clear S; intro w9 S) | (refine stI S.out ?_; clear S; intro w9 S) | (refine stIs S.out ?_; clear S; intro w9 S) | (refine aliT S.out ?_; clear S; intro b9 w9 S) | (refine wpList_want rfl rfl ?_; dsimp only) | fail)
          refine stepQ_mk rfl (by simp only [List.getElem?_toArray, List.getElem?_cons_succ, List.getElem?_cons_zero]; exact rfl) ?_
          exact ⟨Ext.refl _, rfl⟩
        · obtain ⟨c1, c2⟩ := (S.out.grp.get 4 rfl rfl).cell rfl 0 l4
          intros
          (try simp only [*])
          go_wp2_with (first | (refine ldiT S.out ?_) | (refine ldiS S.out ?_) | (refine ldiM S.out ?_) | (refine ldI S.out ?_) | (refine ldIs S.out ?_) | (refine stiT S.out ?_; clear S; intro w9 S) | (refine stiS S.out ?_; clear S; intro w9 S) | (refine stiM S.out ?_; clear S; intro w9 S) | (refine stI S.out ?_; clear S; intro w9 S) | (refine stIs S.out ?_; clear S; intro w9 S) | (refine aliT S.out ?_; clear S; intro b9 w9 S) | (refine wpList_want rfl rfl ?_; dsimp only) | fail)
          refine stepQ_mk rfl (by simp only [List.getElem?_toArray, List.getElem?_cons_succ, List.getElem?_cons_zero]; exact rfl) ?_
          exact ⟨Ext.refl _, rfl⟩
        · obtain ⟨c1, c2⟩ := (S.out.grp.get 4 rfl rfl).cell rfl 0 l4
          intros
          (try simp only [*])
          go_wp2_with (first | (refine ldiT S.out ?_) | (refine ldiS S.out ?_) | (refine ldiM S.out ?_) | (refine ldI S.out ?_) | (refine ldIs S.out ?_) | (refine stiT S.out ?_; clear S; intro w9 S) | (refine stiS S.out ?_; clear S; intro w9 S) | (refine stiM S.out ?_; clear S; intro w9 S) | (refine stI S.out ?_; clear S; intro w9 S) | (refine stIs S.out ?_; clear S; intro w9 S) | (refine aliT S.out ?_; clear S; intro b9 w9 S) | (refine wpList_want rfl rfl ?_; dsimp only) | fail)
          refine stepQ_mk rfl (by simp only [List.getElem?_toArray, List.getElem?_cons_succ, List.getElem?_cons_zero]; exact rfl) ?_
          exact ⟨Ext.refl _, rfl⟩
        · obtain ⟨c1, c2⟩ := (S.out.grp.get 4 rfl rfl).cell rfl 0 l4
          intros
          (try simp only [*])
          go_wp2_with (first | (refine ldiT S.out ?_) | (refine ldiS S.out ?_) | (refine ldiM S.out ?_) | (refine ldI S.out ?_) | (refine ldIs S.out ?_) | (refine stiT S.out ?_; clear S; intro w9 S) | (refine stiS S.out ?_; clear S; intro w9 S) | (refine stiM S.out ?_; clear S; intro w9 S) | (refine stI S.out ?_; clear S; intro w9 S) | (refine stIs S.out ?_; clear S; intro w9 S) | (refine aliT S.out ?_; clear S; intro b9 w9 S) | (refine wpList_want rfl rfl ?_; dsimp only) | fail)
          refine stepQ_mk rfl (by simp only [List.getElem?_toArray, List.getElem?_cons_succ, List.getElem?_cons_zero]; exact rfl) ?_
          exact ⟨Ext.refl _, rfl⟩
        · obtain ⟨c1, c2⟩ := (S.out.grp.get 4 rfl rfl).cell rfl 0 l4
          intros
          (try simp only [*])
          go_wp2_with (first | (refine ldiT S.out ?_) | (refine ldiS S.out ?_) | (refine ldiM S.out ?_) | (refine ldI S.out ?_) | (refine ldIs S.out ?_) | (refine stiT S.out ?_; clear S; intro w9 S) | (refine stiS S.out ?_; clear S; intro w9 S) | (refine stiM S.out ?_; clear S; intro w9 S) | (refine stI S.out ?_; clear S; intro w9 S) | (refine stIs S.out ?_; clear S; intro w9 S) | (refine aliT S.out ?_; clear S; intro b9 w9 S) | (refine wpList_want rfl rfl ?_; dsimp only) | fail)
          refine stepQ_mk rfl (by simp only [List.getElem?_toArray, List.getElem?_cons_succ, List.getElem?_cons_zero]; exact rfl) ?_
          exact ⟨Ext.refl _, rfl⟩
        · obtain ⟨c1, c2⟩ := (S.out.grp.get 4 rfl rfl).cell rfl 0 l4
          intros
          (try simp only [*])
          go_wp2_with (first | (refine ldiT S.out ?_) | (refine ldiS S.out ?_) | (refine ldiM S.out ?_) | (refine ldI S.out ?_) | (refine ldIs S.out ?_) | (refine stiT S.out ?_; clear S; intro w9 S) | (refine stiS S.out ?_; clear S; intro w9 S) | (refine stiM S.out ?_; clear S; intro w9 S) | (refine stI S.out ?_; clear S; intro w9 S) | (refine stIs S.out ?_; clear S; intro w9 S) | (refine aliT S.out ?_; clear S; intro b9 w9 S) | (refine wpList_want rfl rfl ?_; dsimp only) | fail)
          refine stepQ_mk rfl (by simp only [List.getElem?_toArray, List.getElem?_cons_succ, List.getElem?_cons_zero]; exact rfl) ?_
          exact ⟨Ext.refl _, rfl⟩
        · obtain ⟨c1, c2⟩ := (S.out.grp.get 4 rfl rfl).cell rfl 0 l4
          intros
          (try simp only [*])
          go_wp2_with (first | (refine ldiT S.out ?_) | (refine ldiS S.out ?_) | (refine ldiM S.out ?_) | (refine ldI S.out ?_) | (refine ldIs S.out ?_) | (refine stiT S.out ?_; clear S; intro w9 S) | (refine stiS S.out ?_; clear S; intro w9 S) | (refine stiM S.out ?_; clear S; intro w9 S) | (refine stI S.out ?_; clear S; intro w9 S) | (refine stIs S.out ?_; clear S; intro w9 S) | (refine aliT S.out ?_; clear S; intro b9 w9 S) | (refine wpList_want rfl rfl ?_; dsimp only) | fail)
          refine stepQ_mk rfl (by simp only [List.getElem?_toArray, List.getElem?_cons_succ, List.getElem?_cons_zero]; exact rfl) ?_
          exact ⟨Ext.refl _, rfl⟩
        · obtain ⟨c1, c2⟩ := (S.out.grp.get 4 rfl rfl).cell rfl 0 l4
          intros
          (try simp only [*])
          go_wp2_with (first | (refine ldiT S.out ?_) | (refine ldiS S.out ?_) | (refine ldiM S.out ?_) | (refine ldI S.out ?_) | (refine ldIs S.out ?_) | (refine stiT S.out ?_; clear S; intro w9 S) | (refine stiS S.out ?_; clear S; intro w9 S) | (refine stiM S.out ?_; clear S; intro w9 S) | (refine stI S.out ?_; clear S; intro w9 S) | (refine stIs S.out ?_; clear S; intro w9 S) | (refine aliT S.out ?_; clear S; intro b9 w9 S) | (refine wpList_want rfl rfl ?_; dsimp only) | fail)
          refine stepQ_mk rfl (by simp only [List.getElem?_toArray, List.getElem?_cons_succ, List.getElem?_cons_zero]; exact rfl) ?_
          exact ⟨Ext.refl _, rfl⟩
        · obtain ⟨c1, c2⟩ := (S.out.grp.get 4 rfl rfl).cell rfl 0 l4
          intros
          (try simp only [*])
          go_wp2_with (first | (refine ldiT S.out ?_) | (refine ldiS S.out ?_) | (refine ldiM S.out ?_) | (refine ldI S.out ?_) | (refine ldIs S.out ?_) | (refine stiT S.out ?_; clear S; intro w9 S) | (refine stiS S.out ?_; clear S; intro w9 S) | (refine stiM S.out ?_; clear S; intro w9 S) | (refine stI S.out ?_; clear S; intro w9 S) | (refine stIs S.out ?_; clear S; intro w9 S) | (refine aliT S.out ?_; clear S; intro b9 w9 S) | (refine wpList_want rfl rfl ?_; dsimp only) | fail)
          refine stepQ_mk rfl (by simp only [List.getElem?_toArray, List.getElem?_cons_succ, List.getElem?_cons_zero]; exact rfl) ?_
          exact ⟨Ext.refl _, rfl⟩
        · obtain ⟨c1, c2⟩ := (S.out.grp.get 4 rfl rfl).cell rfl 0 l4
          intros
          (try simp only [*])
          go_wp2_with (first | (refine ldiT S.out ?_) | (refine ldiS S.out ?_) | (refine ldiM S.out ?_) | (refine ldI S.out ?_) | (refine ldIs S.out ?_) | (refine stiT S.out ?_; clear S; intro w9 S) | (refine stiS S.out ?_; clear S; intro w9 S) | (refine stiM S.out ?_; clear S; intro w9 S) | (refine stI S.out ?_; clear S; intro w9 S) | (refine stIs S.out ?_; clear S; intro w9 S) | (refine aliT S.out ?_; clear S; intro b9 w9 S) | (refine wpList_want rfl rfl ?_; dsimp only) | fail)
          refine stepQ_mk rfl (by simp only [List.getElem?_toArray, List.getElem?_cons_succ, List.getElem?_cons_zero]; exact rfl) ?_
          exact ⟨Ext.refl _, ⟨_, rfl⟩⟩
        · intro _ _ _ ⟨y9, e9⟩
          intros
          (try simp only [*])
          go_wp2_with (first | (refine ldiT S.out ?_) | (refine ldiS S.out ?_) | (refine ldiM S.out ?_) | (refine ldI S.out ?_) | (refine ldIs S.out ?_) | (refine stiT S.out ?_; clear S; intro w9 S) | (refine stiS S.out ?_; clear S; intro w9 S) | (refine stiM S.out ?_; clear S; intro w9 S) | (refine stI S.out ?_; clear S; intro w9 S) | (refine stIs S.out ?_; clear S; intro w9 S) | (refine aliT S.out ?_; clear S; intro b9 w9 S) | (refine wpList_want rfl rfl ?_; dsimp only) | fail)
          refine stepQ_mk rfl (by simp only [List.getElem?_toArray, List.getElem?_cons_succ, List.getElem?_cons_zero]; exact rfl) ?_
          exact ⟨Ext.refl _, ⟨_, rfl⟩⟩
        · intro _ _ _ ⟨y10, e10⟩
          intros
          (try simp only [*])
          go_wp2_with (fail)
          (with_reducible refine (spec_l1Ring _ _).mono ?_)
          rintro e wr ⟨rfl, rfl⟩
          go_wp2
          refine stepQ_mk rfl (by simp only [List.getElem?_toArray, List.getElem?_cons_succ, List.getElem?_cons_zero]; exact rfl) ?_
          exact ⟨Ext.refl _, ⟨_, rfl⟩⟩
        · obtain ⟨c1, c2⟩ := (S.out.grp.get 4 rfl rfl).cell rfl 0 l4
          intros
          (try simp only [*])
          go_wp2_with (first | (refine ldiT S.out ?_) | (refine ldiS S.out ?_) | (refine ldiM S.out ?_) | (refine ldI S.out ?_) | (refine ldIs S.out ?_) | (refine stiT S.out ?_; clear S; intro w9 S) | (refine stiS S.out ?_; clear S; intro w9 S) | (refine stiM S.out ?_; clear S; intro w9 S) | (refine stI S.out ?_; clear S; intro w9 S) | (refine stIs S.out ?_; clear S; intro w9 S) | (refine aliT S.out ?_; clear S; intro b9 w9 S) | (refine wpList_want rfl rfl ?_; dsimp only) | fail)
          refine stepQ_mk rfl (by simp only [List.getElem?_toArray, List.getElem?_cons_succ, List.getElem?_cons_zero]; exact rfl) ?_
          exact ⟨Ext.refl _, rfl⟩
      case hB => kernel_rfl
      case fin =>
        intro V lo up w' hr hf ha
        simp only [factsOk, isv, isP, modeNg, newb, List.map_nil, List.map_cons, List.headD_cons, and_true, Nat.zero_add, Nat.reduceAdd] at hf
        simp only [List.length_cons, List.length_nil, Nat.zero_add, Nat.reduceAdd, List.drop_succ_cons, List.drop_zero]
        obtain ⟨-, -, -, -, -, -, -, -, -, -, -, ⟨-, -, -, y, e11⟩, ⟨-, -, -, e12⟩⟩ := hf
        clear ha
        rw [e11, e12]
        clear e11 e12
        replace S := Kept.mk (S.out.quiet hr)
        clear hr
        obtain ⟨c1, c2⟩ := (S.out.grp.get 4 rfl rfl).cell rfl 0 l4
        have ST := (S.out.grp.get 4 rfl rfl).store rfl 0 y
        have S9 := St.marked (hs_ := [(.slice p0 x0.length m0), (.slice p1 x1.length m1), (.slice p2 x2.length m2), (.slice p3 x3.length m3)]) (us := [(.slice (some ⟨q, 0, none⟩) x4.length m4)]) (bs := [(.slice p5 x5.length m5)]) (xs := [x0, x1, x2, x3]) (ys := [x4]) (zs := [x5]) S.out rfl rfl rfl ST.2.toL (Grp.one ST.1)
        simp only [List.cons_append, List.nil_append] at S9
        replace S := Kept.mk S9
        clear S9 ST
        go_wp2_with (first | (refine ldiT S.out ?_) | (refine ldiS S.out ?_) | (refine ldiM S.out ?_) | (refine ldI S.out ?_) | (refine ldIs S.out ?_) | (refine stiT S.out ?_; clear S; intro w9 S) | (refine stiS S.out ?_; clear S; intro w9 S) | (refine stiM S.out ?_; clear S; intro w9 S) | (refine stI S.out ?_; clear S; intro w9 S) | (refine stIs S.out ?_; clear S; intro w9 S) | (refine aliT S.out ?_; clear S; intro b9 w9 S) | (refine wpList_want rfl rfl ?_; dsimp only) | fail)
        exact bodyPost_ret (v := .agg #[.int .i64 R, .int .i64 K, .slice p0 x0.length m0, .int .i64 R, .int .i64 K, .slice p1 x1.length m1, .int .i64 K, .int .i64 C, .slice p2 x2.length m2, .int .i64 K, .int .i64 C, .slice p3 x3.length m3, .int .i64 R, .int .i64 C, .slice (some ⟨q, 0, none⟩) x4.length m4, .int .i64 r5, .int .i64 c5, .slice p5 x5.length m5]) (by exact res1 rfl (by exact (rsiT S.out))) rfl ⟨_, rfl, ⟨_, _, _, _, _, _, _, _, _, _, _, _, _, _, _, _, _, _, _, _, _, _, _, _, rfl, S.out.grp, ⟨L0.out, L1.out, L2.out, L3.out, (by rw [List.length_set]; exact L4.out), L5.out⟩⟩, S.out.rdr.mono (by omega) HP, S.out.mod⟩
    · have n0 : ((x7 : Int) == 0) = false := by simp; omega
      by_cases e1 : x7 = 1
      · subst e1
        go_wp2_with (first | (refine ldiT S.out ?_) | (refine ldiS S.out ?_) | (refine ldiM S.out ?_) | (refine ldI S.out ?_) | (refine ldIs S.out ?_) | (refine stiT S.out ?_; clear S; intro w9 S) | (refine stiS S.out ?_; clear S; intro w9 S) | (refine stiM S.out ?_; clear S; intro w9 S) | (refine stI S.out ?_; clear S; intro w9 S) | (refine stIs S.out ?_; clear S; intro w9 S) | (refine aliT S.out ?_; clear S; intro b9 w9 S) | (refine wpList_want rfl rfl ?_; dsimp only) | fail)
        (with_reducible refine (sh20M g _ R K 1 sR sK ⟨by omega, by omega⟩ (HP.le (by omega)) _ S.out.rdr).mono ?_)
        rintro e u9 ⟨v7, rfl, ⟨r6, c6, r7, c7, v6, v7, x6, x7, rfl, gg, l6, l7⟩, hr7, hm7⟩
        obtain ⟨p6, m6, hu9, -, -⟩ := id gg.o0.ints
        try simp only at hu9
        subst hu9
        obtain ⟨p7, m7, hu9, -, -⟩ := id gg.o1.ints
        try simp only at hu9
        subst hu9
        replace S := Kept.mk (S.out.read2 gg hr7 hm7)
        clear hr7 hm7 gg
        go_wp2_with (first | (refine ldiT S.out ?_) | (refine ldiS S.out ?_) | (refine ldiM S.out ?_) | (refine ldI S.out ?_) | (refine ldIs S.out ?_) | (refine stiT S.out ?_; clear S; intro w9 S) | (refine stiS S.out ?_; clear S; intro w9 S) | (refine stiM S.out ?_; clear S; intro w9 S) | (refine stI S.out ?_; clear S; intro w9 S) | (refine stIs S.out ?_; clear S; intro w9 S) | (refine aliT S.out ?_; clear S; intro b9 w9 S) | (refine wpList_want rfl rfl ?_; dsimp only) | fail)
        exact bodyPost_ret (v := .agg #[.int .i64 r6, .int .i64 c6, .slice p6 x6.length m6, .int .i64 r7, .int .i64 c7, .slice p7 x7.length m7, .int .i64 K, .int .i64 C, .slice p2 x2.length m2, .int .i64 K, .int .i64 C, .slice p3 x3.length m3, .int .i64 R, .int .i64 C, .slice p4 x4.length m4, .int .i64 r5, .int .i64 c5, .slice p5 x5.length m5]) (by exact res1 rfl (by exact (rsiT S.out))) rfl ⟨_, rfl, ⟨_, _, _, _, _, _, _, _, _, _, _, _, _, _, _, _, _, _, _, _, _, _, _, _, rfl, (S.out.grp.sel rfl [0, 1, 4, 5, 6, 7] (by decide) (by simp)), ⟨l6, l7, L2.out, L3.out, L4.out, L5.out⟩⟩, S.out.rdr.mono (by omega) HP, S.out.mod⟩
      · have n1 : ((x7 : Int) == 1) = false := by simp; omega
        obtain ⟨K2, hK2⟩ : ∃ K2 : Nat, K2 = 1 + K % 5 := ⟨_, rfl⟩
        have sK2 : Sd K2 := ⟨by omega, by omega⟩
        have q1 : wrap64 (1 + (K : Int) % 5) = (K2 : Int) := by unfold wrap64; omega
        have q2 : 1 + (K : Int) % 5 = (K2 : Int) := by omega
        clear hK2
        go_wp2_with (first | (refine ldiT S.out ?_) | (refine ldiS S.out ?_) | (refine ldiM S.out ?_) | (refine ldI S.out ?_) | (refine ldIs S.out ?_) | (refine stiT S.out ?_; clear S; intro w9 S) | (refine stiS S.out ?_; clear S; intro w9 S) | (refine stiM S.out ?_; clear S; intro w9 S) | (refine stI S.out ?_; clear S; intro w9 S) | (refine stIs S.out ?_; clear S; intro w9 S) | (refine aliT S.out ?_; clear S; intro b9 w9 S) | (refine wpList_want rfl rfl ?_; dsimp only) | fail)
        (with_reducible refine (sh20M g _ K2 C 0 sK2 sC ⟨by omega, by omega⟩ (HP.le (by omega)) _ S.out.rdr).mono ?_)
        rintro e u9 ⟨v7, rfl, ⟨r6, c6, r7, c7, v6, v7, x6, x7, rfl, gg, l6, l7⟩, hr7, hm7⟩
        obtain ⟨p6, m6, hu9, -, -⟩ := id gg.o0.ints
        try simp only at hu9
        subst hu9
        obtain ⟨p7, m7, hu9, -, -⟩ := id gg.o1.ints
        try simp only at hu9
        subst hu9
        replace S := Kept.mk (S.out.read2 gg hr7 hm7)
        clear hr7 hm7 gg
        go_wp2_with (first | (refine ldiT S.out ?_) | (refine ldiS S.out ?_) | (refine ldiM S.out ?_) | (refine ldI S.out ?_) | (refine ldIs S.out ?_) | (refine stiT S.out ?_; clear S; intro w9 S) | (refine stiS S.out ?_; clear S; intro w9 S) | (refine stiM S.out ?_; clear S; intro w9 S) | (refine stI S.out ?_; clear S; intro w9 S) | (refine stIs S.out ?_; clear S; intro w9 S) | (refine aliT S.out ?_; clear S; intro b9 w9 S) | (refine wpList_want rfl rfl ?_; dsimp only) | fail)
        exact bodyPost_ret (v := .agg #[.int .i64 R, .int .i64 K, .slice p0 x0.length m0, .int .i64 R, .int .i64 K, .slice p1 x1.length m1, .int .i64 r6, .int .i64 c6, .slice p6 x6.length m6, .int .i64 r7, .int .i64 c7, .slice p7 x7.length m7, .int .i64 R, .int .i64 C, .slice p4 x4.length m4, .int .i64 r5, .int .i64 c5, .slice p5 x5.length m5]) (by exact res1 rfl (by exact (rsiT S.out))) rfl ⟨_, rfl, ⟨_, _, _, _, _, _, _, _, _, _, _, _, _, _, _, _, _, _, _, _, _, _, _, _, rfl, (S.out.grp.sel rfl [2, 3, 0, 1, 6, 7] (by decide) (by simp)), ⟨L0.out, L1.out, l6, l7, L4.out, L5.out⟩⟩, S.out.rdr.mono (by omega) HP, S.out.mod⟩
end Go.Proofs.Ytkkdikoknegpjaa
