/- What DrawMapShared returns. -/
import Derived.Test.YtkkdikoknegpjaaKK
import Derived.Test.YtkkdikoknegpjaaKZ
import Derived.Test.YtkkdikoknegpjaaKG
import Derived.Test.YtkkdikoknegpjaaKX
namespace Go.Proofs.Ytkkdikoknegpjaa
set_option linter.unusedSimpArgs false
set_option linter.unusedVariables false
open Go.RowKit
/-- A side. -/
def sideW {X : World → World → Prop} {m : Nat} : OpSpec X m := ⟨[], fun _ u _ _ _ => ∃ n : Nat, u = .int .i64 n ∧ Side n, fun _ _ _ _ _ _ _ _ _ _ h => h⟩
/-- A new shared matrix, its lists from n0 on. -/
def shW {n0 m : Nat} {rs : List Nat} {Ts : List TypeId} (hT : 3 ∉ Ts) : OpSpec (XS n0 rs Ts) m :=
  ⟨[], fun _ u _ _ w => IsShM n0 w u, fun _ _ _ _ _ _ _ _ _ hx ⟨r, c, r', c', v, v', xs, xs', h1, h2, h3⟩ => ⟨r, c, r', c', v, v', xs, xs', h1, h2.xs hx (Nat.le_refl _) hT, h3⟩⟩
theorem IsShM.xsW {n0 : Nat} {rs : List Nat} {Ts : List TypeId} {w w' : World} {u : Value} (h : IsShM n0 w u) (f : XS n0 rs Ts w w') (hT : 3 ∉ Ts) : IsShM n0 w' u := by
  obtain ⟨r, c, r', c', v, v', xs, xs', h1, h2, h3⟩ := h
  exact ⟨r, c, r', c', v, v', xs, xs', h1, h2.xs f (Nat.le_refl _) hT, h3⟩
/-- A new slice of n integers. -/
def newW {n0 m : Nat} {rs : List Nat} {Ts : List TypeId} (hT : 3 ∉ Ts) (n : Nat) : OpSpec (XS n0 rs Ts) m :=
  ⟨[], fun _ u _ _ w => ∃ (b : Nat) (cs : List Int), u = .slice (some ⟨b, 0, none⟩) n n ∧ n0 ≤ b ∧ cs.length = n ∧ Blk w b (rowI cs).toArray 3, fun _ _ _ _ _ _ _ _ _ hx ⟨b, cs, h1, h2, h3, h4⟩ => ⟨b, cs, h1, h2, h3, h4.xs hx h2 hT⟩⟩
/-- The address of one of the cells of such a slice. -/
def ixW {n0 m : Nat} {rs : List Nat} {Ts : List TypeId} (hT : 3 ∉ Ts) : OpSpec (XS n0 rs Ts) m :=
  ⟨[], fun _ u _ _ w => ∃ (b x : Nat) (cs : List Int), u = .pointer (some ⟨b, x, none⟩) ∧ x < cs.length ∧ n0 ≤ b ∧ Blk w b (rowI cs).toArray 3, fun _ _ _ _ _ _ _ _ _ hx ⟨b, x, cs, h1, h2, h3, h4⟩ => ⟨b, x, cs, h1, h2, h3, h4.xs hx h3 hT⟩⟩
/-- How many bytes have been read. -/
def rdN (cs : List (Nat × Nat)) (L : Nat → Bool) : Nat := (cs.map fun p => if L p.1 = true then p.2 else 0).sum

set_option maxHeartbeats 4000000 in
set_option maxRecDepth 4000 in
theorem spec_DrawMapShared (v : Value) (w : World) (hb : Bytes w v) : Calls Try.prog 41 #[v] w fun e w' => ∃ (k r0 c0 r1 c1 : Int) (v0 v1 : Value) (x0 x1 : List Int) (s : Int), e = .returned (.tuple #[.int .i64 k, .agg #[.int .i64 r0, .int .i64 c0, v0, .int .i64 r1, .int .i64 c1, v1], .int .i64 s]) ∧
    (x0.length ≤ 1048576 ∧ x1.length ≤ 1048576) ∧ Grp w.heap.size w' [v0, v1] [x0, x1] ∧ Ext w w' := by
  have S := Kept.mk (St.start w)
  have HP : Room 60000 := ⟨by omega⟩
  go_enter Try.func41, Try.ntmps41
  go_wp2_with (first | (refine aliS (L := []) S.out ?_; clear S; intro rb w9 S) | (refine ldiS S.out ?_) | (refine ldI S.out ?_) | (refine stiS S.out ?_; clear S; intro w9 S) | (refine wpList_want rfl rfl ?_; dsimp only) | fail)
  (with_reducible refine (open' _ _ (hb.ext S.out.ext)).mono ?_)
  rintro e w1 ⟨g, rfl, hg, hr1, hx1⟩
  have O := S
  replace S := Kept.mk (St.startR hr1)
  clear hr1
  go_wp2_with (first | (refine ldiS S.out ?_) | (refine ldI S.out ?_) | (refine stiS S.out ?_; clear S; intro w9 S) | (refine wpList_want rfl rfl ?_; dsimp only) | fail)
  have RD := S.out.rdr
  obtain ⟨N1, N2, N3, N4⟩ := O.out.nestR hx1 hg S.out
  have R0 := Rst.start (show St none w w1 [⟨rb, 33, [.int .i64 0, .int .i64 0, .slice none 0 0, .int .i64 0, .int .i64 0, .slice none 0 0]⟩] [] [] from N1) N2 N3 N4
  clear N1 N2 N3 N4 S O
  obtain ⟨R1, k1, d1⟩ := R0.del (r := rb) (T := 33) (cs := [.int .i64 0, .int .i64 0, .slice none 0 0, .int .i64 0, .int .i64 0, .slice none 0 0]) (by repeat constructor)
  have n1 : rb ∉ [g] := R0.box ⟨rb, 33, [.int .i64 0, .int .i64 0, .slice none 0 0, .int .i64 0, .int .i64 0, .slice none 0 0]⟩ (by repeat constructor)
  clear R0
  have hr1 : ∀ q ∈ [g, rb], q < w1.heap.size := fun q hq => by
    simp only [List.mem_cons, List.not_mem_nil, or_false] at hq
    rcases hq with e | e
    · rw [e]; exact RD.lt
    · rw [e]; exact k1.lt
  have RR := Kept.mk R1
  clear R1
  apply wp_region_zipV (XS.rel _ [g, rb] []) (fun L _ w' => (L 14 = false → Rdr g (rdN [(2, 1), (7, 1), (10, 1), (12, 13000), (14, 4)] L) w') ∧ (L 14 = false → L 15 = false) ∧ ((L 7 = true → L 2 = true) ∧ (L 10 = true → L 7 = true) ∧ (L 12 = true → L 10 = true) ∧ (L 14 = true → L 12 = true)) ∧ Px rb 16 33 #[.int .i64 0, .int .i64 0, .slice none 0 0, .int .i64 0, .int .i64 0, .slice none 0 0] (fun w' cs => IsShM w1.heap.size w' (.agg cs)) L w') [newW (by decide) 8, isv _, isP (Lt 8), ixW (by decide), isP AnInt, isv _, isv _, isP (Lt 2), sideW, isv _, isP (Lt 2), sideW, shW (by decide), isv _, isP AnInt, isP AnInt, anyV, sameV 14] _ ?hJ (by kernel_rfl)
  case hJ => exact ⟨fun _ => (RD.keep ⟨rfl, rfl, rfl, Nat.le_refl _, fun _ _ => rfl⟩), fun _ => rfl, ⟨fun h => (by cases h), fun h => (by cases h), fun h => (by cases h), fun h => (by cases h)⟩, ⟨fun _ => k1.keep ⟨rfl, rfl, rfl, Nat.le_refl _, fun _ _ => rfl⟩, fun h => (by cases h)⟩⟩
  case hA => intro V; simp [putAll, dstOf, Act.put]; exact rfl
  case hsl => intro V; exact rfl
  case step =>
    intro V lo up w' hr L hj
    have S := Kept.mk (RR.out.xs hr).st
    simp only [zipOkV, depsImp, isv, sideW, shW, newW, ixW, isP, sameV, anyV, modeNg, newb, waits, Region.binds, List.map_nil, List.map_cons, List.headD_cons, List.nil_append, List.cons_append, List.filterMap_cons, List.filterMap_nil, ↓reduceIte, modeNe, Bool.false_eq_true, true_implies, List.getD_cons_zero, List.getD_cons_succ, and_true, Nat.zero_add, Nat.reduceAdd]
    refine ⟨?_, ?_, ?_, ?_, ?_, ?_, ?_, ?_, ?_, ?_, ?_, ?_, ?_, ?_, ?_, ?_, ?_, ?_⟩
    · intro hl hw hd
      intros
      go_wp2
      refine stepS_mk rfl (by simp only [List.getElem?_toArray, List.getElem?_cons_succ, List.getElem?_cons_zero]; exact rfl) ?_
      have x9 : Ext w' (w'.alloc (.cells #[.int .i64 1, .int .i64 2, .int .i64 3, .int .i64 4, .int .i64 5, .int .i64 1, .int .i64 2, .int .i64 0] 3)) := (Ext.refl _).alloc _
      exact ⟨XS.of_ext x9, ⟨_, [1, 2, 3, 4, 5, 1, 2, 0], rfl, hr.size, rfl, Blk.new _ _ _⟩, fun h => by have a := (hj.1 (by simpa [upd] using h)).keep x9; simpa [rdN, upd] using a, by simpa [upd] using hj.2.1, by simpa [upd] using hj.2.2.1, hj.2.2.2.ext (fun _ h => IsShM.xsW h (show XS w1.heap.size [g, rb] [] w' _ from XS.of_ext x9) (by decide)) (fun hk => Below.block x9 _ hk) (by decide)⟩
    · intro hl hw hd
      intros
      (try simp only [*])
      go_wp2_with (first | (refine ldiS S.out ?_) | (refine ldI S.out ?_) | (refine wpList_want rfl rfl ?_; dsimp only) | fail)
      refine stepS_mk rfl (by simp only [List.getElem?_toArray, List.getElem?_cons_succ, List.getElem?_cons_zero]; exact rfl) ?_
      exact ⟨XS.refl _, rfl, ⟨by simpa [rdN, upd] using hj.1, by simpa [upd] using hj.2.1, by simpa [upd] using hj.2.2.1, hj.2.2.2.ext (fun _ h => h) (fun _ => rfl) (by decide)⟩⟩
    · intro hl hw hd
      have q7 : L 7 = false := by
        cases h : L 7
        · rfl
        · exact absurd ((hl).symm.trans (hj.2.2.1.1 h)) (by decide)
      have q10 : L 10 = false := by
        cases h : L 10
        · rfl
        · exact absurd ((q7).symm.trans (hj.2.2.1.2.1 h)) (by decide)
      have q12 : L 12 = false := by
        cases h : L 12
        · rfl
        · exact absurd ((q10).symm.trans (hj.2.2.1.2.2.1 h)) (by decide)
      have q14 : L 14 = false := by
        cases h : L 14
        · rfl
        · exact absurd ((q12).symm.trans (hj.2.2.1.2.2.2 h)) (by decide)
      have q15 := hj.2.1 q14
      have chain_2 : ((upd L 2 true 7 = true → upd L 2 true 2 = true) ∧ (upd L 2 true 10 = true → upd L 2 true 7 = true) ∧ (upd L 2 true 12 = true → upd L 2 true 10 = true) ∧ (upd L 2 true 14 = true → upd L 2 true 12 = true)) := by
        obtain ⟨c1, c2, c3, c4⟩ := hj.2.2.1
        simp only [upd, Nat.reduceEqDiff, ↓reduceIte]
        exact ⟨fun _ => by first | rfl | trivial, c2, c3, c4⟩
      have RB : rdN [(2, 1), (7, 1), (10, 1), (12, 13000), (14, 4)] L + 14000 ≤ 60000 := by
        simp only [rdN, List.map_cons, List.map_nil, List.sum_cons, List.sum_nil]
        (repeat' split) <;> omega
      have q0 := hj.1 q14
      have e9 : rdN [(2, 1), (7, 1), (10, 1), (12, 13000), (14, 4)] (upd L 2 true) = rdN [(2, 1), (7, 1), (10, 1), (12, 13000), (14, 4)] L + 1 := by
        simp [rdN, upd, hl]
        (try omega)
      intros
      (try simp only [*])
      go_wp2_with (fail)
      (with_reducible refine (pick g _ _ (HP.le (by omega)) _ q0).mono ?_)
      rintro e w8 ⟨v8, rfl, ⟨x, rfl, hx, -⟩, hr8, hm8⟩
      go_wp2
      refine stepS_mk rfl (by simp only [List.getElem?_toArray, List.getElem?_cons_succ, List.getElem?_cons_zero]; exact rfl) ?_
      have f : XS w1.heap.size [g, rb] [] w' w8 := XS.of_mod hm8 (by simp) RD.lt
      exact ⟨f, ⟨x, rfl, hx (by omega)⟩, fun _ => (by first | exact hr8 | (rw [e9]; exact hr8)), by simpa [upd] using hj.2.1, chain_2, hj.2.2.2.mod hm8 d1 (fun cs h => IsShM.xsW h f (by decide)) (by decide)⟩
    · intro hl hw hd
      intros
      obtain ⟨b8, cs, e8, l8, n8, k8⟩ := ‹∃ (b : Nat) (cs : List Int), V 0 = _ ∧ _›
      obtain ⟨x, e11, l11⟩ := ‹Lt 8 (V 2)›
      (try simp only [*])
      go_wp2
      refine stepS_mk rfl (by simp only [List.getElem?_toArray, List.getElem?_cons_succ, List.getElem?_cons_zero]; exact rfl) ?_
      exact ⟨XS.refl _, ⟨b8, x, cs, rfl, by omega, l8, k8⟩, ⟨by simpa [rdN, upd] using hj.1, by simpa [upd] using hj.2.1, by simpa [upd] using hj.2.2.1, hj.2.2.2.ext (fun _ h => h) (fun _ => rfl) (by decide)⟩⟩
    · intro hl hw hd
      intros
      obtain ⟨b8, x, cs, e12, lx, lb, kb⟩ := ‹∃ (b x : Nat) (cs : List Int), V 3 = _ ∧ _›
      obtain ⟨y, hy⟩ := kb.intAt lx
      (try simp only [*])
      go_wp2
      refine stepS_mk rfl (by simp only [List.getElem?_toArray, List.getElem?_cons_succ, List.getElem?_cons_zero]; exact rfl) ?_
      exact ⟨XS.refl _, ⟨y, rfl⟩, ⟨by simpa [rdN, upd] using hj.1, by simpa [upd] using hj.2.1, by simpa [upd] using hj.2.2.1, hj.2.2.2.ext (fun _ h => h) (fun _ => rfl) (by decide)⟩⟩
    · intro hl hw hd
      intros
      (try simp only [*])
      go_wp2_with (first | (refine ldiS S.out ?_) | (refine ldI S.out ?_) | (refine wpList_want rfl rfl ?_; dsimp only) | fail)
      refine stepS_mk rfl (by simp only [List.getElem?_toArray, List.getElem?_cons_succ, List.getElem?_cons_zero]; exact rfl) ?_
      exact ⟨XS.refl _, rfl, ⟨by simpa [rdN, upd] using hj.1, by simpa [upd] using hj.2.1, by simpa [upd] using hj.2.2.1, hj.2.2.2.ext (fun _ h => h) (fun _ => rfl) (by decide)⟩⟩
    · intro hl hw hd
      intros
      (try simp only [*])
      go_wp2_with (first | (refine ldiS S.out ?_) | (refine ldI S.out ?_) | (refine wpList_want rfl rfl ?_; dsimp only) | fail)
      refine stepS_mk rfl (by simp only [List.getElem?_toArray, List.getElem?_cons_succ, List.getElem?_cons_zero]; exact rfl) ?_
      exact ⟨XS.refl _, rfl, ⟨by simpa [rdN, upd] using hj.1, by simpa [upd] using hj.2.1, by simpa [upd] using hj.2.2.1, hj.2.2.2.ext (fun _ h => h) (fun _ => rfl) (by decide)⟩⟩
    · intro hl hw hd
      have q10 : L 10 = false := by
        cases h : L 10
        · rfl
        · exact absurd ((hl).symm.trans (hj.2.2.1.2.1 h)) (by decide)
      have q12 : L 12 = false := by
        cases h : L 12
        · rfl
        · exact absurd ((q10).symm.trans (hj.2.2.1.2.2.1 h)) (by decide)
      have q14 : L 14 = false := by
        cases h : L 14
        · rfl
        · exact absurd ((q12).symm.trans (hj.2.2.1.2.2.2 h)) (by decide)
      have p2 := hd 2 (by simp)
      have q15 := hj.2.1 q14
      have chain_7 : ((upd L 7 true 7 = true → upd L 7 true 2 = true) ∧ (upd L 7 true 10 = true → upd L 7 true 7 = true) ∧ (upd L 7 true 12 = true → upd L 7 true 10 = true) ∧ (upd L 7 true 14 = true → upd L 7 true 12 = true)) := by
        obtain ⟨c1, c2, c3, c4⟩ := hj.2.2.1
        simp only [upd, Nat.reduceEqDiff, ↓reduceIte]
        exact ⟨fun _ => p2, fun _ => by first | rfl | trivial, c3, c4⟩
      have RB : rdN [(2, 1), (7, 1), (10, 1), (12, 13000), (14, 4)] L + 14000 ≤ 60000 := by
        simp only [rdN, List.map_cons, List.map_nil, List.sum_cons, List.sum_nil]
        (repeat' split) <;> omega
      have q0 := hj.1 q14
      have e9 : rdN [(2, 1), (7, 1), (10, 1), (12, 13000), (14, 4)] (upd L 7 true) = rdN [(2, 1), (7, 1), (10, 1), (12, 13000), (14, 4)] L + 1 := by
        simp [rdN, upd, hl]
        (try omega)
      intros
      (try simp only [*])
      go_wp2_with (fail)
      (with_reducible refine (pick g _ _ (HP.le (by omega)) _ q0).mono ?_)
      rintro e w8 ⟨v8, rfl, ⟨x, rfl, hx, -⟩, hr8, hm8⟩
      go_wp2
      refine stepS_mk rfl (by simp only [List.getElem?_toArray, List.getElem?_cons_succ, List.getElem?_cons_zero]; exact rfl) ?_
      have f : XS w1.heap.size [g, rb] [] w' w8 := XS.of_mod hm8 (by simp) RD.lt
      exact ⟨f, ⟨x, rfl, hx (by omega)⟩, fun _ => (by first | exact hr8 | (rw [e9]; exact hr8)), by simpa [upd] using hj.2.1, chain_7, hj.2.2.2.mod hm8 d1 (fun cs h => IsShM.xsW h f (by decide)) (by decide)⟩
    · intro hl hw hd
      intros
      obtain ⟨x, e3, lx⟩ := ‹Lt 2 (V 7)›
      obtain ⟨n, hn⟩ : ∃ n : Nat, n = 1 + x := ⟨_, rfl⟩
      have sn : Side n := ⟨by omega, by omega⟩
      have q1 : wrap64 (1 + (x : Int)) = (n : Int) := by unfold wrap64; omega
      have q2 : 1 + (x : Int) = (n : Int) := by omega
      clear hn
      (try simp only [*])
      go_wp2
      refine stepS_mk rfl (by simp only [List.getElem?_toArray, List.getElem?_cons_succ, List.getElem?_cons_zero]; exact rfl) ?_
      exact ⟨XS.refl _, ⟨n, rfl, sn⟩, ⟨by simpa [rdN, upd] using hj.1, by simpa [upd] using hj.2.1, by simpa [upd] using hj.2.2.1, hj.2.2.2.ext (fun _ h => h) (fun _ => rfl) (by decide)⟩⟩
    · intro hl hw hd
      intros
      (try simp only [*])
      go_wp2_with (first | (refine ldiS S.out ?_) | (refine ldI S.out ?_) | (refine wpList_want rfl rfl ?_; dsimp only) | fail)
      refine stepS_mk rfl (by simp only [List.getElem?_toArray, List.getElem?_cons_succ, List.getElem?_cons_zero]; exact rfl) ?_
      exact ⟨XS.refl _, rfl, ⟨by simpa [rdN, upd] using hj.1, by simpa [upd] using hj.2.1, by simpa [upd] using hj.2.2.1, hj.2.2.2.ext (fun _ h => h) (fun _ => rfl) (by decide)⟩⟩
    · intro hl hw hd
      have q12 : L 12 = false := by
        cases h : L 12
        · rfl
        · exact absurd ((hl).symm.trans (hj.2.2.1.2.2.1 h)) (by decide)
      have q14 : L 14 = false := by
        cases h : L 14
        · rfl
        · exact absurd ((q12).symm.trans (hj.2.2.1.2.2.2 h)) (by decide)
      have p7 := hd 7 (by simp)
      have q15 := hj.2.1 q14
      have chain_10 : ((upd L 10 true 7 = true → upd L 10 true 2 = true) ∧ (upd L 10 true 10 = true → upd L 10 true 7 = true) ∧ (upd L 10 true 12 = true → upd L 10 true 10 = true) ∧ (upd L 10 true 14 = true → upd L 10 true 12 = true)) := by
        obtain ⟨c1, c2, c3, c4⟩ := hj.2.2.1
        simp only [upd, Nat.reduceEqDiff, ↓reduceIte]
        exact ⟨c1, fun _ => p7, fun _ => by first | rfl | trivial, c4⟩
      have RB : rdN [(2, 1), (7, 1), (10, 1), (12, 13000), (14, 4)] L + 14000 ≤ 60000 := by
        simp only [rdN, List.map_cons, List.map_nil, List.sum_cons, List.sum_nil]
        (repeat' split) <;> omega
      have q0 := hj.1 q14
      have e9 : rdN [(2, 1), (7, 1), (10, 1), (12, 13000), (14, 4)] (upd L 10 true) = rdN [(2, 1), (7, 1), (10, 1), (12, 13000), (14, 4)] L + 1 := by
        simp [rdN, upd, hl]
        (try omega)
      intros
      (try simp only [*])
      go_wp2_with (fail)
      (with_reducible refine (pick g _ _ (HP.le (by omega)) _ q0).mono ?_)
      rintro e w8 ⟨v8, rfl, ⟨x, rfl, hx, -⟩, hr8, hm8⟩
      go_wp2
      refine stepS_mk rfl (by simp only [List.getElem?_toArray, List.getElem?_cons_succ, List.getElem?_cons_zero]; exact rfl) ?_
      have f : XS w1.heap.size [g, rb] [] w' w8 := XS.of_mod hm8 (by simp) RD.lt
      exact ⟨f, ⟨x, rfl, hx (by omega)⟩, fun _ => (by first | exact hr8 | (rw [e9]; exact hr8)), by simpa [upd] using hj.2.1, chain_10, hj.2.2.2.mod hm8 d1 (fun cs h => IsShM.xsW h f (by decide)) (by decide)⟩
    · intro hl hw hd
      intros
      obtain ⟨x, e3, lx⟩ := ‹Lt 2 (V 10)›
      obtain ⟨n, hn⟩ : ∃ n : Nat, n = 1 + x := ⟨_, rfl⟩
      have sn : Side n := ⟨by omega, by omega⟩
      have q1 : wrap64 (1 + (x : Int)) = (n : Int) := by unfold wrap64; omega
      have q2 : 1 + (x : Int) = (n : Int) := by omega
      clear hn
      (try simp only [*])
      go_wp2
      refine stepS_mk rfl (by simp only [List.getElem?_toArray, List.getElem?_cons_succ, List.getElem?_cons_zero]; exact rfl) ?_
      exact ⟨XS.refl _, ⟨n, rfl, sn⟩, ⟨by simpa [rdN, upd] using hj.1, by simpa [upd] using hj.2.1, by simpa [upd] using hj.2.2.1, hj.2.2.2.ext (fun _ h => h) (fun _ => rfl) (by decide)⟩⟩
    · intro hl hw hd
      have q14 : L 14 = false := by
        cases h : L 14
        · rfl
        · exact absurd ((hl).symm.trans (hj.2.2.1.2.2.2 h)) (by decide)
      have p10 := hd 10 (by simp)
      have q15 := hj.2.1 q14
      have chain_12 : ((upd L 12 true 7 = true → upd L 12 true 2 = true) ∧ (upd L 12 true 10 = true → upd L 12 true 7 = true) ∧ (upd L 12 true 12 = true → upd L 12 true 10 = true) ∧ (upd L 12 true 14 = true → upd L 12 true 12 = true)) := by
        obtain ⟨c1, c2, c3, c4⟩ := hj.2.2.1
        simp only [upd, Nat.reduceEqDiff, ↓reduceIte]
        exact ⟨c1, c2, fun _ => p10, fun _ => by first | rfl | trivial⟩
      have RB : rdN [(2, 1), (7, 1), (10, 1), (12, 13000), (14, 4)] L + 14000 ≤ 60000 := by
        simp only [rdN, List.map_cons, List.map_nil, List.sum_cons, List.sum_nil]
        (repeat' split) <;> omega
      have q0 := hj.1 q14
      have e9 : rdN [(2, 1), (7, 1), (10, 1), (12, 13000), (14, 4)] (upd L 12 true) = rdN [(2, 1), (7, 1), (10, 1), (12, 13000), (14, 4)] L + 13000 := by
        simp [rdN, upd, hl]
        (try omega)
      intros
      obtain ⟨m1, f1, sm1⟩ := ‹∃ n : Nat, V 8 = _ ∧ Side n›
      obtain ⟨m2, f2, sm2⟩ := ‹∃ n : Nat, V 11 = _ ∧ Side n›
      (try simp only [*])
      go_wp2_with (fail)
      (with_reducible refine (sh20M g _ m1 m2 12 sm1.sd sm2.sd ⟨by omega, by omega⟩ (HP.le (by omega)) _ q0).mono ?_)
      rintro e w8 ⟨v8, rfl, ⟨ra, ca, rb_, cb, va, vb, xa, xb, rfl, gg, la, lb⟩, hr8, hm8⟩
      go_wp2
      refine stepS_mk rfl (by simp only [List.getElem?_toArray, List.getElem?_cons_succ, List.getElem?_cons_zero]; exact rfl) ?_
      have f : XS w1.heap.size [g, rb] [] w' w8 := XS.of_mod hm8 (by simp) RD.lt
      exact ⟨f, ⟨ra, ca, rb_, cb, va, vb, xa, xb, rfl, gg.mono hr.size, la, lb⟩, fun _ => (by first | exact hr8 | (rw [e9]; exact hr8)), by simpa [upd] using hj.2.1, chain_12, hj.2.2.2.mod hm8 d1 (fun cs h => IsShM.xsW h f (by decide)) (by decide)⟩
    · intro hl hw hd
      intros
      (try simp only [*])
      go_wp2_with (first | (refine ldiS S.out ?_) | (refine ldI S.out ?_) | (refine wpList_want rfl rfl ?_; dsimp only) | fail)
      refine stepS_mk rfl (by simp only [List.getElem?_toArray, List.getElem?_cons_succ, List.getElem?_cons_zero]; exact rfl) ?_
      exact ⟨XS.refl _, rfl, ⟨by simpa [rdN, upd] using hj.1, by simpa [upd] using hj.2.1, by simpa [upd] using hj.2.2.1, hj.2.2.2.ext (fun _ h => h) (fun _ => rfl) (by decide)⟩⟩
    · intro hl hw hd
      have q14 := hl
      have p12 := hd 12 (by simp)
      have q15 := hj.2.1 q14
      have chain_14 : ((upd L 14 true 7 = true → upd L 14 true 2 = true) ∧ (upd L 14 true 10 = true → upd L 14 true 7 = true) ∧ (upd L 14 true 12 = true → upd L 14 true 10 = true) ∧ (upd L 14 true 14 = true → upd L 14 true 12 = true)) := by
        obtain ⟨c1, c2, c3, c4⟩ := hj.2.2.1
        simp only [upd, Nat.reduceEqDiff, ↓reduceIte]
        exact ⟨c1, c2, c3, fun _ => p12⟩
      have RB : rdN [(2, 1), (7, 1), (10, 1), (12, 13000), (14, 4)] L + 14000 ≤ 60000 := by
        simp only [rdN, List.map_cons, List.map_nil, List.sum_cons, List.sum_nil]
        (repeat' split) <;> omega
      have q0 := hj.1 q14
      intros
      (try simp only [*])
      go_wp2_with (fail)
      (with_reducible refine (seed20 g _ 12 ⟨by omega, by omega⟩ (HP.le (by omega)) _ q0).mono ?_)
      rintro e w8 ⟨v8, rfl, ⟨s8, rfl, -⟩, hr8, hm8⟩
      go_wp2
      refine stepS_mk rfl (by simp only [List.getElem?_toArray, List.getElem?_cons_succ, List.getElem?_cons_zero]; exact rfl) ?_
      have f : XS w1.heap.size [g, rb] [] w' w8 := XS.of_mod hm8 (by simp) RD.lt
      exact ⟨f, ⟨s8, rfl⟩, fun h => absurd h (by simp [upd]), fun h => absurd h (by simp [upd]), chain_14, hj.2.2.2.mod hm8 d1 (fun cs h => IsShM.xsW h f (by decide)) (by decide)⟩
    · intro hl hw hd
      have p14 := hd 14 (by simp)
      intros
      obtain ⟨y, e4⟩ := ‹AnInt (V 4)›
      (try simp only [*])
      go_wp2_with (first | (refine ldiS S.out ?_) | (refine ldI S.out ?_) | (refine wpList_want rfl rfl ?_; dsimp only) | fail)
      refine stepS_mk rfl (by simp only [List.getElem?_toArray, List.getElem?_cons_succ, List.getElem?_cons_zero]; exact rfl) ?_
      exact ⟨XS.refl _, ⟨y, rfl⟩, fun h => absurd (p14.symm.trans (by simpa [upd] using h)) (by decide), fun h => absurd (p14.symm.trans (by simpa [upd] using h)) (by decide), by simpa [upd] using hj.2.2.1, hj.2.2.2.ext (fun _ h => h) (fun _ => rfl) (by decide)⟩
    · intro hl hw hd
      have p15 := hd 15 (by simp)
      have j1 : ¬ L 14 = false := fun h => absurd (p15.symm.trans (hj.2.1 h)) (by decide)
      obtain ⟨kz⟩ : Kept (Blk w' rb #[.int .i64 0, .int .i64 0, .slice none 0 0, .int .i64 0, .int .i64 0, .slice none 0 0] 33) := ⟨hj.2.2.2.no hl⟩
      intros
      obtain ⟨ra, ca, rb_, cb, va, vb, xa, xb, e_, gg, la, lb⟩ := ‹IsShM _ _ (V 12)›
      obtain ⟨pa, ma, hu9, -, -⟩ := id gg.o0.ints
      try simp only at hu9
      subst hu9
      obtain ⟨pb, mb, hu9, -, -⟩ := id gg.o1.ints
      try simp only at hu9
      subst hu9
      refine wpList_putX (by rfl) (by rfl) _ _ (by rfl) rb _ _ (by rfl) (by exact e_) kz (by kernel_rfl) (by rfl) (by simp [Value.oneCell']) (.inl ⟨by simp, k1.lt⟩) (fun w'' f k hoth hsz u => ⟨f, trivial, fun a => absurd (by simpa [upd] using a) j1, fun a => absurd (by simpa [upd] using a) j1, by simpa [upd] using hj.2.2.1, Px.put k ⟨ra, ca, rb_, cb, _, _, xa, xb, rfl, gg.xs f (Nat.le_refl _) (by decide), la, lb⟩⟩)
    · intro hl hw hd
      intros
      (try simp only [*])
      go_wp2_with (first | (refine ldiS S.out ?_) | (refine ldI S.out ?_) | (refine wpList_want rfl rfl ?_; dsimp only) | fail)
      refine stepS_mk rfl (by simp only [List.getElem?_toArray, List.getElem?_cons_succ, List.getElem?_cons_zero]; exact rfl) ?_
      exact ⟨XS.refl _, rfl, ⟨by simpa [rdN, upd] using hj.1, by simpa [upd] using hj.2.1, by simpa [upd] using hj.2.2.1, hj.2.2.2.ext (fun _ h => h) (fun _ => rfl) (by decide)⟩⟩
  case hB => kernel_rfl
  case fin =>
    intro V lo up w' hr L hj hL hf ha
    simp only [factsOk, isv, sideW, shW, newW, ixW, isP, sameV, anyV, modeNg, newb, List.map_nil, List.map_cons, List.headD_cons, and_true, Nat.zero_add, Nat.reduceAdd] at hf
    simp only [List.length_cons, List.length_nil, Nat.zero_add, Nat.reduceAdd, List.drop_succ_cons, List.drop_zero]
    obtain ⟨-, -, -, -, -, -, -, -, -, -, -, -, -, -, ⟨-, -, -, s, e14⟩, ⟨-, -, -, k, e15⟩, -, ⟨-, -, -, e17⟩⟩ := hf
    clear ha
    rw [e17]
    (try simp only [List.headD_cons])
    rw [e14, e15]
    clear e17 e14 e15
    obtain ⟨cs2, kb2, ra, ca, rb_, cb, va, vb, xa, xb, e5, gg, la, lb⟩ := hj.2.2.2.yes (hL 16 (by simp))
    injection e5 with e5
    subst e5
    obtain ⟨pa, ma, hu9, -, -⟩ := id gg.o0.ints
    try simp only at hu9
    subst hu9
    obtain ⟨pb, mb, hu9, -, -⟩ := id gg.o1.ints
    try simp only at hu9
    subst hu9
    have R2 := RR.out.grp hr gg hr1
    have R3 := R2.join (cs := [.int .i64 ra, .int .i64 ca, .slice pa xa.length ma, .int .i64 rb_, .int .i64 cb, .slice pb xb.length mb]) kb2 n1
    clear R2 RR hr gg kb2 hj
    simp only [List.cons_append, List.nil_append] at R3
    have S := Kept.mk R3.st
    clear R3
    go_wp2_with (first | (refine ldiS S.out ?_) | (refine ldI S.out ?_) | (refine stiS S.out ?_; clear S; intro w9 S) | (refine wpList_want rfl rfl ?_; dsimp only) | fail)
    refine bodyPost_ret (v := .tuple #[.int .i64 k, .agg #[.int .i64 ra, .int .i64 ca, .slice pa xa.length ma, .int .i64 rb_, .int .i64 cb, .slice pb xb.length mb], .int .i64 s]) ?A rfl ⟨_, _, _, _, _, _, _, _, _, _, rfl, ⟨la, lb⟩, ?B, S.out.ext⟩
    case A => exact res3 rfl rfl (by exact (rsiS S.out)) rfl
    case B => exact S.out.grp
end Go.Proofs.Ytkkdikoknegpjaa
