/- What DrawProductShared returns. -/
import Derived.Test.YtkkdikoknegpjaaKK
import Derived.Test.YtkkdikoknegpjaaKZ
import Derived.Test.YtkkdikoknegpjaaDrawMS
import Derived.Test.YtkkdikoknegpjaaKG
namespace Go.Proofs.Ytkkdikoknegpjaa
set_option linter.unusedSimpArgs false
set_option linter.unusedVariables false
open Go.RowKit
/-- A side. -/
def sideV {X : World → World → Prop} {m : Nat} : OpSpec X m := ⟨[], fun _ u _ _ _ => ∃ n : Nat, u = .int .i64 n ∧ Side n, fun _ _ _ _ _ _ _ _ _ _ h => h⟩
/-- A number. -/
def numV {X : World → World → Prop} {m : Nat} : OpSpec X m := ⟨[], fun _ u _ _ _ => ∃ s : Int, u = .int .i64 s, fun _ _ _ _ _ _ _ _ _ _ h => h⟩
/-- A new shared matrix, its lists from n0 on. -/
def shV' {n0 m : Nat} {rs : List Nat} {Ts : List TypeId} (hT : 3 ∉ Ts) : OpSpec (XS n0 rs Ts) m :=
  ⟨[], fun _ u _ _ w => IsShM n0 w u, fun _ _ _ _ _ _ _ _ _ hx ⟨r, c, r', c', v, v', xs, xs', h1, h2, h3⟩ => ⟨r, c, r', c', v, v', xs, xs', h1, h2.xs hx (Nat.le_refl _) hT, h3⟩⟩

theorem IsShM.xs {n0 : Nat} {rs : List Nat} {Ts : List TypeId} {w w' : World} {u : Value} (h : IsShM n0 w u) (f : XS n0 rs Ts w w') (hT : 3 ∉ Ts) : IsShM n0 w' u := by
  obtain ⟨r, c, r', c', v, v', xs, xs', h1, h2, h3⟩ := h
  exact ⟨r, c, r', c', v, v', xs, xs', h1, h2.xs f (Nat.le_refl _) hT, h3⟩

set_option maxHeartbeats 4000000 in
set_option maxRecDepth 4000 in
theorem spec_DrawProductShared (v : Value) (w : World) (hb : Bytes w v) : Calls Try.prog 36 #[v] w fun e w' => ∃ (r0 c0 r1 c1 r2 c2 r3 c3 : Int) (v0 v1 v2 v3 : Value) (x0 x1 x2 x3 : List Int) (s : Int), e = .returned (.tuple #[.agg #[.int .i64 r0, .int .i64 c0, v0, .int .i64 r1, .int .i64 c1, v1], .agg #[.int .i64 r2, .int .i64 c2, v2, .int .i64 r3, .int .i64 c3, v3], .int .i64 s]) ∧
    (x0.length ≤ 1048576 ∧ x1.length ≤ 1048576 ∧ x2.length ≤ 1048576 ∧ x3.length ≤ 1048576) ∧ Grp w.heap.size w' [v0, v1, v2, v3] [x0, x1, x2, x3] ∧ Ext w w' := by
  have S := Kept.mk (St.start w)
  have HP : Room 60000 := ⟨by omega⟩
  go_enter Try.func36, Try.ntmps36
  go_wp2_with (first | (refine aliS (L := []) S.out ?_; clear S; intro rb1 w9 S) | (refine aliS (L := [_]) S.out ?_; clear S; intro rb2 w9 S) | (refine ldiS S.out ?_) | (refine ldI S.out ?_) | (refine stiS S.out ?_; clear S; intro w9 S) | (refine wpList_want rfl rfl ?_; dsimp only) | fail)
  (with_reducible refine (open' _ _ (hb.ext S.out.ext)).mono ?_)
  rintro e w1 ⟨g, rfl, hg, hr1, hx1⟩
  have O := S
  replace S := Kept.mk (St.startR hr1)
  clear hr1
  go_wp2_with (first | (refine aliS (L := []) S.out ?_; clear S; intro b7 w9 S) | (refine ldiS S.out ?_) | (refine ldI S.out ?_) | (refine stiS S.out ?_; clear S; intro w9 S) | (refine wpList_want rfl rfl ?_; dsimp only) | fail)
  (with_reducible refine (side20 g _ (HP.le (by omega)) _ S.out.rdr).mono ?_)
  rintro e u9 ⟨v7, rfl, ⟨n1, rfl, sn1⟩, hr7, hm7⟩
  replace S := Kept.mk (S.out.read hr7 hm7)
  clear hr7 hm7
  go_wp2_with (first | (refine aliS (L := []) S.out ?_; clear S; intro b7 w9 S) | (refine ldiS S.out ?_) | (refine ldI S.out ?_) | (refine stiS S.out ?_; clear S; intro w9 S) | (refine wpList_want rfl rfl ?_; dsimp only) | fail)
  (with_reducible refine (side20 g _ (HP.le (by omega)) _ S.out.rdr).mono ?_)
  rintro e u9 ⟨v7, rfl, ⟨n2, rfl, sn2⟩, hr7, hm7⟩
  replace S := Kept.mk (S.out.read hr7 hm7)
  clear hr7 hm7
  go_wp2_with (first | (refine aliS (L := []) S.out ?_; clear S; intro b7 w9 S) | (refine ldiS S.out ?_) | (refine ldI S.out ?_) | (refine stiS S.out ?_; clear S; intro w9 S) | (refine wpList_want rfl rfl ?_; dsimp only) | fail)
  (with_reducible refine (sh20M g _ n2 n1 14 sn2.sd sn1.sd ⟨by omega, by omega⟩ (HP.le (by omega)) _ S.out.rdr).mono ?_)
  rintro e u9 ⟨v7, rfl, ⟨r0, c0, r1, c1, v0, v1, x0, x1, rfl, gg, l0, l1⟩, hr7, hm7⟩
  obtain ⟨p0, m0, hu9, -, -⟩ := id gg.o0.ints
  try simp only at hu9
  subst hu9
  obtain ⟨p1, m1, hu9, -, -⟩ := id gg.o1.ints
  try simp only at hu9
  subst hu9
  replace S := Kept.mk (S.out.read2 gg hr7 hm7)
  clear hr7 hm7 gg
  go_wp2_with (first | (refine aliS (L := []) S.out ?_; clear S; intro b7 w9 S) | (refine ldiS S.out ?_) | (refine ldI S.out ?_) | (refine stiS S.out ?_; clear S; intro w9 S) | (refine wpList_want rfl rfl ?_; dsimp only) | fail)
  (with_reducible refine (odd g _ 14 ⟨by omega, by omega⟩ (HP.le (by omega)) _ S.out.rdr).mono ?_)
  rintro e u9 ⟨v7, rfl, ⟨b8, rfl⟩, hr7, hm7⟩
  replace S := Kept.mk (S.out.read hr7 hm7)
  clear hr7 hm7
  cases b8
  · go_wp2_with (first | (refine aliS (L := []) S.out ?_; clear S; intro b7 w9 S) | (refine ldiS S.out ?_) | (refine ldI S.out ?_) | (refine stiS S.out ?_; clear S; intro w9 S) | (refine wpList_want rfl rfl ?_; dsimp only) | fail)
    have RD := S.out.rdr
    obtain ⟨N1, N2, N3, N4⟩ := O.out.nestR hx1 hg S.out
    have R0 := Rst.start (show St none w _ [⟨b7, 33, [.int .i64 r0, .int .i64 c0, .slice p0 x0.length m0, .int .i64 r1, .int .i64 c1, .slice p1 x1.length m1]⟩, ⟨rb2, 33, [.int .i64 0, .int .i64 0, .slice none 0 0, .int .i64 0, .int .i64 0, .slice none 0 0]⟩, ⟨rb1, 33, [.int .i64 0, .int .i64 0, .slice none 0 0, .int .i64 0, .int .i64 0, .slice none 0 0]⟩] [.slice p0 x0.length m0, .slice p1 x1.length m1] [x0, x1] from N1) N2 N3 N4
    clear N1 N2 N3 N4 S O
    obtain ⟨R1, k1, d1⟩ := R0.del (r := rb1) (T := 33) (cs := [.int .i64 0, .int .i64 0, .slice none 0 0, .int .i64 0, .int .i64 0, .slice none 0 0]) (by repeat constructor)
    clear R0
    obtain ⟨R2, k2, d2⟩ := R1.del (r := rb2) (T := 33) (cs := [.int .i64 0, .int .i64 0, .slice none 0 0, .int .i64 0, .int .i64 0, .slice none 0 0]) (by repeat constructor)
    have n21 : rb2 ∉ [g, rb1] := R1.box ⟨rb2, 33, [.int .i64 0, .int .i64 0, .slice none 0 0, .int .i64 0, .int .i64 0, .slice none 0 0]⟩ (by repeat constructor)
    clear R1
    have n12 : rb1 ≠ rb2 := fun e => n21 (by simp [e])
    have hr1 : ∀ q ∈ [g, rb2, rb1], q < u9.heap.size := fun q hq => by
      simp only [List.mem_cons, List.not_mem_nil, or_false] at hq
      rcases hq with e | e | e
      · rw [e]; exact RD.lt
      · rw [e]; exact k2.lt
      · rw [e]; exact k1.lt
    have RR := Kept.mk R2
    clear R2
    apply wp_region_zipV (XS.rel _ [g, rb2, rb1] []) (fun L _ w' => (L 4 = false → Rdr g 13005 w' ∧ L 5 = false ∧ L 7 = false ∧ L 8 = false) ∧ (L 4 = true → L 5 = false → Rdr g 13007 w' ∧ L 7 = false ∧ L 8 = false) ∧ (L 5 = true → L 7 = false → Rdr g 26007 w' ∧ L 8 = false) ∧ Px rb1 8 33 #[.int .i64 0, .int .i64 0, .slice none 0 0, .int .i64 0, .int .i64 0, .slice none 0 0] (fun _ cs => cs = #[.int .i64 r0, .int .i64 c0, .slice p0 x0.length m0, .int .i64 r1, .int .i64 c1, .slice p1 x1.length m1]) L w' ∧ Px rb2 9 33 #[.int .i64 0, .int .i64 0, .slice none 0 0, .int .i64 0, .int .i64 0, .slice none 0 0] (fun w' cs => IsShM u9.heap.size w' (.agg cs)) L w') [isv _, isv _, isv _, isv _, sideV, shV' (by decide), isv _, numV, anyV, anyV, sameV 7] _ ?hJ (by kernel_rfl)
    case hJ => exact ⟨fun _ => ⟨(RD.keep ⟨rfl, rfl, rfl, Nat.le_refl _, fun _ _ => rfl⟩).mono (by omega) ⟨by omega⟩, rfl, rfl, rfl⟩, fun h => (by cases h), fun h => (by cases h), ⟨fun _ => k1.keep ⟨rfl, rfl, rfl, Nat.le_refl _, fun _ _ => rfl⟩, fun h => (by cases h)⟩, ⟨fun _ => k2.keep ⟨rfl, rfl, rfl, Nat.le_refl _, fun _ _ => rfl⟩, fun h => (by cases h)⟩⟩
    case hA => intro V; simp [putAll, dstOf, Act.put]; exact rfl
    case hsl => intro V; exact rfl
    case step =>
      intro V lo up w' hr L hj
      have S := Kept.mk (RR.out.xs hr).st
      simp only [zipOkV, depsImp, isv, sideV, numV, shV', sameV, anyV, modeNg, newb, waits, Region.binds, List.map_nil, List.map_cons, List.headD_cons, List.nil_append, List.cons_append, List.filterMap_cons, List.filterMap_nil, ↓reduceIte, modeNe, Bool.false_eq_true, true_implies, List.getD_cons_zero, List.getD_cons_succ, and_true, Nat.zero_add, Nat.reduceAdd]
      refine ⟨?_, ?_, ?_, ?_, ?_, ?_, ?_, ?_, ?_, ?_, ?_⟩
      · intro hl hw hd
        intros
        (try simp only [*])
        go_wp2_with (first | (refine ldiS S.out ?_) | (refine ldI S.out ?_) | (refine wpList_want rfl rfl ?_; dsimp only) | fail)
        refine stepS_mk rfl (by simp only [List.getElem?_toArray, List.getElem?_cons_succ, List.getElem?_cons_zero]; exact rfl) ?_
        exact ⟨XS.refl _, rfl, ⟨by simpa [upd] using hj.1, by simpa [upd] using hj.2.1, by simpa [upd] using hj.2.2.1, hj.2.2.2.1.ext (fun _ h => h) (fun _ => rfl) (by decide), hj.2.2.2.2.ext (fun _ h => h) (fun _ => rfl) (by decide)⟩⟩
      · intro hl hw hd
        intros
        (try simp only [*])
        go_wp2_with (first | (refine ldiS S.out ?_) | (refine ldI S.out ?_) | (refine wpList_want rfl rfl ?_; dsimp only) | fail)
        refine stepS_mk rfl (by simp only [List.getElem?_toArray, List.getElem?_cons_succ, List.getElem?_cons_zero]; exact rfl) ?_
        exact ⟨XS.refl _, rfl, ⟨by simpa [upd] using hj.1, by simpa [upd] using hj.2.1, by simpa [upd] using hj.2.2.1, hj.2.2.2.1.ext (fun _ h => h) (fun _ => rfl) (by decide), hj.2.2.2.2.ext (fun _ h => h) (fun _ => rfl) (by decide)⟩⟩
      · intro hl hw hd
        intros
        (try simp only [*])
        go_wp2_with (first | (refine ldiS S.out ?_) | (refine ldI S.out ?_) | (refine wpList_want rfl rfl ?_; dsimp only) | fail)
        refine stepS_mk rfl (by simp only [List.getElem?_toArray, List.getElem?_cons_succ, List.getElem?_cons_zero]; exact rfl) ?_
        exact ⟨XS.refl _, rfl, ⟨by simpa [upd] using hj.1, by simpa [upd] using hj.2.1, by simpa [upd] using hj.2.2.1, hj.2.2.2.1.ext (fun _ h => h) (fun _ => rfl) (by decide), hj.2.2.2.2.ext (fun _ h => h) (fun _ => rfl) (by decide)⟩⟩
      · intro hl hw hd
        intros
        (try simp only [*])
        go_wp2_with (first | (refine ldiS S.out ?_) | (refine ldI S.out ?_) | (refine wpList_want rfl rfl ?_; dsimp only) | fail)
        refine stepS_mk rfl (by simp only [List.getElem?_toArray, List.getElem?_cons_succ, List.getElem?_cons_zero]; exact rfl) ?_
        exact ⟨XS.refl _, rfl, ⟨by simpa [upd] using hj.1, by simpa [upd] using hj.2.1, by simpa [upd] using hj.2.2.1, hj.2.2.2.1.ext (fun _ h => h) (fun _ => rfl) (by decide), hj.2.2.2.2.ext (fun _ h => h) (fun _ => rfl) (by decide)⟩⟩
      · intro hl hw hd
        obtain ⟨q0, q5, q7, q8⟩ := hj.1 hl
        intros
        (try simp only [*])
        go_wp2_with (fail)
        (with_reducible refine (side20 g _ (HP.le (by omega)) _ q0).mono ?_)
        rintro e w8 ⟨v8, rfl, ⟨m4, rfl, s4⟩, hr8, hm8⟩
        go_wp2
        refine stepS_mk rfl (by simp only [List.getElem?_toArray, List.getElem?_cons_succ, List.getElem?_cons_zero]; exact rfl) ?_
        have f : XS u9.heap.size [g, rb2, rb1] [] w' w8 := XS.of_mod hm8 (by simp) RD.lt
        exact ⟨f, ⟨m4, rfl, s4⟩, by simp [upd], fun _ _ => ⟨hr8, by simpa [upd] using q7, by simpa [upd] using q8⟩, by simp [upd, q5], hj.2.2.2.1.mod hm8 d1 (fun _ h => h) (by decide), hj.2.2.2.2.mod hm8 d2 (fun cs h => IsShM.xs h f (by decide)) (by decide)⟩
      · intro hl hw hd
        obtain ⟨q0, q7, q8⟩ := hj.2.1 (hd 4 (by simp)) hl
        have q4 := hd 4 (by simp)
        intros
        obtain ⟨m4, e4, s4⟩ := ‹∃ n : Nat, V 4 = _ ∧ Side n›
        (try simp only [*])
        go_wp2_with (fail)
        (with_reducible refine (sh20M g _ n1 m4 14 sn1.sd s4.sd ⟨by omega, by omega⟩ (HP.le (by omega)) _ q0).mono ?_)
        rintro e w8 ⟨v8, rfl, ⟨ra, ca, rb, cb, va, vb, xa, xb, rfl, gg, la, lb⟩, hr8, hm8⟩
        go_wp2
        refine stepS_mk rfl (by simp only [List.getElem?_toArray, List.getElem?_cons_succ, List.getElem?_cons_zero]; exact rfl) ?_
        have f : XS u9.heap.size [g, rb2, rb1] [] w' w8 := XS.of_mod hm8 (by simp) RD.lt
        exact ⟨f, ⟨ra, ca, rb, cb, va, vb, xa, xb, rfl, gg.mono hr.size, la, lb⟩, by simp [upd, q4], by simp [upd], fun _ _ => ⟨hr8, by simpa [upd] using q8⟩, hj.2.2.2.1.mod hm8 d1 (fun _ h => h) (by decide), hj.2.2.2.2.mod hm8 d2 (fun cs h => IsShM.xs h f (by decide)) (by decide)⟩
      · intro hl hw hd
        intros
        (try simp only [*])
        go_wp2_with (first | (refine ldiS S.out ?_) | (refine ldI S.out ?_) | (refine wpList_want rfl rfl ?_; dsimp only) | fail)
        refine stepS_mk rfl (by simp only [List.getElem?_toArray, List.getElem?_cons_succ, List.getElem?_cons_zero]; exact rfl) ?_
        exact ⟨XS.refl _, rfl, ⟨by simpa [upd] using hj.1, by simpa [upd] using hj.2.1, by simpa [upd] using hj.2.2.1, hj.2.2.2.1.ext (fun _ h => h) (fun _ => rfl) (by decide), hj.2.2.2.2.ext (fun _ h => h) (fun _ => rfl) (by decide)⟩⟩
      · intro hl hw hd
        obtain ⟨q0, q8⟩ := hj.2.2.1 (hd 5 (by simp)) hl
        have q5 := hd 5 (by simp)
        have q4 : L 4 = true := by
          cases h : L 4
          · exact absurd (q5.symm.trans (hj.1 h).2.1) (by decide)
          · rfl
        intros
        (try simp only [*])
        go_wp2_with (fail)
        (with_reducible refine (seed20 g _ 14 ⟨by omega, by omega⟩ (HP.le (by omega)) _ q0).mono ?_)
        rintro e w8 ⟨v8, rfl, ⟨s8, rfl, -⟩, hr8, hm8⟩
        go_wp2
        refine stepS_mk rfl (by simp only [List.getElem?_toArray, List.getElem?_cons_succ, List.getElem?_cons_zero]; exact rfl) ?_
        have f : XS u9.heap.size [g, rb2, rb1] [] w' w8 := XS.of_mod hm8 (by simp) RD.lt
        exact ⟨f, ⟨s8, rfl⟩, by simp [upd, q4], by simp [upd, q5], by simp [upd], hj.2.2.2.1.mod hm8 d1 (fun _ h => h) (by decide), hj.2.2.2.2.mod hm8 d2 (fun cs h => IsShM.xs h f (by decide)) (by decide)⟩
      · intro hl hw hd
        have q7 := hd 7 (by simp)
        have j1 : ¬ L 4 = false := fun h => absurd (q7.symm.trans (hj.1 h).2.2.1) (by decide)
        have j2 : ¬ (L 4 = true ∧ L 5 = false) := fun h => absurd (q7.symm.trans (hj.2.1 h.1 h.2).2.1) (by decide)
        obtain ⟨kz⟩ : Kept (Blk w' rb1 #[.int .i64 0, .int .i64 0, .slice none 0 0, .int .i64 0, .int .i64 0, .slice none 0 0] 33) := ⟨hj.2.2.2.1.no hl⟩
        intros
        have e_ : V 0 = .agg #[.int .i64 r0, .int .i64 c0, .slice p0 x0.length m0, .int .i64 r1, .int .i64 c1, .slice p1 x1.length m1] := by assumption
        refine wpList_putX (by rfl) (by rfl) _ _ (by rfl) rb1 _ _ (by rfl) (by exact e_) kz (by kernel_rfl) (by rfl) (by simp [Value.oneCell']) (.inl ⟨by simp, k1.lt⟩) (fun w'' f k hoth hsz u => ⟨f, trivial, fun a => absurd (by simpa [upd] using a) j1, fun a b => absurd ⟨by simpa [upd] using a, by simpa [upd] using b⟩ j2, fun a b => absurd (q7.symm.trans (by simpa [upd] using b)) (by decide), Px.put k rfl, hj.2.2.2.2.ext (fun cs h => IsShM.xs h f (by decide)) (fun _ => hoth _ n12.symm) (by decide)⟩)
      · intro hl hw hd
        have q8 := hd 8 (by simp)
        have j1 : ¬ L 4 = false := fun h => absurd (q8.symm.trans (hj.1 h).2.2.2) (by decide)
        have j2 : ¬ (L 4 = true ∧ L 5 = false) := fun h => absurd (q8.symm.trans (hj.2.1 h.1 h.2).2.2) (by decide)
        obtain ⟨kz⟩ : Kept (Blk w' rb2 #[.int .i64 0, .int .i64 0, .slice none 0 0, .int .i64 0, .int .i64 0, .slice none 0 0] 33) := ⟨hj.2.2.2.2.no hl⟩
        intros
        obtain ⟨ra, ca, rb, cb, va, vb, xa, xb, e_, gg, la, lb⟩ := ‹IsShM _ _ (V 5)›
        obtain ⟨pa, ma, hu9, -, -⟩ := id gg.o0.ints
        try simp only at hu9
        subst hu9
        obtain ⟨pb, mb, hu9, -, -⟩ := id gg.o1.ints
        try simp only at hu9
        subst hu9
        refine wpList_putX (by rfl) (by rfl) _ _ (by rfl) rb2 _ _ (by rfl) (by exact e_) kz (by kernel_rfl) (by rfl) (by simp [Value.oneCell']) (.inl ⟨by simp, k2.lt⟩) (fun w'' f k hoth hsz u => ⟨f, trivial, fun a => absurd (by simpa [upd] using a) j1, fun a b => absurd ⟨by simpa [upd] using a, by simpa [upd] using b⟩ j2, fun a b => absurd (q8.symm.trans (hj.2.2.1 (by simpa [upd] using a) (by simpa [upd] using b)).2) (by decide), hj.2.2.2.1.ext (fun _ h => h) (fun _ => hoth _ n12) (by decide), Px.put k ⟨ra, ca, rb, cb, _, _, xa, xb, rfl, gg.xs f (Nat.le_refl _) (by decide), la, lb⟩⟩)
      · intro hl hw hd
        intros
        (try simp only [*])
        go_wp2_with (first | (refine ldiS S.out ?_) | (refine ldI S.out ?_) | (refine wpList_want rfl rfl ?_; dsimp only) | fail)
        refine stepS_mk rfl (by simp only [List.getElem?_toArray, List.getElem?_cons_succ, List.getElem?_cons_zero]; exact rfl) ?_
        exact ⟨XS.refl _, rfl, ⟨by simpa [upd] using hj.1, by simpa [upd] using hj.2.1, by simpa [upd] using hj.2.2.1, hj.2.2.2.1.ext (fun _ h => h) (fun _ => rfl) (by decide), hj.2.2.2.2.ext (fun _ h => h) (fun _ => rfl) (by decide)⟩⟩
    case hB => kernel_rfl
    case fin =>
      intro V lo up w' hr L hj hL hf ha
      simp only [factsOk, isv, sideV, numV, shV', sameV, anyV, modeNg, newb, List.map_nil, List.map_cons, List.headD_cons, and_true, Nat.zero_add, Nat.reduceAdd] at hf
      simp only [List.length_cons, List.length_nil, Nat.zero_add, Nat.reduceAdd, List.drop_succ_cons, List.drop_zero]
      obtain ⟨-, -, -, -, -, -, -, ⟨-, -, -, s, e7⟩, -, -, ⟨-, -, -, e10⟩⟩ := hf
      clear ha
      rw [e10]
      (try simp only [List.headD_cons])
      rw [e7]
      clear e10
      obtain ⟨cs1, kb1, e5⟩ := hj.2.2.2.1.yes (hL 8 (by simp))
      subst e5
      obtain ⟨cs2, kb2, ra, ca, rb, cb, va, vb, xa, xb, e5, gg, la, lb⟩ := hj.2.2.2.2.yes (hL 9 (by simp))
      injection e5 with e5
      subst e5
      obtain ⟨pa, ma, hu9, -, -⟩ := id gg.o0.ints
      try simp only at hu9
      subst hu9
      obtain ⟨pb, mb, hu9, -, -⟩ := id gg.o1.ints
      try simp only at hu9
      subst hu9
      have R2 := RR.out.grp hr gg hr1
      have R3 := (R2.join (cs := [.int .i64 ra, .int .i64 ca, .slice pa xa.length ma, .int .i64 rb, .int .i64 cb, .slice pb xb.length mb]) kb2 n21).join (cs := [.int .i64 r0, .int .i64 c0, .slice p0 x0.length m0, .int .i64 r1, .int .i64 c1, .slice p1 x1.length m1]) kb1 (by simp; exact d1)
      clear R2 RR hr gg kb1 kb2 hj
      simp only [List.cons_append, List.nil_append] at R3
      have S := Kept.mk R3.st
      clear R3
      go_wp2_with (first | (refine ldiS S.out ?_) | (refine ldI S.out ?_) | (refine stiS S.out ?_; clear S; intro w9 S) | (refine wpList_want rfl rfl ?_; dsimp only) | fail)
      refine bodyPost_ret (v := .tuple #[.agg #[.int .i64 r0, .int .i64 c0, .slice p0 x0.length m0, .int .i64 r1, .int .i64 c1, .slice p1 x1.length m1], .agg #[.int .i64 ra, .int .i64 ca, .slice pa xa.length ma, .int .i64 rb, .int .i64 cb, .slice pb xb.length mb], .int .i64 s]) ?A rfl ⟨_, _, _, _, _, _, _, _, _, _, _, _, _, _, _, _, _, rfl, ⟨l0, l1, la, lb⟩, ?B, S.out.ext⟩
      case A => exact res3 rfl (by exact (rsiS S.out)) (by exact (rsiS S.out)) rfl
      case B => exact S.out.grp.sel rfl [2, 3, 0, 1] (by decide) (by simp)
  · obtain ⟨n3, hn3⟩ : ∃ n3 : Nat, n3 = 1 + n1 % 5 := ⟨_, rfl⟩
    have sn3 : Side n3 := ⟨by omega, by omega⟩
    have q1 : wrap64 (1 + (n1 : Int) % 5) = (n3 : Int) := by unfold wrap64; omega
    have q2 : 1 + (n1 : Int) % 5 = (n3 : Int) := by omega
    clear hn3
    go_wp2_with (first | (refine aliS (L := []) S.out ?_; clear S; intro b7 w9 S) | (refine ldiS S.out ?_) | (refine ldI S.out ?_) | (refine stiS S.out ?_; clear S; intro w9 S) | (refine wpList_want rfl rfl ?_; dsimp only) | fail)
    have RD := S.out.rdr
    obtain ⟨N1, N2, N3, N4⟩ := O.out.nestR hx1 hg S.out
    have R0 := Rst.start (show St none w _ [⟨b7, 33, [.int .i64 r0, .int .i64 c0, .slice p0 x0.length m0, .int .i64 r1, .int .i64 c1, .slice p1 x1.length m1]⟩, ⟨rb2, 33, [.int .i64 0, .int .i64 0, .slice none 0 0, .int .i64 0, .int .i64 0, .slice none 0 0]⟩, ⟨rb1, 33, [.int .i64 0, .int .i64 0, .slice none 0 0, .int .i64 0, .int .i64 0, .slice none 0 0]⟩] [.slice p0 x0.length m0, .slice p1 x1.length m1] [x0, x1] from N1) N2 N3 N4
    clear N1 N2 N3 N4 S O
    obtain ⟨R1, k1, d1⟩ := R0.del (r := rb1) (T := 33) (cs := [.int .i64 0, .int .i64 0, .slice none 0 0, .int .i64 0, .int .i64 0, .slice none 0 0]) (by repeat constructor)
    clear R0
    obtain ⟨R2, k2, d2⟩ := R1.del (r := rb2) (T := 33) (cs := [.int .i64 0, .int .i64 0, .slice none 0 0, .int .i64 0, .int .i64 0, .slice none 0 0]) (by repeat constructor)
    have n21 : rb2 ∉ [g, rb1] := R1.box ⟨rb2, 33, [.int .i64 0, .int .i64 0, .slice none 0 0, .int .i64 0, .int .i64 0, .slice none 0 0]⟩ (by repeat constructor)
    clear R1
    have n12 : rb1 ≠ rb2 := fun e => n21 (by simp [e])
    have hr1 : ∀ q ∈ [g, rb2, rb1], q < u9.heap.size := fun q hq => by
      simp only [List.mem_cons, List.not_mem_nil, or_false] at hq
      rcases hq with e | e | e
      · rw [e]; exact RD.lt
      · rw [e]; exact k2.lt
      · rw [e]; exact k1.lt
    have RR := Kept.mk R2
    clear R2
    apply wp_region_zipV (XS.rel _ [g, rb2, rb1] []) (fun L _ w' => (L 4 = false → Rdr g 13005 w' ∧ L 5 = false ∧ L 7 = false ∧ L 8 = false) ∧ (L 4 = true → L 5 = false → Rdr g 13007 w' ∧ L 7 = false ∧ L 8 = false) ∧ (L 5 = true → L 7 = false → Rdr g 26007 w' ∧ L 8 = false) ∧ Px rb1 8 33 #[.int .i64 0, .int .i64 0, .slice none 0 0, .int .i64 0, .int .i64 0, .slice none 0 0] (fun _ cs => cs = #[.int .i64 r0, .int .i64 c0, .slice p0 x0.length m0, .int .i64 r1, .int .i64 c1, .slice p1 x1.length m1]) L w' ∧ Px rb2 9 33 #[.int .i64 0, .int .i64 0, .slice none 0 0, .int .i64 0, .int .i64 0, .slice none 0 0] (fun w' cs => IsShM u9.heap.size w' (.agg cs)) L w') [isv _, isv _, isv _, isv _, sideV, shV' (by decide), isv _, numV, anyV, anyV, sameV 7] _ ?hJ (by kernel_rfl)
    case hJ => exact ⟨fun _ => ⟨(RD.keep ⟨rfl, rfl, rfl, Nat.le_refl _, fun _ _ => rfl⟩).mono (by omega) ⟨by omega⟩, rfl, rfl, rfl⟩, fun h => (by cases h), fun h => (by cases h), ⟨fun _ => k1.keep ⟨rfl, rfl, rfl, Nat.le_refl _, fun _ _ => rfl⟩, fun h => (by cases h)⟩, ⟨fun _ => k2.keep ⟨rfl, rfl, rfl, Nat.le_refl _, fun _ _ => rfl⟩, fun h => (by cases h)⟩⟩
    case hA => intro V; simp [putAll, dstOf, Act.put]; exact rfl
    case hsl => intro V; exact rfl
    case step =>
      intro V lo up w' hr L hj
      have S := Kept.mk (RR.out.xs hr).st
      simp only [zipOkV, depsImp, isv, sideV, numV, shV', sameV, anyV, modeNg, newb, waits, Region.binds, List.map_nil, List.map_cons, List.headD_cons, List.nil_append, List.cons_append, List.filterMap_cons, List.filterMap_nil, ↓reduceIte, modeNe, Bool.false_eq_true, true_implies, List.getD_cons_zero, List.getD_cons_succ, and_true, Nat.zero_add, Nat.reduceAdd]
      refine ⟨?_, ?_, ?_, ?_, ?_, ?_, ?_, ?_, ?_, ?_, ?_⟩
      · intro hl hw hd
        intros
        (try simp only [*])
        go_wp2_with (first | (refine ldiS S.out ?_) | (refine ldI S.out ?_) | (refine wpList_want rfl rfl ?_; dsimp only) | fail)
        refine stepS_mk rfl (by simp only [List.getElem?_toArray, List.getElem?_cons_succ, List.getElem?_cons_zero]; exact rfl) ?_
        exact ⟨XS.refl _, rfl, ⟨by simpa [upd] using hj.1, by simpa [upd] using hj.2.1, by simpa [upd] using hj.2.2.1, hj.2.2.2.1.ext (fun _ h => h) (fun _ => rfl) (by decide), hj.2.2.2.2.ext (fun _ h => h) (fun _ => rfl) (by decide)⟩⟩
      · intro hl hw hd
        intros
        (try simp only [*])
        go_wp2_with (first | (refine ldiS S.out ?_) | (refine ldI S.out ?_) | (refine wpList_want rfl rfl ?_; dsimp only) | fail)
        refine stepS_mk rfl (by simp only [List.getElem?_toArray, List.getElem?_cons_succ, List.getElem?_cons_zero]; exact rfl) ?_
        exact ⟨XS.refl _, rfl, ⟨by simpa [upd] using hj.1, by simpa [upd] using hj.2.1, by simpa [upd] using hj.2.2.1, hj.2.2.2.1.ext (fun _ h => h) (fun _ => rfl) (by decide), hj.2.2.2.2.ext (fun _ h => h) (fun _ => rfl) (by decide)⟩⟩
      · intro hl hw hd
        intros
        (try simp only [*])
        go_wp2_with (first | (refine ldiS S.out ?_) | (refine ldI S.out ?_) | (refine wpList_want rfl rfl ?_; dsimp only) | fail)
        refine stepS_mk rfl (by simp only [List.getElem?_toArray, List.getElem?_cons_succ, List.getElem?_cons_zero]; exact rfl) ?_
        exact ⟨XS.refl _, rfl, ⟨by simpa [upd] using hj.1, by simpa [upd] using hj.2.1, by simpa [upd] using hj.2.2.1, hj.2.2.2.1.ext (fun _ h => h) (fun _ => rfl) (by decide), hj.2.2.2.2.ext (fun _ h => h) (fun _ => rfl) (by decide)⟩⟩
      · intro hl hw hd
        intros
        (try simp only [*])
        go_wp2_with (first | (refine ldiS S.out ?_) | (refine ldI S.out ?_) | (refine wpList_want rfl rfl ?_; dsimp only) | fail)
        refine stepS_mk rfl (by simp only [List.getElem?_toArray, List.getElem?_cons_succ, List.getElem?_cons_zero]; exact rfl) ?_
        exact ⟨XS.refl _, rfl, ⟨by simpa [upd] using hj.1, by simpa [upd] using hj.2.1, by simpa [upd] using hj.2.2.1, hj.2.2.2.1.ext (fun _ h => h) (fun _ => rfl) (by decide), hj.2.2.2.2.ext (fun _ h => h) (fun _ => rfl) (by decide)⟩⟩
      · intro hl hw hd
        obtain ⟨q0, q5, q7, q8⟩ := hj.1 hl
        intros
        (try simp only [*])
        go_wp2_with (fail)
        (with_reducible refine (side20 g _ (HP.le (by omega)) _ q0).mono ?_)
        rintro e w8 ⟨v8, rfl, ⟨m4, rfl, s4⟩, hr8, hm8⟩
        go_wp2
        refine stepS_mk rfl (by simp only [List.getElem?_toArray, List.getElem?_cons_succ, List.getElem?_cons_zero]; exact rfl) ?_
        have f : XS u9.heap.size [g, rb2, rb1] [] w' w8 := XS.of_mod hm8 (by simp) RD.lt
        exact ⟨f, ⟨m4, rfl, s4⟩, by simp [upd], fun _ _ => ⟨hr8, by simpa [upd] using q7, by simpa [upd] using q8⟩, by simp [upd, q5], hj.2.2.2.1.mod hm8 d1 (fun _ h => h) (by decide), hj.2.2.2.2.mod hm8 d2 (fun cs h => IsShM.xs h f (by decide)) (by decide)⟩
      · intro hl hw hd
        obtain ⟨q0, q7, q8⟩ := hj.2.1 (hd 4 (by simp)) hl
        have q4 := hd 4 (by simp)
        intros
        obtain ⟨m4, e4, s4⟩ := ‹∃ n : Nat, V 4 = _ ∧ Side n›
        (try simp only [*])
        go_wp2_with (fail)
        (with_reducible refine (sh20M g _ n3 m4 14 sn3.sd s4.sd ⟨by omega, by omega⟩ (HP.le (by omega)) _ q0).mono ?_)
        rintro e w8 ⟨v8, rfl, ⟨ra, ca, rb, cb, va, vb, xa, xb, rfl, gg, la, lb⟩, hr8, hm8⟩
        go_wp2
        refine stepS_mk rfl (by simp only [List.getElem?_toArray, List.getElem?_cons_succ, List.getElem?_cons_zero]; exact rfl) ?_
        have f : XS u9.heap.size [g, rb2, rb1] [] w' w8 := XS.of_mod hm8 (by simp) RD.lt
        exact ⟨f, ⟨ra, ca, rb, cb, va, vb, xa, xb, rfl, gg.mono hr.size, la, lb⟩, by simp [upd, q4], by simp [upd], fun _ _ => ⟨hr8, by simpa [upd] using q8⟩, hj.2.2.2.1.mod hm8 d1 (fun _ h => h) (by decide), hj.2.2.2.2.mod hm8 d2 (fun cs h => IsShM.xs h f (by decide)) (by decide)⟩
      · intro hl hw hd
        intros
        (try simp only [*])
        go_wp2_with (first | (refine ldiS S.out ?_) | (refine ldI S.out ?_) | (refine wpList_want rfl rfl ?_; dsimp only) | fail)
        refine stepS_mk rfl (by simp only [List.getElem?_toArray, List.getElem?_cons_succ, List.getElem?_cons_zero]; exact rfl) ?_
        exact ⟨XS.refl _, rfl, ⟨by simpa [upd] using hj.1, by simpa [upd] using hj.2.1, by simpa [upd] using hj.2.2.1, hj.2.2.2.1.ext (fun _ h => h) (fun _ => rfl) (by decide), hj.2.2.2.2.ext (fun _ h => h) (fun _ => rfl) (by decide)⟩⟩
      · intro hl hw hd
        obtain ⟨q0, q8⟩ := hj.2.2.1 (hd 5 (by simp)) hl
        have q5 := hd 5 (by simp)
        have q4 : L 4 = true := by
          cases h : L 4
          · exact absurd (q5.symm.trans (hj.1 h).2.1) (by decide)
          · rfl
        intros
        (try simp only [*])
        go_wp2_with (fail)
        (with_reducible refine (seed20 g _ 14 ⟨by omega, by omega⟩ (HP.le (by omega)) _ q0).mono ?_)
        rintro e w8 ⟨v8, rfl, ⟨s8, rfl, -⟩, hr8, hm8⟩
        go_wp2
        refine stepS_mk rfl (by simp only [List.getElem?_toArray, List.getElem?_cons_succ, List.getElem?_cons_zero]; exact rfl) ?_
        have f : XS u9.heap.size [g, rb2, rb1] [] w' w8 := XS.of_mod hm8 (by simp) RD.lt
        exact ⟨f, ⟨s8, rfl⟩, by simp [upd, q4], by simp [upd, q5], by simp [upd], hj.2.2.2.1.mod hm8 d1 (fun _ h => h) (by decide), hj.2.2.2.2.mod hm8 d2 (fun cs h => IsShM.xs h f (by decide)) (by decide)⟩
      · intro hl hw hd
        have q7 := hd 7 (by simp)
        have j1 : ¬ L 4 = false := fun h => absurd (q7.symm.trans (hj.1 h).2.2.1) (by decide)
        have j2 : ¬ (L 4 = true ∧ L 5 = false) := fun h => absurd (q7.symm.trans (hj.2.1 h.1 h.2).2.1) (by decide)
        obtain ⟨kz⟩ : Kept (Blk w' rb1 #[.int .i64 0, .int .i64 0, .slice none 0 0, .int .i64 0, .int .i64 0, .slice none 0 0] 33) := ⟨hj.2.2.2.1.no hl⟩
        intros
        have e_ : V 0 = .agg #[.int .i64 r0, .int .i64 c0, .slice p0 x0.length m0, .int .i64 r1, .int .i64 c1, .slice p1 x1.length m1] := by assumption
        refine wpList_putX (by rfl) (by rfl) _ _ (by rfl) rb1 _ _ (by rfl) (by exact e_) kz (by kernel_rfl) (by rfl) (by simp [Value.oneCell']) (.inl ⟨by simp, k1.lt⟩) (fun w'' f k hoth hsz u => ⟨f, trivial, fun a => absurd (by simpa [upd] using a) j1, fun a b => absurd ⟨by simpa [upd] using a, by simpa [upd] using b⟩ j2, fun a b => absurd (q7.symm.trans (by simpa [upd] using b)) (by decide), Px.put k rfl, hj.2.2.2.2.ext (fun cs h => IsShM.xs h f (by decide)) (fun _ => hoth _ n12.symm) (by decide)⟩)
      · intro hl hw hd
        have q8 := hd 8 (by simp)
        have j1 : ¬ L 4 = false := fun h => absurd (q8.symm.trans (hj.1 h).2.2.2) (by decide)
        have j2 : ¬ (L 4 = true ∧ L 5 = false) := fun h => absurd (q8.symm.trans (hj.2.1 h.1 h.2).2.2) (by decide)
        obtain ⟨kz⟩ : Kept (Blk w' rb2 #[.int .i64 0, .int .i64 0, .slice none 0 0, .int .i64 0, .int .i64 0, .slice none 0 0] 33) := ⟨hj.2.2.2.2.no hl⟩
        intros
        obtain ⟨ra, ca, rb, cb, va, vb, xa, xb, e_, gg, la, lb⟩ := ‹IsShM _ _ (V 5)›
        obtain ⟨pa, ma, hu9, -, -⟩ := id gg.o0.ints
        try simp only at hu9
        subst hu9
        obtain ⟨pb, mb, hu9, -, -⟩ := id gg.o1.ints
        try simp only at hu9
        subst hu9
        refine wpList_putX (by rfl) (by rfl) _ _ (by rfl) rb2 _ _ (by rfl) (by exact e_) kz (by kernel_rfl) (by rfl) (by simp [Value.oneCell']) (.inl ⟨by simp, k2.lt⟩) (fun w'' f k hoth hsz u => ⟨f, trivial, fun a => absurd (by simpa [upd] using a) j1, fun a b => absurd ⟨by simpa [upd] using a, by simpa [upd] using b⟩ j2, fun a b => absurd (q8.symm.trans (hj.2.2.1 (by simpa [upd] using a) (by simpa [upd] using b)).2) (by decide), hj.2.2.2.1.ext (fun _ h => h) (fun _ => hoth _ n12) (by decide), Px.put k ⟨ra, ca, rb, cb, _, _, xa, xb, rfl, gg.xs f (Nat.le_refl _) (by decide), la, lb⟩⟩)
      · intro hl hw hd
        intros
        (try simp only [*])
        go_wp2_with (first | (refine ldiS S.out ?_) | (refine ldI S.out ?_) | (refine wpList_want rfl rfl ?_; dsimp only) | fail)
        refine stepS_mk rfl (by simp only [List.getElem?_toArray, List.getElem?_cons_succ, List.getElem?_cons_zero]; exact rfl) ?_
        exact ⟨XS.refl _, rfl, ⟨by simpa [upd] using hj.1, by simpa [upd] using hj.2.1, by simpa [upd] using hj.2.2.1, hj.2.2.2.1.ext (fun _ h => h) (fun _ => rfl) (by decide), hj.2.2.2.2.ext (fun _ h => h) (fun _ => rfl) (by decide)⟩⟩
    case hB => kernel_rfl
    case fin =>
      intro V lo up w' hr L hj hL hf ha
      simp only [factsOk, isv, sideV, numV, shV', sameV, anyV, modeNg, newb, List.map_nil, List.map_cons, List.headD_cons, and_true, Nat.zero_add, Nat.reduceAdd] at hf
      simp only [List.length_cons, List.length_nil, Nat.zero_add, Nat.reduceAdd, List.drop_succ_cons, List.drop_zero]
      obtain ⟨-, -, -, -, -, -, -, ⟨-, -, -, s, e7⟩, -, -, ⟨-, -, -, e10⟩⟩ := hf
      clear ha
      rw [e10]
      (try simp only [List.headD_cons])
      rw [e7]
      clear e10
      obtain ⟨cs1, kb1, e5⟩ := hj.2.2.2.1.yes (hL 8 (by simp))
      subst e5
      obtain ⟨cs2, kb2, ra, ca, rb, cb, va, vb, xa, xb, e5, gg, la, lb⟩ := hj.2.2.2.2.yes (hL 9 (by simp))
      injection e5 with e5
      subst e5
      obtain ⟨pa, ma, hu9, -, -⟩ := id gg.o0.ints
      try simp only at hu9
      subst hu9
      obtain ⟨pb, mb, hu9, -, -⟩ := id gg.o1.ints
      try simp only at hu9
      subst hu9
      have R2 := RR.out.grp hr gg hr1
      have R3 := (R2.join (cs := [.int .i64 ra, .int .i64 ca, .slice pa xa.length ma, .int .i64 rb, .int .i64 cb, .slice pb xb.length mb]) kb2 n21).join (cs := [.int .i64 r0, .int .i64 c0, .slice p0 x0.length m0, .int .i64 r1, .int .i64 c1, .slice p1 x1.length m1]) kb1 (by simp; exact d1)
      clear R2 RR hr gg kb1 kb2 hj
      simp only [List.cons_append, List.nil_append] at R3
      have S := Kept.mk R3.st
      clear R3
      go_wp2_with (first | (refine ldiS S.out ?_) | (refine ldI S.out ?_) | (refine stiS S.out ?_; clear S; intro w9 S) | (refine wpList_want rfl rfl ?_; dsimp only) | fail)
      refine bodyPost_ret (v := .tuple #[.agg #[.int .i64 r0, .int .i64 c0, .slice p0 x0.length m0, .int .i64 r1, .int .i64 c1, .slice p1 x1.length m1], .agg #[.int .i64 ra, .int .i64 ca, .slice pa xa.length ma, .int .i64 rb, .int .i64 cb, .slice pb xb.length mb], .int .i64 s]) ?A rfl ⟨_, _, _, _, _, _, _, _, _, _, _, _, _, _, _, _, _, rfl, ⟨l0, l1, la, lb⟩, ?B, S.out.ext⟩
      case A => exact res3 rfl (by exact (rsiS S.out)) (by exact (rsiS S.out)) rfl
      case B => exact S.out.grp.sel rfl [2, 3, 0, 1] (by decide) (by simp)
end Go.Proofs.Ytkkdikoknegpjaa
