/- What DrawMulSharedMatrices returns. -/
import Derived.Test.YtkkdikoknegpjaaKK
import Derived.Test.YtkkdikoknegpjaaKZ
namespace Go.Proofs.Ytkkdikoknegpjaa
set_option linter.unusedSimpArgs false
set_option linter.unusedVariables false
open Go.RowKit
/-- A new triple, its lists from n0 on. -/
def trV {n0 m : Nat} {rs : List Nat} {Ts : List TypeId} (hT : 3 ∉ Ts) : OpSpec (XS n0 rs Ts) m :=
  ⟨[], fun _ u _ _ w => IsTr n0 w u, fun _ _ _ _ _ _ _ _ _ hx ⟨r0, c0, r1, c1, r2, c2, r3, c3, r4, c4, r5, c5, v0, v1, v2, v3, v4, v5, x0, x1, x2, x3, x4, x5, h1, h2, h3⟩ => ⟨r0, c0, r1, c1, r2, c2, r3, c3, r4, c4, r5, c5, v0, v1, v2, v3, v4, v5, x0, x1, x2, x3, x4, x5, h1, h2.xs hx (Nat.le_refl _) hT, h3⟩⟩

set_option maxHeartbeats 4000000 in
set_option maxRecDepth 4000 in
theorem spec_DrawMulSharedMatrices (v : Value) (w : World) (hb : Bytes w v) : Calls Try.prog 24 #[v] w fun e w' => ∃ (r0 c0 r1 c1 r2 c2 r3 c3 r4 c4 r5 c5 r6 c6 r7 c7 r8 c8 r9 c9 : Int) (v0 v1 v2 v3 v4 v5 v6 v7 v8 v9 : Value) (x0 x1 x2 x3 x4 x5 x6 x7 x8 x9 : List Int), e = .returned (.tuple #[.agg #[.int .i64 r0, .int .i64 c0, v0, .int .i64 r1, .int .i64 c1, v1], .agg #[.int .i64 r2, .int .i64 c2, v2, .int .i64 r3, .int .i64 c3, v3], .agg #[.int .i64 r4, .int .i64 c4, v4, .int .i64 r5, .int .i64 c5, v5, .int .i64 r6, .int .i64 c6, v6, .int .i64 r7, .int .i64 c7, v7, .int .i64 r8, .int .i64 c8, v8, .int .i64 r9, .int .i64 c9, v9]]) ∧
    (x0.length ≤ 1048576 ∧ x1.length ≤ 1048576 ∧ x2.length ≤ 1048576 ∧ x3.length ≤ 1048576 ∧ x4.length ≤ 1048576 ∧ x5.length ≤ 1048576 ∧ x6.length ≤ 1048576 ∧ x7.length ≤ 1048576 ∧ x8.length ≤ 1048576 ∧ x9.length ≤ 1048576) ∧ Grp w.heap.size w' [v0, v1, v2, v3, v4, v5, v6, v7, v8, v9] [x0, x1, x2, x3, x4, x5, x6, x7, x8, x9] ∧ Ext w w' := by
  have S := Kept.mk (St.start w)
  have HP : Room 60000 := ⟨by omega⟩
  go_enter Try.func24, Try.ntmps24
  go_wp2_with (first | (refine aliS (L := []) S.out ?_; clear S; intro rb1 w9 S) | (refine aliS (L := [_]) S.out ?_; clear S; intro rb2 w9 S) | (refine aliT (L := [_, _]) S.out ?_; clear S; intro rb3 w9 S) | (refine ldiS S.out ?_) | (refine ldI S.out ?_) | (refine stiS S.out ?_; clear S; intro w9 S) | (refine wpList_want rfl rfl ?_; dsimp only) | fail)
  (with_reducible refine (open' _ _ (hb.ext S.out.ext)).mono ?_)
  rintro e w1 ⟨g, rfl, hg, hr1, hx1⟩
  have O := S
  replace S := Kept.mk (St.startR hr1)
  clear hr1
  go_wp2_with (first | (refine aliS (L := []) S.out ?_; clear S; intro b9 w9 S) | (refine aliS (L := [_]) S.out ?_; clear S; intro b10 w9 S) | (refine ldiS S.out ?_) | (refine ldI S.out ?_) | (refine stiS S.out ?_; clear S; intro w9 S) | (refine wpList_want rfl rfl ?_; dsimp only) | fail)
  (with_reducible refine (side20 g _ (HP.le (by omega)) _ S.out.rdr).mono ?_)
  rintro e u9 ⟨v7, rfl, ⟨n1, rfl, sn1⟩, hr7, hm7⟩
  replace S := Kept.mk (S.out.read hr7 hm7)
  clear hr7 hm7
  go_wp2_with (first | (refine aliS (L := []) S.out ?_; clear S; intro b9 w9 S) | (refine aliS (L := [_]) S.out ?_; clear S; intro b10 w9 S) | (refine ldiS S.out ?_) | (refine ldI S.out ?_) | (refine stiS S.out ?_; clear S; intro w9 S) | (refine wpList_want rfl rfl ?_; dsimp only) | fail)
  (with_reducible refine (side20 g _ (HP.le (by omega)) _ S.out.rdr).mono ?_)
  rintro e u9 ⟨v7, rfl, ⟨n2, rfl, sn2⟩, hr7, hm7⟩
  replace S := Kept.mk (S.out.read hr7 hm7)
  clear hr7 hm7
  go_wp2_with (first | (refine aliS (L := []) S.out ?_; clear S; intro b9 w9 S) | (refine aliS (L := [_]) S.out ?_; clear S; intro b10 w9 S) | (refine ldiS S.out ?_) | (refine ldI S.out ?_) | (refine stiS S.out ?_; clear S; intro w9 S) | (refine wpList_want rfl rfl ?_; dsimp only) | fail)
  (with_reducible refine (side20 g _ (HP.le (by omega)) _ S.out.rdr).mono ?_)
  rintro e u9 ⟨v7, rfl, ⟨n3, rfl, sn3⟩, hr7, hm7⟩
  replace S := Kept.mk (S.out.read hr7 hm7)
  clear hr7 hm7
  go_wp2_with (first | (refine aliS (L := []) S.out ?_; clear S; intro b9 w9 S) | (refine aliS (L := [_]) S.out ?_; clear S; intro b10 w9 S) | (refine ldiS S.out ?_) | (refine ldI S.out ?_) | (refine stiS S.out ?_; clear S; intro w9 S) | (refine wpList_want rfl rfl ?_; dsimp only) | fail)
  (with_reducible refine (sh20M g _ n1 n2 14 sn1.sd sn2.sd ⟨by omega, by omega⟩ (HP.le (by omega)) _ S.out.rdr).mono ?_)
  rintro e u9 ⟨v7, rfl, ⟨r0, c0, r1, c1, v0, v1, x0, x1, rfl, gg, l0, l1⟩, hr7, hm7⟩
  obtain ⟨p0, m0, hu9, -, -⟩ := id gg.o0.ints
  try simp only at hu9
  subst hu9
  obtain ⟨p1, m1, hu9, -, -⟩ := id gg.o1.ints
  try simp only at hu9
  subst hu9
  replace S := Kept.mk (S.out.read2 gg hr7 hm7)
  clear hr7 hm7 gg
  go_wp2_with (first | (refine aliS (L := []) S.out ?_; clear S; intro b9 w9 S) | (refine aliS (L := [_]) S.out ?_; clear S; intro b10 w9 S) | (refine ldiS S.out ?_) | (refine ldI S.out ?_) | (refine stiS S.out ?_; clear S; intro w9 S) | (refine wpList_want rfl rfl ?_; dsimp only) | fail)
  (with_reducible refine (sh20M g _ n2 n3 14 sn2.sd sn3.sd ⟨by omega, by omega⟩ (HP.le (by omega)) _ S.out.rdr).mono ?_)
  rintro e u9 ⟨v7, rfl, ⟨r2, c2, r3, c3, v2, v3, x2, x3, rfl, gg, l2, l3⟩, hr7, hm7⟩
  obtain ⟨p2, m2, hu9, -, -⟩ := id gg.o0.ints
  try simp only at hu9
  subst hu9
  obtain ⟨p3, m3, hu9, -, -⟩ := id gg.o1.ints
  try simp only at hu9
  subst hu9
  replace S := Kept.mk (S.out.read2 gg hr7 hm7)
  clear hr7 hm7 gg
  go_wp2_with (first | (refine aliS (L := []) S.out ?_; clear S; intro b9 w9 S) | (refine aliS (L := [_]) S.out ?_; clear S; intro b10 w9 S) | (refine ldiS S.out ?_) | (refine ldI S.out ?_) | (refine stiS S.out ?_; clear S; intro w9 S) | (refine wpList_want rfl rfl ?_; dsimp only) | fail)
  (with_reducible refine (odd g _ 14 ⟨by omega, by omega⟩ (HP.le (by omega)) _ S.out.rdr).mono ?_)
  rintro e u9 ⟨v7, rfl, ⟨b8, rfl⟩, hr7, hm7⟩
  replace S := Kept.mk (S.out.read hr7 hm7)
  clear hr7 hm7
  cases b8
  · go_wp2_with (first | (refine aliS (L := []) S.out ?_; clear S; intro b9 w9 S) | (refine aliS (L := [_]) S.out ?_; clear S; intro b10 w9 S) | (refine ldiS S.out ?_) | (refine ldI S.out ?_) | (refine stiS S.out ?_; clear S; intro w9 S) | (refine wpList_want rfl rfl ?_; dsimp only) | fail)
    have RD := S.out.rdr
    obtain ⟨N1, N2, N3, N4⟩ := O.out.nestR hx1 hg S.out
    have R0 := Rst.start (show St none w _ [⟨b10, 33, [.int .i64 r2, .int .i64 c2, .slice p2 x2.length m2, .int .i64 r3, .int .i64 c3, .slice p3 x3.length m3]⟩, ⟨b9, 33, [.int .i64 r0, .int .i64 c0, .slice p0 x0.length m0, .int .i64 r1, .int .i64 c1, .slice p1 x1.length m1]⟩, ⟨rb3, 38, [.int .i64 0, .int .i64 0, .slice none 0 0, .int .i64 0, .int .i64 0, .slice none 0 0, .int .i64 0, .int .i64 0, .slice none 0 0, .int .i64 0, .int .i64 0, .slice none 0 0, .int .i64 0, .int .i64 0, .slice none 0 0, .int .i64 0, .int .i64 0, .slice none 0 0]⟩, ⟨rb2, 33, [.int .i64 0, .int .i64 0, .slice none 0 0, .int .i64 0, .int .i64 0, .slice none 0 0]⟩, ⟨rb1, 33, [.int .i64 0, .int .i64 0, .slice none 0 0, .int .i64 0, .int .i64 0, .slice none 0 0]⟩] [.slice p2 x2.length m2, .slice p3 x3.length m3, .slice p0 x0.length m0, .slice p1 x1.length m1] [x2, x3, x0, x1] from N1) N2 N3 N4
    clear N1 N2 N3 N4 S O
    obtain ⟨R1, k1, d1⟩ := R0.del (r := rb1) (T := 33) (cs := [.int .i64 0, .int .i64 0, .slice none 0 0, .int .i64 0, .int .i64 0, .slice none 0 0]) (by repeat constructor)
    clear R0
    obtain ⟨R2, k2, d2⟩ := R1.del (r := rb2) (T := 33) (cs := [.int .i64 0, .int .i64 0, .slice none 0 0, .int .i64 0, .int .i64 0, .slice none 0 0]) (by repeat constructor)
    have n21 : rb2 ∉ [g, rb1] := R1.box ⟨rb2, 33, [.int .i64 0, .int .i64 0, .slice none 0 0, .int .i64 0, .int .i64 0, .slice none 0 0]⟩ (by repeat constructor)
    clear R1
    have n12 : rb1 ≠ rb2 := fun e => n21 (by simp [e])
    have hr1 : ∀ q ∈ [g, rb2, rb1], q < u9.heap.size := fun q hq => by
      simp only [List.mem_cons, List.not_mem_nil, or_false] at hq
      rcases hq with e | e | e
      · rw [e]; exact RD.lt
      · rw [e]; exact k2.lt
      · rw [e]; exact k1.lt
    have RR := Kept.mk R2
    clear R2
    apply wp_region_zipV (XS.rel _ [g, rb2, rb1] []) (fun L _ w' => (L 6 = false → Rdr g 26007 w' ∧ L 7 = false) ∧ Px rb1 7 33 #[.int .i64 0, .int .i64 0, .slice none 0 0, .int .i64 0, .int .i64 0, .slice none 0 0] (fun _ cs => cs = #[.int .i64 r0, .int .i64 c0, .slice p0 x0.length m0, .int .i64 r1, .int .i64 c1, .slice p1 x1.length m1]) L w' ∧ Px rb2 8 33 #[.int .i64 0, .int .i64 0, .slice none 0 0, .int .i64 0, .int .i64 0, .slice none 0 0] (fun _ cs => cs = #[.int .i64 r2, .int .i64 c2, .slice p2 x2.length m2, .int .i64 r3, .int .i64 c3, .slice p3 x3.length m3]) L w') [isv _, isv _, isv _, isv _, isv _, isv _, trV (by decide), anyV, anyV] _ ?hJ (by kernel_rfl)
    case hJ => exact ⟨fun _ => ⟨(RD.keep ⟨rfl, rfl, rfl, Nat.le_refl _, fun _ _ => rfl⟩).mono (by omega) ⟨by omega⟩, rfl⟩, ⟨fun _ => k1.keep ⟨rfl, rfl, rfl, Nat.le_refl _, fun _ _ => rfl⟩, fun h => (by cases h)⟩, ⟨fun _ => k2.keep ⟨rfl, rfl, rfl, Nat.le_refl _, fun _ _ => rfl⟩, fun h => (by cases h)⟩⟩
    case hA => intro V; simp [putAll, dstOf, Act.put]; exact rfl
    case hsl => intro V; exact rfl
    case step =>
      intro V lo up w' hr L hj
      have S := Kept.mk (RR.out.xs hr).st
      simp only [zipOkV, depsImp, isv, trV, anyV, modeNg, newb, waits, Region.binds, List.map_nil, List.map_cons, List.headD_cons, List.nil_append, List.cons_append, List.filterMap_cons, List.filterMap_nil, ↓reduceIte, modeNe, Bool.false_eq_true, true_implies, List.getD_cons_zero, List.getD_cons_succ, and_true, Nat.zero_add, Nat.reduceAdd]
      refine ⟨?_, ?_, ?_, ?_, ?_, ?_, ?_, ?_, ?_⟩
      · intro hl hw hd
        intros
        (try simp only [*])
        go_wp2_with (first | (refine ldiS S.out ?_) | (refine ldI S.out ?_) | (refine wpList_want rfl rfl ?_; dsimp only) | fail)
        refine stepS_mk rfl (by simp only [List.getElem?_toArray, List.getElem?_cons_succ, List.getElem?_cons_zero]; exact rfl) ?_
        exact ⟨XS.refl _, rfl, ⟨fun h => ⟨(hj.1 (by simpa [upd] using h)).1, by simpa [upd] using (hj.1 (by simpa [upd] using h)).2⟩, hj.2.1.ext (fun _ h => h) (fun _ => rfl) (by decide), hj.2.2.ext (fun _ h => h) (fun _ => rfl) (by decide)⟩⟩
      · intro hl hw hd
        intros
        (try simp only [*])
        go_wp2_with (first | (refine ldiS S.out ?_) | (refine ldI S.out ?_) | (refine wpList_want rfl rfl ?_; dsimp only) | fail)
        refine stepS_mk rfl (by simp only [List.getElem?_toArray, List.getElem?_cons_succ, List.getElem?_cons_zero]; exact rfl) ?_
        exact ⟨XS.refl _, rfl, ⟨fun h => ⟨(hj.1 (by simpa [upd] using h)).1, by simpa [upd] using (hj.1 (by simpa [upd] using h)).2⟩, hj.2.1.ext (fun _ h => h) (fun _ => rfl) (by decide), hj.2.2.ext (fun _ h => h) (fun _ => rfl) (by decide)⟩⟩
      · intro hl hw hd
        intros
        (try simp only [*])
        go_wp2_with (first | (refine ldiS S.out ?_) | (refine ldI S.out ?_) | (refine wpList_want rfl rfl ?_; dsimp only) | fail)
        refine stepS_mk rfl (by simp only [List.getElem?_toArray, List.getElem?_cons_succ, List.getElem?_cons_zero]; exact rfl) ?_
        exact ⟨XS.refl _, rfl, ⟨fun h => ⟨(hj.1 (by simpa [upd] using h)).1, by simpa [upd] using (hj.1 (by simpa [upd] using h)).2⟩, hj.2.1.ext (fun _ h => h) (fun _ => rfl) (by decide), hj.2.2.ext (fun _ h => h) (fun _ => rfl) (by decide)⟩⟩
      · intro hl hw hd
        intros
        (try simp only [*])
        go_wp2_with (first | (refine ldiS S.out ?_) | (refine ldI S.out ?_) | (refine wpList_want rfl rfl ?_; dsimp only) | fail)
        refine stepS_mk rfl (by simp only [List.getElem?_toArray, List.getElem?_cons_succ, List.getElem?_cons_zero]; exact rfl) ?_
        exact ⟨XS.refl _, rfl, ⟨fun h => ⟨(hj.1 (by simpa [upd] using h)).1, by simpa [upd] using (hj.1 (by simpa [upd] using h)).2⟩, hj.2.1.ext (fun _ h => h) (fun _ => rfl) (by decide), hj.2.2.ext (fun _ h => h) (fun _ => rfl) (by decide)⟩⟩
      · intro hl hw hd
        intros
        (try simp only [*])
        go_wp2_with (first | (refine ldiS S.out ?_) | (refine ldI S.out ?_) | (refine wpList_want rfl rfl ?_; dsimp only) | fail)
        refine stepS_mk rfl (by simp only [List.getElem?_toArray, List.getElem?_cons_succ, List.getElem?_cons_zero]; exact rfl) ?_
        exact ⟨XS.refl _, rfl, ⟨fun h => ⟨(hj.1 (by simpa [upd] using h)).1, by simpa [upd] using (hj.1 (by simpa [upd] using h)).2⟩, hj.2.1.ext (fun _ h => h) (fun _ => rfl) (by decide), hj.2.2.ext (fun _ h => h) (fun _ => rfl) (by decide)⟩⟩
      · intro hl hw hd
        intros
        (try simp only [*])
        go_wp2_with (first | (refine ldiS S.out ?_) | (refine ldI S.out ?_) | (refine wpList_want rfl rfl ?_; dsimp only) | fail)
        refine stepS_mk rfl (by simp only [List.getElem?_toArray, List.getElem?_cons_succ, List.getElem?_cons_zero]; exact rfl) ?_
        exact ⟨XS.refl _, rfl, ⟨fun h => ⟨(hj.1 (by simpa [upd] using h)).1, by simpa [upd] using (hj.1 (by simpa [upd] using h)).2⟩, hj.2.1.ext (fun _ h => h) (fun _ => rfl) (by decide), hj.2.2.ext (fun _ h => h) (fun _ => rfl) (by decide)⟩⟩
      · intro hl hw hd
        intros
        (try simp only [*])
        go_wp2_with (fail)
        (with_reducible refine (tri20M g _ n1 n2 n3 14 sn1 sn2 sn3 ⟨by omega, by omega⟩ (HP.le (by omega)) _ (hj.1 hl).1).mono ?_)
        rintro e w8 ⟨v8, rfl, ⟨ra0, ca0, ra1, ca1, ra2, ca2, ra3, ca3, ra4, ca4, ra5, ca5, va0, va1, va2, va3, va4, va5, xa0, xa1, xa2, xa3, xa4, xa5, rfl, gg, la⟩, hr8, hm8⟩
        go_wp2
        refine stepS_mk rfl (by simp only [List.getElem?_toArray, List.getElem?_cons_succ, List.getElem?_cons_zero]; exact rfl) ?_
        exact ⟨XS.of_mod hm8 (by simp) RD.lt, ⟨ra0, ca0, ra1, ca1, ra2, ca2, ra3, ca3, ra4, ca4, ra5, ca5, va0, va1, va2, va3, va4, va5, xa0, xa1, xa2, xa3, xa4, xa5, rfl, gg.mono hr.size, la⟩, fun h => (by simp [upd] at h), hj.2.1.mod hm8 d1 (fun _ h => h) (by decide), hj.2.2.mod hm8 d2 (fun _ h => h) (by decide)⟩
      · intro hl hw hd
        obtain ⟨kz⟩ : Kept (Blk w' rb1 #[.int .i64 0, .int .i64 0, .slice none 0 0, .int .i64 0, .int .i64 0, .slice none 0 0] 33) := ⟨hj.2.1.no hl⟩
        intros
        have e_ : V 0 = .agg #[.int .i64 r0, .int .i64 c0, .slice p0 x0.length m0, .int .i64 r1, .int .i64 c1, .slice p1 x1.length m1] := by assumption
        refine wpList_putX (by rfl) (by rfl) _ _ (by rfl) rb1 _ _ (by rfl) (by exact e_) kz (by kernel_rfl) (by rfl) (by simp [Value.oneCell']) (.inl ⟨by simp, k1.lt⟩) (fun w'' f k hoth hsz u => ⟨f, trivial, fun h => (by rw [show upd L 7 true 6 = L 6 by simp [upd]] at h; rw [hd 6 (by simp)] at h; cases h), Px.put k rfl, hj.2.2.ext (fun _ h => h) (fun _ => hoth _ n12.symm) (by decide)⟩)
      · intro hl hw hd
        obtain ⟨kz⟩ : Kept (Blk w' rb2 #[.int .i64 0, .int .i64 0, .slice none 0 0, .int .i64 0, .int .i64 0, .slice none 0 0] 33) := ⟨hj.2.2.no hl⟩
        intros
        have e_ : V 1 = .agg #[.int .i64 r2, .int .i64 c2, .slice p2 x2.length m2, .int .i64 r3, .int .i64 c3, .slice p3 x3.length m3] := by assumption
        refine wpList_putX (by rfl) (by rfl) _ _ (by rfl) rb2 _ _ (by rfl) (by exact e_) kz (by kernel_rfl) (by rfl) (by simp [Value.oneCell']) (.inl ⟨by simp, k2.lt⟩) (fun w'' f k hoth hsz u => ⟨f, trivial, fun h => (by rw [show upd L 8 true 6 = L 6 by simp [upd]] at h; have a := (hj.1 h).2; rw [hd 7 (by simp)] at a; cases a), hj.2.1.ext (fun _ h => h) (fun _ => hoth _ n12) (by decide), Px.put k rfl⟩)
    case hB => kernel_rfl
    case fin =>
      intro V lo up w' hr L hj hL hf ha
      simp only [factsOk, isv, trV, anyV, modeNg, newb, List.map_nil, List.map_cons, List.headD_cons, and_true, Nat.zero_add, Nat.reduceAdd] at hf
      simp only [List.length_cons, List.length_nil, Nat.zero_add, Nat.reduceAdd, List.drop_succ_cons, List.drop_zero]
      obtain ⟨-, -, -, -, -, -, ⟨-, -, -, ra0, ca0, ra1, ca1, ra2, ca2, ra3, ca3, ra4, ca4, ra5, ca5, va0, va1, va2, va3, va4, va5, xa0, xa1, xa2, xa3, xa4, xa5, e6, gg, la⟩, -, -⟩ := hf
      clear ha
      rw [e6]
      clear e6
      obtain ⟨cs1, kb1, e5⟩ := hj.2.1.yes (hL 7 (by simp))
      subst e5
      obtain ⟨cs2, kb2, e5⟩ := hj.2.2.yes (hL 8 (by simp))
      subst e5
      obtain ⟨pa0, ma0, hu9, -, -⟩ := id gg.o0.ints
      try simp only at hu9
      subst hu9
      obtain ⟨pa1, ma1, hu9, -, -⟩ := id gg.o1.ints
      try simp only at hu9
      subst hu9
      obtain ⟨pa2, ma2, hu9, -, -⟩ := id gg.o2.ints
      try simp only at hu9
      subst hu9
      obtain ⟨pa3, ma3, hu9, -, -⟩ := id gg.o3.ints
      try simp only at hu9
      subst hu9
      obtain ⟨pa4, ma4, hu9, -, -⟩ := id gg.o4.ints
      try simp only at hu9
      subst hu9
      obtain ⟨pa5, ma5, hu9, -, -⟩ := id gg.o5.ints
      try simp only at hu9
      subst hu9
      have R2 := RR.out.grp hr gg hr1
      have R3 := (R2.join (cs := [.int .i64 r2, .int .i64 c2, .slice p2 x2.length m2, .int .i64 r3, .int .i64 c3, .slice p3 x3.length m3]) kb2 n21).join (cs := [.int .i64 r0, .int .i64 c0, .slice p0 x0.length m0, .int .i64 r1, .int .i64 c1, .slice p1 x1.length m1]) kb1 (by simp; exact d1)
      clear R2 RR hr gg kb1 kb2 hj
      simp only [List.cons_append, List.nil_append] at R3
      have S := Kept.mk R3.st
      clear R3
      go_wp2_with (first | (refine ldiS S.out ?_) | (refine ldI S.out ?_) | (refine stiS S.out ?_; clear S; intro w9 S) | (refine stiT S.out ?_; clear S; intro w9 S) | (refine wpList_want rfl rfl ?_; dsimp only) | fail)
      refine bodyPost_ret (v := .tuple #[.agg #[.int .i64 r0, .int .i64 c0, .slice p0 x0.length m0, .int .i64 r1, .int .i64 c1, .slice p1 x1.length m1], .agg #[.int .i64 r2, .int .i64 c2, .slice p2 x2.length m2, .int .i64 r3, .int .i64 c3, .slice p3 x3.length m3], .agg #[.int .i64 ra0, .int .i64 ca0, .slice pa0 xa0.length ma0, .int .i64 ra1, .int .i64 ca1, .slice pa1 xa1.length ma1, .int .i64 ra2, .int .i64 ca2, .slice pa2 xa2.length ma2, .int .i64 ra3, .int .i64 ca3, .slice pa3 xa3.length ma3, .int .i64 ra4, .int .i64 ca4, .slice pa4 xa4.length ma4, .int .i64 ra5, .int .i64 ca5, .slice pa5 xa5.length ma5]]) ?A rfl ⟨_, _, _, _, _, _, _, _, _, _, _, _, _, _, _, _, _, _, _, _, _, _, _, _, _, _, _, _, _, _, _, _, _, _, _, _, _, _, _, _, rfl, ⟨l0, l1, l2, l3, la⟩, ?B, S.out.ext⟩
      case A => exact res3 rfl (by exact (rsiS S.out)) (by exact (rsiS S.out)) (by exact (rsiT S.out))
      case B => exact S.out.grp.sel rfl [8, 9, 6, 7, 0, 1, 2, 3, 4, 5] (by decide) (by simp)
  · obtain ⟨n4, hn4⟩ : ∃ n4 : Nat, n4 = 1 + n3 % 5 := ⟨_, rfl⟩
    have sn4 : Side n4 := ⟨by omega, by omega⟩
    have q1 : wrap64 (1 + (n3 : Int) % 5) = (n4 : Int) := by unfold wrap64; omega
    have q2 : 1 + (n3 : Int) % 5 = (n4 : Int) := by omega
    clear hn4
    go_wp2_with (first | (refine aliS (L := []) S.out ?_; clear S; intro b9 w9 S) | (refine aliS (L := [_]) S.out ?_; clear S; intro b10 w9 S) | (refine ldiS S.out ?_) | (refine ldI S.out ?_) | (refine stiS S.out ?_; clear S; intro w9 S) | (refine wpList_want rfl rfl ?_; dsimp only) | fail)
    have RD := S.out.rdr
    obtain ⟨N1, N2, N3, N4⟩ := O.out.nestR hx1 hg S.out
    have R0 := Rst.start (show St none w _ [⟨b10, 33, [.int .i64 r2, .int .i64 c2, .slice p2 x2.length m2, .int .i64 r3, .int .i64 c3, .slice p3 x3.length m3]⟩, ⟨b9, 33, [.int .i64 r0, .int .i64 c0, .slice p0 x0.length m0, .int .i64 r1, .int .i64 c1, .slice p1 x1.length m1]⟩, ⟨rb3, 38, [.int .i64 0, .int .i64 0, .slice none 0 0, .int .i64 0, .int .i64 0, .slice none 0 0, .int .i64 0, .int .i64 0, .slice none 0 0, .int .i64 0, .int .i64 0, .slice none 0 0, .int .i64 0, .int .i64 0, .slice none 0 0, .int .i64 0, .int .i64 0, .slice none 0 0]⟩, ⟨rb2, 33, [.int .i64 0, .int .i64 0, .slice none 0 0, .int .i64 0, .int .i64 0, .slice none 0 0]⟩, ⟨rb1, 33, [.int .i64 0, .int .i64 0, .slice none 0 0, .int .i64 0, .int .i64 0, .slice none 0 0]⟩] [.slice p2 x2.length m2, .slice p3 x3.length m3, .slice p0 x0.length m0, .slice p1 x1.length m1] [x2, x3, x0, x1] from N1) N2 N3 N4
    clear N1 N2 N3 N4 S O
    obtain ⟨R1, k1, d1⟩ := R0.del (r := rb1) (T := 33) (cs := [.int .i64 0, .int .i64 0, .slice none 0 0, .int .i64 0, .int .i64 0, .slice none 0 0]) (by repeat constructor)
    clear R0
    obtain ⟨R2, k2, d2⟩ := R1.del (r := rb2) (T := 33) (cs := [.int .i64 0, .int .i64 0, .slice none 0 0, .int .i64 0, .int .i64 0, .slice none 0 0]) (by repeat constructor)
    have n21 : rb2 ∉ [g, rb1] := R1.box ⟨rb2, 33, [.int .i64 0, .int .i64 0, .slice none 0 0, .int .i64 0, .int .i64 0, .slice none 0 0]⟩ (by repeat constructor)
    clear R1
    have n12 : rb1 ≠ rb2 := fun e => n21 (by simp [e])
    have hr1 : ∀ q ∈ [g, rb2, rb1], q < u9.heap.size := fun q hq => by
      simp only [List.mem_cons, List.not_mem_nil, or_false] at hq
      rcases hq with e | e | e
      · rw [e]; exact RD.lt
      · rw [e]; exact k2.lt
      · rw [e]; exact k1.lt
    have RR := Kept.mk R2
    clear R2
    apply wp_region_zipV (XS.rel _ [g, rb2, rb1] []) (fun L _ w' => (L 6 = false → Rdr g 26007 w' ∧ L 7 = false) ∧ Px rb1 7 33 #[.int .i64 0, .int .i64 0, .slice none 0 0, .int .i64 0, .int .i64 0, .slice none 0 0] (fun _ cs => cs = #[.int .i64 r0, .int .i64 c0, .slice p0 x0.length m0, .int .i64 r1, .int .i64 c1, .slice p1 x1.length m1]) L w' ∧ Px rb2 8 33 #[.int .i64 0, .int .i64 0, .slice none 0 0, .int .i64 0, .int .i64 0, .slice none 0 0] (fun _ cs => cs = #[.int .i64 r2, .int .i64 c2, .slice p2 x2.length m2, .int .i64 r3, .int .i64 c3, .slice p3 x3.length m3]) L w') [isv _, isv _, isv _, isv _, isv _, isv _, trV (by decide), anyV, anyV] _ ?hJ (by kernel_rfl)
    case hJ => exact ⟨fun _ => ⟨(RD.keep ⟨rfl, rfl, rfl, Nat.le_refl _, fun _ _ => rfl⟩).mono (by omega) ⟨by omega⟩, rfl⟩, ⟨fun _ => k1.keep ⟨rfl, rfl, rfl, Nat.le_refl _, fun _ _ => rfl⟩, fun h => (by cases h)⟩, ⟨fun _ => k2.keep ⟨rfl, rfl, rfl, Nat.le_refl _, fun _ _ => rfl⟩, fun h => (by cases h)⟩⟩
    case hA => intro V; simp [putAll, dstOf, Act.put]; exact rfl
    case hsl => intro V; exact rfl
    case step =>
      intro V lo up w' hr L hj
      have S := Kept.mk (RR.out.xs hr).st
      simp only [zipOkV, depsImp, isv, trV, anyV, modeNg, newb, waits, Region.binds, List.map_nil, List.map_cons, List.headD_cons, List.nil_append, List.cons_append, List.filterMap_cons, List.filterMap_nil, ↓reduceIte, modeNe, Bool.false_eq_true, true_implies, List.getD_cons_zero, List.getD_cons_succ, and_true, Nat.zero_add, Nat.reduceAdd]
      refine ⟨?_, ?_, ?_, ?_, ?_, ?_, ?_, ?_, ?_⟩
      · intro hl hw hd
        intros
        (try simp only [*])
        go_wp2_with (first | (refine ldiS S.out ?_) | (refine ldI S.out ?_) | (refine wpList_want rfl rfl ?_; dsimp only) | fail)
        refine stepS_mk rfl (by simp only [List.getElem?_toArray, List.getElem?_cons_succ, List.getElem?_cons_zero]; exact rfl) ?_
        exact ⟨XS.refl _, rfl, ⟨fun h => ⟨(hj.1 (by simpa [upd] using h)).1, by simpa [upd] using (hj.1 (by simpa [upd] using h)).2⟩, hj.2.1.ext (fun _ h => h) (fun _ => rfl) (by decide), hj.2.2.ext (fun _ h => h) (fun _ => rfl) (by decide)⟩⟩
      · intro hl hw hd
        intros
        (try simp only [*])
        go_wp2_with (first | (refine ldiS S.out ?_) | (refine ldI S.out ?_) | (refine wpList_want rfl rfl ?_; dsimp only) | fail)
        refine stepS_mk rfl (by simp only [List.getElem?_toArray, List.getElem?_cons_succ, List.getElem?_cons_zero]; exact rfl) ?_
        exact ⟨XS.refl _, rfl, ⟨fun h => ⟨(hj.1 (by simpa [upd] using h)).1, by simpa [upd] using (hj.1 (by simpa [upd] using h)).2⟩, hj.2.1.ext (fun _ h => h) (fun _ => rfl) (by decide), hj.2.2.ext (fun _ h => h) (fun _ => rfl) (by decide)⟩⟩
      · intro hl hw hd
        intros
        (try simp only [*])
        go_wp2_with (first | (refine ldiS S.out ?_) | (refine ldI S.out ?_) | (refine wpList_want rfl rfl ?_; dsimp only) | fail)
        refine stepS_mk rfl (by simp only [List.getElem?_toArray, List.getElem?_cons_succ, List.getElem?_cons_zero]; exact rfl) ?_
        exact ⟨XS.refl _, rfl, ⟨fun h => ⟨(hj.1 (by simpa [upd] using h)).1, by simpa [upd] using (hj.1 (by simpa [upd] using h)).2⟩, hj.2.1.ext (fun _ h => h) (fun _ => rfl) (by decide), hj.2.2.ext (fun _ h => h) (fun _ => rfl) (by decide)⟩⟩
      · intro hl hw hd
        intros
        (try simp only [*])
        go_wp2_with (first | (refine ldiS S.out ?_) | (refine ldI S.out ?_) | (refine wpList_want rfl rfl ?_; dsimp only) | fail)
        refine stepS_mk rfl (by simp only [List.getElem?_toArray, List.getElem?_cons_succ, List.getElem?_cons_zero]; exact rfl) ?_
        exact ⟨XS.refl _, rfl, ⟨fun h => ⟨(hj.1 (by simpa [upd] using h)).1, by simpa [upd] using (hj.1 (by simpa [upd] using h)).2⟩, hj.2.1.ext (fun _ h => h) (fun _ => rfl) (by decide), hj.2.2.ext (fun _ h => h) (fun _ => rfl) (by decide)⟩⟩
      · intro hl hw hd
        intros
        (try simp only [*])
        go_wp2_with (first | (refine ldiS S.out ?_) | (refine ldI S.out ?_) | (refine wpList_want rfl rfl ?_; dsimp only) | fail)
        refine stepS_mk rfl (by simp only [List.getElem?_toArray, List.getElem?_cons_succ, List.getElem?_cons_zero]; exact rfl) ?_
        exact ⟨XS.refl _, rfl, ⟨fun h => ⟨(hj.1 (by simpa [upd] using h)).1, by simpa [upd] using (hj.1 (by simpa [upd] using h)).2⟩, hj.2.1.ext (fun _ h => h) (fun _ => rfl) (by decide), hj.2.2.ext (fun _ h => h) (fun _ => rfl) (by decide)⟩⟩
      · intro hl hw hd
        intros
        (try simp only [*])
        go_wp2_with (first | (refine ldiS S.out ?_) | (refine ldI S.out ?_) | (refine wpList_want rfl rfl ?_; dsimp only) | fail)
        refine stepS_mk rfl (by simp only [List.getElem?_toArray, List.getElem?_cons_succ, List.getElem?_cons_zero]; exact rfl) ?_
        exact ⟨XS.refl _, rfl, ⟨fun h => ⟨(hj.1 (by simpa [upd] using h)).1, by simpa [upd] using (hj.1 (by simpa [upd] using h)).2⟩, hj.2.1.ext (fun _ h => h) (fun _ => rfl) (by decide), hj.2.2.ext (fun _ h => h) (fun _ => rfl) (by decide)⟩⟩
      · intro hl hw hd
        intros
        (try simp only [*])
        go_wp2_with (fail)
        (with_reducible refine (tri20M g _ n1 n2 n4 14 sn1 sn2 sn4 ⟨by omega, by omega⟩ (HP.le (by omega)) _ (hj.1 hl).1).mono ?_)
        rintro e w8 ⟨v8, rfl, ⟨ra0, ca0, ra1, ca1, ra2, ca2, ra3, ca3, ra4, ca4, ra5, ca5, va0, va1, va2, va3, va4, va5, xa0, xa1, xa2, xa3, xa4, xa5, rfl, gg, la⟩, hr8, hm8⟩
        go_wp2
        refine stepS_mk rfl (by simp only [List.getElem?_toArray, List.getElem?_cons_succ, List.getElem?_cons_zero]; exact rfl) ?_
        exact ⟨XS.of_mod hm8 (by simp) RD.lt, ⟨ra0, ca0, ra1, ca1, ra2, ca2, ra3, ca3, ra4, ca4, ra5, ca5, va0, va1, va2, va3, va4, va5, xa0, xa1, xa2, xa3, xa4, xa5, rfl, gg.mono hr.size, la⟩, fun h => (by simp [upd] at h), hj.2.1.mod hm8 d1 (fun _ h => h) (by decide), hj.2.2.mod hm8 d2 (fun _ h => h) (by decide)⟩
      · intro hl hw hd
        obtain ⟨kz⟩ : Kept (Blk w' rb1 #[.int .i64 0, .int .i64 0, .slice none 0 0, .int .i64 0, .int .i64 0, .slice none 0 0] 33) := ⟨hj.2.1.no hl⟩
        intros
        have e_ : V 0 = .agg #[.int .i64 r0, .int .i64 c0, .slice p0 x0.length m0, .int .i64 r1, .int .i64 c1, .slice p1 x1.length m1] := by assumption
        refine wpList_putX (by rfl) (by rfl) _ _ (by rfl) rb1 _ _ (by rfl) (by exact e_) kz (by kernel_rfl) (by rfl) (by simp [Value.oneCell']) (.inl ⟨by simp, k1.lt⟩) (fun w'' f k hoth hsz u => ⟨f, trivial, fun h => (by rw [show upd L 7 true 6 = L 6 by simp [upd]] at h; rw [hd 6 (by simp)] at h; cases h), Px.put k rfl, hj.2.2.ext (fun _ h => h) (fun _ => hoth _ n12.symm) (by decide)⟩)
      · intro hl hw hd
        obtain ⟨kz⟩ : Kept (Blk w' rb2 #[.int .i64 0, .int .i64 0, .slice none 0 0, .int .i64 0, .int .i64 0, .slice none 0 0] 33) := ⟨hj.2.2.no hl⟩
        intros
        have e_ : V 1 = .agg #[.int .i64 r2, .int .i64 c2, .slice p2 x2.length m2, .int .i64 r3, .int .i64 c3, .slice p3 x3.length m3] := by assumption
        refine wpList_putX (by rfl) (by rfl) _ _ (by rfl) rb2 _ _ (by rfl) (by exact e_) kz (by kernel_rfl) (by rfl) (by simp [Value.oneCell']) (.inl ⟨by simp, k2.lt⟩) (fun w'' f k hoth hsz u => ⟨f, trivial, fun h => (by rw [show upd L 8 true 6 = L 6 by simp [upd]] at h; have a := (hj.1 h).2; rw [hd 7 (by simp)] at a; cases a), hj.2.1.ext (fun _ h => h) (fun _ => hoth _ n12) (by decide), Px.put k rfl⟩)
    case hB => kernel_rfl
    case fin =>
      intro V lo up w' hr L hj hL hf ha
      simp only [factsOk, isv, trV, anyV, modeNg, newb, List.map_nil, List.map_cons, List.headD_cons, and_true, Nat.zero_add, Nat.reduceAdd] at hf
      simp only [List.length_cons, List.length_nil, Nat.zero_add, Nat.reduceAdd, List.drop_succ_cons, List.drop_zero]
      obtain ⟨-, -, -, -, -, -, ⟨-, -, -, ra0, ca0, ra1, ca1, ra2, ca2, ra3, ca3, ra4, ca4, ra5, ca5, va0, va1, va2, va3, va4, va5, xa0, xa1, xa2, xa3, xa4, xa5, e6, gg, la⟩, -, -⟩ := hf
      clear ha
      rw [e6]
      clear e6
      obtain ⟨cs1, kb1, e5⟩ := hj.2.1.yes (hL 7 (by simp))
      subst e5
      obtain ⟨cs2, kb2, e5⟩ := hj.2.2.yes (hL 8 (by simp))
      subst e5
      obtain ⟨pa0, ma0, hu9, -, -⟩ := id gg.o0.ints
      try simp only at hu9
      subst hu9
      obtain ⟨pa1, ma1, hu9, -, -⟩ := id gg.o1.ints
      try simp only at hu9
      subst hu9
      obtain ⟨pa2, ma2, hu9, -, -⟩ := id gg.o2.ints
      try simp only at hu9
      subst hu9
      obtain ⟨pa3, ma3, hu9, -, -⟩ := id gg.o3.ints
      try simp only at hu9
      subst hu9
      obtain ⟨pa4, ma4, hu9, -, -⟩ := id gg.o4.ints
      try simp only at hu9
      subst hu9
      obtain ⟨pa5, ma5, hu9, -, -⟩ := id gg.o5.ints
      try simp only at hu9
      subst hu9
      have R2 := RR.out.grp hr gg hr1
      have R3 := (R2.join (cs := [.int .i64 r2, .int .i64 c2, .slice p2 x2.length m2, .int .i64 r3, .int .i64 c3, .slice p3 x3.length m3]) kb2 n21).join (cs := [.int .i64 r0, .int .i64 c0, .slice p0 x0.length m0, .int .i64 r1, .int .i64 c1, .slice p1 x1.length m1]) kb1 (by simp; exact d1)
      clear R2 RR hr gg kb1 kb2 hj
      simp only [List.cons_append, List.nil_append] at R3
      have S := Kept.mk R3.st
      clear R3
      go_wp2_with (first | (refine ldiS S.out ?_) | (refine ldI S.out ?_) | (refine stiS S.out ?_; clear S; intro w9 S) | (refine stiT S.out ?_; clear S; intro w9 S) | (refine wpList_want rfl rfl ?_; dsimp only) | fail)
      refine bodyPost_ret (v := .tuple #[.agg #[.int .i64 r0, .int .i64 c0, .slice p0 x0.length m0, .int .i64 r1, .int .i64 c1, .slice p1 x1.length m1], .agg #[.int .i64 r2, .int .i64 c2, .slice p2 x2.length m2, .int .i64 r3, .int .i64 c3, .slice p3 x3.length m3], .agg #[.int .i64 ra0, .int .i64 ca0, .slice pa0 xa0.length ma0, .int .i64 ra1, .int .i64 ca1, .slice pa1 xa1.length ma1, .int .i64 ra2, .int .i64 ca2, .slice pa2 xa2.length ma2, .int .i64 ra3, .int .i64 ca3, .slice pa3 xa3.length ma3, .int .i64 ra4, .int .i64 ca4, .slice pa4 xa4.length ma4, .int .i64 ra5, .int .i64 ca5, .slice pa5 xa5.length ma5]]) ?A rfl ⟨_, _, _, _, _, _, _, _, _, _, _, _, _, _, _, _, _, _, _, _, _, _, _, _, _, _, _, _, _, _, _, _, _, _, _, _, _, _, _, _, rfl, ⟨l0, l1, l2, l3, la⟩, ?B, S.out.ext⟩
      case A => exact res3 rfl (by exact (rsiS S.out)) (by exact (rsiS S.out)) (by exact (rsiT S.out))
      case B => exact S.out.grp.sel rfl [8, 9, 6, 7, 0, 1, 2, 3, 4, 5] (by decide) (by simp)
end Go.Proofs.Ytkkdikoknegpjaa
