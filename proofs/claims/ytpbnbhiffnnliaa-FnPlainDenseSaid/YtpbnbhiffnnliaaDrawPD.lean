/- What DrawPlainDense returns. -/
import Derived.Test.YtpbnbhiffnnliaaMatD
import Derived.Test.YtpbnbhiffnnliaaRgnV
namespace Go.Proofs.Ytpbnbhiffnnliaa
set_option linter.unusedSimpArgs false
set_option linter.unusedVariables false
open Go.RowKit
/-- A new matrix, its list from n0 on. -/
def mtV {n0 m : Nat} {rs : List Nat} {Ts : List TypeId} (hT : 3 ∉ Ts) : OpSpec (XS n0 rs Ts) m :=
  ⟨[], fun _ u _ _ w => IsMat n0 w u, fun _ _ _ _ _ _ _ _ _ hx ⟨r, c, v, xs, h1, h2, h3⟩ => ⟨r, c, v, xs, h1, h2.xs hx (Nat.le_refl _) hT, h3⟩⟩
def IsSd' (u : Value) : Prop := ∃ n : Nat, u = .int .i64 n ∧ Sd n
theorem one3 (x : Nat) (h : (x : Int) < 3) : ∃ n : Nat, wrap64 (1 + (x : Int)) = (n : Int) ∧ 1 + (x : Int) = (n : Int) ∧ wrap64 (n : Int) = (n : Int) ∧ Sd n :=
  ⟨x + 1, by unfold wrap64; omega, by omega, by unfold wrap64; omega, by omega, by omega⟩
/-- Nothing is asked. -/
def anyW {X : World → World → Prop} {m : Nat} : OpSpec X m := ⟨[], fun _ _ _ _ _ => True, fun _ _ _ _ _ _ _ _ _ _ h => h⟩

set_option maxHeartbeats 4000000 in
set_option maxRecDepth 4000 in
theorem spec_DrawPlainDense (v : Value) (w : World) (hb : Bytes w v) : Calls Try.prog 6 #[v] w fun e w' => ∃ (r0 c0 r1 c1 r2 c2 : Int) (v0 v1 v2 : Value) (x0 x1 x2 : List Int), e = .returned (.tuple #[.agg #[.int .i64 r0, .int .i64 c0, v0], .agg #[.int .i64 r1, .int .i64 c1, v1], .agg #[.int .i64 r2, .int .i64 c2, v2]]) ∧
    (x0.length ≤ 1048576 ∧ x1.length ≤ 1048576 ∧ x2.length ≤ 1048576) ∧ Grp w.heap.size w' [v0, v1, v2] [x0, x1, x2] ∧ Ext w w' := by
  have S := Kept.mk (St.start w)
  have HP : Room 30000 := ⟨by omega⟩
  go_enter Try.func6, Try.ntmps6
  go_wp2_with (first | (refine aliM (L := []) S.out ?_; clear S; intro rb1 w9 S) | (refine aliM (L := [_]) S.out ?_; clear S; intro rb2 w9 S) | (refine aliM (L := [_, _]) S.out ?_; clear S; intro rb3 w9 S) | (refine ldiM S.out ?_) | (refine ldI S.out ?_) | (refine stiM S.out ?_; clear S; intro w9 S) | (refine wpList_want rfl rfl ?_; dsimp only) | fail)
  (with_reducible refine (open' _ _ (hb.ext S.out.ext)).mono ?_)
  rintro e w1 ⟨g, rfl, hg, hr1, hx1⟩
  have O := S
  replace S := Kept.mk (St.startR hr1)
  clear hr1
  go_wp2_with (first | (refine aliM (L := []) S.out ?_; clear S; intro b8 w9 S) | (refine aliM (L := [_]) S.out ?_; clear S; intro b9 w9 S) | (refine ldiM S.out ?_) | (refine ldI S.out ?_) | (refine stiM S.out ?_; clear S; intro w9 S) | (refine wpList_want rfl rfl ?_; dsimp only) | fail)
  (with_reducible refine (pick g _ 3 (HP.le (by omega)) _ S.out.rdr).mono ?_)
  rintro e u9 ⟨v7, rfl, ⟨y1, rfl, h1, -⟩, hr7, hm7⟩
  replace S := Kept.mk (S.out.read hr7 hm7)
  clear hr7 hm7
  have l1 : (y1 : Int) < 3 := h1 (by omega)
  clear h1
  obtain ⟨R, hR⟩ : ∃ n : Nat, n = y1 + 1 := ⟨_, rfl⟩
  have sR : Sd R := ⟨by omega, by omega⟩
  have tR : R ≤ 3 := by omega
  have q1 : wrap64 (1 + (y1 : Int)) = (R : Int) := by unfold wrap64; omega
  have p1 : 1 + (y1 : Int) = (R : Int) := by omega
  clear hR
  go_wp2_with (first | (refine aliM (L := []) S.out ?_; clear S; intro b8 w9 S) | (refine aliM (L := [_]) S.out ?_; clear S; intro b9 w9 S) | (refine ldiM S.out ?_) | (refine ldI S.out ?_) | (refine stiM S.out ?_; clear S; intro w9 S) | (refine wpList_want rfl rfl ?_; dsimp only) | fail)
  (with_reducible refine (pick g _ 3 (HP.le (by omega)) _ S.out.rdr).mono ?_)
  rintro e u9 ⟨v7, rfl, ⟨y2, rfl, h2, -⟩, hr7, hm7⟩
  replace S := Kept.mk (S.out.read hr7 hm7)
  clear hr7 hm7
  have l2 : (y2 : Int) < 3 := h2 (by omega)
  clear h2
  obtain ⟨K, hK⟩ : ∃ n : Nat, n = y2 + 1 := ⟨_, rfl⟩
  have sK : Sd K := ⟨by omega, by omega⟩
  have tK : K ≤ 3 := by omega
  have q2 : wrap64 (1 + (y2 : Int)) = (K : Int) := by unfold wrap64; omega
  have p2 : 1 + (y2 : Int) = (K : Int) := by omega
  clear hK
  go_wp2_with (first | (refine aliM (L := []) S.out ?_; clear S; intro b8 w9 S) | (refine aliM (L := [_]) S.out ?_; clear S; intro b9 w9 S) | (refine ldiM S.out ?_) | (refine ldI S.out ?_) | (refine stiM S.out ?_; clear S; intro w9 S) | (refine wpList_want rfl rfl ?_; dsimp only) | fail)
  (with_reducible refine (mat20 g _ R K 14 sR sK ⟨by omega, by omega⟩ (HP.le (by omega)) _ S.out.rdr).mono ?_)
  rintro e u9 ⟨v7, rfl, ⟨r0, c0, v0, x0, rfl, o0, l0⟩, hr7, hm7⟩
  replace S := Kept.mk (S.out.madeR o0 hr7 hm7)
  clear hr7 hm7
  obtain ⟨p0, m0, hu9, -, -⟩ := id o0.ints
  try simp only at hu9
  subst hu9
  clear o0
  go_wp2_with (first | (refine aliM (L := []) S.out ?_; clear S; intro b8 w9 S) | (refine aliM (L := [_]) S.out ?_; clear S; intro b9 w9 S) | (refine ldiM S.out ?_) | (refine ldI S.out ?_) | (refine stiM S.out ?_; clear S; intro w9 S) | (refine wpList_want rfl rfl ?_; dsimp only) | fail)
  (with_reducible refine ((show Calls Try.prog 22 #[.pointer (some ⟨g, 0, none⟩), .int .i64 R, .int .i64 1, .int .i64 14] _ _ from mat20 g _ R 1 14 sR ⟨by omega, by omega⟩ ⟨by omega, by omega⟩ (HP.le (by omega)) _ S.out.rdr)).mono ?_)
  rintro e u9 ⟨v7, rfl, ⟨r1, c1, v1, x1, rfl, o1, l1⟩, hr7, hm7⟩
  replace S := Kept.mk (S.out.madeR o1 hr7 hm7)
  clear hr7 hm7
  obtain ⟨p1, m1, hu9, -, -⟩ := id o1.ints
  try simp only at hu9
  subst hu9
  clear o1
  go_wp2_with (first | (refine aliM (L := []) S.out ?_; clear S; intro b8 w9 S) | (refine aliM (L := [_]) S.out ?_; clear S; intro b9 w9 S) | (refine ldiM S.out ?_) | (refine ldI S.out ?_) | (refine stiM S.out ?_; clear S; intro w9 S) | (refine wpList_want rfl rfl ?_; dsimp only) | fail)
  (with_reducible refine (odd g _ 14 ⟨by omega, by omega⟩ (HP.le (by omega)) _ S.out.rdr).mono ?_)
  rintro e u9 ⟨v7, rfl, ⟨b7, rfl⟩, hr7, hm7⟩
  replace S := Kept.mk (S.out.read hr7 hm7)
  clear hr7 hm7
  cases b7
  · go_wp2_with (first | (refine aliM (L := []) S.out ?_; clear S; intro b8 w9 S) | (refine aliM (L := [_]) S.out ?_; clear S; intro b9 w9 S) | (refine ldiM S.out ?_) | (refine ldI S.out ?_) | (refine stiM S.out ?_; clear S; intro w9 S) | (refine wpList_want rfl rfl ?_; dsimp only) | fail)
    have RD := S.out.rdr
    obtain ⟨N1, N2, N3, N4⟩ := O.out.nestR hx1 hg S.out
    have R0 := Rst.start (show St none w _ [⟨b9, 25, [.int .i64 r1, .int .i64 c1, .slice p1 x1.length m1]⟩, ⟨b8, 25, [.int .i64 r0, .int .i64 c0, .slice p0 x0.length m0]⟩, ⟨rb3, 25, [.int .i64 0, .int .i64 0, .slice none 0 0]⟩, ⟨rb2, 25, [.int .i64 0, .int .i64 0, .slice none 0 0]⟩, ⟨rb1, 25, [.int .i64 0, .int .i64 0, .slice none 0 0]⟩] [.slice p1 x1.length m1, .slice p0 x0.length m0] [x1, x0] from N1) N2 N3 N4
    clear N1 N2 N3 N4 S O
    obtain ⟨R1, k1, d1⟩ := R0.del (r := rb1) (T := 25) (cs := [.int .i64 0, .int .i64 0, .slice none 0 0]) (by repeat constructor)
    have d12 : rb1 ≠ rb2 := fun e => by
      have h := R0.st.dis
      subst e
      simp at h
    clear R0
    obtain ⟨R2, k2, d2⟩ := R1.del (r := rb2) (T := 25) (cs := [.int .i64 0, .int .i64 0, .slice none 0 0]) (by repeat constructor)
    clear R1
    have hr1 : ∀ q ∈ [g, rb2, rb1], q < u9.heap.size := fun q hq => by
      simp only [List.mem_cons, List.not_mem_nil, or_false] at hq
      rcases hq with rfl | rfl | rfl
      · exact RD.lt
      · exact k2.lt
      · exact k1.lt
    have RR := Kept.mk R2
    clear R2
    apply wp_region_zipV (XS.rel _ [g, rb2, rb1] []) (fun L _ w' => (L 8 = true → L 7 = true) ∧ ((L 5 = false → L 7 = false → Rdr g 12003 w') ∧ (L 5 = true → L 7 = false → Rdr g 12004 w')) ∧ Px rb1 8 25 #[.int .i64 0, .int .i64 0, .slice none 0 0] (fun _ cs => cs = #[.int .i64 r0, .int .i64 c0, .slice p0 x0.length m0]) L w' ∧ Px rb2 9 25 #[.int .i64 0, .int .i64 0, .slice none 0 0] (fun _ cs => cs = #[.int .i64 r1, .int .i64 c1, .slice p1 x1.length m1]) L w') [isv _, isv _, isv _, isv _, isv _, isP (Lt 3), isP IsSd', mtV (by decide), anyW, anyW] _ ?hJ (by kernel_rfl)
    case hJ => exact ⟨fun h => (by cases h), ⟨fun _ _ => (RD.keep ⟨rfl, rfl, rfl, Nat.le_refl _, fun _ _ => rfl⟩).mono (by omega) ⟨by omega⟩, fun h => (by cases h)⟩, ⟨fun _ => k1.keep ⟨rfl, rfl, rfl, Nat.le_refl _, fun _ _ => rfl⟩, fun h => (by cases h)⟩, fun _ => k2.keep ⟨rfl, rfl, rfl, Nat.le_refl _, fun _ _ => rfl⟩, fun h => (by cases h)⟩
    case hA => intro V; simp [putAll, dstOf, Act.put]; exact rfl
    case hsl => intro V; exact rfl
    case step =>
      intro V lo up w' hr L hj
      have S := Kept.mk (RR.out.xs hr).st
      simp only [zipOkV, depsImp, isv, mtV, anyW, isP, modeNg, newb, waits, Region.binds, List.map_nil, List.map_cons, List.headD_cons, List.nil_append, List.cons_append, List.filterMap_cons, List.filterMap_nil, ↓reduceIte, modeNe, Bool.false_eq_true, true_implies, List.getD_cons_zero, List.getD_cons_succ, and_true, Nat.zero_add, Nat.reduceAdd]
      refine ⟨?_, ?_, ?_, ?_, ?_, ?_, ?_, ?_, ?_, ?_⟩
      · intro hl hw hd
        intros
        (try simp only [*])
        go_wp2_with (first | (refine ldiM S.out ?_) | (refine ldI S.out ?_) | (refine wpList_want rfl rfl ?_; dsimp only) | fail)
        refine stepS_mk rfl (by simp only [List.getElem?_toArray, List.getElem?_cons_succ, List.getElem?_cons_zero]; exact rfl) ?_
        exact ⟨XS.refl _, rfl, ⟨fun h => (by rw [show upd L 0 true 7 = L 7 by simp [upd]]; exact hj.1 (by simpa [upd] using h)), ⟨fun h k => hj.2.1.1 (by simpa [upd] using h) (by simpa [upd] using k), fun h k => hj.2.1.2 (by simpa [upd] using h) (by simpa [upd] using k)⟩, hj.2.2.1.ext (fun _ h => h) (fun _ => rfl) (by decide), hj.2.2.2.ext (fun _ h => h) (fun _ => rfl) (by decide)⟩⟩
      · intro hl hw hd
        intros
        (try simp only [*])
        go_wp2_with (first | (refine ldiM S.out ?_) | (refine ldI S.out ?_) | (refine wpList_want rfl rfl ?_; dsimp only) | fail)
        refine stepS_mk rfl (by simp only [List.getElem?_toArray, List.getElem?_cons_succ, List.getElem?_cons_zero]; exact rfl) ?_
        exact ⟨XS.refl _, rfl, ⟨fun h => (by rw [show upd L 1 true 7 = L 7 by simp [upd]]; exact hj.1 (by simpa [upd] using h)), ⟨fun h k => hj.2.1.1 (by simpa [upd] using h) (by simpa [upd] using k), fun h k => hj.2.1.2 (by simpa [upd] using h) (by simpa [upd] using k)⟩, hj.2.2.1.ext (fun _ h => h) (fun _ => rfl) (by decide), hj.2.2.2.ext (fun _ h => h) (fun _ => rfl) (by decide)⟩⟩
      · intro hl hw hd
        intros
        (try simp only [*])
        go_wp2_with (first | (refine ldiM S.out ?_) | (refine ldI S.out ?_) | (refine wpList_want rfl rfl ?_; dsimp only) | fail)
        refine stepS_mk rfl (by simp only [List.getElem?_toArray, List.getElem?_cons_succ, List.getElem?_cons_zero]; exact rfl) ?_
        exact ⟨XS.refl _, rfl, ⟨fun h => (by rw [show upd L 2 true 7 = L 7 by simp [upd]]; exact hj.1 (by simpa [upd] using h)), ⟨fun h k => hj.2.1.1 (by simpa [upd] using h) (by simpa [upd] using k), fun h k => hj.2.1.2 (by simpa [upd] using h) (by simpa [upd] using k)⟩, hj.2.2.1.ext (fun _ h => h) (fun _ => rfl) (by decide), hj.2.2.2.ext (fun _ h => h) (fun _ => rfl) (by decide)⟩⟩
      · intro hl hw hd
        intros
        (try simp only [*])
        go_wp2_with (first | (refine ldiM S.out ?_) | (refine ldI S.out ?_) | (refine wpList_want rfl rfl ?_; dsimp only) | fail)
        refine stepS_mk rfl (by simp only [List.getElem?_toArray, List.getElem?_cons_succ, List.getElem?_cons_zero]; exact rfl) ?_
        exact ⟨XS.refl _, rfl, ⟨fun h => (by rw [show upd L 3 true 7 = L 7 by simp [upd]]; exact hj.1 (by simpa [upd] using h)), ⟨fun h k => hj.2.1.1 (by simpa [upd] using h) (by simpa [upd] using k), fun h k => hj.2.1.2 (by simpa [upd] using h) (by simpa [upd] using k)⟩, hj.2.2.1.ext (fun _ h => h) (fun _ => rfl) (by decide), hj.2.2.2.ext (fun _ h => h) (fun _ => rfl) (by decide)⟩⟩
      · intro hl hw hd
        intros
        (try simp only [*])
        go_wp2_with (first | (refine ldiM S.out ?_) | (refine ldI S.out ?_) | (refine wpList_want rfl rfl ?_; dsimp only) | fail)
        refine stepS_mk rfl (by simp only [List.getElem?_toArray, List.getElem?_cons_succ, List.getElem?_cons_zero]; exact rfl) ?_
        exact ⟨XS.refl _, rfl, ⟨fun h => (by rw [show upd L 4 true 7 = L 7 by simp [upd]]; exact hj.1 (by simpa [upd] using h)), ⟨fun h k => hj.2.1.1 (by simpa [upd] using h) (by simpa [upd] using k), fun h k => hj.2.1.2 (by simpa [upd] using h) (by simpa [upd] using k)⟩, hj.2.2.1.ext (fun _ h => h) (fun _ => rfl) (by decide), hj.2.2.2.ext (fun _ h => h) (fun _ => rfl) (by decide)⟩⟩
      · intro hl hw hd
        have l7 := hw 7 _ rfl (by simp [waits, Region.binds])
        intros
        (try simp only [*])
        go_wp2_with (fail)
        (with_reducible refine (pick g _ 3 (HP.le (by omega)) _ (hj.2.1.1 hl l7)).mono ?_)
        rintro e w8 ⟨v8, rfl, ⟨x, rfl, hx, -⟩, hr8, hm8⟩
        go_wp2
        refine stepS_mk rfl (by simp only [List.getElem?_toArray, List.getElem?_cons_succ, List.getElem?_cons_zero]; exact rfl) ?_
        exact ⟨XS.of_mod hm8 (by simp) RD.lt, ⟨x, rfl, hx (by omega)⟩, fun h => (by rw [show upd L 5 true 7 = L 7 by simp [upd]]; exact hj.1 (by simpa [upd] using h)), ⟨fun h => (by simp [upd] at h), fun _ _ => hr8⟩, hj.2.2.1.mod hm8 d1 (fun _ h => h) (by decide), hj.2.2.2.mod hm8 d2 (fun _ h => h) (by decide)⟩
      · intro hl hw hd
        intros
        obtain ⟨x, e5, lx⟩ := ‹∃ x : Nat, V 5 = .int .i64 x ∧ (x : Int) < 3›
        obtain ⟨n9, q9, p9, z9, s9⟩ := one3 x lx
        clear lx
        (try simp only [e5])
        go_wp2_with (first | (refine ldiM S.out ?_) | (refine ldI S.out ?_) | (refine wpList_want rfl rfl ?_; dsimp only) | fail)
        refine stepS_mk rfl (by simp only [List.getElem?_toArray, List.getElem?_cons_succ, List.getElem?_cons_zero]; exact rfl) ?_
        exact ⟨XS.refl _, ⟨n9, by first | rfl | rw [z9] | rw [q9], s9⟩, ⟨fun h => (by rw [show upd L 6 true 7 = L 7 by simp [upd]]; exact hj.1 (by simpa [upd] using h)), ⟨fun h k => hj.2.1.1 (by simpa [upd] using h) (by simpa [upd] using k), fun h k => hj.2.1.2 (by simpa [upd] using h) (by simpa [upd] using k)⟩, hj.2.2.1.ext (fun _ h => h) (fun _ => rfl) (by decide), hj.2.2.2.ext (fun _ h => h) (fun _ => rfl) (by decide)⟩⟩
      · intro hl hw hd
        have l5 := hd 5 (by simp)
        intros
        obtain ⟨n3, e6, sn3⟩ := ‹IsSd' (V 6)›
        (try simp only [*])
        go_wp2_with (fail)
        (with_reducible refine (mat20 g _ K n3 14 sK sn3 ⟨by omega, by omega⟩ (HP.le (by omega)) _ (hj.2.1.2 l5 hl)).mono ?_)
        rintro e w8 ⟨v8, rfl, ⟨ra, ca, va, xa, rfl, oa, la⟩, hr8, hm8⟩
        go_wp2
        refine stepS_mk rfl (by simp only [List.getElem?_toArray, List.getElem?_cons_succ, List.getElem?_cons_zero]; exact rfl) ?_
        exact ⟨XS.of_mod hm8 (by simp) RD.lt, ⟨ra, ca, va, xa, rfl, oa.mono hr.size, la⟩, fun _ => (by simp [upd]), ⟨fun _ h => (by simp [upd] at h), fun _ h => (by simp [upd] at h)⟩, hj.2.2.1.mod hm8 d1 (fun _ h => h) (by decide), hj.2.2.2.mod hm8 d2 (fun _ h => h) (by decide)⟩
      · intro hl hw hd
        have l7 := hd 7 (by simp)
        intros
        have e0 := ‹V 0 = _›
        exact wpList_putX rfl rfl _ _ rfl rb1 _ _ rfl e0 (hj.2.2.1.no hl) (by kernel_rfl) rfl (by simp [Value.oneCell']) (.inl ⟨by simp, k1.lt⟩) (fun w'' f k hoth hsz u => ⟨f, trivial, fun _ => (by rw [show upd L 8 true 7 = L 7 by simp [upd]]; exact l7), ⟨fun _ h => (by rw [show upd L 8 true 7 = L 7 by simp [upd], l7] at h; cases h), fun _ h => (by rw [show upd L 8 true 7 = L 7 by simp [upd], l7] at h; cases h)⟩, Px.put k rfl, hj.2.2.2.ext (fun _ h => h) (fun _ => hoth rb2 d12.symm) (by decide)⟩)
      · intro hl hw hd
        have l7 := hj.1 (hd 8 (by simp))
        intros
        have e1 := ‹V 1 = _›
        exact wpList_putX rfl rfl _ _ rfl rb2 _ _ rfl e1 (hj.2.2.2.no hl) (by kernel_rfl) rfl (by simp [Value.oneCell']) (.inl ⟨by simp, k2.lt⟩) (fun w'' f k hoth hsz u => ⟨f, trivial, fun h => (by rw [show upd L 9 true 7 = L 7 by simp [upd]]; exact hj.1 (by simpa [upd] using h)), ⟨fun _ h => (by rw [show upd L 9 true 7 = L 7 by simp [upd], l7] at h; cases h), fun _ h => (by rw [show upd L 9 true 7 = L 7 by simp [upd], l7] at h; cases h)⟩, hj.2.2.1.ext (fun _ h => h) (fun _ => hoth rb1 d12) (by decide), Px.put k rfl⟩)
    case hB => kernel_rfl
    case fin =>
      intro V lo up w' hr L hj hL hf ha
      simp only [factsOk, isv, mtV, anyW, isP, modeNg, newb, List.map_nil, List.map_cons, List.headD_cons, and_true, Nat.zero_add, Nat.reduceAdd] at hf
      simp only [List.length_cons, List.length_nil, Nat.zero_add, Nat.reduceAdd, List.drop_succ_cons, List.drop_zero]
      obtain ⟨-, -, -, -, -, -, -, ⟨-, -, -, ra, ca, va, xa, e7, oa, la⟩, -, -⟩ := hf
      clear ha
      rw [e7]
      clear e7
      obtain ⟨cs, kb1, e9⟩ := hj.2.2.1.yes (hL 8 (by simp))
      subst e9
      obtain ⟨cs, kb2, e9⟩ := hj.2.2.2.yes (hL 9 (by simp))
      subst e9
      obtain ⟨pa, ma, hu9, -, -⟩ := id oa.ints
      try simp only at hu9
      subst hu9
      have R3 := RR.out.grp hr (Grp.one oa) hr1
      have R4 := R3.join (cs := [.int .i64 r1, .int .i64 c1, .slice p1 x1.length m1]) kb2 (by simp; exact ⟨d2, d12.symm⟩)
      have R5 := R4.join (cs := [.int .i64 r0, .int .i64 c0, .slice p0 x0.length m0]) kb1 (by simp; exact d1)
      clear R3 R4 hL RR hr oa kb1 kb2 hj
      simp only [List.cons_append, List.nil_append] at R5
      have S := R5.st
      clear R5
      go_wp2_with (first | (refine ldiM S.out ?_) | (refine ldI S.out ?_) | (refine stiM S.out ?_; clear S; intro w9 S) | (refine aliM S.out ?_; clear S; intro b9 w9 S) | (refine wpList_want rfl rfl ?_; dsimp only) | fail)
      exact bodyPost_ret (v := .tuple #[.agg #[.int .i64 r0, .int .i64 c0, .slice p0 x0.length m0], .agg #[.int .i64 r1, .int .i64 c1, .slice p1 x1.length m1], .agg #[.int .i64 ra, .int .i64 ca, .slice pa xa.length ma]]) (by exact res3 rfl (by exact (rsiM S.out)) (by exact (rsiM S.out)) (by exact (rsiM S.out))) rfl ⟨_, _, _, _, _, _, _, _, _, _, _, _, rfl, ⟨l0, l1, la⟩, (S.out.grp.sel rfl [2, 1, 0] (by decide) (by simp)), S.out.ext⟩
  · obtain ⟨K2, hK2⟩ : ∃ n : Nat, n = K + 1 := ⟨_, rfl⟩
    have sK2 : Sd K2 := ⟨by omega, by omega⟩
    have q7 : wrap64 ((K : Int) + 1) = (K2 : Int) := by unfold wrap64; omega
    have q8 : (K : Int) + 1 = (K2 : Int) := by omega
    clear hK2
    go_wp2_with (first | (refine aliM (L := []) S.out ?_; clear S; intro b8 w9 S) | (refine aliM (L := [_]) S.out ?_; clear S; intro b9 w9 S) | (refine ldiM S.out ?_) | (refine ldI S.out ?_) | (refine stiM S.out ?_; clear S; intro w9 S) | (refine wpList_want rfl rfl ?_; dsimp only) | fail)
    have RD := S.out.rdr
    obtain ⟨N1, N2, N3, N4⟩ := O.out.nestR hx1 hg S.out
    have R0 := Rst.start (show St none w _ [⟨b9, 25, [.int .i64 r1, .int .i64 c1, .slice p1 x1.length m1]⟩, ⟨b8, 25, [.int .i64 r0, .int .i64 c0, .slice p0 x0.length m0]⟩, ⟨rb3, 25, [.int .i64 0, .int .i64 0, .slice none 0 0]⟩, ⟨rb2, 25, [.int .i64 0, .int .i64 0, .slice none 0 0]⟩, ⟨rb1, 25, [.int .i64 0, .int .i64 0, .slice none 0 0]⟩] [.slice p1 x1.length m1, .slice p0 x0.length m0] [x1, x0] from N1) N2 N3 N4
    clear N1 N2 N3 N4 S O
    obtain ⟨R1, k1, d1⟩ := R0.del (r := rb1) (T := 25) (cs := [.int .i64 0, .int .i64 0, .slice none 0 0]) (by repeat constructor)
    have d12 : rb1 ≠ rb2 := fun e => by
      have h := R0.st.dis
      subst e
      simp at h
    clear R0
    obtain ⟨R2, k2, d2⟩ := R1.del (r := rb2) (T := 25) (cs := [.int .i64 0, .int .i64 0, .slice none 0 0]) (by repeat constructor)
    clear R1
    have hr1 : ∀ q ∈ [g, rb2, rb1], q < u9.heap.size := fun q hq => by
      simp only [List.mem_cons, List.not_mem_nil, or_false] at hq
      rcases hq with rfl | rfl | rfl
      · exact RD.lt
      · exact k2.lt
      · exact k1.lt
    have RR := Kept.mk R2
    clear R2
    apply wp_region_zipV (XS.rel _ [g, rb2, rb1] []) (fun L _ w' => (L 8 = true → L 7 = true) ∧ ((L 5 = false → L 7 = false → Rdr g 12003 w') ∧ (L 5 = true → L 7 = false → Rdr g 12004 w')) ∧ Px rb1 8 25 #[.int .i64 0, .int .i64 0, .slice none 0 0] (fun _ cs => cs = #[.int .i64 r0, .int .i64 c0, .slice p0 x0.length m0]) L w' ∧ Px rb2 9 25 #[.int .i64 0, .int .i64 0, .slice none 0 0] (fun _ cs => cs = #[.int .i64 r1, .int .i64 c1, .slice p1 x1.length m1]) L w') [isv _, isv _, isv _, isv _, isv _, isP (Lt 3), isP IsSd', mtV (by decide), anyW, anyW] _ ?hJ (by kernel_rfl)
    case hJ => exact ⟨fun h => (by cases h), ⟨fun _ _ => (RD.keep ⟨rfl, rfl, rfl, Nat.le_refl _, fun _ _ => rfl⟩).mono (by omega) ⟨by omega⟩, fun h => (by cases h)⟩, ⟨fun _ => k1.keep ⟨rfl, rfl, rfl, Nat.le_refl _, fun _ _ => rfl⟩, fun h => (by cases h)⟩, fun _ => k2.keep ⟨rfl, rfl, rfl, Nat.le_refl _, fun _ _ => rfl⟩, fun h => (by cases h)⟩
    case hA => intro V; simp [putAll, dstOf, Act.put]; exact rfl
    case hsl => intro V; exact rfl
    case step =>
      intro V lo up w' hr L hj
      have S := Kept.mk (RR.out.xs hr).st
      simp only [zipOkV, depsImp, isv, mtV, anyW, isP, modeNg, newb, waits, Region.binds, List.map_nil, List.map_cons, List.headD_cons, List.nil_append, List.cons_append, List.filterMap_cons, List.filterMap_nil, ↓reduceIte, modeNe, Bool.false_eq_true, true_implies, List.getD_cons_zero, List.getD_cons_succ, and_true, Nat.zero_add, Nat.reduceAdd]
      refine ⟨?_, ?_, ?_, ?_, ?_, ?_, ?_, ?_, ?_, ?_⟩
      · intro hl hw hd
        intros
        (try simp only [*])
        go_wp2_with (first | (refine ldiM S.out ?_) | (refine ldI S.out ?_) | (refine wpList_want rfl rfl ?_; dsimp only) | fail)
        refine stepS_mk rfl (by simp only [List.getElem?_toArray, List.getElem?_cons_succ, List.getElem?_cons_zero]; exact rfl) ?_
        exact ⟨XS.refl _, rfl, ⟨fun h => (by rw [show upd L 0 true 7 = L 7 by simp [upd]]; exact hj.1 (by simpa [upd] using h)), ⟨fun h k => hj.2.1.1 (by simpa [upd] using h) (by simpa [upd] using k), fun h k => hj.2.1.2 (by simpa [upd] using h) (by simpa [upd] using k)⟩, hj.2.2.1.ext (fun _ h => h) (fun _ => rfl) (by decide), hj.2.2.2.ext (fun _ h => h) (fun _ => rfl) (by decide)⟩⟩
      · intro hl hw hd
        intros
        (try simp only [*])
        go_wp2_with (first | (refine ldiM S.out ?_) | (refine ldI S.out ?_) | (refine wpList_want rfl rfl ?_; dsimp only) | fail)
        refine stepS_mk rfl (by simp only [List.getElem?_toArray, List.getElem?_cons_succ, List.getElem?_cons_zero]; exact rfl) ?_
        exact ⟨XS.refl _, rfl, ⟨fun h => (by rw [show upd L 1 true 7 = L 7 by simp [upd]]; exact hj.1 (by simpa [upd] using h)), ⟨fun h k => hj.2.1.1 (by simpa [upd] using h) (by simpa [upd] using k), fun h k => hj.2.1.2 (by simpa [upd] using h) (by simpa [upd] using k)⟩, hj.2.2.1.ext (fun _ h => h) (fun _ => rfl) (by decide), hj.2.2.2.ext (fun _ h => h) (fun _ => rfl) (by decide)⟩⟩
      · intro hl hw hd
        intros
        (try simp only [*])
        go_wp2_with (first | (refine ldiM S.out ?_) | (refine ldI S.out ?_) | (refine wpList_want rfl rfl ?_; dsimp only) | fail)
        refine stepS_mk rfl (by simp only [List.getElem?_toArray, List.getElem?_cons_succ, List.getElem?_cons_zero]; exact rfl) ?_
        exact ⟨XS.refl _, rfl, ⟨fun h => (by rw [show upd L 2 true 7 = L 7 by simp [upd]]; exact hj.1 (by simpa [upd] using h)), ⟨fun h k => hj.2.1.1 (by simpa [upd] using h) (by simpa [upd] using k), fun h k => hj.2.1.2 (by simpa [upd] using h) (by simpa [upd] using k)⟩, hj.2.2.1.ext (fun _ h => h) (fun _ => rfl) (by decide), hj.2.2.2.ext (fun _ h => h) (fun _ => rfl) (by decide)⟩⟩
      · intro hl hw hd
        intros
        (try simp only [*])
        go_wp2_with (first | (refine ldiM S.out ?_) | (refine ldI S.out ?_) | (refine wpList_want rfl rfl ?_; dsimp only) | fail)
        refine stepS_mk rfl (by simp only [List.getElem?_toArray, List.getElem?_cons_succ, List.getElem?_cons_zero]; exact rfl) ?_
        exact ⟨XS.refl _, rfl, ⟨fun h => (by rw [show upd L 3 true 7 = L 7 by simp [upd]]; exact hj.1 (by simpa [upd] using h)), ⟨fun h k => hj.2.1.1 (by simpa [upd] using h) (by simpa [upd] using k), fun h k => hj.2.1.2 (by simpa [upd] using h) (by simpa [upd] using k)⟩, hj.2.2.1.ext (fun _ h => h) (fun _ => rfl) (by decide), hj.2.2.2.ext (fun _ h => h) (fun _ => rfl) (by decide)⟩⟩
      · intro hl hw hd
        intros
        (try simp only [*])
        go_wp2_with (first | (refine ldiM S.out ?_) | (refine ldI S.out ?_) | (refine wpList_want rfl rfl ?_; dsimp only) | fail)
        refine stepS_mk rfl (by simp only [List.getElem?_toArray, List.getElem?_cons_succ, List.getElem?_cons_zero]; exact rfl) ?_
        exact ⟨XS.refl _, rfl, ⟨fun h => (by rw [show upd L 4 true 7 = L 7 by simp [upd]]; exact hj.1 (by simpa [upd] using h)), ⟨fun h k => hj.2.1.1 (by simpa [upd] using h) (by simpa [upd] using k), fun h k => hj.2.1.2 (by simpa [upd] using h) (by simpa [upd] using k)⟩, hj.2.2.1.ext (fun _ h => h) (fun _ => rfl) (by decide), hj.2.2.2.ext (fun _ h => h) (fun _ => rfl) (by decide)⟩⟩
      · intro hl hw hd
        have l7 := hw 7 _ rfl (by simp [waits, Region.binds])
        intros
        (try simp only [*])
        go_wp2_with (fail)
        (with_reducible refine (pick g _ 3 (HP.le (by omega)) _ (hj.2.1.1 hl l7)).mono ?_)
        rintro e w8 ⟨v8, rfl, ⟨x, rfl, hx, -⟩, hr8, hm8⟩
        go_wp2
        refine stepS_mk rfl (by simp only [List.getElem?_toArray, List.getElem?_cons_succ, List.getElem?_cons_zero]; exact rfl) ?_
        exact ⟨XS.of_mod hm8 (by simp) RD.lt, ⟨x, rfl, hx (by omega)⟩, fun h => (by rw [show upd L 5 true 7 = L 7 by simp [upd]]; exact hj.1 (by simpa [upd] using h)), ⟨fun h => (by simp [upd] at h), fun _ _ => hr8⟩, hj.2.2.1.mod hm8 d1 (fun _ h => h) (by decide), hj.2.2.2.mod hm8 d2 (fun _ h => h) (by decide)⟩
      · intro hl hw hd
        intros
        obtain ⟨x, e5, lx⟩ := ‹∃ x : Nat, V 5 = .int .i64 x ∧ (x : Int) < 3›
        obtain ⟨n9, q9, p9, z9, s9⟩ := one3 x lx
        clear lx
        (try simp only [e5])
        go_wp2_with (first | (refine ldiM S.out ?_) | (refine ldI S.out ?_) | (refine wpList_want rfl rfl ?_; dsimp only) | fail)
        refine stepS_mk rfl (by simp only [List.getElem?_toArray, List.getElem?_cons_succ, List.getElem?_cons_zero]; exact rfl) ?_
        exact ⟨XS.refl _, ⟨n9, by first | rfl | rw [z9] | rw [q9], s9⟩, ⟨fun h => (by rw [show upd L 6 true 7 = L 7 by simp [upd]]; exact hj.1 (by simpa [upd] using h)), ⟨fun h k => hj.2.1.1 (by simpa [upd] using h) (by simpa [upd] using k), fun h k => hj.2.1.2 (by simpa [upd] using h) (by simpa [upd] using k)⟩, hj.2.2.1.ext (fun _ h => h) (fun _ => rfl) (by decide), hj.2.2.2.ext (fun _ h => h) (fun _ => rfl) (by decide)⟩⟩
      · intro hl hw hd
        have l5 := hd 5 (by simp)
        intros
        obtain ⟨n3, e6, sn3⟩ := ‹IsSd' (V 6)›
        (try simp only [*])
        go_wp2_with (fail)
        (with_reducible refine (mat20 g _ K2 n3 14 sK2 sn3 ⟨by omega, by omega⟩ (HP.le (by omega)) _ (hj.2.1.2 l5 hl)).mono ?_)
        rintro e w8 ⟨v8, rfl, ⟨ra, ca, va, xa, rfl, oa, la⟩, hr8, hm8⟩
        go_wp2
        refine stepS_mk rfl (by simp only [List.getElem?_toArray, List.getElem?_cons_succ, List.getElem?_cons_zero]; exact rfl) ?_
        exact ⟨XS.of_mod hm8 (by simp) RD.lt, ⟨ra, ca, va, xa, rfl, oa.mono hr.size, la⟩, fun _ => (by simp [upd]), ⟨fun _ h => (by simp [upd] at h), fun _ h => (by simp [upd] at h)⟩, hj.2.2.1.mod hm8 d1 (fun _ h => h) (by decide), hj.2.2.2.mod hm8 d2 (fun _ h => h) (by decide)⟩
      · intro hl hw hd
        have l7 := hd 7 (by simp)
        intros
        have e0 := ‹V 0 = _›
        exact wpList_putX rfl rfl _ _ rfl rb1 _ _ rfl e0 (hj.2.2.1.no hl) (by kernel_rfl) rfl (by simp [Value.oneCell']) (.inl ⟨by simp, k1.lt⟩) (fun w'' f k hoth hsz u => ⟨f, trivial, fun _ => (by rw [show upd L 8 true 7 = L 7 by simp [upd]]; exact l7), ⟨fun _ h => (by rw [show upd L 8 true 7 = L 7 by simp [upd], l7] at h; cases h), fun _ h => (by rw [show upd L 8 true 7 = L 7 by simp [upd], l7] at h; cases h)⟩, Px.put k rfl, hj.2.2.2.ext (fun _ h => h) (fun _ => hoth rb2 d12.symm) (by decide)⟩)
      · intro hl hw hd
        have l7 := hj.1 (hd 8 (by simp))
        intros
        have e1 := ‹V 1 = _›
        exact wpList_putX rfl rfl _ _ rfl rb2 _ _ rfl e1 (hj.2.2.2.no hl) (by kernel_rfl) rfl (by simp [Value.oneCell']) (.inl ⟨by simp, k2.lt⟩) (fun w'' f k hoth hsz u => ⟨f, trivial, fun h => (by rw [show upd L 9 true 7 = L 7 by simp [upd]]; exact hj.1 (by simpa [upd] using h)), ⟨fun _ h => (by rw [show upd L 9 true 7 = L 7 by simp [upd], l7] at h; cases h), fun _ h => (by rw [show upd L 9 true 7 = L 7 by simp [upd], l7] at h; cases h)⟩, hj.2.2.1.ext (fun _ h => h) (fun _ => hoth rb1 d12) (by decide), Px.put k rfl⟩)
    case hB => kernel_rfl
    case fin =>
      intro V lo up w' hr L hj hL hf ha
      simp only [factsOk, isv, mtV, anyW, isP, modeNg, newb, List.map_nil, List.map_cons, List.headD_cons, and_true, Nat.zero_add, Nat.reduceAdd] at hf
      simp only [List.length_cons, List.length_nil, Nat.zero_add, Nat.reduceAdd, List.drop_succ_cons, List.drop_zero]
      obtain ⟨-, -, -, -, -, -, -, ⟨-, -, -, ra, ca, va, xa, e7, oa, la⟩, -, -⟩ := hf
      clear ha
      rw [e7]
      clear e7
      obtain ⟨cs, kb1, e9⟩ := hj.2.2.1.yes (hL 8 (by simp))
      subst e9
      obtain ⟨cs, kb2, e9⟩ := hj.2.2.2.yes (hL 9 (by simp))
      subst e9
      obtain ⟨pa, ma, hu9, -, -⟩ := id oa.ints
      try simp only at hu9
      subst hu9
      have R3 := RR.out.grp hr (Grp.one oa) hr1
      have R4 := R3.join (cs := [.int .i64 r1, .int .i64 c1, .slice p1 x1.length m1]) kb2 (by simp; exact ⟨d2, d12.symm⟩)
      have R5 := R4.join (cs := [.int .i64 r0, .int .i64 c0, .slice p0 x0.length m0]) kb1 (by simp; exact d1)
      clear R3 R4 hL RR hr oa kb1 kb2 hj
      simp only [List.cons_append, List.nil_append] at R5
      have S := R5.st
      clear R5
      go_wp2_with (first | (refine ldiM S.out ?_) | (refine ldI S.out ?_) | (refine stiM S.out ?_; clear S; intro w9 S) | (refine aliM S.out ?_; clear S; intro b9 w9 S) | (refine wpList_want rfl rfl ?_; dsimp only) | fail)
      exact bodyPost_ret (v := .tuple #[.agg #[.int .i64 r0, .int .i64 c0, .slice p0 x0.length m0], .agg #[.int .i64 r1, .int .i64 c1, .slice p1 x1.length m1], .agg #[.int .i64 ra, .int .i64 ca, .slice pa xa.length ma]]) (by exact res3 rfl (by exact (rsiM S.out)) (by exact (rsiM S.out)) (by exact (rsiM S.out))) rfl ⟨_, _, _, _, _, _, _, _, _, _, _, _, rfl, ⟨l0, l1, la⟩, (S.out.grp.sel rfl [2, 1, 0] (by decide) (by simp)), S.out.ext⟩
end Go.Proofs.Ytpbnbhiffnnliaa
