/- What DrawAddSharedMatrices returns. -/
import Derived.Test.YtjoomdihjffmlaaKK
import Derived.Test.YtjoomdihjffmlaaSideD
namespace Go.Proofs.Ytjoomdihjffmlaa
set_option linter.unusedSimpArgs false
set_option linter.unusedVariables false
open Go.RowKit
/-- A new shared matrix, its lists from n0 on. -/
def shV {n0 m : Nat} {rs : List Nat} {Ts : List TypeId} (hT : 3 ∉ Ts) : OpSpec (XS n0 rs Ts) m :=
  ⟨[], fun _ u _ _ w => IsShM n0 w u, fun _ _ _ _ _ _ _ _ _ hx ⟨r, c, r', c', v, v', xs, xs', h1, h2, h3⟩ => ⟨r, c, r', c', v, v', xs, xs', h1, h2.xs hx (Nat.le_refl _) hT, h3⟩⟩

set_option maxHeartbeats 4000000 in
set_option maxRecDepth 4000 in
theorem spec_DrawAddSharedMatrices (v : Value) (w : World) (hb : Bytes w v) : Calls Try.prog 28 #[v] w fun e w' => ∃ (r0 c0 r1 c1 r2 c2 r3 c3 : Int) (v0 v1 v2 v3 : Value) (x0 x1 x2 x3 : List Int), e = .returned (.tuple #[.agg #[.int .i64 r0, .int .i64 c0, v0, .int .i64 r1, .int .i64 c1, v1], .agg #[.int .i64 r2, .int .i64 c2, v2, .int .i64 r3, .int .i64 c3, v3]]) ∧
    (x0.length ≤ 1048576 ∧ x1.length ≤ 1048576 ∧ x2.length ≤ 1048576 ∧ x3.length ≤ 1048576) ∧ Grp w.heap.size w' [v0, v1, v2, v3] [x0, x1, x2, x3] ∧ Ext w w' := by
  have S := Kept.mk (St.start w)
  have HP : Room 30000 := ⟨by omega⟩
  go_enter Try.func28, Try.ntmps28
  go_wp2_with (first | (refine aliS (L := []) S.out ?_; clear S; intro rb1 w9 S) | (refine aliS (L := [_]) S.out ?_; clear S; intro rb2 w9 S) | (refine ldiS S.out ?_) | (refine ldI S.out ?_) | (refine stiS S.out ?_; clear S; intro w9 S) | (refine wpList_want rfl rfl ?_; dsimp only) | fail)
  (with_reducible refine (open' _ _ (hb.ext S.out.ext)).mono ?_)
  rintro e w1 ⟨g, rfl, hg, hr1, hx1⟩
  have O := S
  replace S := Kept.mk (St.startR hr1)
  clear hr1
  go_wp2_with (first | (refine aliS (L := []) S.out ?_; clear S; intro b7 w9 S) | (refine ldiS S.out ?_) | (refine ldI S.out ?_) | (refine stiS S.out ?_; clear S; intro w9 S) | (refine wpList_want rfl rfl ?_; dsimp only) | fail)
  (with_reducible refine (side20 g _ (HP.le (by omega)) _ S.out.rdr).mono ?_)
  rintro e u9 ⟨v7, rfl, ⟨n1, rfl, sn1⟩, hr7, hm7⟩
  replace S := Kept.mk (S.out.read hr7 hm7)
  clear hr7 hm7
  go_wp2_with (first | (refine aliS (L := []) S.out ?_; clear S; intro b7 w9 S) | (refine ldiS S.out ?_) | (refine ldI S.out ?_) | (refine stiS S.out ?_; clear S; intro w9 S) | (refine wpList_want rfl rfl ?_; dsimp only) | fail)
  (with_reducible refine (side20 g _ (HP.le (by omega)) _ S.out.rdr).mono ?_)
  rintro e u9 ⟨v7, rfl, ⟨n2, rfl, sn2⟩, hr7, hm7⟩
  replace S := Kept.mk (S.out.read hr7 hm7)
  clear hr7 hm7
  go_wp2_with (first | (refine aliS (L := []) S.out ?_; clear S; intro b7 w9 S) | (refine ldiS S.out ?_) | (refine ldI S.out ?_) | (refine stiS S.out ?_; clear S; intro w9 S) | (refine wpList_want rfl rfl ?_; dsimp only) | fail)
  (with_reducible refine (sh20M g _ n1 n2 12 sn1.sd sn2.sd ⟨by omega, by omega⟩ (HP.le (by omega)) _ S.out.rdr).mono ?_)
  rintro e u9 ⟨v7, rfl, ⟨r0, c0, r1, c1, v0, v1, x0, x1, rfl, gg, l0, l1⟩, hr7, hm7⟩
  obtain ⟨p0, m0, hu9, -, -⟩ := id gg.o0.ints
  try simp only at hu9
  subst hu9
  obtain ⟨p1, m1, hu9, -, -⟩ := id gg.o1.ints
  try simp only at hu9
  subst hu9
  replace S := Kept.mk (S.out.read2 gg hr7 hm7)
  clear hr7 hm7 gg
  go_wp2_with (first | (refine aliS (L := []) S.out ?_; clear S; intro b7 w9 S) | (refine ldiS S.out ?_) | (refine ldI S.out ?_) | (refine stiS S.out ?_; clear S; intro w9 S) | (refine wpList_want rfl rfl ?_; dsimp only) | fail)
  (with_reducible refine (odd g _ 9 ⟨by omega, by omega⟩ (HP.le (by omega)) _ S.out.rdr).mono ?_)
  rintro e u9 ⟨v7, rfl, ⟨b9, rfl⟩, hr7, hm7⟩
  replace S := Kept.mk (S.out.read hr7 hm7)
  clear hr7 hm7
  cases b9
  · go_wp2_with (first | (refine aliS (L := []) S.out ?_; clear S; intro b7 w9 S) | (refine ldiS S.out ?_) | (refine ldI S.out ?_) | (refine stiS S.out ?_; clear S; intro w9 S) | (refine wpList_want rfl rfl ?_; dsimp only) | fail)
    have RD := S.out.rdr
    obtain ⟨N1, N2, N3, N4⟩ := O.out.nestR hx1 hg S.out
    have R0 := Rst.start (show St none w _ [⟨b7, 50, [.int .i64 r0, .int .i64 c0, .slice p0 x0.length m0, .int .i64 r1, .int .i64 c1, .slice p1 x1.length m1]⟩, ⟨rb2, 50, [.int .i64 0, .int .i64 0, .slice none 0 0, .int .i64 0, .int .i64 0, .slice none 0 0]⟩, ⟨rb1, 50, [.int .i64 0, .int .i64 0, .slice none 0 0, .int .i64 0, .int .i64 0, .slice none 0 0]⟩] [.slice p0 x0.length m0, .slice p1 x1.length m1] [x0, x1] from N1) N2 N3 N4
    clear N1 N2 N3 N4 S O
    obtain ⟨R1, k1, d1⟩ := R0.del (r := rb1) (T := 50) (cs := [.int .i64 0, .int .i64 0, .slice none 0 0, .int .i64 0, .int .i64 0, .slice none 0 0]) (by repeat constructor)
    clear R0
    have hr1 : ∀ q ∈ [g, rb1], q < u9.heap.size := fun q hq => by
      rcases List.mem_cons.1 hq with e | h
      · rw [e]; exact RD.lt
      · rw [List.mem_singleton.1 h]; exact k1.lt
    have RR := Kept.mk R1
    clear R1
    apply wp_region_zipV (XS.rel _ [g, rb1] []) (fun L _ w' => (L 4 = false → Rdr g 13005 w') ∧ Px rb1 5 50 #[.int .i64 0, .int .i64 0, .slice none 0 0, .int .i64 0, .int .i64 0, .slice none 0 0] (fun _ cs => cs = #[.int .i64 r0, .int .i64 c0, .slice p0 x0.length m0, .int .i64 r1, .int .i64 c1, .slice p1 x1.length m1]) L w') [isv _, isv _, isv _, isv _, shV (by decide), anyV] _ ?hJ (by kernel_rfl)
    case hJ => exact ⟨fun _ => (RD.keep ⟨rfl, rfl, rfl, Nat.le_refl _, fun _ _ => rfl⟩).mono (by omega) ⟨by omega⟩, fun _ => k1.keep ⟨rfl, rfl, rfl, Nat.le_refl _, fun _ _ => rfl⟩, fun h => (by cases h)⟩
    case hA => intro V; simp [putAll, dstOf, Act.put]; exact rfl
    case hsl => intro V; exact rfl
    case step =>
      intro V lo up w' hr L hj
      have S := Kept.mk (RR.out.xs hr).st
      simp only [zipOkV, depsImp, isv, shV, anyV, modeNg, newb, waits, Region.binds, List.map_nil, List.map_cons, List.headD_cons, List.nil_append, List.cons_append, List.filterMap_cons, List.filterMap_nil, ↓reduceIte, modeNe, Bool.false_eq_true, true_implies, List.getD_cons_zero, List.getD_cons_succ, and_true, Nat.zero_add, Nat.reduceAdd]
      refine ⟨?_, ?_, ?_, ?_, ?_, ?_⟩
      · intro hl hw hd
        intros
        (try simp only [*])
        go_wp2_with (first | (refine ldiS S.out ?_) | (refine ldI S.out ?_) | (refine wpList_want rfl rfl ?_; dsimp only) | fail)
        refine stepS_mk rfl (by simp only [List.getElem?_toArray, List.getElem?_cons_succ, List.getElem?_cons_zero]; exact rfl) ?_
        exact ⟨XS.refl _, rfl, ⟨fun h => hj.1 (by simpa [upd] using h), hj.2.ext (fun _ h => h) (fun _ => rfl) (by decide)⟩⟩
      · intro hl hw hd
        intros
        (try simp only [*])
        go_wp2_with (first | (refine ldiS S.out ?_) | (refine ldI S.out ?_) | (refine wpList_want rfl rfl ?_; dsimp only) | fail)
        refine stepS_mk rfl (by simp only [List.getElem?_toArray, List.getElem?_cons_succ, List.getElem?_cons_zero]; exact rfl) ?_
        exact ⟨XS.refl _, rfl, ⟨fun h => hj.1 (by simpa [upd] using h), hj.2.ext (fun _ h => h) (fun _ => rfl) (by decide)⟩⟩
      · intro hl hw hd
        intros
        (try simp only [*])
        go_wp2_with (first | (refine ldiS S.out ?_) | (refine ldI S.out ?_) | (refine wpList_want rfl rfl ?_; dsimp only) | fail)
        refine stepS_mk rfl (by simp only [List.getElem?_toArray, List.getElem?_cons_succ, List.getElem?_cons_zero]; exact rfl) ?_
        exact ⟨XS.refl _, rfl, ⟨fun h => hj.1 (by simpa [upd] using h), hj.2.ext (fun _ h => h) (fun _ => rfl) (by decide)⟩⟩
      · intro hl hw hd
        intros
        (try simp only [*])
        go_wp2_with (first | (refine ldiS S.out ?_) | (refine ldI S.out ?_) | (refine wpList_want rfl rfl ?_; dsimp only) | fail)
        refine stepS_mk rfl (by simp only [List.getElem?_toArray, List.getElem?_cons_succ, List.getElem?_cons_zero]; exact rfl) ?_
        exact ⟨XS.refl _, rfl, ⟨fun h => hj.1 (by simpa [upd] using h), hj.2.ext (fun _ h => h) (fun _ => rfl) (by decide)⟩⟩
      · intro hl hw hd
        intros
        (try simp only [*])
        go_wp2_with (fail)
        (with_reducible refine (sh20M g _ n1 n2 12 sn1.sd sn2.sd ⟨by omega, by omega⟩ (HP.le (by omega)) _ (hj.1 hl)).mono ?_)
        rintro e w8 ⟨v8, rfl, ⟨ra, ca, rb, cb, va, vb, xa, xb, rfl, gg, la, lb⟩, hr8, hm8⟩
        go_wp2
        refine stepS_mk rfl (by simp only [List.getElem?_toArray, List.getElem?_cons_succ, List.getElem?_cons_zero]; exact rfl) ?_
        exact ⟨XS.of_mod hm8 (by simp) RD.lt, ⟨ra, ca, rb, cb, va, vb, xa, xb, rfl, gg.mono hr.size, la, lb⟩, fun h => (by simp [upd] at h), hj.2.mod hm8 d1 (fun _ h => h) (by decide)⟩
      · intro hl hw hd
        intros
        have e0 := ‹V 0 = _›
        exact wpList_putX rfl rfl _ _ rfl rb1 _ _ rfl e0 (hj.2.no hl) (by kernel_rfl) rfl (by simp [Value.oneCell']) (.inl ⟨by simp, k1.lt⟩) (fun w'' f k hoth hsz u => ⟨f, trivial, fun h => (by rw [show upd L 5 true 4 = L 4 by simp [upd], hd 4 (by simp)] at h; cases h), Px.put k rfl⟩)
    case hB => kernel_rfl
    case fin =>
      intro V lo up w' hr L hj hL hf ha
      simp only [factsOk, isv, shV, anyV, modeNg, newb, List.map_nil, List.map_cons, List.headD_cons, and_true, Nat.zero_add, Nat.reduceAdd] at hf
      simp only [List.length_cons, List.length_nil, Nat.zero_add, Nat.reduceAdd, List.drop_succ_cons, List.drop_zero]
      obtain ⟨-, -, -, -, ⟨-, -, -, ra, ca, rb, cb, va, vb, xa, xb, e4, gg, la, lb⟩, -⟩ := hf
      clear ha
      rw [e4]
      clear e4
      obtain ⟨cs, kb, e5⟩ := hj.2.yes (hL 5 (by simp))
      subst e5
      obtain ⟨pa, ma, hu9, -, -⟩ := id gg.o0.ints
      try simp only at hu9
      subst hu9
      obtain ⟨pb, mb, hu9, -, -⟩ := id gg.o1.ints
      try simp only at hu9
      subst hu9
      have R2 := RR.out.grp hr gg hr1
      have R3 := R2.join (cs := [.int .i64 r0, .int .i64 c0, .slice p0 x0.length m0, .int .i64 r1, .int .i64 c1, .slice p1 x1.length m1]) kb (by simp; exact d1)
      clear R2 RR hr gg kb hj
      simp only [List.cons_append, List.nil_append] at R3
      have S := R3.st
      clear R3
      go_wp2_with (first | (refine ldiS S.out ?_) | (refine ldI S.out ?_) | (refine stiS S.out ?_; clear S; intro w9 S) | (refine aliS S.out ?_; clear S; intro b9 w9 S) | (refine wpList_want rfl rfl ?_; dsimp only) | fail)
      exact bodyPost_ret (v := .tuple #[.agg #[.int .i64 r0, .int .i64 c0, .slice p0 x0.length m0, .int .i64 r1, .int .i64 c1, .slice p1 x1.length m1], .agg #[.int .i64 ra, .int .i64 ca, .slice pa xa.length ma, .int .i64 rb, .int .i64 cb, .slice pb xb.length mb]]) (by exact res2 rfl (by exact (rsiS S.out)) (by exact (rsiS S.out))) rfl ⟨_, _, _, _, _, _, _, _, _, _, _, _, _, _, _, _, rfl, ⟨l0, l1, la, lb⟩, (S.out.grp.sel rfl [2, 3, 0, 1] (by decide) (by simp)), S.out.ext⟩
  · obtain ⟨n3, hn3⟩ : ∃ n3 : Nat, n3 = 1 + n1 % 5 := ⟨_, rfl⟩
    have sn3 : Sd n3 := ⟨by omega, by omega⟩
    have q1 : wrap64 (1 + (n1 : Int) % 5) = (n3 : Int) := by unfold wrap64; omega
    have q2 : 1 + (n1 : Int) % 5 = (n3 : Int) := by omega
    clear hn3
    go_wp2_with (first | (refine aliS (L := []) S.out ?_; clear S; intro b7 w9 S) | (refine ldiS S.out ?_) | (refine ldI S.out ?_) | (refine stiS S.out ?_; clear S; intro w9 S) | (refine wpList_want rfl rfl ?_; dsimp only) | fail)
    have RD := S.out.rdr
    obtain ⟨N1, N2, N3, N4⟩ := O.out.nestR hx1 hg S.out
    have R0 := Rst.start (show St none w _ [⟨b7, 50, [.int .i64 r0, .int .i64 c0, .slice p0 x0.length m0, .int .i64 r1, .int .i64 c1, .slice p1 x1.length m1]⟩, ⟨rb2, 50, [.int .i64 0, .int .i64 0, .slice none 0 0, .int .i64 0, .int .i64 0, .slice none 0 0]⟩, ⟨rb1, 50, [.int .i64 0, .int .i64 0, .slice none 0 0, .int .i64 0, .int .i64 0, .slice none 0 0]⟩] [.slice p0 x0.length m0, .slice p1 x1.length m1] [x0, x1] from N1) N2 N3 N4
    clear N1 N2 N3 N4 S O
    obtain ⟨R1, k1, d1⟩ := R0.del (r := rb1) (T := 50) (cs := [.int .i64 0, .int .i64 0, .slice none 0 0, .int .i64 0, .int .i64 0, .slice none 0 0]) (by repeat constructor)
    clear R0
    have hr1 : ∀ q ∈ [g, rb1], q < u9.heap.size := fun q hq => by
      rcases List.mem_cons.1 hq with e | h
      · rw [e]; exact RD.lt
      · rw [List.mem_singleton.1 h]; exact k1.lt
    have RR := Kept.mk R1
    clear R1
    apply wp_region_zipV (XS.rel _ [g, rb1] []) (fun L _ w' => (L 4 = false → Rdr g 13005 w') ∧ Px rb1 5 50 #[.int .i64 0, .int .i64 0, .slice none 0 0, .int .i64 0, .int .i64 0, .slice none 0 0] (fun _ cs => cs = #[.int .i64 r0, .int .i64 c0, .slice p0 x0.length m0, .int .i64 r1, .int .i64 c1, .slice p1 x1.length m1]) L w') [isv _, isv _, isv _, isv _, shV (by decide), anyV] _ ?hJ (by kernel_rfl)
    case hJ => exact ⟨fun _ => (RD.keep ⟨rfl, rfl, rfl, Nat.le_refl _, fun _ _ => rfl⟩).mono (by omega) ⟨by omega⟩, fun _ => k1.keep ⟨rfl, rfl, rfl, Nat.le_refl _, fun _ _ => rfl⟩, fun h => (by cases h)⟩
    case hA => intro V; simp [putAll, dstOf, Act.put]; exact rfl
    case hsl => intro V; exact rfl
    case step =>
      intro V lo up w' hr L hj
      have S := Kept.mk (RR.out.xs hr).st
      simp only [zipOkV, depsImp, isv, shV, anyV, modeNg, newb, waits, Region.binds, List.map_nil, List.map_cons, List.headD_cons, List.nil_append, List.cons_append, List.filterMap_cons, List.filterMap_nil, ↓reduceIte, modeNe, Bool.false_eq_true, true_implies, List.getD_cons_zero, List.getD_cons_succ, and_true, Nat.zero_add, Nat.reduceAdd]
      refine ⟨?_, ?_, ?_, ?_, ?_, ?_⟩
      · intro hl hw hd
        intros
        (try simp only [*])
        go_wp2_with (first | (refine ldiS S.out ?_) | (refine ldI S.out ?_) | (refine wpList_want rfl rfl ?_; dsimp only) | fail)
        refine stepS_mk rfl (by simp only [List.getElem?_toArray, List.getElem?_cons_succ, List.getElem?_cons_zero]; exact rfl) ?_
        exact ⟨XS.refl _, rfl, ⟨fun h => hj.1 (by simpa [upd] using h), hj.2.ext (fun _ h => h) (fun _ => rfl) (by decide)⟩⟩
      · intro hl hw hd
        intros
        (try simp only [*])
        go_wp2_with (first | (refine ldiS S.out ?_) | (refine ldI S.out ?_) | (refine wpList_want rfl rfl ?_; dsimp only) | fail)
        refine stepS_mk rfl (by simp only [List.getElem?_toArray, List.getElem?_cons_succ, List.getElem?_cons_zero]; exact rfl) ?_
        exact ⟨XS.refl _, rfl, ⟨fun h => hj.1 (by simpa [upd] using h), hj.2.ext (fun _ h => h) (fun _ => rfl) (by decide)⟩⟩
      · intro hl hw hd
        intros
        (try simp only [*])
        go_wp2_with (first | (refine ldiS S.out ?_) | (refine ldI S.out ?_) | (refine wpList_want rfl rfl ?_; dsimp only) | fail)
        refine stepS_mk rfl (by simp only [List.getElem?_toArray, List.getElem?_cons_succ, List.getElem?_cons_zero]; exact rfl) ?_
        exact ⟨XS.refl _, rfl, ⟨fun h => hj.1 (by simpa [upd] using h), hj.2.ext (fun _ h => h) (fun _ => rfl) (by decide)⟩⟩
      · intro hl hw hd
        intros
        (try simp only [*])
        go_wp2_with (first | (refine ldiS S.out ?_) | (refine ldI S.out ?_) | (refine wpList_want rfl rfl ?_; dsimp only) | fail)
        refine stepS_mk rfl (by simp only [List.getElem?_toArray, List.getElem?_cons_succ, List.getElem?_cons_zero]; exact rfl) ?_
        exact ⟨XS.refl _, rfl, ⟨fun h => hj.1 (by simpa [upd] using h), hj.2.ext (fun _ h => h) (fun _ => rfl) (by decide)⟩⟩
      · intro hl hw hd
        intros
        (try simp only [*])
        go_wp2_with (fail)
        (with_reducible refine (sh20M g _ n3 n2 12 sn3 sn2.sd ⟨by omega, by omega⟩ (HP.le (by omega)) _ (hj.1 hl)).mono ?_)
        rintro e w8 ⟨v8, rfl, ⟨ra, ca, rb, cb, va, vb, xa, xb, rfl, gg, la, lb⟩, hr8, hm8⟩
        go_wp2
        refine stepS_mk rfl (by simp only [List.getElem?_toArray, List.getElem?_cons_succ, List.getElem?_cons_zero]; exact rfl) ?_
        exact ⟨XS.of_mod hm8 (by simp) RD.lt, ⟨ra, ca, rb, cb, va, vb, xa, xb, rfl, gg.mono hr.size, la, lb⟩, fun h => (by simp [upd] at h), hj.2.mod hm8 d1 (fun _ h => h) (by decide)⟩
      · intro hl hw hd
        intros
        have e0 := ‹V 0 = _›
        exact wpList_putX rfl rfl _ _ rfl rb1 _ _ rfl e0 (hj.2.no hl) (by kernel_rfl) rfl (by simp [Value.oneCell']) (.inl ⟨by simp, k1.lt⟩) (fun w'' f k hoth hsz u => ⟨f, trivial, fun h => (by rw [show upd L 5 true 4 = L 4 by simp [upd], hd 4 (by simp)] at h; cases h), Px.put k rfl⟩)
    case hB => kernel_rfl
    case fin =>
      intro V lo up w' hr L hj hL hf ha
      simp only [factsOk, isv, shV, anyV, modeNg, newb, List.map_nil, List.map_cons, List.headD_cons, and_true, Nat.zero_add, Nat.reduceAdd] at hf
      simp only [List.length_cons, List.length_nil, Nat.zero_add, Nat.reduceAdd, List.drop_succ_cons, List.drop_zero]
      obtain ⟨-, -, -, -, ⟨-, -, -, ra, ca, rb, cb, va, vb, xa, xb, e4, gg, la, lb⟩, -⟩ := hf
      clear ha
      rw [e4]
      clear e4
      obtain ⟨cs, kb, e5⟩ := hj.2.yes (hL 5 (by simp))
      subst e5
      obtain ⟨pa, ma, hu9, -, -⟩ := id gg.o0.ints
      try simp only at hu9
      subst hu9
      obtain ⟨pb, mb, hu9, -, -⟩ := id gg.o1.ints
      try simp only at hu9
      subst hu9
      have R2 := RR.out.grp hr gg hr1
      have R3 := R2.join (cs := [.int .i64 r0, .int .i64 c0, .slice p0 x0.length m0, .int .i64 r1, .int .i64 c1, .slice p1 x1.length m1]) kb (by simp; exact d1)
      clear R2 RR hr gg kb hj
      simp only [List.cons_append, List.nil_append] at R3
      have S := R3.st
      clear R3
      go_wp2_with (first | (refine ldiS S.out ?_) | (refine ldI S.out ?_) | (refine stiS S.out ?_; clear S; intro w9 S) | (refine aliS S.out ?_; clear S; intro b9 w9 S) | (refine wpList_want rfl rfl ?_; dsimp only) | fail)
      exact bodyPost_ret (v := .tuple #[.agg #[.int .i64 r0, .int .i64 c0, .slice p0 x0.length m0, .int .i64 r1, .int .i64 c1, .slice p1 x1.length m1], .agg #[.int .i64 ra, .int .i64 ca, .slice pa xa.length ma, .int .i64 rb, .int .i64 cb, .slice pb xb.length mb]]) (by exact res2 rfl (by exact (rsiS S.out)) (by exact (rsiS S.out))) rfl ⟨_, _, _, _, _, _, _, _, _, _, _, _, _, _, _, _, rfl, ⟨l0, l1, la, lb⟩, (S.out.grp.sel rfl [2, 3, 0, 1] (by decide) (by simp)), S.out.ext⟩
end Go.Proofs.Ytjoomdihjffmlaa
