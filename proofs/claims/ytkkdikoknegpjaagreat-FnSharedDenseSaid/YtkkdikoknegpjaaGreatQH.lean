import Derived.Test.YtkkdikoknegpjaaGreatKK
import Derived.Test.YtkkdikoknegpjaaGreatKZ
import Derived.Test.YtkkdikoknegpjaaGreatKG
import Derived.Test.YtkkdikoknegpjaaGreatKX
namespace Go.Proofs.YtkkdikoknegpjaaGreat
set_option linter.unusedSimpArgs false
set_option linter.unusedVariables false
open Go.RowKit
def sideW {X : World → World → Prop} {m : Nat} : OpSpec X m := ⟨[], fun _ u _ _ _ => ∃ n : Nat, u = .int .i64 n ∧ Side n, fun _ _ _ _ _ _ _ _ _ _ h => h⟩
def shW {n0 m : Nat} {rs : List Nat} {Ts : List TypeId} (hT : 3 ∉ Ts) : OpSpec (XS n0 rs Ts) m :=
 ⟨[], fun _ u _ _ w => IsShM n0 w u, fun _ _ _ _ _ _ _ _ _ hx ⟨r, c, r', c', v, v', xs, xs', h1, h2, h3⟩ => ⟨r, c, r', c', v, v', xs, xs', h1, h2.xs hx (Nat.le_refl _) hT, h3⟩⟩
theorem IsShM.xsW {n0 : Nat} {rs : List Nat} {Ts : List TypeId} {w w' : World} {u : Value} (h : IsShM n0 w u) (f : XS n0 rs Ts w w') (hT : 3 ∉ Ts) : IsShM n0 w' u := by
 obtain ⟨r, c, r', c', v, v', xs, xs', h1, h2, h3⟩ := h
 exact ⟨r, c, r', c', v, v', xs, xs', h1, h2.xs f (Nat.le_refl _) hT, h3⟩
def rdN (cs : List (Nat × Nat)) (L : Nat → Bool) : Nat := (cs.map fun p => if L p.1 = true then p.2 else 0).sum
theorem quo13 (y : Nat) (h : (y : Int) < 14) : ∃ d n : Nat, Side n ∧ wrap64 (d : Int) = (d : Int) ∧ (y : Int) / 13 = (d : Int) ∧ wrap64 (n : Int) = (n : Int) ∧ 1 + (d : Int) = (n : Int) :=
 ⟨y / 13, 1 + y / 13, ⟨by omega, by omega⟩, by unfold wrap64; omega, by omega, by unfold wrap64; omega, by omega⟩
theorem one_more (n : Nat) (h : n ≤ 3) : ∃ m : Nat, Side m ∧ wrap64 ((n : Int) + 1) = (m : Int) ∧ (n : Int) + 1 = (m : Int) :=
 ⟨n + 1, ⟨by omega, by omega⟩, by unfold wrap64; omega, by omega⟩
set_option maxHeartbeats 4000000 in
set_option maxRecDepth 4000 in
theorem spec_DrawSharedDense (v : Value) (w : World) (hb : Bytes w v) : Calls Tryz.prog 15 #[v] w fun e w' => ∃ (r0 c0 r1 c1 r2 c2 r3 c3 r4 c4 r5 c5 : Int) (v0 v1 v2 v3 v4 v5 : Value) (x0 x1 x2 x3 x4 x5 : List Int) (s : Int), e = .returned (.tuple #[.agg #[.int .i64 r0, .int .i64 c0, v0, .int .i64 r1, .int .i64 c1, v1], .agg #[.int .i64 r2, .int .i64 c2, v2, .int .i64 r3, .int .i64 c3, v3], .agg #[.int .i64 r4, .int .i64 c4, v4, .int .i64 r5, .int .i64 c5, v5], .int .i64 s]) ∧
 (x0.length ≤ 1048576 ∧ x1.length ≤ 1048576 ∧ x2.length ≤ 1048576 ∧ x3.length ≤ 1048576 ∧ x4.length ≤ 1048576 ∧ x5.length ≤ 1048576) ∧ Grp w.heap.size w' [v0, v1, v2, v3, v4, v5] [x0, x1, x2, x3, x4, x5] ∧ Ext w w' := by
 have S := kp (St.start w)
 have HP : Room 90000 := ⟨by omega⟩
 go_enter Tryz.func15, Tryz.ntmps15
 go_wp2_with (first | (refine aliS (L := []) S.o ?_; clear S; intro rb1 w9 S) | (refine aliS (L := [_]) S.o ?_; clear S; intro rb2 w9 S) | (refine aliS (L := [_, _]) S.o ?_; clear S; intro rb3 w9 S) | (refine ldiS S.o ?_) | (refine stiS S.o ?_; clear S; intro w9 S) | fail)
 (with_reducible refine (open' _ _ (hb.ext S.o.ext)).mono ?_)
 rintro e w1 ⟨g, rfl, hg, hr1, hx1⟩
 have O := S
 replace S := kp (St.startR hr1)
 clear hr1
 go_wp2_with (first | (refine aliS (L := []) S.o ?_; clear S; intro b9 w9 S) | (refine aliS (L := [_]) S.o ?_; clear S; intro b10 w9 S) | (refine ldiS S.o ?_) | (refine stiS S.o ?_; clear S; intro w9 S) | fail)
 (with_reducible refine (pick g _ _ (HP.le (by omega)) _ S.o.rdr).mono ?_)
 rintro e u9 ⟨v7, rfl, ⟨y1, rfl, h_y1, -⟩, hr7, hm7⟩
 replace S := kp (S.o.read hr7 hm7)
 clear hr7 hm7
 have l_y1 : (y1 : Int) < 2 := h_y1 (by omega)
 obtain ⟨n1, hn⟩ : ∃ n : Nat, n = 1 + y1 := ⟨_, rfl⟩
 have sn1 : Side n1 := ⟨by omega, by omega⟩
 have q1 : wrap64 (1 + (y1 : Int)) = (n1 : Int) := by unfold wrap64; omega
 have q2 : 1 + (y1 : Int) = (n1 : Int) := by omega
 have b_n1 : n1 ≤ 2 := by omega
 clear hn h_y1
 go_wp2_with (first | (refine aliS (L := []) S.o ?_; clear S; intro b9 w9 S) | (refine aliS (L := [_]) S.o ?_; clear S; intro b10 w9 S) | (refine ldiS S.o ?_) | (refine stiS S.o ?_; clear S; intro w9 S) | fail)
 clear q1 q2
 (with_reducible refine (pick g _ _ (HP.le (by omega)) _ S.o.rdr).mono ?_)
 rintro e u9 ⟨v7, rfl, ⟨y2, rfl, h_y2, -⟩, hr7, hm7⟩
 replace S := kp (S.o.read hr7 hm7)
 clear hr7 hm7
 have l_y2 : (y2 : Int) < 3 := h_y2 (by omega)
 obtain ⟨n2, hn⟩ : ∃ n : Nat, n = 1 + y2 := ⟨_, rfl⟩
 have sn2 : Side n2 := ⟨by omega, by omega⟩
 have q1 : wrap64 (1 + (y2 : Int)) = (n2 : Int) := by unfold wrap64; omega
 have q2 : 1 + (y2 : Int) = (n2 : Int) := by omega
 have b_n2 : n2 ≤ 3 := by omega
 clear hn h_y2
 go_wp2_with (first | (refine aliS (L := []) S.o ?_; clear S; intro b9 w9 S) | (refine aliS (L := [_]) S.o ?_; clear S; intro b10 w9 S) | (refine ldiS S.o ?_) | (refine stiS S.o ?_; clear S; intro w9 S) | fail)
 clear q1 q2
 (with_reducible refine (sh20M g _ n1 n2 14 sn1.sd sn2.sd ⟨by omega, by omega⟩ (HP.le (by omega)) _ S.o.rdr).mono ?_)
 rintro e u9 ⟨v7, rfl, ⟨r0, c0, r1, c1, v0, v1, x0, x1, rfl, gg, l0, l1⟩, hr7, hm7⟩
 obtain ⟨p0, m0, hu9, -, -⟩ := id gg.o0.ints
 try simp only at hu9
 subst hu9
 obtain ⟨p1, m1, hu9, -, -⟩ := id gg.o1.ints
 try simp only at hu9
 subst hu9
 replace S := kp (S.o.read2 gg hr7 hm7)
 clear hr7 hm7 gg
 go_wp2_with (first | (refine aliS (L := []) S.o ?_; clear S; intro b9 w9 S) | (refine aliS (L := [_]) S.o ?_; clear S; intro b10 w9 S) | (refine ldiS S.o ?_) | (refine stiS S.o ?_; clear S; intro w9 S) | fail)
 (with_reducible refine (pick g _ _ (HP.le (by omega)) _ S.o.rdr).mono ?_)
 rintro e u9 ⟨v7, rfl, ⟨y3, rfl, h_y3, -⟩, hr7, hm7⟩
 replace S := kp (S.o.read hr7 hm7)
 clear hr7 hm7
 have l_y3 : (y3 : Int) < 14 := h_y3 (by omega)
 obtain ⟨d, n3, sn3, qd, qd2, q1, q2⟩ := quo13 y3 l_y3
 clear h_y3 l_y3
 go_wp2_with (first | (refine aliS (L := []) S.o ?_; clear S; intro b9 w9 S) | (refine aliS (L := [_]) S.o ?_; clear S; intro b10 w9 S) | (refine ldiS S.o ?_) | (refine stiS S.o ?_; clear S; intro w9 S) | fail)
 clear q1 q2 qd qd2
 (with_reducible refine (sh20M g _ n1 n3 14 sn1.sd sn3.sd ⟨by omega, by omega⟩ (HP.le (by omega)) _ S.o.rdr).mono ?_)
 rintro e u9 ⟨v7, rfl, ⟨r2, c2, r3, c3, v2, v3, x2, x3, rfl, gg, l2, l3⟩, hr7, hm7⟩
 obtain ⟨p2, m2, hu9, -, -⟩ := id gg.o0.ints
 try simp only at hu9
 subst hu9
 obtain ⟨p3, m3, hu9, -, -⟩ := id gg.o1.ints
 try simp only at hu9
 subst hu9
 replace S := kp (S.o.read2 gg hr7 hm7)
 clear hr7 hm7 gg
 go_wp2_with (first | (refine aliS (L := []) S.o ?_; clear S; intro b9 w9 S) | (refine aliS (L := [_]) S.o ?_; clear S; intro b10 w9 S) | (refine ldiS S.o ?_) | (refine stiS S.o ?_; clear S; intro w9 S) | fail)
 (with_reducible refine (odd g _ 14 ⟨by omega, by omega⟩ (HP.le (by omega)) _ S.o.rdr).mono ?_)
 rintro e u9 ⟨v7, rfl, ⟨b8, rfl⟩, hr7, hm7⟩
 replace S := kp (S.o.read hr7 hm7)
 clear hr7 hm7
 cases b8
 ·go_wp2_with (first | (refine aliS (L := []) S.o ?_; clear S; intro b9 w9 S) | (refine aliS (L := [_]) S.o ?_; clear S; intro b10 w9 S) | (refine ldiS S.o ?_) | (refine stiS S.o ?_; clear S; intro w9 S) | fail)
  have RD := S.o.rdr
  obtain ⟨N1, N2, N3, N4⟩ := O.out.nestR hx1 hg S.o
  have R0 := Rst.start (show St none w _ [⟨b10, 30, [.int .i64 r2, .int .i64 c2, .slice p2 x2.length m2, .int .i64 r3, .int .i64 c3, .slice p3 x3.length m3]⟩, ⟨b9, 30, [.int .i64 r0, .int .i64 c0, .slice p0 x0.length m0, .int .i64 r1, .int .i64 c1, .slice p1 x1.length m1]⟩, ⟨rb3, 30, [.int .i64 0, .int .i64 0, .slice none 0 0, .int .i64 0, .int .i64 0, .slice none 0 0]⟩, ⟨rb2, 30, [.int .i64 0, .int .i64 0, .slice none 0 0, .int .i64 0, .int .i64 0, .slice none 0 0]⟩, ⟨rb1, 30, [.int .i64 0, .int .i64 0, .slice none 0 0, .int .i64 0, .int .i64 0, .slice none 0 0]⟩] [.slice p2 x2.length m2, .slice p3 x3.length m3, .slice p0 x0.length m0, .slice p1 x1.length m1] [x2, x3, x0, x1] from N1) N2 N3 N4
  clear N1 N2 N3 N4 S O
  obtain ⟨R1, k1, d1⟩ := R0.del (r := rb1) (T := 30) (cs := [.int .i64 0, .int .i64 0, .slice none 0 0, .int .i64 0, .int .i64 0, .slice none 0 0]) (by repeat constructor)
  clear R0
  obtain ⟨R2, k2, d2⟩ := R1.del (r := rb2) (T := 30) (cs := [.int .i64 0, .int .i64 0, .slice none 0 0, .int .i64 0, .int .i64 0, .slice none 0 0]) (by repeat constructor)
  have n21 : rb2 ∉ [g, rb1] := R1.box ⟨rb2, 30, [.int .i64 0, .int .i64 0, .slice none 0 0, .int .i64 0, .int .i64 0, .slice none 0 0]⟩ (by repeat constructor)
  clear R1
  obtain ⟨R3, k3, d3⟩ := R2.del (r := rb3) (T := 30) (cs := [.int .i64 0, .int .i64 0, .slice none 0 0, .int .i64 0, .int .i64 0, .slice none 0 0]) (by repeat constructor)
  have n32 : rb3 ∉ [g, rb2, rb1] := R2.box ⟨rb3, 30, [.int .i64 0, .int .i64 0, .slice none 0 0, .int .i64 0, .int .i64 0, .slice none 0 0]⟩ (by repeat constructor)
  clear R2
  have n12 : rb1 ≠ rb2 := fun e => n21 (by simp [e])
  have n13 : rb1 ≠ rb3 := fun e => n32 (by simp [e])
  have n23 : rb2 ≠ rb3 := fun e => n32 (by simp [e])
  have hr1 : ∀ q ∈ [g, rb3, rb2, rb1], q < u9.heap.size := fun q hq => by
   simp only [List.mem_cons, List.not_mem_nil, or_false] at hq
   rcases hq with e | e | e | e
   ·rw [e]; exact RD.lt
   ·rw [e]; exact k3.lt
   ·rw [e]; exact k2.lt
   rw [e]; exact k1.lt
  have RR := kp R3
  clear R3
  apply wp_region_zipV (XS.rel _ [g, rb3, rb2, rb1] []) (fun L _ w' => (L 9 = false → Rdr g (26004 + rdN [(5, 1), (7, 13000), (9, 4)] L) w') ∧ (L 9 = false → L 10 = false) ∧ ((L 7 = true → L 5 = true) ∧ (L 9 = true → L 7 = true) ∧ (L 11 = true → L 10 = true) ∧ (L 12 = true → L 11 = true)) ∧ Px rb1 10 30 #[.int .i64 0, .int .i64 0, .slice none 0 0, .int .i64 0, .int .i64 0, .slice none 0 0] (fun _ cs => cs = #[.int .i64 r0, .int .i64 c0, .slice p0 x0.length m0, .int .i64 r1, .int .i64 c1, .slice p1 x1.length m1]) L w' ∧ Px rb2 11 30 #[.int .i64 0, .int .i64 0, .slice none 0 0, .int .i64 0, .int .i64 0, .slice none 0 0] (fun _ cs => cs = #[.int .i64 r2, .int .i64 c2, .slice p2 x2.length m2, .int .i64 r3, .int .i64 c3, .slice p3 x3.length m3]) L w' ∧ Px rb3 12 30 #[.int .i64 0, .int .i64 0, .slice none 0 0, .int .i64 0, .int .i64 0, .slice none 0 0] (fun w' cs => IsShM u9.heap.size w' (.agg cs)) L w') [isv _, isv _, isv _, isv _, isv _, isP (Lt 2), sideW, shW (by decide), isv _, isP AnInt, anyV, anyV, anyV, sameV 9] _ ?hJ (by kernel_rfl)
  case hJ => exact ⟨fun _ => (RD.keep ⟨rfl, rfl, rfl, Nat.le_refl _, fun _ _ => rfl⟩).mono (by simp [rdN]) ⟨by simp [rdN]⟩, fun _ => rfl, ⟨fun h => (by cases h), fun h => (by cases h), fun h => (by cases h), fun h => (by cases h)⟩, ⟨fun _ => k1.keep ⟨rfl, rfl, rfl, Nat.le_refl _, fun _ _ => rfl⟩, fun h => (by cases h)⟩, ⟨fun _ => k2.keep ⟨rfl, rfl, rfl, Nat.le_refl _, fun _ _ => rfl⟩, fun h => (by cases h)⟩, ⟨fun _ => k3.keep ⟨rfl, rfl, rfl, Nat.le_refl _, fun _ _ => rfl⟩, fun h => (by cases h)⟩⟩
  case hA => intro V; simp [putAll, dstOf, Act.put]; exact rfl
  case hsl => intro V; exact rfl
  case step =>
   intro V lo up w' hr L hj
   have S := kp (RR.out.xs hr).st
   simp only [zipOkV, depsImp, isv, sideW, shW, isP, sameV, anyV, modeNg, newb, waits, Region.binds, List.map_nil, List.map_cons, List.headD_cons, List.nil_append, List.cons_append, List.filterMap_cons, List.filterMap_nil, ↓reduceIte, modeNe, Bool.false_eq_true, true_implies, List.getD_cons_zero, List.getD_cons_succ, and_true, Nat.zero_add, Nat.reduceAdd]
   refine ⟨?_, ?_, ?_, ?_, ?_, ?_, ?_, ?_, ?_, ?_, ?_, ?_, ?_, ?_⟩
   ·intro hl hw hd
    intros
    (try simp only [*])
    go_wp2_with (first | (refine ldiS S.o ?_) | fail)
    refine sS ?_
    exact ⟨XS.refl _, rfl, ⟨(by simpa [rdN, upd] using hj.1), (by simpa [upd] using hj.2.1), (by simpa [upd] using hj.2.2.1), hj.2.2.2.1.ext (fun _ h => h) (fun _ => rfl) (by decide), hj.2.2.2.2.1.ext (fun _ h => h) (fun _ => rfl) (by decide), hj.2.2.2.2.2.ext (fun _ h => h) (fun _ => rfl) (by decide)⟩⟩
   ·intro hl hw hd
    intros
    (try simp only [*])
    go_wp2_with (first | (refine ldiS S.o ?_) | fail)
    refine sS ?_
    exact ⟨XS.refl _, rfl, ⟨(by simpa [rdN, upd] using hj.1), (by simpa [upd] using hj.2.1), (by simpa [upd] using hj.2.2.1), hj.2.2.2.1.ext (fun _ h => h) (fun _ => rfl) (by decide), hj.2.2.2.2.1.ext (fun _ h => h) (fun _ => rfl) (by decide), hj.2.2.2.2.2.ext (fun _ h => h) (fun _ => rfl) (by decide)⟩⟩
   ·intro hl hw hd
    intros
    (try simp only [*])
    go_wp2_with (fail)
    refine sS ?_
    exact ⟨XS.refl _, rfl, ⟨(by simpa [rdN, upd] using hj.1), (by simpa [upd] using hj.2.1), (by simpa [upd] using hj.2.2.1), hj.2.2.2.1.ext (fun _ h => h) (fun _ => rfl) (by decide), hj.2.2.2.2.1.ext (fun _ h => h) (fun _ => rfl) (by decide), hj.2.2.2.2.2.ext (fun _ h => h) (fun _ => rfl) (by decide)⟩⟩
   ·intro hl hw hd
    intros
    (try simp only [*])
    go_wp2_with (fail)
    refine sS ?_
    exact ⟨XS.refl _, rfl, ⟨(by simpa [rdN, upd] using hj.1), (by simpa [upd] using hj.2.1), (by simpa [upd] using hj.2.2.1), hj.2.2.2.1.ext (fun _ h => h) (fun _ => rfl) (by decide), hj.2.2.2.2.1.ext (fun _ h => h) (fun _ => rfl) (by decide), hj.2.2.2.2.2.ext (fun _ h => h) (fun _ => rfl) (by decide)⟩⟩
   ·intro hl hw hd
    intros
    (try simp only [*])
    go_wp2_with (fail)
    refine sS ?_
    exact ⟨XS.refl _, rfl, ⟨(by simpa [rdN, upd] using hj.1), (by simpa [upd] using hj.2.1), (by simpa [upd] using hj.2.2.1), hj.2.2.2.1.ext (fun _ h => h) (fun _ => rfl) (by decide), hj.2.2.2.2.1.ext (fun _ h => h) (fun _ => rfl) (by decide), hj.2.2.2.2.2.ext (fun _ h => h) (fun _ => rfl) (by decide)⟩⟩
   ·intro hl hw hd
    have q7 : L 7 = false := by
     cases h : L 7
     ·rfl
     exact absurd ((hl).symm.trans (hj.2.2.1.1 h)) (by decide)
    have q9 : L 9 = false := by
     cases h : L 9
     ·rfl
     exact absurd ((q7).symm.trans (hj.2.2.1.2.1 h)) (by decide)
    have chn : ((upd L 5 true 7 = true → upd L 5 true 5 = true) ∧ (upd L 5 true 9 = true → upd L 5 true 7 = true) ∧ (upd L 5 true 11 = true → upd L 5 true 10 = true) ∧ (upd L 5 true 12 = true → upd L 5 true 11 = true)) := by
     obtain ⟨c1, c2, c3, c4⟩ := hj.2.2.1
     simp only [upd, Nat.reduceEqDiff, ↓reduceIte]
     exact ⟨fun _ => by first | rfl | trivial, c2, c3, c4⟩
    have RB : rdN [(5, 1), (7, 13000), (9, 4)] L + 14000 ≤ 60000 := by
     simp only [rdN, List.map_cons, List.map_nil, List.sum_cons, List.sum_nil]
     (repeat' split) <;> omega
    have q0 := hj.1 q9
    have e9 : 26004 + rdN [(5, 1), (7, 13000), (9, 4)] (upd L 5 true) = 26004 + rdN [(5, 1), (7, 13000), (9, 4)] L + 1 := by
     simp [rdN, upd, hl]
     (try omega)
    intros
    (try simp only [*])
    go_wp2_with (fail)
    (with_reducible refine (pick g _ _ (HP.le (by omega)) _ q0).mono ?_)
    rintro e w8 ⟨v8, rfl, ⟨x, rfl, hx, -⟩, hr8, hm8⟩
    go_wp2
    refine sS ?_
    have f : XS u9.heap.size [g, rb3, rb2, rb1] [] w' w8 := XS.of_mod hm8 (by simp) RD.lt
    exact ⟨f, ⟨x, rfl, hx (by omega)⟩, (fun _ => (by first | exact hr8 | (rw [e9]; exact hr8))), (by simpa [upd] using hj.2.1), chn, hj.2.2.2.1.mod hm8 d1 (fun _ h => h) (by decide), hj.2.2.2.2.1.mod hm8 d2 (fun _ h => h) (by decide), hj.2.2.2.2.2.mod hm8 d3 (fun cs h => IsShM.xsW h f (by decide)) (by decide)⟩
   ·intro hl hw hd
    intros
    obtain ⟨x, e3, lx⟩ := ‹Lt 2 (V 5)›
    obtain ⟨n, hn⟩ : ∃ n : Nat, n = 1 + x := ⟨_, rfl⟩
    have sn : Side n := ⟨by omega, by omega⟩
    have q1 : wrap64 (1 + (x : Int)) = (n : Int) := by unfold wrap64; omega
    have q2 : 1 + (x : Int) = (n : Int) := by omega
    clear hn
    (try simp only [*])
    go_wp2
    refine sS ?_
    exact ⟨XS.refl _, ⟨n, rfl, sn⟩, ⟨(by simpa [rdN, upd] using hj.1), (by simpa [upd] using hj.2.1), (by simpa [upd] using hj.2.2.1), hj.2.2.2.1.ext (fun _ h => h) (fun _ => rfl) (by decide), hj.2.2.2.2.1.ext (fun _ h => h) (fun _ => rfl) (by decide), hj.2.2.2.2.2.ext (fun _ h => h) (fun _ => rfl) (by decide)⟩⟩
   ·intro hl hw hd
    have q9 : L 9 = false := by
     cases h : L 9
     ·rfl
     exact absurd ((hl).symm.trans (hj.2.2.1.2.1 h)) (by decide)
    have p5 := hd 5 (by simp)
    have chn : ((upd L 7 true 7 = true → upd L 7 true 5 = true) ∧ (upd L 7 true 9 = true → upd L 7 true 7 = true) ∧ (upd L 7 true 11 = true → upd L 7 true 10 = true) ∧ (upd L 7 true 12 = true → upd L 7 true 11 = true)) := by
     obtain ⟨c1, c2, c3, c4⟩ := hj.2.2.1
     simp only [upd, Nat.reduceEqDiff, ↓reduceIte]
     exact ⟨fun _ => p5, fun _ => by first | rfl | trivial, c3, c4⟩
    have RB : rdN [(5, 1), (7, 13000), (9, 4)] L + 14000 ≤ 60000 := by
     simp only [rdN, List.map_cons, List.map_nil, List.sum_cons, List.sum_nil]
     (repeat' split) <;> omega
    have q0 := hj.1 q9
    have e9 : 26004 + rdN [(5, 1), (7, 13000), (9, 4)] (upd L 7 true) = 26004 + rdN [(5, 1), (7, 13000), (9, 4)] L + 13000 := by
     simp [rdN, upd, hl]
     (try omega)
    intros
    obtain ⟨m2, f2, sm2⟩ := ‹∃ n : Nat, V 6 = _ ∧ Side n›
    (try simp only [*])
    go_wp2_with (fail)
    (with_reducible refine (sh20M g _ n2 m2 14 sn2.sd sm2.sd ⟨by omega, by omega⟩ (HP.le (by omega)) _ q0).mono ?_)
    rintro e w8 ⟨v8, rfl, ⟨ra, ca, rb_, cb, va, vb, xa, xb, rfl, gg, la, lb⟩, hr8, hm8⟩
    go_wp2
    refine sS ?_
    have f : XS u9.heap.size [g, rb3, rb2, rb1] [] w' w8 := XS.of_mod hm8 (by simp) RD.lt
    exact ⟨f, ⟨ra, ca, rb_, cb, va, vb, xa, xb, rfl, gg.mono hr.size, la, lb⟩, (fun _ => (by first | exact hr8 | (rw [e9]; exact hr8))), (by simpa [upd] using hj.2.1), chn, hj.2.2.2.1.mod hm8 d1 (fun _ h => h) (by decide), hj.2.2.2.2.1.mod hm8 d2 (fun _ h => h) (by decide), hj.2.2.2.2.2.mod hm8 d3 (fun cs h => IsShM.xsW h f (by decide)) (by decide)⟩
   ·intro hl hw hd
    intros
    (try simp only [*])
    go_wp2_with (fail)
    refine sS ?_
    exact ⟨XS.refl _, rfl, ⟨(by simpa [rdN, upd] using hj.1), (by simpa [upd] using hj.2.1), (by simpa [upd] using hj.2.2.1), hj.2.2.2.1.ext (fun _ h => h) (fun _ => rfl) (by decide), hj.2.2.2.2.1.ext (fun _ h => h) (fun _ => rfl) (by decide), hj.2.2.2.2.2.ext (fun _ h => h) (fun _ => rfl) (by decide)⟩⟩
   ·intro hl hw hd
    have q9 := hl
    have p7 := hd 7 (by simp)
    have chn : ((upd L 9 true 7 = true → upd L 9 true 5 = true) ∧ (upd L 9 true 9 = true → upd L 9 true 7 = true) ∧ (upd L 9 true 11 = true → upd L 9 true 10 = true) ∧ (upd L 9 true 12 = true → upd L 9 true 11 = true)) := by
     obtain ⟨c1, c2, c3, c4⟩ := hj.2.2.1
     simp only [upd, Nat.reduceEqDiff, ↓reduceIte]
     exact ⟨c1, fun _ => p7, c3, c4⟩
    have RB : rdN [(5, 1), (7, 13000), (9, 4)] L + 14000 ≤ 60000 := by
     simp only [rdN, List.map_cons, List.map_nil, List.sum_cons, List.sum_nil]
     (repeat' split) <;> omega
    have q0 := hj.1 q9
    intros
    (try simp only [*])
    go_wp2_with (fail)
    (with_reducible refine (seed20 g _ 14 ⟨by omega, by omega⟩ (HP.le (by omega)) _ q0).mono ?_)
    rintro e w8 ⟨v8, rfl, ⟨s8, rfl, -⟩, hr8, hm8⟩
    go_wp2
    refine sS ?_
    have f : XS u9.heap.size [g, rb3, rb2, rb1] [] w' w8 := XS.of_mod hm8 (by simp) RD.lt
    exact ⟨f, ⟨s8, rfl⟩, (fun h => absurd h (by simp [upd])), (fun h => absurd h (by simp [upd])), chn, hj.2.2.2.1.mod hm8 d1 (fun _ h => h) (by decide), hj.2.2.2.2.1.mod hm8 d2 (fun _ h => h) (by decide), hj.2.2.2.2.2.mod hm8 d3 (fun cs h => IsShM.xsW h f (by decide)) (by decide)⟩
   ·intro hl hw hd
    have p_ := hd 9 (by simp)
    have j1 : ¬ L 9 = false := fun h => absurd (p_.symm.trans h) (by decide)
    obtain ⟨kz⟩ : Kept (Blk w' rb1 #[.int .i64 0, .int .i64 0, .slice none 0 0, .int .i64 0, .int .i64 0, .slice none 0 0] 30) := ⟨hj.2.2.2.1.no hl⟩
    intros
    have e_ : V 0 = .agg #[.int .i64 r0, .int .i64 c0, .slice p0 x0.length m0, .int .i64 r1, .int .i64 c1, .slice p1 x1.length m1] := by assumption
    refine wpList_putX (by rfl) (by rfl) _ _ (by rfl) rb1 _ _ (by rfl) (by exact e_) kz (by kernel_rfl) (by rfl) (by simp [Value.oneCell']) (.inl ⟨by simp, k1.lt⟩) (fun w'' f k hoth hsz u => ⟨f, trivial, (fun a => absurd (by simpa [upd] using a) j1), (fun a => absurd (by simpa [upd] using a) j1), (by obtain ⟨c1, c2, c3, c4⟩ := hj.2.2.1; simp only [upd, Nat.reduceEqDiff, ↓reduceIte]; exact ⟨c1, c2, fun _ => by first | rfl | trivial, c4⟩), Px.put k rfl, hj.2.2.2.2.1.ext (fun _ h => h) (fun _ => hoth _ n12.symm) (by decide), hj.2.2.2.2.2.ext (fun cs h => IsShM.xsW h f (by decide)) (fun _ => hoth _ n13.symm) (by decide)⟩)
   ·intro hl hw hd
    have p_ := hd 10 (by simp)
    have j1 : ¬ L 9 = false := fun h => absurd (p_.symm.trans (hj.2.1 h)) (by decide)
    obtain ⟨kz⟩ : Kept (Blk w' rb2 #[.int .i64 0, .int .i64 0, .slice none 0 0, .int .i64 0, .int .i64 0, .slice none 0 0] 30) := ⟨hj.2.2.2.2.1.no hl⟩
    intros
    have e_ : V 1 = .agg #[.int .i64 r2, .int .i64 c2, .slice p2 x2.length m2, .int .i64 r3, .int .i64 c3, .slice p3 x3.length m3] := by assumption
    refine wpList_putX (by rfl) (by rfl) _ _ (by rfl) rb2 _ _ (by rfl) (by exact e_) kz (by kernel_rfl) (by rfl) (by simp [Value.oneCell']) (.inl ⟨by simp, k2.lt⟩) (fun w'' f k hoth hsz u => ⟨f, trivial, (fun a => absurd (by simpa [upd] using a) j1), (fun a => absurd (by simpa [upd] using a) j1), (by obtain ⟨c1, c2, c3, c4⟩ := hj.2.2.1; simp only [upd, Nat.reduceEqDiff, ↓reduceIte]; exact ⟨c1, c2, fun _ => p_, fun _ => by first | rfl | trivial⟩), hj.2.2.2.1.ext (fun _ h => h) (fun _ => hoth _ n12) (by decide), Px.put k rfl, hj.2.2.2.2.2.ext (fun cs h => IsShM.xsW h f (by decide)) (fun _ => hoth _ n23.symm) (by decide)⟩)
   ·intro hl hw hd
    have p_ := hd 11 (by simp)
    have p10 := hj.2.2.1.2.2.1 p_
    have j1 : ¬ L 9 = false := fun h => absurd (p10.symm.trans (hj.2.1 h)) (by decide)
    obtain ⟨kz⟩ : Kept (Blk w' rb3 #[.int .i64 0, .int .i64 0, .slice none 0 0, .int .i64 0, .int .i64 0, .slice none 0 0] 30) := ⟨hj.2.2.2.2.2.no hl⟩
    intros
    obtain ⟨ra, ca, rb_, cb, va, vb, xa, xb, e_, gg, la, lb⟩ := ‹IsShM _ _ (V 7)›
    obtain ⟨pa, ma, hu9, -, -⟩ := id gg.o0.ints
    try simp only at hu9
    subst hu9
    obtain ⟨pb, mb, hu9, -, -⟩ := id gg.o1.ints
    try simp only at hu9
    subst hu9
    refine wpList_putX (by rfl) (by rfl) _ _ (by rfl) rb3 _ _ (by rfl) (by exact e_) kz (by kernel_rfl) (by rfl) (by simp [Value.oneCell']) (.inl ⟨by simp, k3.lt⟩) (fun w'' f k hoth hsz u => ⟨f, trivial, (fun a => absurd (by simpa [upd] using a) j1), (fun a => absurd (by simpa [upd] using a) j1), (by obtain ⟨c1, c2, c3, c4⟩ := hj.2.2.1; simp only [upd, Nat.reduceEqDiff, ↓reduceIte]; exact ⟨c1, c2, c3, fun _ => p_⟩), hj.2.2.2.1.ext (fun _ h => h) (fun _ => hoth _ n13) (by decide), hj.2.2.2.2.1.ext (fun _ h => h) (fun _ => hoth _ n23) (by decide), Px.put k ⟨ra, ca, rb_, cb, _, _, xa, xb, rfl, gg.xs f (Nat.le_refl _) (by decide), la, lb⟩⟩)
   intro hl hw hd
   intros
   (try simp only [*])
   go_wp2_with (fail)
   refine sS ?_
   exact ⟨XS.refl _, rfl, ⟨(by simpa [rdN, upd] using hj.1), (by simpa [upd] using hj.2.1), (by simpa [upd] using hj.2.2.1), hj.2.2.2.1.ext (fun _ h => h) (fun _ => rfl) (by decide), hj.2.2.2.2.1.ext (fun _ h => h) (fun _ => rfl) (by decide), hj.2.2.2.2.2.ext (fun _ h => h) (fun _ => rfl) (by decide)⟩⟩
  case hB => kernel_rfl
  intro V lo up w' hr L hj hL hf ha
  simp only [factsOk, isv, sideW, shW, isP, sameV, anyV, modeNg, newb, List.map_nil, List.map_cons, List.headD_cons, and_true, Nat.zero_add, Nat.reduceAdd] at hf
  simp only [List.length_cons, List.length_nil, Nat.zero_add, Nat.reduceAdd, List.drop_succ_cons, List.drop_zero]
  obtain ⟨-, -, -, -, -, -, -, -, -, ⟨-, -, -, s, e9⟩, -, -, -, ⟨-, -, -, e13⟩⟩ := hf
  clear ha
  rw [e13]
  (try simp only [List.headD_cons])
  rw [e9]
  clear e13 e9
  obtain ⟨cs1, kb1, e5⟩ := hj.2.2.2.1.yes (hL 10 (by simp))
  subst e5
  obtain ⟨cs2, kb2, e5⟩ := hj.2.2.2.2.1.yes (hL 11 (by simp))
  subst e5
  obtain ⟨cs3, kb3, ra, ca, rb_, cb, va, vb, xa, xb, e5, gg, la, lb⟩ := hj.2.2.2.2.2.yes (hL 12 (by simp))
  injection e5 with e5
  subst e5
  obtain ⟨pa, ma, hu9, -, -⟩ := id gg.o0.ints
  try simp only at hu9
  subst hu9
  obtain ⟨pb, mb, hu9, -, -⟩ := id gg.o1.ints
  try simp only at hu9
  subst hu9
  have R2 := RR.out.grp hr gg hr1
  have R3 := ((R2.join (cs := [.int .i64 ra, .int .i64 ca, .slice pa xa.length ma, .int .i64 rb_, .int .i64 cb, .slice pb xb.length mb]) kb3 n32).join (cs := [.int .i64 r2, .int .i64 c2, .slice p2 x2.length m2, .int .i64 r3, .int .i64 c3, .slice p3 x3.length m3]) kb2 n21).join (cs := [.int .i64 r0, .int .i64 c0, .slice p0 x0.length m0, .int .i64 r1, .int .i64 c1, .slice p1 x1.length m1]) kb1 (by simp; exact d1)
  clear R2 RR hr gg kb1 kb2 kb3 hj
  simp only [List.cons_append, List.nil_append] at R3
  have S := kp R3.st
  clear R3
  go_wp2_with (first | (refine ldiS S.o ?_) | (refine stiS S.o ?_; clear S; intro w9 S) | fail)
  refine bodyPost_ret (v := .tuple #[.agg #[.int .i64 r0, .int .i64 c0, .slice p0 x0.length m0, .int .i64 r1, .int .i64 c1, .slice p1 x1.length m1], .agg #[.int .i64 r2, .int .i64 c2, .slice p2 x2.length m2, .int .i64 r3, .int .i64 c3, .slice p3 x3.length m3], .agg #[.int .i64 ra, .int .i64 ca, .slice pa xa.length ma, .int .i64 rb_, .int .i64 cb, .slice pb xb.length mb], .int .i64 s]) ?A rfl ⟨_, _, _, _, _, _, _, _, _, _, _, _, _, _, _, _, _, _, _, _, _, _, _, _, _, rfl, ⟨l0, l1, l2, l3, la, lb⟩, ?B, S.o.ext⟩
  case A => exact res4 rfl (by exact (rsiS S.o)) (by exact (rsiS S.o)) (by exact (rsiS S.o)) rfl
  case B => exact S.o.grp.sel rfl [4, 5, 2, 3, 0, 1] (by decide) (by simp)
 obtain ⟨n5, sn5, q1, q2⟩ := one_more n2 b_n2
 go_wp2_with (first | (refine aliS (L := []) S.o ?_; clear S; intro b9 w9 S) | (refine aliS (L := [_]) S.o ?_; clear S; intro b10 w9 S) | (refine ldiS S.o ?_) | (refine stiS S.o ?_; clear S; intro w9 S) | fail)
 have RD := S.o.rdr
 obtain ⟨N1, N2, N3, N4⟩ := O.out.nestR hx1 hg S.o
 have R0 := Rst.start (show St none w _ [⟨b10, 30, [.int .i64 r2, .int .i64 c2, .slice p2 x2.length m2, .int .i64 r3, .int .i64 c3, .slice p3 x3.length m3]⟩, ⟨b9, 30, [.int .i64 r0, .int .i64 c0, .slice p0 x0.length m0, .int .i64 r1, .int .i64 c1, .slice p1 x1.length m1]⟩, ⟨rb3, 30, [.int .i64 0, .int .i64 0, .slice none 0 0, .int .i64 0, .int .i64 0, .slice none 0 0]⟩, ⟨rb2, 30, [.int .i64 0, .int .i64 0, .slice none 0 0, .int .i64 0, .int .i64 0, .slice none 0 0]⟩, ⟨rb1, 30, [.int .i64 0, .int .i64 0, .slice none 0 0, .int .i64 0, .int .i64 0, .slice none 0 0]⟩] [.slice p2 x2.length m2, .slice p3 x3.length m3, .slice p0 x0.length m0, .slice p1 x1.length m1] [x2, x3, x0, x1] from N1) N2 N3 N4
 clear N1 N2 N3 N4 S O
 obtain ⟨R1, k1, d1⟩ := R0.del (r := rb1) (T := 30) (cs := [.int .i64 0, .int .i64 0, .slice none 0 0, .int .i64 0, .int .i64 0, .slice none 0 0]) (by repeat constructor)
 clear R0
 obtain ⟨R2, k2, d2⟩ := R1.del (r := rb2) (T := 30) (cs := [.int .i64 0, .int .i64 0, .slice none 0 0, .int .i64 0, .int .i64 0, .slice none 0 0]) (by repeat constructor)
 have n21 : rb2 ∉ [g, rb1] := R1.box ⟨rb2, 30, [.int .i64 0, .int .i64 0, .slice none 0 0, .int .i64 0, .int .i64 0, .slice none 0 0]⟩ (by repeat constructor)
 clear R1
 obtain ⟨R3, k3, d3⟩ := R2.del (r := rb3) (T := 30) (cs := [.int .i64 0, .int .i64 0, .slice none 0 0, .int .i64 0, .int .i64 0, .slice none 0 0]) (by repeat constructor)
 have n32 : rb3 ∉ [g, rb2, rb1] := R2.box ⟨rb3, 30, [.int .i64 0, .int .i64 0, .slice none 0 0, .int .i64 0, .int .i64 0, .slice none 0 0]⟩ (by repeat constructor)
 clear R2
 have n12 : rb1 ≠ rb2 := fun e => n21 (by simp [e])
 have n13 : rb1 ≠ rb3 := fun e => n32 (by simp [e])
 have n23 : rb2 ≠ rb3 := fun e => n32 (by simp [e])
 have hr1 : ∀ q ∈ [g, rb3, rb2, rb1], q < u9.heap.size := fun q hq => by
  simp only [List.mem_cons, List.not_mem_nil, or_false] at hq
  rcases hq with e | e | e | e
  ·rw [e]; exact RD.lt
  ·rw [e]; exact k3.lt
  ·rw [e]; exact k2.lt
  rw [e]; exact k1.lt
 have RR := kp R3
 clear R3
 apply wp_region_zipV (XS.rel _ [g, rb3, rb2, rb1] []) (fun L _ w' => (L 9 = false → Rdr g (26004 + rdN [(5, 1), (7, 13000), (9, 4)] L) w') ∧ (L 9 = false → L 10 = false) ∧ ((L 7 = true → L 5 = true) ∧ (L 9 = true → L 7 = true) ∧ (L 11 = true → L 10 = true) ∧ (L 12 = true → L 11 = true)) ∧ Px rb1 10 30 #[.int .i64 0, .int .i64 0, .slice none 0 0, .int .i64 0, .int .i64 0, .slice none 0 0] (fun _ cs => cs = #[.int .i64 r0, .int .i64 c0, .slice p0 x0.length m0, .int .i64 r1, .int .i64 c1, .slice p1 x1.length m1]) L w' ∧ Px rb2 11 30 #[.int .i64 0, .int .i64 0, .slice none 0 0, .int .i64 0, .int .i64 0, .slice none 0 0] (fun _ cs => cs = #[.int .i64 r2, .int .i64 c2, .slice p2 x2.length m2, .int .i64 r3, .int .i64 c3, .slice p3 x3.length m3]) L w' ∧ Px rb3 12 30 #[.int .i64 0, .int .i64 0, .slice none 0 0, .int .i64 0, .int .i64 0, .slice none 0 0] (fun w' cs => IsShM u9.heap.size w' (.agg cs)) L w') [isv _, isv _, isv _, isv _, isv _, isP (Lt 2), sideW, shW (by decide), isv _, isP AnInt, anyV, anyV, anyV, sameV 9] _ ?hJ (by kernel_rfl)
 case hJ => exact ⟨fun _ => (RD.keep ⟨rfl, rfl, rfl, Nat.le_refl _, fun _ _ => rfl⟩).mono (by simp [rdN]) ⟨by simp [rdN]⟩, fun _ => rfl, ⟨fun h => (by cases h), fun h => (by cases h), fun h => (by cases h), fun h => (by cases h)⟩, ⟨fun _ => k1.keep ⟨rfl, rfl, rfl, Nat.le_refl _, fun _ _ => rfl⟩, fun h => (by cases h)⟩, ⟨fun _ => k2.keep ⟨rfl, rfl, rfl, Nat.le_refl _, fun _ _ => rfl⟩, fun h => (by cases h)⟩, ⟨fun _ => k3.keep ⟨rfl, rfl, rfl, Nat.le_refl _, fun _ _ => rfl⟩, fun h => (by cases h)⟩⟩
 case hA => intro V; simp [putAll, dstOf, Act.put]; exact rfl
 case hsl => intro V; exact rfl
 case step =>
  intro V lo up w' hr L hj
  have S := kp (RR.out.xs hr).st
  simp only [zipOkV, depsImp, isv, sideW, shW, isP, sameV, anyV, modeNg, newb, waits, Region.binds, List.map_nil, List.map_cons, List.headD_cons, List.nil_append, List.cons_append, List.filterMap_cons, List.filterMap_nil, ↓reduceIte, modeNe, Bool.false_eq_true, true_implies, List.getD_cons_zero, List.getD_cons_succ, and_true, Nat.zero_add, Nat.reduceAdd]
  refine ⟨?_, ?_, ?_, ?_, ?_, ?_, ?_, ?_, ?_, ?_, ?_, ?_, ?_, ?_⟩
  ·intro hl hw hd
   intros
   (try simp only [*])
   go_wp2_with (first | (refine ldiS S.o ?_) | fail)
   refine sS ?_
   exact ⟨XS.refl _, rfl, ⟨(by simpa [rdN, upd] using hj.1), (by simpa [upd] using hj.2.1), (by simpa [upd] using hj.2.2.1), hj.2.2.2.1.ext (fun _ h => h) (fun _ => rfl) (by decide), hj.2.2.2.2.1.ext (fun _ h => h) (fun _ => rfl) (by decide), hj.2.2.2.2.2.ext (fun _ h => h) (fun _ => rfl) (by decide)⟩⟩
  ·intro hl hw hd
   intros
   (try simp only [*])
   go_wp2_with (first | (refine ldiS S.o ?_) | fail)
   refine sS ?_
   exact ⟨XS.refl _, rfl, ⟨(by simpa [rdN, upd] using hj.1), (by simpa [upd] using hj.2.1), (by simpa [upd] using hj.2.2.1), hj.2.2.2.1.ext (fun _ h => h) (fun _ => rfl) (by decide), hj.2.2.2.2.1.ext (fun _ h => h) (fun _ => rfl) (by decide), hj.2.2.2.2.2.ext (fun _ h => h) (fun _ => rfl) (by decide)⟩⟩
  ·intro hl hw hd
   intros
   (try simp only [*])
   go_wp2_with (fail)
   refine sS ?_
   exact ⟨XS.refl _, rfl, ⟨(by simpa [rdN, upd] using hj.1), (by simpa [upd] using hj.2.1), (by simpa [upd] using hj.2.2.1), hj.2.2.2.1.ext (fun _ h => h) (fun _ => rfl) (by decide), hj.2.2.2.2.1.ext (fun _ h => h) (fun _ => rfl) (by decide), hj.2.2.2.2.2.ext (fun _ h => h) (fun _ => rfl) (by decide)⟩⟩
  ·intro hl hw hd
   intros
   (try simp only [*])
   go_wp2_with (fail)
   refine sS ?_
   exact ⟨XS.refl _, rfl, ⟨(by simpa [rdN, upd] using hj.1), (by simpa [upd] using hj.2.1), (by simpa [upd] using hj.2.2.1), hj.2.2.2.1.ext (fun _ h => h) (fun _ => rfl) (by decide), hj.2.2.2.2.1.ext (fun _ h => h) (fun _ => rfl) (by decide), hj.2.2.2.2.2.ext (fun _ h => h) (fun _ => rfl) (by decide)⟩⟩
  ·intro hl hw hd
   intros
   (try simp only [*])
   go_wp2_with (fail)
   refine sS ?_
   exact ⟨XS.refl _, rfl, ⟨(by simpa [rdN, upd] using hj.1), (by simpa [upd] using hj.2.1), (by simpa [upd] using hj.2.2.1), hj.2.2.2.1.ext (fun _ h => h) (fun _ => rfl) (by decide), hj.2.2.2.2.1.ext (fun _ h => h) (fun _ => rfl) (by decide), hj.2.2.2.2.2.ext (fun _ h => h) (fun _ => rfl) (by decide)⟩⟩
  ·intro hl hw hd
   have q7 : L 7 = false := by
    cases h : L 7
    ·rfl
    exact absurd ((hl).symm.trans (hj.2.2.1.1 h)) (by decide)
   have q9 : L 9 = false := by
    cases h : L 9
    ·rfl
    exact absurd ((q7).symm.trans (hj.2.2.1.2.1 h)) (by decide)
   have chn : ((upd L 5 true 7 = true → upd L 5 true 5 = true) ∧ (upd L 5 true 9 = true → upd L 5 true 7 = true) ∧ (upd L 5 true 11 = true → upd L 5 true 10 = true) ∧ (upd L 5 true 12 = true → upd L 5 true 11 = true)) := by
    obtain ⟨c1, c2, c3, c4⟩ := hj.2.2.1
    simp only [upd, Nat.reduceEqDiff, ↓reduceIte]
    exact ⟨fun _ => by first | rfl | trivial, c2, c3, c4⟩
   have RB : rdN [(5, 1), (7, 13000), (9, 4)] L + 14000 ≤ 60000 := by
    simp only [rdN, List.map_cons, List.map_nil, List.sum_cons, List.sum_nil]
    (repeat' split) <;> omega
   have q0 := hj.1 q9
   have e9 : 26004 + rdN [(5, 1), (7, 13000), (9, 4)] (upd L 5 true) = 26004 + rdN [(5, 1), (7, 13000), (9, 4)] L + 1 := by
    simp [rdN, upd, hl]
    (try omega)
   intros
   (try simp only [*])
   go_wp2_with (fail)
   (with_reducible refine (pick g _ _ (HP.le (by omega)) _ q0).mono ?_)
   rintro e w8 ⟨v8, rfl, ⟨x, rfl, hx, -⟩, hr8, hm8⟩
   go_wp2
   refine sS ?_
   have f : XS u9.heap.size [g, rb3, rb2, rb1] [] w' w8 := XS.of_mod hm8 (by simp) RD.lt
   exact ⟨f, ⟨x, rfl, hx (by omega)⟩, (fun _ => (by first | exact hr8 | (rw [e9]; exact hr8))), (by simpa [upd] using hj.2.1), chn, hj.2.2.2.1.mod hm8 d1 (fun _ h => h) (by decide), hj.2.2.2.2.1.mod hm8 d2 (fun _ h => h) (by decide), hj.2.2.2.2.2.mod hm8 d3 (fun cs h => IsShM.xsW h f (by decide)) (by decide)⟩
  ·intro hl hw hd
   intros
   obtain ⟨x, e3, lx⟩ := ‹Lt 2 (V 5)›
   obtain ⟨n, hn⟩ : ∃ n : Nat, n = 1 + x := ⟨_, rfl⟩
   have sn : Side n := ⟨by omega, by omega⟩
   have q1 : wrap64 (1 + (x : Int)) = (n : Int) := by unfold wrap64; omega
   have q2 : 1 + (x : Int) = (n : Int) := by omega
   clear hn
   (try simp only [*])
   go_wp2
   refine sS ?_
   exact ⟨XS.refl _, ⟨n, rfl, sn⟩, ⟨(by simpa [rdN, upd] using hj.1), (by simpa [upd] using hj.2.1), (by simpa [upd] using hj.2.2.1), hj.2.2.2.1.ext (fun _ h => h) (fun _ => rfl) (by decide), hj.2.2.2.2.1.ext (fun _ h => h) (fun _ => rfl) (by decide), hj.2.2.2.2.2.ext (fun _ h => h) (fun _ => rfl) (by decide)⟩⟩
  ·intro hl hw hd
   have q9 : L 9 = false := by
    cases h : L 9
    ·rfl
    exact absurd ((hl).symm.trans (hj.2.2.1.2.1 h)) (by decide)
   have p5 := hd 5 (by simp)
   have chn : ((upd L 7 true 7 = true → upd L 7 true 5 = true) ∧ (upd L 7 true 9 = true → upd L 7 true 7 = true) ∧ (upd L 7 true 11 = true → upd L 7 true 10 = true) ∧ (upd L 7 true 12 = true → upd L 7 true 11 = true)) := by
    obtain ⟨c1, c2, c3, c4⟩ := hj.2.2.1
    simp only [upd, Nat.reduceEqDiff, ↓reduceIte]
    exact ⟨fun _ => p5, fun _ => by first | rfl | trivial, c3, c4⟩
   have RB : rdN [(5, 1), (7, 13000), (9, 4)] L + 14000 ≤ 60000 := by
    simp only [rdN, List.map_cons, List.map_nil, List.sum_cons, List.sum_nil]
    (repeat' split) <;> omega
   have q0 := hj.1 q9
   have e9 : 26004 + rdN [(5, 1), (7, 13000), (9, 4)] (upd L 7 true) = 26004 + rdN [(5, 1), (7, 13000), (9, 4)] L + 13000 := by
    simp [rdN, upd, hl]
    (try omega)
   intros
   obtain ⟨m2, f2, sm2⟩ := ‹∃ n : Nat, V 6 = _ ∧ Side n›
   (try simp only [*])
   go_wp2_with (fail)
   (with_reducible refine (sh20M g _ n5 m2 14 sn5.sd sm2.sd ⟨by omega, by omega⟩ (HP.le (by omega)) _ q0).mono ?_)
   rintro e w8 ⟨v8, rfl, ⟨ra, ca, rb_, cb, va, vb, xa, xb, rfl, gg, la, lb⟩, hr8, hm8⟩
   go_wp2
   refine sS ?_
   have f : XS u9.heap.size [g, rb3, rb2, rb1] [] w' w8 := XS.of_mod hm8 (by simp) RD.lt
   exact ⟨f, ⟨ra, ca, rb_, cb, va, vb, xa, xb, rfl, gg.mono hr.size, la, lb⟩, (fun _ => (by first | exact hr8 | (rw [e9]; exact hr8))), (by simpa [upd] using hj.2.1), chn, hj.2.2.2.1.mod hm8 d1 (fun _ h => h) (by decide), hj.2.2.2.2.1.mod hm8 d2 (fun _ h => h) (by decide), hj.2.2.2.2.2.mod hm8 d3 (fun cs h => IsShM.xsW h f (by decide)) (by decide)⟩
  ·intro hl hw hd
   intros
   (try simp only [*])
   go_wp2_with (fail)
   refine sS ?_
   exact ⟨XS.refl _, rfl, ⟨(by simpa [rdN, upd] using hj.1), (by simpa [upd] using hj.2.1), (by simpa [upd] using hj.2.2.1), hj.2.2.2.1.ext (fun _ h => h) (fun _ => rfl) (by decide), hj.2.2.2.2.1.ext (fun _ h => h) (fun _ => rfl) (by decide), hj.2.2.2.2.2.ext (fun _ h => h) (fun _ => rfl) (by decide)⟩⟩
  ·intro hl hw hd
   have q9 := hl
   have p7 := hd 7 (by simp)
   have chn : ((upd L 9 true 7 = true → upd L 9 true 5 = true) ∧ (upd L 9 true 9 = true → upd L 9 true 7 = true) ∧ (upd L 9 true 11 = true → upd L 9 true 10 = true) ∧ (upd L 9 true 12 = true → upd L 9 true 11 = true)) := by
    obtain ⟨c1, c2, c3, c4⟩ := hj.2.2.1
    simp only [upd, Nat.reduceEqDiff, ↓reduceIte]
    exact ⟨c1, fun _ => p7, c3, c4⟩
   have RB : rdN [(5, 1), (7, 13000), (9, 4)] L + 14000 ≤ 60000 := by
    simp only [rdN, List.map_cons, List.map_nil, List.sum_cons, List.sum_nil]
    (repeat' split) <;> omega
   have q0 := hj.1 q9
   intros
   (try simp only [*])
   go_wp2_with (fail)
   (with_reducible refine (seed20 g _ 14 ⟨by omega, by omega⟩ (HP.le (by omega)) _ q0).mono ?_)
   rintro e w8 ⟨v8, rfl, ⟨s8, rfl, -⟩, hr8, hm8⟩
   go_wp2
   refine sS ?_
   have f : XS u9.heap.size [g, rb3, rb2, rb1] [] w' w8 := XS.of_mod hm8 (by simp) RD.lt
   exact ⟨f, ⟨s8, rfl⟩, (fun h => absurd h (by simp [upd])), (fun h => absurd h (by simp [upd])), chn, hj.2.2.2.1.mod hm8 d1 (fun _ h => h) (by decide), hj.2.2.2.2.1.mod hm8 d2 (fun _ h => h) (by decide), hj.2.2.2.2.2.mod hm8 d3 (fun cs h => IsShM.xsW h f (by decide)) (by decide)⟩
  ·intro hl hw hd
   have p_ := hd 9 (by simp)
   have j1 : ¬ L 9 = false := fun h => absurd (p_.symm.trans h) (by decide)
   obtain ⟨kz⟩ : Kept (Blk w' rb1 #[.int .i64 0, .int .i64 0, .slice none 0 0, .int .i64 0, .int .i64 0, .slice none 0 0] 30) := ⟨hj.2.2.2.1.no hl⟩
   intros
   have e_ : V 0 = .agg #[.int .i64 r0, .int .i64 c0, .slice p0 x0.length m0, .int .i64 r1, .int .i64 c1, .slice p1 x1.length m1] := by assumption
   refine wpList_putX (by rfl) (by rfl) _ _ (by rfl) rb1 _ _ (by rfl) (by exact e_) kz (by kernel_rfl) (by rfl) (by simp [Value.oneCell']) (.inl ⟨by simp, k1.lt⟩) (fun w'' f k hoth hsz u => ⟨f, trivial, (fun a => absurd (by simpa [upd] using a) j1), (fun a => absurd (by simpa [upd] using a) j1), (by obtain ⟨c1, c2, c3, c4⟩ := hj.2.2.1; simp only [upd, Nat.reduceEqDiff, ↓reduceIte]; exact ⟨c1, c2, fun _ => by first | rfl | trivial, c4⟩), Px.put k rfl, hj.2.2.2.2.1.ext (fun _ h => h) (fun _ => hoth _ n12.symm) (by decide), hj.2.2.2.2.2.ext (fun cs h => IsShM.xsW h f (by decide)) (fun _ => hoth _ n13.symm) (by decide)⟩)
  ·intro hl hw hd
   have p_ := hd 10 (by simp)
   have j1 : ¬ L 9 = false := fun h => absurd (p_.symm.trans (hj.2.1 h)) (by decide)
   obtain ⟨kz⟩ : Kept (Blk w' rb2 #[.int .i64 0, .int .i64 0, .slice none 0 0, .int .i64 0, .int .i64 0, .slice none 0 0] 30) := ⟨hj.2.2.2.2.1.no hl⟩
   intros
   have e_ : V 1 = .agg #[.int .i64 r2, .int .i64 c2, .slice p2 x2.length m2, .int .i64 r3, .int .i64 c3, .slice p3 x3.length m3] := by assumption
   refine wpList_putX (by rfl) (by rfl) _ _ (by rfl) rb2 _ _ (by rfl) (by exact e_) kz (by kernel_rfl) (by rfl) (by simp [Value.oneCell']) (.inl ⟨by simp, k2.lt⟩) (fun w'' f k hoth hsz u => ⟨f, trivial, (fun a => absurd (by simpa [upd] using a) j1), (fun a => absurd (by simpa [upd] using a) j1), (by obtain ⟨c1, c2, c3, c4⟩ := hj.2.2.1; simp only [upd, Nat.reduceEqDiff, ↓reduceIte]; exact ⟨c1, c2, fun _ => p_, fun _ => by first | rfl | trivial⟩), hj.2.2.2.1.ext (fun _ h => h) (fun _ => hoth _ n12) (by decide), Px.put k rfl, hj.2.2.2.2.2.ext (fun cs h => IsShM.xsW h f (by decide)) (fun _ => hoth _ n23.symm) (by decide)⟩)
  ·intro hl hw hd
   have p_ := hd 11 (by simp)
   have p10 := hj.2.2.1.2.2.1 p_
   have j1 : ¬ L 9 = false := fun h => absurd (p10.symm.trans (hj.2.1 h)) (by decide)
   obtain ⟨kz⟩ : Kept (Blk w' rb3 #[.int .i64 0, .int .i64 0, .slice none 0 0, .int .i64 0, .int .i64 0, .slice none 0 0] 30) := ⟨hj.2.2.2.2.2.no hl⟩
   intros
   obtain ⟨ra, ca, rb_, cb, va, vb, xa, xb, e_, gg, la, lb⟩ := ‹IsShM _ _ (V 7)›
   obtain ⟨pa, ma, hu9, -, -⟩ := id gg.o0.ints
   try simp only at hu9
   subst hu9
   obtain ⟨pb, mb, hu9, -, -⟩ := id gg.o1.ints
   try simp only at hu9
   subst hu9
   refine wpList_putX (by rfl) (by rfl) _ _ (by rfl) rb3 _ _ (by rfl) (by exact e_) kz (by kernel_rfl) (by rfl) (by simp [Value.oneCell']) (.inl ⟨by simp, k3.lt⟩) (fun w'' f k hoth hsz u => ⟨f, trivial, (fun a => absurd (by simpa [upd] using a) j1), (fun a => absurd (by simpa [upd] using a) j1), (by obtain ⟨c1, c2, c3, c4⟩ := hj.2.2.1; simp only [upd, Nat.reduceEqDiff, ↓reduceIte]; exact ⟨c1, c2, c3, fun _ => p_⟩), hj.2.2.2.1.ext (fun _ h => h) (fun _ => hoth _ n13) (by decide), hj.2.2.2.2.1.ext (fun _ h => h) (fun _ => hoth _ n23) (by decide), Px.put k ⟨ra, ca, rb_, cb, _, _, xa, xb, rfl, gg.xs f (Nat.le_refl _) (by decide), la, lb⟩⟩)
  intro hl hw hd
  intros
  (try simp only [*])
  go_wp2_with (fail)
  refine sS ?_
  exact ⟨XS.refl _, rfl, ⟨(by simpa [rdN, upd] using hj.1), (by simpa [upd] using hj.2.1), (by simpa [upd] using hj.2.2.1), hj.2.2.2.1.ext (fun _ h => h) (fun _ => rfl) (by decide), hj.2.2.2.2.1.ext (fun _ h => h) (fun _ => rfl) (by decide), hj.2.2.2.2.2.ext (fun _ h => h) (fun _ => rfl) (by decide)⟩⟩
 case hB => kernel_rfl
 intro V lo up w' hr L hj hL hf ha
 simp only [factsOk, isv, sideW, shW, isP, sameV, anyV, modeNg, newb, List.map_nil, List.map_cons, List.headD_cons, and_true, Nat.zero_add, Nat.reduceAdd] at hf
 simp only [List.length_cons, List.length_nil, Nat.zero_add, Nat.reduceAdd, List.drop_succ_cons, List.drop_zero]
 obtain ⟨-, -, -, -, -, -, -, -, -, ⟨-, -, -, s, e9⟩, -, -, -, ⟨-, -, -, e13⟩⟩ := hf
 clear ha
 rw [e13]
 (try simp only [List.headD_cons])
 rw [e9]
 clear e13 e9
 obtain ⟨cs1, kb1, e5⟩ := hj.2.2.2.1.yes (hL 10 (by simp))
 subst e5
 obtain ⟨cs2, kb2, e5⟩ := hj.2.2.2.2.1.yes (hL 11 (by simp))
 subst e5
 obtain ⟨cs3, kb3, ra, ca, rb_, cb, va, vb, xa, xb, e5, gg, la, lb⟩ := hj.2.2.2.2.2.yes (hL 12 (by simp))
 injection e5 with e5
 subst e5
 obtain ⟨pa, ma, hu9, -, -⟩ := id gg.o0.ints
 try simp only at hu9
 subst hu9
 obtain ⟨pb, mb, hu9, -, -⟩ := id gg.o1.ints
 try simp only at hu9
 subst hu9
 have R2 := RR.out.grp hr gg hr1
 have R3 := ((R2.join (cs := [.int .i64 ra, .int .i64 ca, .slice pa xa.length ma, .int .i64 rb_, .int .i64 cb, .slice pb xb.length mb]) kb3 n32).join (cs := [.int .i64 r2, .int .i64 c2, .slice p2 x2.length m2, .int .i64 r3, .int .i64 c3, .slice p3 x3.length m3]) kb2 n21).join (cs := [.int .i64 r0, .int .i64 c0, .slice p0 x0.length m0, .int .i64 r1, .int .i64 c1, .slice p1 x1.length m1]) kb1 (by simp; exact d1)
 clear R2 RR hr gg kb1 kb2 kb3 hj
 simp only [List.cons_append, List.nil_append] at R3
 have S := kp R3.st
 clear R3
 go_wp2_with (first | (refine ldiS S.o ?_) | (refine stiS S.o ?_; clear S; intro w9 S) | fail)
 refine bodyPost_ret (v := .tuple #[.agg #[.int .i64 r0, .int .i64 c0, .slice p0 x0.length m0, .int .i64 r1, .int .i64 c1, .slice p1 x1.length m1], .agg #[.int .i64 r2, .int .i64 c2, .slice p2 x2.length m2, .int .i64 r3, .int .i64 c3, .slice p3 x3.length m3], .agg #[.int .i64 ra, .int .i64 ca, .slice pa xa.length ma, .int .i64 rb_, .int .i64 cb, .slice pb xb.length mb], .int .i64 s]) ?A rfl ⟨_, _, _, _, _, _, _, _, _, _, _, _, _, _, _, _, _, _, _, _, _, _, _, _, _, rfl, ⟨l0, l1, l2, l3, la, lb⟩, ?B, S.o.ext⟩
 case A => exact res4 rfl (by exact (rsiS S.o)) (by exact (rsiS S.o)) (by exact (rsiS S.o)) rfl
 case B => exact S.o.grp.sel rfl [4, 5, 2, 3, 0, 1] (by decide) (by simp)
end Go.Proofs.YtkkdikoknegpjaaGreat
