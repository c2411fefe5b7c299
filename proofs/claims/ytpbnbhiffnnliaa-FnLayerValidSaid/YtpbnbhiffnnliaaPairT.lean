/- Sums and differences of matrices, value by value: the contracts of both packages. -/
import Derived.Test.YtpbnbhiffnnliaaKE
import Derived.Test.YtpbnbhiffnnliaaMapT
namespace Go.Proofs.Ytpbnbhiffnnliaa
set_option linter.unusedSimpArgs false
set_option linter.unusedVariables false
open Go.RowKit
theorem Blk.oth {w : World} {b g : Nat} {cs : Array Value} {T : TypeId} (h : Blk w b cs T) (hne : b ≠ g) (i j k : Nat) (p q u : Value) : Blk (((w.setCell ⟨g, i, none⟩ p).setCell ⟨g, j, none⟩ q).setCell ⟨g, k, none⟩ u) b cs T := ((h.setO hne i p).setO hne j q).setO hne k u
theorem Blk.sub {w : World} {b : Nat} {cs cs' : Array Value} {T : TypeId} (h : Blk w b cs T) (i j k : Nat) (p q u : Value) (e : ((cs.setIfInBounds i p).setIfInBounds j q).setIfInBounds k u = cs') : Blk (((w.setCell ⟨b, i, none⟩ p).setCell ⟨b, j, none⟩ q).setCell ⟨b, k, none⟩ u) b cs' T := by
  subst e
  exact heap_setCell_same _ b k _ T u (heap_setCell_same _ b j _ T q (heap_setCell_same w b i _ T p h))
theorem Own.oth {B : Nat} {w : World} {v : Value} {xs : List Int} (h : Own B w v xs) {g : Nat} (hne : v.ownBlock ≠ some g) (i j k : Nat) (p q u : Value) : Own B (((w.setCell ⟨g, i, none⟩ p).setCell ⟨g, j, none⟩ q).setCell ⟨g, k, none⟩ u) v xs :=
  ((h.setOther g hne i p).setOther g hne j q).setOther g hne k u
theorem Ext.oth {a w : World} (h : Ext a w) {g : Nat} (hg : a.heap.size ≤ g) (i j k : Nat) (p q u : Value) : Ext a (((w.setCell ⟨g, i, none⟩ p).setCell ⟨g, j, none⟩ q).setCell ⟨g, k, none⟩ u) :=
  ((h.setCell (p := ⟨g, i, none⟩) hg p).setCell (p := ⟨g, j, none⟩) hg q).setCell (p := ⟨g, k, none⟩) hg u
theorem Blk.sixC {w : World} {b : Nat} {x0 x1 x2 x3 x4 x5 : Value} {T : TypeId} (h : Blk w b #[x0, x1, x2, x3, x4, x5] T) : w.cell? ⟨b, 0, none⟩ = some x0 ∧ w.cell? ⟨b, 1, none⟩ = some x1 ∧ w.cell? ⟨b, 2, none⟩ = some x2 ∧ w.cell? ⟨b, 3, none⟩ = some x3 ∧ w.cell? ⟨b, 4, none⟩ = some x4 ∧ w.cell? ⟨b, 5, none⟩ = some x5 :=
  ⟨by rw [h.cell]; rfl, by rw [h.cell]; rfl, by rw [h.cell]; rfl, by rw [h.cell]; rfl, by rw [h.cell]; rfl, by rw [h.cell]; rfl⟩
/-- Two lists that lie apart. -/
structure Apt (v u : Value) : Prop where
  l : ∀ q, u.ownBlock = some q → v.ownBlock ≠ some q
  r : ∀ q, v.ownBlock = some q → u.ownBlock ≠ some q
theorem Apt.symm {v u : Value} (h : Apt v u) : Apt u v := ⟨h.r, h.l⟩
theorem Own.apt {B : Nat} {w w' : World} {v u : Value} {xs ys : List Int} (h : Own B w v xs) (k : Own w.heap.size w' u ys) : Apt v u := ⟨(apart h k).1, (apart h k).2⟩
theorem Apt.nil (v u : Value) (h : v.ownBlock = none) : Apt v u := ⟨fun q _ e => (by rw [h] at e; cases e), fun q e => (by rw [h] at e; cases e)⟩
theorem Blk.c18 {w : World} {b : Nat} {x0 x1 x2 x3 x4 x5 x6 x7 x8 x9 x10 x11 x12 x13 x14 x15 x16 x17 : Value} {T : TypeId} (h : Blk w b #[x0, x1, x2, x3, x4, x5, x6, x7, x8, x9, x10, x11, x12, x13, x14, x15, x16, x17] T) : w.cell? ⟨b, 0, none⟩ = some x0 ∧ w.cell? ⟨b, 1, none⟩ = some x1 ∧ w.cell? ⟨b, 2, none⟩ = some x2 ∧ w.cell? ⟨b, 3, none⟩ = some x3 ∧ w.cell? ⟨b, 4, none⟩ = some x4 ∧ w.cell? ⟨b, 5, none⟩ = some x5 ∧ w.cell? ⟨b, 6, none⟩ = some x6 ∧ w.cell? ⟨b, 7, none⟩ = some x7 ∧ w.cell? ⟨b, 8, none⟩ = some x8 ∧ w.cell? ⟨b, 9, none⟩ = some x9 ∧ w.cell? ⟨b, 10, none⟩ = some x10 ∧ w.cell? ⟨b, 11, none⟩ = some x11 ∧ w.cell? ⟨b, 12, none⟩ = some x12 ∧ w.cell? ⟨b, 13, none⟩ = some x13 ∧ w.cell? ⟨b, 14, none⟩ = some x14 ∧ w.cell? ⟨b, 15, none⟩ = some x15 ∧ w.cell? ⟨b, 16, none⟩ = some x16 ∧ w.cell? ⟨b, 17, none⟩ = some x17 :=
  ⟨by rw [h.cell]; rfl, by rw [h.cell]; rfl, by rw [h.cell]; rfl, by rw [h.cell]; rfl, by rw [h.cell]; rfl, by rw [h.cell]; rfl, by rw [h.cell]; rfl, by rw [h.cell]; rfl, by rw [h.cell]; rfl, by rw [h.cell]; rfl, by rw [h.cell]; rfl, by rw [h.cell]; rfl, by rw [h.cell]; rfl, by rw [h.cell]; rfl, by rw [h.cell]; rfl, by rw [h.cell]; rfl, by rw [h.cell]; rfl, by rw [h.cell]; rfl⟩
theorem pairM_bad (f : Int → Int → Int) {r c p q : Int} {xs ys : List Int} (h : (mOk r c xs && mOk p q ys && (decide (r = p) && decide (c = q))) = false) : pairM f ⟨r, c, xs⟩ ⟨p, q, ys⟩ = matZ := by
  unfold pairM Mat.ok sameS; rw [h]; rfl
theorem pairM_ok (f : Int → Int → Int) {r c p q : Int} {xs ys : List Int} (h1 : mOk r c xs = true) (h2 : mOk p q ys = true) (h3 : (decide (r = p) && decide (c = q)) = true) :
    pairM f ⟨r, c, xs⟩ ⟨p, q, ys⟩ = ⟨r, c, mapTo (fun i => f (xs.getD i 0) (ys.getD i 0)) xs.length⟩ := by
  unfold pairM Mat.ok sameS; simp only [h1, h2, h3, Bool.and_self, if_true]
theorem pair_sides {r c p q : Int} (h3 : (decide (r = p) && decide (c = q)) = true) : p = r ∧ q = c := by
  simp only [Bool.and_eq_true, decide_eq_true_eq] at h3; exact ⟨h3.1.symm, h3.2.symm⟩

set_option maxHeartbeats 4000000 in
set_option maxRecDepth 2000 in
theorem impl_pair_addR (r c p q : Int) (v u : Value) (xs ys : List Int) (w : World) (h1 : Ints w v xs) (h2 : Ints w u ys) : Calls Try.prog 53 #[.agg #[.int .i64 r, .int .i64 c, v], .agg #[.int .i64 p, .int .i64 q, u], .func (.func 13) #[] #[]] w (MatPost (pairM addR ⟨r, c, xs⟩ ⟨p, q, ys⟩) w) := by
  unfold MatPost
  cases g1 : mOk r c xs
  · rw [pairM_bad _ (by simp [g1])]
    obtain ⟨s1, n1, rfl, hm1, hc1⟩ := id h1
    obtain ⟨s2, n2, rfl, hm2, hc2⟩ := id h2
    clear hm1 hc1 hm2 hc2
    have HV := Kept.mk h1
    have HU := Kept.mk h2
    clear h1 h2
    have MA : Kept (∀ w', Ext w w' → Calls Try.prog 24 #[.agg #[.int .i64 r, .int .i64 c, .slice s1 xs.length n1]] w' fun e w'' => e = .returned (.bool false) ∧ Ext w' w'') := ⟨fun w' hx => g1 ▸ impl_MatrixValid _ _ _ xs w' (HV.out.keep hx)⟩
    clear g1
    have X := Kept.mk ((((Ext.refl w).alloc (.cells #[.int .i64 r, .int .i64 c, .slice s1 xs.length n1] 25)).alloc (.cells #[.int .i64 p, .int .i64 q, .slice s2 ys.length n2] 25)).alloc (.cells #[.int .i64 0, .int .i64 0, .slice none 0 0] 25))
    have kA := ((Blk.new w #[.int .i64 r, .int .i64 c, .slice s1 xs.length n1] 25).old (.cells #[.int .i64 p, .int .i64 q, .slice s2 ys.length n2] 25)).old (.cells #[.int .i64 0, .int .i64 0, .slice none 0 0] 25)
    have kB := (Blk.new (w.alloc (.cells #[.int .i64 r, .int .i64 c, .slice s1 xs.length n1] 25)) #[.int .i64 p, .int .i64 q, .slice s2 ys.length n2] 25).old (.cells #[.int .i64 0, .int .i64 0, .slice none 0 0] 25)
    have kR := Blk.new ((w.alloc (.cells #[.int .i64 r, .int .i64 c, .slice s1 xs.length n1] 25)).alloc (.cells #[.int .i64 p, .int .i64 q, .slice s2 ys.length n2] 25)) #[.int .i64 0, .int .i64 0, .slice none 0 0] 25
    simp only [World.size_alloc] at kB kR
    go_enter Try.func53, Try.ntmps53
    obtain ⟨akA0, akA1, akA2⟩ := kA.three
    go_wp2_with (fail)
    clear akA0 akA1 akA2
    (with_reducible refine (MA.out _ X.out).mono ?_)
    rintro e u1 ⟨rfl, x9⟩
    replace X := Kept.mk (X.out.trans x9)
    replace kA := kA.keep x9
    replace kB := kB.keep x9
    replace kR := kR.keep x9
    clear x9
    clear kA kB
    have RK := Kept.mk kR
    obtain ⟨r0, r1, r2⟩ := kR.three
    have rf := kR.free
    clear kR
    go_wp2
    exact bodyPost_ret (v := .agg #[.int .i64 0, .int .i64 0, .slice none 0 0]) (by simp [results, Try.results53, go_sem, *]) rfl ⟨_, rfl, Own.nil _ _, by first | exact X.out.other3 (by show w.heap.size ≤ w.heap.size + 1 + 1; omega) _ _ _ | exact X.out⟩
  · cases g2 : mOk p q ys
    · rw [pairM_bad _ (by simp [g2])]
      obtain ⟨s1, n1, rfl, hm1, hc1⟩ := id h1
      obtain ⟨s2, n2, rfl, hm2, hc2⟩ := id h2
      clear hm1 hc1 hm2 hc2
      have HV := Kept.mk h1
      have HU := Kept.mk h2
      clear h1 h2
      have MA : Kept (∀ w', Ext w w' → Calls Try.prog 24 #[.agg #[.int .i64 r, .int .i64 c, .slice s1 xs.length n1]] w' fun e w'' => e = .returned (.bool true) ∧ Ext w' w'') := ⟨fun w' hx => g1 ▸ impl_MatrixValid _ _ _ xs w' (HV.out.keep hx)⟩
      have MB : Kept (∀ w', Ext w w' → Calls Try.prog 24 #[.agg #[.int .i64 p, .int .i64 q, .slice s2 ys.length n2]] w' fun e w'' => e = .returned (.bool false) ∧ Ext w' w'') := ⟨fun w' hx => g2 ▸ impl_MatrixValid _ _ _ ys w' (HU.out.keep hx)⟩
      clear g1 g2
      have X := Kept.mk ((((Ext.refl w).alloc (.cells #[.int .i64 r, .int .i64 c, .slice s1 xs.length n1] 25)).alloc (.cells #[.int .i64 p, .int .i64 q, .slice s2 ys.length n2] 25)).alloc (.cells #[.int .i64 0, .int .i64 0, .slice none 0 0] 25))
      have kA := ((Blk.new w #[.int .i64 r, .int .i64 c, .slice s1 xs.length n1] 25).old (.cells #[.int .i64 p, .int .i64 q, .slice s2 ys.length n2] 25)).old (.cells #[.int .i64 0, .int .i64 0, .slice none 0 0] 25)
      have kB := (Blk.new (w.alloc (.cells #[.int .i64 r, .int .i64 c, .slice s1 xs.length n1] 25)) #[.int .i64 p, .int .i64 q, .slice s2 ys.length n2] 25).old (.cells #[.int .i64 0, .int .i64 0, .slice none 0 0] 25)
      have kR := Blk.new ((w.alloc (.cells #[.int .i64 r, .int .i64 c, .slice s1 xs.length n1] 25)).alloc (.cells #[.int .i64 p, .int .i64 q, .slice s2 ys.length n2] 25)) #[.int .i64 0, .int .i64 0, .slice none 0 0] 25
      simp only [World.size_alloc] at kB kR
      go_enter Try.func53, Try.ntmps53
      obtain ⟨akA0, akA1, akA2⟩ := kA.three
      go_wp2_with (fail)
      clear akA0 akA1 akA2
      (with_reducible refine (MA.out _ X.out).mono ?_)
      rintro e u1 ⟨rfl, x9⟩
      replace X := Kept.mk (X.out.trans x9)
      replace kA := kA.keep x9
      replace kB := kB.keep x9
      replace kR := kR.keep x9
      clear x9
      obtain ⟨akB0, akB1, akB2⟩ := kB.three
      go_wp2_with (fail)
      clear akB0 akB1 akB2
      (with_reducible refine (MB.out _ X.out).mono ?_)
      rintro e u2 ⟨rfl, x9⟩
      replace X := Kept.mk (X.out.trans x9)
      replace kA := kA.keep x9
      replace kB := kB.keep x9
      replace kR := kR.keep x9
      clear x9
      clear kA kB
      have RK := Kept.mk kR
      obtain ⟨r0, r1, r2⟩ := kR.three
      have rf := kR.free
      clear kR
      go_wp2
      exact bodyPost_ret (v := .agg #[.int .i64 0, .int .i64 0, .slice none 0 0]) (by simp [results, Try.results53, go_sem, *]) rfl ⟨_, rfl, Own.nil _ _, by first | exact X.out.other3 (by show w.heap.size ≤ w.heap.size + 1 + 1; omega) _ _ _ | exact X.out⟩
    · cases g3 : (decide (r = p) && decide (c = q))
      · rw [pairM_bad _ (by simp [g3])]
        obtain ⟨s1, n1, rfl, hm1, hc1⟩ := id h1
        obtain ⟨s2, n2, rfl, hm2, hc2⟩ := id h2
        clear hm1 hc1 hm2 hc2
        have HV := Kept.mk h1
        have HU := Kept.mk h2
        clear h1 h2
        have MA : Kept (∀ w', Ext w w' → Calls Try.prog 24 #[.agg #[.int .i64 r, .int .i64 c, .slice s1 xs.length n1]] w' fun e w'' => e = .returned (.bool true) ∧ Ext w' w'') := ⟨fun w' hx => g1 ▸ impl_MatrixValid _ _ _ xs w' (HV.out.keep hx)⟩
        have MB : Kept (∀ w', Ext w w' → Calls Try.prog 24 #[.agg #[.int .i64 p, .int .i64 q, .slice s2 ys.length n2]] w' fun e w'' => e = .returned (.bool true) ∧ Ext w' w'') := ⟨fun w' hx => g2 ▸ impl_MatrixValid _ _ _ ys w' (HU.out.keep hx)⟩
        have SS : Kept (∀ w', Calls Try.prog 64 #[.agg #[.int .i64 r, .int .i64 c, .slice s1 xs.length n1], .agg #[.int .i64 p, .int .i64 q, .slice s2 ys.length n2]] w' fun e w'' => e = .returned (.bool false) ∧ Ext w' w'') := ⟨fun w' => impl_sameSides r c p q _ _ false g3 w'⟩
        clear g1 g2 g3
        have X := Kept.mk ((((Ext.refl w).alloc (.cells #[.int .i64 r, .int .i64 c, .slice s1 xs.length n1] 25)).alloc (.cells #[.int .i64 p, .int .i64 q, .slice s2 ys.length n2] 25)).alloc (.cells #[.int .i64 0, .int .i64 0, .slice none 0 0] 25))
        have kA := ((Blk.new w #[.int .i64 r, .int .i64 c, .slice s1 xs.length n1] 25).old (.cells #[.int .i64 p, .int .i64 q, .slice s2 ys.length n2] 25)).old (.cells #[.int .i64 0, .int .i64 0, .slice none 0 0] 25)
        have kB := (Blk.new (w.alloc (.cells #[.int .i64 r, .int .i64 c, .slice s1 xs.length n1] 25)) #[.int .i64 p, .int .i64 q, .slice s2 ys.length n2] 25).old (.cells #[.int .i64 0, .int .i64 0, .slice none 0 0] 25)
        have kR := Blk.new ((w.alloc (.cells #[.int .i64 r, .int .i64 c, .slice s1 xs.length n1] 25)).alloc (.cells #[.int .i64 p, .int .i64 q, .slice s2 ys.length n2] 25)) #[.int .i64 0, .int .i64 0, .slice none 0 0] 25
        simp only [World.size_alloc] at kB kR
        go_enter Try.func53, Try.ntmps53
        obtain ⟨akA0, akA1, akA2⟩ := kA.three
        go_wp2_with (fail)
        clear akA0 akA1 akA2
        (with_reducible refine (MA.out _ X.out).mono ?_)
        rintro e u1 ⟨rfl, x9⟩
        replace X := Kept.mk (X.out.trans x9)
        replace kA := kA.keep x9
        replace kB := kB.keep x9
        replace kR := kR.keep x9
        clear x9
        obtain ⟨akB0, akB1, akB2⟩ := kB.three
        go_wp2_with (fail)
        clear akB0 akB1 akB2
        (with_reducible refine (MB.out _ X.out).mono ?_)
        rintro e u2 ⟨rfl, x9⟩
        replace X := Kept.mk (X.out.trans x9)
        replace kA := kA.keep x9
        replace kB := kB.keep x9
        replace kR := kR.keep x9
        clear x9
        obtain ⟨akA0, akA1, akA2⟩ := kA.three
        obtain ⟨akB0, akB1, akB2⟩ := kB.three
        go_wp2_with (fail)
        clear akA0 akA1 akA2
        clear akB0 akB1 akB2
        (with_reducible refine (SS.out _).mono ?_)
        rintro e u3 ⟨rfl, x9⟩
        replace X := Kept.mk (X.out.trans x9)
        replace kA := kA.keep x9
        replace kB := kB.keep x9
        replace kR := kR.keep x9
        clear x9
        clear kA kB
        have RK := Kept.mk kR
        obtain ⟨r0, r1, r2⟩ := kR.three
        have rf := kR.free
        clear kR
        go_wp2
        exact bodyPost_ret (v := .agg #[.int .i64 0, .int .i64 0, .slice none 0 0]) (by simp [results, Try.results53, go_sem, *]) rfl ⟨_, rfl, Own.nil _ _, by first | exact X.out.other3 (by show w.heap.size ≤ w.heap.size + 1 + 1; omega) _ _ _ | exact X.out⟩
      · rw [pairM_ok _ g1 g2 g3]
        obtain ⟨e1, e2⟩ := pair_sides g3
        subst e1 e2
        obtain ⟨s1, n1, rfl, hm1, hc1⟩ := id h1
        obtain ⟨s2, n2, rfl, hm2, hc2⟩ := id h2
        clear hm1 hc1 hm2 hc2
        have HV := Kept.mk h1
        have HU := Kept.mk h2
        clear h1 h2
        obtain ⟨R, C, rfl, rfl, R1, R5, C1, C5, hL, L25, hrv⟩ := mOk_nat g1
        obtain ⟨R', C', e1, e2, _, _, _, _, hL', _, _⟩ := mOk_nat g2
        have hL2 : ys.length = R * C := by rw [hL', show R = R' by omega, show C = C' by omega]
        clear e1 e2 hL' hrv
        have MA : Kept (∀ w', Ext w w' → Calls Try.prog 24 #[.agg #[.int .i64 (R : Int), .int .i64 (C : Int), .slice s1 xs.length n1]] w' fun e w'' => e = .returned (.bool true) ∧ Ext w' w'') := ⟨fun w' hx => g1 ▸ impl_MatrixValid _ _ _ xs w' (HV.out.keep hx)⟩
        have MB : Kept (∀ w', Ext w w' → Calls Try.prog 24 #[.agg #[.int .i64 (R : Int), .int .i64 (C : Int), .slice s2 ys.length n2]] w' fun e w'' => e = .returned (.bool true) ∧ Ext w' w'') := ⟨fun w' hx => g2 ▸ impl_MatrixValid _ _ _ ys w' (HU.out.keep hx)⟩
        have EM : Kept (∀ w, Calls Try.prog 38 #[.int .i64 R, .int .i64 C] w (ZeroPost R C w)) := ⟨fun w => impl_emptyMatrix R C R5 C5 w⟩
        unfold ZeroPost at EM
        rw [hL] at HV MA ⊢
        rw [hL2] at HU MB ⊢
        generalize R * C = L at *
        have SS : Kept (∀ w', Calls Try.prog 64 #[.agg #[.int .i64 R, .int .i64 C, .slice s1 L n1], .agg #[.int .i64 R, .int .i64 C, .slice s2 L n2]] w' fun e w'' => e = .returned (.bool true) ∧ Ext w' w'') := ⟨fun w' => impl_sameSides R C R C _ _ true (by simp) w'⟩
        have FA : Kept (∀ x y w, Calls Try.prog 13 #[.int .i64 x, .int .i64 y] w fun e w' => e = .returned (.int .i64 (addR x y)) ∧ w = w') := ⟨fun x y w => impl_AddRing x y w⟩
        have HL := Kept.mk hL
        have HL2 := Kept.mk hL2
        clear hL hL2 R1 R5 C1 C5 g1 g2 g3
        have X := Kept.mk ((((Ext.refl w).alloc (.cells #[.int .i64 R, .int .i64 C, .slice s1 L n1] 25)).alloc (.cells #[.int .i64 R, .int .i64 C, .slice s2 L n2] 25)).alloc (.cells #[.int .i64 0, .int .i64 0, .slice none 0 0] 25))
        have kA := ((Blk.new w #[.int .i64 R, .int .i64 C, .slice s1 L n1] 25).old (.cells #[.int .i64 R, .int .i64 C, .slice s2 L n2] 25)).old (.cells #[.int .i64 0, .int .i64 0, .slice none 0 0] 25)
        have kB := (Blk.new (w.alloc (.cells #[.int .i64 R, .int .i64 C, .slice s1 L n1] 25)) #[.int .i64 R, .int .i64 C, .slice s2 L n2] 25).old (.cells #[.int .i64 0, .int .i64 0, .slice none 0 0] 25)
        have kR := Blk.new ((w.alloc (.cells #[.int .i64 R, .int .i64 C, .slice s1 L n1] 25)).alloc (.cells #[.int .i64 R, .int .i64 C, .slice s2 L n2] 25)) #[.int .i64 0, .int .i64 0, .slice none 0 0] 25
        simp only [World.size_alloc] at kB kR
        go_enter Try.func53, Try.ntmps53
        obtain ⟨akA0, akA1, akA2⟩ := kA.three
        go_wp2_with (fail)
        clear akA0 akA1 akA2
        (with_reducible refine (MA.out _ X.out).mono ?_)
        rintro e u1 ⟨rfl, x9⟩
        replace X := Kept.mk (X.out.trans x9)
        replace kA := kA.keep x9
        replace kB := kB.keep x9
        replace kR := kR.keep x9
        clear x9
        obtain ⟨akB0, akB1, akB2⟩ := kB.three
        go_wp2_with (fail)
        clear akB0 akB1 akB2
        (with_reducible refine (MB.out _ X.out).mono ?_)
        rintro e u2 ⟨rfl, x9⟩
        replace X := Kept.mk (X.out.trans x9)
        replace kA := kA.keep x9
        replace kB := kB.keep x9
        replace kR := kR.keep x9
        clear x9
        obtain ⟨akA0, akA1, akA2⟩ := kA.three
        obtain ⟨akB0, akB1, akB2⟩ := kB.three
        go_wp2_with (fail)
        clear akA0 akA1 akA2
        clear akB0 akB1 akB2
        (with_reducible refine (SS.out _).mono ?_)
        rintro e u3 ⟨rfl, x9⟩
        replace X := Kept.mk (X.out.trans x9)
        replace kA := kA.keep x9
        replace kB := kB.keep x9
        replace kR := kR.keep x9
        clear x9
        obtain ⟨akA0, akA1, akA2⟩ := kA.three
        go_wp2_with (fail)
        clear akA0 akA1 akA2
        (with_reducible refine (EM.out _).mono ?_)
        rintro e u4 ⟨g, rfl, oZ, x9⟩
        replace oZ := oZ.mono X.out.size
        replace X := Kept.mk (X.out.trans x9)
        replace kA := kA.keep x9
        replace kB := kB.keep x9
        replace kR := kR.keep x9
        clear x9
        have kM := Blk.new u4 #[.int .i64 R, .int .i64 C, .slice (some ⟨g, 0, none⟩) L L] 25
        replace kA := kA.old (.cells #[.int .i64 R, .int .i64 C, .slice (some ⟨g, 0, none⟩) L L] 25)
        replace kB := kB.old (.cells #[.int .i64 R, .int .i64 C, .slice (some ⟨g, 0, none⟩) L L] 25)
        replace kR := kR.old (.cells #[.int .i64 R, .int .i64 C, .slice (some ⟨g, 0, none⟩) L L] 25)
        replace oZ := oZ.keep ((Ext.refl u4).alloc (.cells #[.int .i64 R, .int .i64 C, .slice (some ⟨g, 0, none⟩) L L] 25))
        replace X := Kept.mk (X.out.alloc (.cells #[.int .i64 R, .int .i64 C, .slice (some ⟨g, 0, none⟩) L L] 25))
        obtain ⟨akA0, akA1, akA2⟩ := kA.three
        go_wp2_with (fail)
        clear akA0 akA1 akA2
        have lM := X.out.size
        generalize hgM : u4.heap.size = gM at *
        go_loopw [8, 9, 33] (fun _ _ i wr => ∃ (j : Nat) (zs : List Int), j ≤ L ∧ i = .int .i64 j ∧ zs.length = L ∧ Own w.heap.size wr (.slice (some ⟨g, 0, none⟩) L L) zs ∧ (∀ i, i < j → zs.getD i 0 = addR (xs.getD i 0) (ys.getD i 0)) ∧ Blk wr (gM) #[.int .i64 R, .int .i64 C, .slice (some ⟨g, 0, none⟩) L L] 25 ∧ Blk wr (w.heap.size) #[.int .i64 R, .int .i64 C, .slice s1 L n1] 25 ∧ Blk wr (w.heap.size + 1) #[.int .i64 R, .int .i64 C, .slice s2 L n2] 25 ∧ Blk wr (w.heap.size + 1 + 1) #[.int .i64 0, .int .i64 0, .slice none 0 0] 25 ∧ Ext w wr) (fun _ _ i _ => L - (intOf i).toNat)
        case atStart => exact ⟨0, zer L, Nat.zero_le _, rfl, zer_len L, oZ, fun i hi => absurd hi (Nat.not_lt_zero i), kM, kA, kB, kR, X.out⟩
        case round =>
          clear X kM kA kB kR oZ
          obtain ⟨j, zs, hj, rfl, hlen, ho, hval, kM, kA, kB, kR, hx⟩ := hrel
          have neM := ho.ne kM (by decide)
          have neA := ho.ne kA (by decide)
          have neB := ho.ne kB (by decide)
          have neR := ho.ne kR (by decide)
          by_cases hlt : j < L
          · have hltZ : (j : Int) < (L : Int) := by omega
            obtain ⟨b, off, es, lb, cb⟩ := at_len HV.out HL.out hlt
            subst es
            obtain ⟨b2, off2, es, lb2, cb2⟩ := at_len HU.out HL2.out hlt
            subst es
            generalize hp : xs.getD j 0 = p at cb
            have HP := Kept.mk hp
            clear hp
            generalize hq : ys.getD j 0 = q at cb2
            have HQ := Kept.mk hq
            clear hq
            have KM := Kept.mk kM
            clear kM
            have KA := Kept.mk kA
            clear kA
            have KB := Kept.mk kB
            clear kB
            have KR := Kept.mk kR
            clear kR
            have HO := Kept.mk ho
            have HX := Kept.mk hx
            have HW := Kept.mk hval
            have HN := Kept.mk hlen
            clear ho hx hval hlen
            have cbr := (HX.out.cells.1 b (off + j) lb).trans cb
            go_wp2_with (fail)
            apply wp_region_zip [isv _, isv _, isv _, isv _, isv _, isv _, isv _, isv _, isv _, isv _, isv _] _ (by kernel_rfl)
            case hA => intro V; simp [putAll, dstOf, Act.put]; exact rfl
            case hsl => intro V; exact rfl
            case step =>
              intro V lo up w' hr
              obtain ⟨hcr, hzr⟩ := hr.cells
              have hsr := hr.size
              obtain ⟨m0, m1, m2⟩ := (KM.out.keep hr).three
              obtain ⟨c0, c1, c2⟩ := (KB.out.keep hr).three
              have cbs := ((HX.out.trans hr).cells.1 b2 (off2 + j) lb2).trans cb2
              simp only [zipOk, depsImp, isv, newb, waits, Region.binds, List.map_nil, List.map_cons, List.headD_cons, List.nil_append, List.cons_append, List.filterMap_cons, List.filterMap_nil, ↓reduceIte, modeNe, Bool.false_eq_true, true_implies, List.getD_cons_zero, List.getD_cons_succ, and_true]
              refine ⟨?_, ?_, ?_, ?_, ?_, ?_, ?_, ?_, ?_, ?_, ?_⟩
              · intros
                go_wp2
                refine stepQ_mk rfl (by simp only [List.getElem?_toArray, List.getElem?_cons_succ, List.getElem?_cons_zero]; exact rfl) ?_
                exact ⟨Ext.refl _, rfl⟩
              · intros
                go_wp2
                refine stepQ_mk rfl (by simp only [List.getElem?_toArray, List.getElem?_cons_succ, List.getElem?_cons_zero]; exact rfl) ?_
                exact ⟨Ext.refl _, rfl⟩
              · intros
                go_wp2
                refine stepQ_mk rfl (by simp only [List.getElem?_toArray, List.getElem?_cons_succ, List.getElem?_cons_zero]; exact rfl) ?_
                exact ⟨Ext.refl _, rfl⟩
              · intros
                go_wp2
                refine stepQ_mk rfl (by simp only [List.getElem?_toArray, List.getElem?_cons_succ, List.getElem?_cons_zero]; exact rfl) ?_
                exact ⟨Ext.refl _, rfl⟩
              · intros
                go_wp2
                refine stepQ_mk rfl (by simp only [List.getElem?_toArray, List.getElem?_cons_succ, List.getElem?_cons_zero]; exact rfl) ?_
                exact ⟨Ext.refl _, rfl⟩
              · intros
                go_wp2
                refine stepQ_mk rfl (by simp only [List.getElem?_toArray, List.getElem?_cons_succ, List.getElem?_cons_zero]; exact rfl) ?_
                exact ⟨Ext.refl _, rfl⟩
              · intros
                go_wp2
                refine stepQ_mk rfl (by simp only [List.getElem?_toArray, List.getElem?_cons_succ, List.getElem?_cons_zero]; exact rfl) ?_
                exact ⟨Ext.refl _, rfl⟩
              · intros
                go_wp2
                refine stepQ_mk rfl (by simp only [List.getElem?_toArray, List.getElem?_cons_succ, List.getElem?_cons_zero]; exact rfl) ?_
                exact ⟨Ext.refl _, rfl⟩
              · intros
                go_wp2
                refine stepQ_mk rfl (by simp only [List.getElem?_toArray, List.getElem?_cons_succ, List.getElem?_cons_zero]; exact rfl) ?_
                exact ⟨Ext.refl _, rfl⟩
              · intros
                go_wp2
                refine stepQ_mk rfl (by simp only [List.getElem?_toArray, List.getElem?_cons_succ, List.getElem?_cons_zero]; exact rfl) ?_
                exact ⟨Ext.refl _, rfl⟩
              · intros
                go_wp2_with (go_at_call 13; (with_reducible refine (FA.out _ _ _).mono ?_); rintro e w1 ⟨rfl, rfl⟩)
                refine stepQ_mk rfl (by simp only [List.getElem?_toArray, List.getElem?_cons_succ, List.getElem?_cons_zero]; exact rfl) ?_
                first | exact ⟨Ext.refl _, rfl⟩ | exact ⟨hy, rfl⟩
            case hB => kernel_rfl
            case fin =>
              intro V lo up w' hr hf ha
              simp only [factsOk, isv, newb, List.map_nil, List.map_cons, List.headD_cons, and_true, Nat.zero_add, Nat.reduceAdd] at hf
              simp only [List.length_cons, List.length_nil, Nat.zero_add, Nat.reduceAdd, List.drop_succ_cons, List.drop_zero]
              obtain ⟨-, ⟨-, -, -, e1⟩, ⟨-, -, -, e2⟩, -, -, -, -, -, -, -, ⟨-, -, -, e10⟩⟩ := hf
              clear ha
              rw [e1, e2, e10]
              clear e1 e2 e10
              obtain ⟨hc1, hc2⟩ := (HO.out.keep hr).cell HN.out j (by omega)
              have hst := Kept.mk ((HO.out.keep hr).store HN.out j (addR p q))
              go_wp2
              go_roundw
              case rel =>
                refine ⟨j + 1, zs.set j (addR p q), by omega, by go_num, by rw [List.length_set]; exact HN.out, hst.out.1, fun i hi => ?_, ?_, ?_, ?_, ?_, ?_⟩
                · rw [getD_set' zs j i _ (by rw [HN.out]; omega)]
                  split
                  · rename_i e; rw [e, HP.out, HQ.out]
                  · exact HW.out i (by omega)
                · exact (KM.out.keep hr).setO (fun e => neM (by simp [Value.ownBlock, e])) _ _
                · exact (KA.out.keep hr).setO (fun e => neA (by simp [Value.ownBlock, e])) _ _
                · exact (KB.out.keep hr).setO (fun e => neB (by simp [Value.ownBlock, e])) _ _
                · exact (KR.out.keep hr).setO (fun e => neR (by simp [Value.ownBlock, e])) _ _
                · exact (HX.out.trans hr).setCell (HO.out.block g rfl).1 _
              case measure => simp [intOf]; omega

          · have e : j = L := by omega
            subst e
            have e : zs = mapTo (fun i => addR (xs.getD i 0) (ys.getD i 0)) j := by
              apply list_ext'
              · rw [hlen, mapTo_len]
              · intro i hi
                rw [mapTo_get _ _ _ (by omega)]
                exact hval i (by omega)
            obtain ⟨m0, m1, m2⟩ := kM.three
            obtain ⟨r0, r1, r2⟩ := kR.three
            have rf := kR.free
            have HO := Kept.mk (e ▸ ho)
            have HX := Kept.mk hx
            have NR := Kept.mk neR
            clear ho hx kM kA kB kR hlen hval e neM neA neB neR HV HU
            go_wp2
            exact bodyPost_ret (v := .agg #[.int .i64 R, .int .i64 C, .slice (some ⟨g, 0, none⟩) j j]) (by simp [results, Try.results53, go_sem, *]) rfl ⟨_, rfl, HO.out.other3 NR.out _ _ _, HX.out.other3 (by show w.heap.size ≤ w.heap.size + 1 + 1; omega) _ _ _⟩
set_option maxHeartbeats 1000000 in
theorem impl_AddMatrices (r c p q : Int) (v u : Value) (xs ys : List Int) (w : World) (h1 : Ints w v xs) (h2 : Ints w u ys) : Calls Try.prog 26 #[.agg #[.int .i64 r, .int .i64 c, v], .agg #[.int .i64 p, .int .i64 q, u]] w (MatPost (addM ⟨r, c, xs⟩ ⟨p, q, ys⟩) w) := by
  obtain ⟨s1, n1, rfl, hm1, hc1⟩ := id h1
  obtain ⟨s2, n2, rfl, hm2, hc2⟩ := id h2
  clear hm1 hc1 hm2 hc2
  have P := Kept.mk (fun w' (hx : Ext w w') => impl_pair_addR r c p q _ _ xs ys w' (h1.keep hx) (h2.keep hx))
  clear h1 h2
  unfold MatPost at P
  unfold MatPost addM
  generalize pairM addR ⟨r, c, xs⟩ ⟨p, q, ys⟩ = D at *
  obtain ⟨dr, dc, ds⟩ := D
  simp only at P
  have X := Kept.mk ((((Ext.refl w).alloc (.cells #[.int .i64 r, .int .i64 c, .slice s1 xs.length n1] 25)).alloc (.cells #[.int .i64 p, .int .i64 q, .slice s2 ys.length n2] 25)).alloc (.cells #[.int .i64 0, .int .i64 0, .slice none 0 0] 25))
  have kA := ((Blk.new w #[.int .i64 r, .int .i64 c, .slice s1 xs.length n1] 25).old (.cells #[.int .i64 p, .int .i64 q, .slice s2 ys.length n2] 25)).old (.cells #[.int .i64 0, .int .i64 0, .slice none 0 0] 25)
  have kB := (Blk.new (w.alloc (.cells #[.int .i64 r, .int .i64 c, .slice s1 xs.length n1] 25)) #[.int .i64 p, .int .i64 q, .slice s2 ys.length n2] 25).old (.cells #[.int .i64 0, .int .i64 0, .slice none 0 0] 25)
  have kR := Blk.new ((w.alloc (.cells #[.int .i64 r, .int .i64 c, .slice s1 xs.length n1] 25)).alloc (.cells #[.int .i64 p, .int .i64 q, .slice s2 ys.length n2] 25)) #[.int .i64 0, .int .i64 0, .slice none 0 0] 25
  simp only [World.size_alloc] at kB kR
  go_enter Try.func26, Try.ntmps26
  obtain ⟨akA0, akA1, akA2⟩ := kA.three
  obtain ⟨akB0, akB1, akB2⟩ := kB.three
  go_wp2_with (fail)
  clear akA0 akA1 akA2
  clear akB0 akB1 akB2
  (with_reducible refine (P.out _ X.out).mono ?_)
  rintro e u1 ⟨vD, rfl, oD, x9⟩
  obtain ⟨pD, mD, huD, -, -⟩ := id oD.ints
  try simp only at huD
  subst huD
  replace oD := oD.mono X.out.size
  replace X := Kept.mk (X.out.trans x9)
  replace kA := kA.keep x9
  replace kB := kB.keep x9
  replace kR := kR.keep x9
  clear x9
  have ne9 := Kept.mk (oD.ne kR (by decide))
  have OO := Kept.mk oD
  obtain ⟨r0, r1, r2⟩ := kR.three
  have rf := kR.free
  clear kA kB kR oD
  go_wp2
  exact bodyPost_ret (v := .agg #[.int .i64 dr, .int .i64 dc, .slice pD ds.length mD]) (by simp [results, Try.results26, go_sem, *]) rfl ⟨_, rfl, OO.out.other3 ne9.out _ _ _, X.out.other3 (by show w.heap.size ≤ w.heap.size + 1 + 1; omega) _ _ _⟩
end Go.Proofs.Ytpbnbhiffnnliaa
