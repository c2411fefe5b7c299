/- The contract of rowOf. -/
import Derived.Test.YtpbnbhiffnnliaaKD
import Derived.Test.YtpbnbhiffnnliaaPairT
namespace Go.Proofs.Ytpbnbhiffnnliaa
set_option linter.unusedSimpArgs false
set_option linter.unusedVariables false
open Go.RowKit
/-- A row of a matrix of C columns. -/
def rowL (xs : List Int) (C i : Nat) : List Int := mapTo (fun k => xs.getD (i * C + k) 0) C
theorem rowL_len (xs : List Int) (C i : Nat) : (rowL xs C i).length = C := mapTo_len _ _
theorem rowL_get (xs : List Int) (C i k : Nat) (h : k < C) : (rowL xs C i).getD k 0 = xs.getD (i * C + k) 0 := mapTo_get _ _ _ h

theorem at_len' {w : World} {s : Option Addr} {k L : Nat} {xs : List Int} (h : Ints w (.slice s L k) xs) (hL : xs.length = L) {n : Nat} (hn : n < L) : ∃ b off, s = some ⟨b, off, none⟩ ∧ b < w.heap.size ∧ w.cell? ⟨b, off + n, none⟩ = some (.int .i64 (xs.getD n 0)) := by
  obtain ⟨a, c, e, _, hc⟩ := h
  simp at e
  obtain ⟨rfl, _, rfl⟩ := e
  exact hc n (by omega)
set_option maxHeartbeats 1000000 in
theorem impl_rowOf (R C i L : Nat) (s1 : Option Addr) (n1 : Nat) (xs : List Int) (w : World) (h1 : Ints w (.slice s1 L n1) xs) (hL : xs.length = L) (hRC : L = R * C) (hR : 1 ≤ R) (hC1 : 1 ≤ C) (hi : i < R) (hcap : L ≤ n1) (hlen25 : L ≤ 25) :
    Calls Try.prog 40 #[.agg #[.int .i64 R, .int .i64 C, .slice s1 L n1], .int .i64 i] w fun e w' => ∃ ad cap, e = .returned (.slice ad C cap) ∧ (∀ w0, Ints w0 (.slice s1 L n1) xs → Ints w0 (.slice ad C cap) (rowL xs C i)) ∧ Ext w w' := by
  obtain ⟨b, off, es, -, -⟩ := at_len' h1 hL (n := 0) (by have := Nat.mul_le_mul hR hC1; rw [Nat.one_mul] at this; omega)
  subst es
  have X := (Ext.refl w).alloc (.cells #[.int .i64 R, .int .i64 C, .slice (some ⟨b, off, none⟩) L n1] 25)
  have A := Blk.new w #[.int .i64 R, .int .i64 C, .slice (some ⟨b, off, none⟩) L n1] 25
  obtain ⟨a0, a1, a2⟩ := A.three
  obtain ⟨p, hp⟩ : ∃ p, p = i * C := ⟨_, rfl⟩
  obtain ⟨q, hq⟩ : ∃ q, q = (i + 1) * C := ⟨_, rfl⟩
  have hq' : q = p + C := by rw [hq, hp, Nat.add_mul, Nat.one_mul]
  have hle : q ≤ L := by rw [hq, hRC]; exact Nat.mul_le_mul_right C (by omega)
  have c1 : (i : Int) * (C : Int) = (p : Int) := by rw [hp, Int.natCast_mul]
  have c2 : ((i : Int) + 1) * (C : Int) = (q : Int) := by rw [hq, Int.natCast_mul]; rfl
  have hi5 : i < 25 := by
    have := Nat.mul_le_mul (Nat.le_refl i) hC1
    rw [Nat.mul_one] at this
    omega
  clear hRC
  have HI : Kept (∀ w0, Ints w0 (.slice (some ⟨b, off, none⟩) L n1) xs → Ints w0 (.slice (some ⟨b, off + p, none⟩) C (n1 - p)) (rowL xs C i)) := ⟨by
    intro w0 h9
    obtain ⟨a, cap, e, hm, hc⟩ := h9
    cases e
    refine ⟨_, _, by rw [rowL_len], by rw [rowL_len]; omega, fun k hk => ?_⟩
    rw [rowL_len] at hk
    obtain ⟨b', off', e, lb, cb⟩ := hc (i * C + k) (by rw [← hp]; omega)
    cases e
    exact ⟨b, off + p, rfl, lb, by rw [rowL_get _ _ _ _ hk, hp, Nat.add_assoc]; exact cb⟩⟩
  have hq25 : q ≤ 25 := Nat.le_trans hle hlen25
  have e1 : wrap64 ((i : Int) * (C : Int)) = (p : Int) := by rw [c1]; clear c1 c2 hq hp; unfold wrap64; omega
  have e2 : wrap64 (((i : Int) + 1) * (C : Int)) = (q : Int) := by rw [c2]; clear c1 c2 hq hp hle; unfold wrap64; omega
  clear c1 c2 hq hp
  have ew : wrap64 ((i : Int) + 1) = (i : Int) + 1 := by unfold wrap64; omega
  have l1 : p ≤ q := by omega
  have l2 : q ≤ n1 := by omega
  have l3 : n1 ≠ p := by omega
  have l4 : q - p = C := by omega
  have l5 : (p : Int) ≤ (q : Int) := by omega
  have l6 : (q : Int) ≤ (n1 : Int) := by omega
  clear hle hq' hq25 hi5 h1 hcap hi A hL hlen25 hR hC1
  go_enter Try.func40, Try.ntmps40
  go_wp2
  go_ret
  exact ⟨_, _, rfl, HI.out, X⟩

end Go.Proofs.Ytpbnbhiffnnliaa
namespace Go.Proofs.Ytpbnbhiffnnliaa
set_option linter.unusedSimpArgs false
set_option linter.unusedVariables false
open Go.RowKit

set_option maxHeartbeats 1000000 in
theorem impl_valueAt (R C i j L : Nat) (s1 : Option Addr) (n1 : Nat) (xs : List Int) (w : World) (h1 : Ints w (.slice s1 L n1) xs) (hL : xs.length = L) (hRC : L = R * C) (hi : i < R) (hj : j < C) (hlen : L ≤ 25) :
    Calls Try.prog 41 #[.agg #[.int .i64 R, .int .i64 C, .slice s1 L n1], .int .i64 i, .int .i64 j] w fun e w' => e = .returned (.int .i64 (xs.getD (i * C + j) 0)) ∧ Ext w w' := by
  obtain ⟨b, off, es, lb, cb⟩ := at_len' h1 hL (n := i * C + j) (by rw [hRC]; exact place_lt hi hj)
  subst es
  have X := (Ext.refl w).alloc (.cells #[.int .i64 R, .int .i64 C, .slice (some ⟨b, off, none⟩) L n1] 25)
  have A := Blk.new w #[.int .i64 R, .int .i64 C, .slice (some ⟨b, off, none⟩) L n1] 25
  obtain ⟨a0, a1, a2⟩ := A.three
  have hlt : i * C + j < L := by rw [hRC]; exact place_lt hi hj
  obtain ⟨q, hq⟩ : ∃ q, q = i * C := ⟨_, rfl⟩
  obtain ⟨p, hp⟩ : ∃ p, p = i * C + j := ⟨_, rfl⟩
  have hp' : p = q + j := by rw [hp, hq]
  rw [← hp] at cb hlt ⊢
  have c1 : (i : Int) * (C : Int) = (q : Int) := by rw [hq, Int.natCast_mul]
  clear hp hq hRC
  have e1 : wrap64 ((i : Int) * (C : Int)) = (q : Int) := by rw [c1]; clear c1; unfold wrap64; omega
  clear c1
  have e2 : wrap64 ((q : Int) + (j : Int)) = (p : Int) := by unfold wrap64; omega
  have l1 : (p : Int) < (L : Int) := Int.ofNat_lt.2 hlt
  have cbr := (X.cells.1 b (off + p) lb).trans cb
  generalize xs.getD p 0 = z at *
  clear hp' hi hj hL h1 hlen A hlt
  go_enter Try.func41, Try.ntmps41
  go_wp2
  go_ret
  exact ⟨rfl, X⟩

theorem mulM_bad {r c p q : Int} {xs ys : List Int} (h : (mOk r c xs && mOk p q ys && decide (c = p)) = false) : mulM ⟨r, c, xs⟩ ⟨p, q, ys⟩ = matZ := by
  unfold mulM Mat.ok; rw [h]; rfl
theorem mulM_ok {R K C : Nat} {xs ys : List Int} (h1 : mOk R K xs = true) (h2 : mOk K C ys = true) : mulM ⟨R, K, xs⟩ ⟨K, C, ys⟩ = ⟨R, C, mapTo (mulE xs ys K C) (R * C)⟩ := by
  unfold mulM Mat.ok; simp only [h1, h2, decide_true, Bool.and_self, if_true]; rfl
theorem mulE_at {xs ys : List Int} {K C i j : Nat} (hj : j < C) : mulE xs ys K C (i * C + j) = ring (sumTo (fun k => xs.getD (i * K + k) 0 * ys.getD (k * C + j) 0) K) := by
  unfold mulE; rw [place_div hj, place_mod hj]
theorem sum_step {f : Nat → Int} {s x y : Int} {k : Nat} (h : ring s = ring (sumTo f k)) (e : x * y = f k) : ring (wrap64 (s + wrap64 (x * y))) = ring (sumTo f (k + 1)) := by
  simp only [sumTo]
  rw [ring_wrap64, e]
  have h1 : ring (s + wrap64 (f k)) = ring (s + f k) := ring_add_congr rfl (ring_wrap64 _)
  rw [h1]
  exact ring_add_congr h rfl

set_option maxHeartbeats 8000000 in
set_option maxRecDepth 2000 in
theorem impl_MulMatrices (r c p q : Int) (v u : Value) (xs ys : List Int) (w : World) (h1 : Ints w v xs) (h2 : Ints w u ys) (hf : Fit v) : Calls Try.prog 12 #[.agg #[.int .i64 r, .int .i64 c, v], .agg #[.int .i64 p, .int .i64 q, u]] w (MatPost (mulM ⟨r, c, xs⟩ ⟨p, q, ys⟩) w) := by
  unfold MatPost
  have hroom := hf.room
  cases g1 : mOk r c xs
  · clear hroom
    rw [mulM_bad (by simp [g1])]
    obtain ⟨s1, n1, rfl, hm1, hc1⟩ := id h1
    obtain ⟨s2, n2, rfl, hm2, hc2⟩ := id h2
    clear hm1 hc1 hm2 hc2
    have HV := Kept.mk h1
    have HU := Kept.mk h2
    clear h1 h2
    have MA : Kept (∀ w', Ext w w' → Calls Try.prog 24 #[.agg #[.int .i64 r, .int .i64 c, .slice s1 xs.length n1]] w' fun e w'' => e = .returned (.bool false) ∧ Ext w' w'') := ⟨fun w' hx => g1 ▸ impl_MatrixValid _ _ _ xs w' (HV.out.keep hx)⟩
    clear g1
    have X := Kept.mk ((((Ext.refl w).alloc (.cells #[.int .i64 r, .int .i64 c, .slice s1 xs.length n1] 25)).alloc (.cells #[.int .i64 p, .int .i64 q, .slice s2 ys.length n2] 25)).alloc (.cells #[.int .i64 0, .int .i64 0, .slice none 0 0] 25))
    have kA := ((Blk.new w #[.int .i64 r, .int .i64 c, .slice s1 xs.length n1] 25).old (.cells #[.int .i64 p, .int .i64 q, .slice s2 ys.length n2] 25)).old (.cells #[.int .i64 0, .int .i64 0, .slice none 0 0] 25)
    have kB := (Blk.new (w.alloc (.cells #[.int .i64 r, .int .i64 c, .slice s1 xs.length n1] 25)) #[.int .i64 p, .int .i64 q, .slice s2 ys.length n2] 25).old (.cells #[.int .i64 0, .int .i64 0, .slice none 0 0] 25)
    have kR := Blk.new ((w.alloc (.cells #[.int .i64 r, .int .i64 c, .slice s1 xs.length n1] 25)).alloc (.cells #[.int .i64 p, .int .i64 q, .slice s2 ys.length n2] 25)) #[.int .i64 0, .int .i64 0, .slice none 0 0] 25
    simp only [World.size_alloc] at kB kR
    go_enter Try.func12, Try.ntmps12
    obtain ⟨akA0, akA1, akA2⟩ := kA.three
    go_wp2_with (fail)
    clear akA0 akA1 akA2
    (with_reducible refine (MA.out _ X.out).mono ?_)
    rintro e u1 ⟨rfl, x9⟩
    replace X := Kept.mk (X.out.trans x9)
    replace kA := kA.keep x9
    replace kB := kB.keep x9
    replace kR := kR.keep x9
    clear x9
    clear kA kB
    have RK := Kept.mk kR
    obtain ⟨r0, r1, r2⟩ := kR.three
    have rf := kR.free
    clear kR
    go_wp2
    exact bodyPost_ret (v := .agg #[.int .i64 0, .int .i64 0, .slice none 0 0]) (by simp [results, Try.results12, go_sem, *]) rfl ⟨_, rfl, Own.nil _ _, by first | exact X.out.other3 (by show w.heap.size ≤ w.heap.size + 1 + 1; omega) _ _ _ | exact X.out⟩
  · cases g2 : mOk p q ys
    · clear hroom
      rw [mulM_bad (by simp [g2])]
      obtain ⟨s1, n1, rfl, hm1, hc1⟩ := id h1
      obtain ⟨s2, n2, rfl, hm2, hc2⟩ := id h2
      clear hm1 hc1 hm2 hc2
      have HV := Kept.mk h1
      have HU := Kept.mk h2
      clear h1 h2
      have MA : Kept (∀ w', Ext w w' → Calls Try.prog 24 #[.agg #[.int .i64 r, .int .i64 c, .slice s1 xs.length n1]] w' fun e w'' => e = .returned (.bool true) ∧ Ext w' w'') := ⟨fun w' hx => g1 ▸ impl_MatrixValid _ _ _ xs w' (HV.out.keep hx)⟩
      have MB : Kept (∀ w', Ext w w' → Calls Try.prog 24 #[.agg #[.int .i64 p, .int .i64 q, .slice s2 ys.length n2]] w' fun e w'' => e = .returned (.bool false) ∧ Ext w' w'') := ⟨fun w' hx => g2 ▸ impl_MatrixValid _ _ _ ys w' (HU.out.keep hx)⟩
      clear g1 g2
      have X := Kept.mk ((((Ext.refl w).alloc (.cells #[.int .i64 r, .int .i64 c, .slice s1 xs.length n1] 25)).alloc (.cells #[.int .i64 p, .int .i64 q, .slice s2 ys.length n2] 25)).alloc (.cells #[.int .i64 0, .int .i64 0, .slice none 0 0] 25))
      have kA := ((Blk.new w #[.int .i64 r, .int .i64 c, .slice s1 xs.length n1] 25).old (.cells #[.int .i64 p, .int .i64 q, .slice s2 ys.length n2] 25)).old (.cells #[.int .i64 0, .int .i64 0, .slice none 0 0] 25)
      have kB := (Blk.new (w.alloc (.cells #[.int .i64 r, .int .i64 c, .slice s1 xs.length n1] 25)) #[.int .i64 p, .int .i64 q, .slice s2 ys.length n2] 25).old (.cells #[.int .i64 0, .int .i64 0, .slice none 0 0] 25)
      have kR := Blk.new ((w.alloc (.cells #[.int .i64 r, .int .i64 c, .slice s1 xs.length n1] 25)).alloc (.cells #[.int .i64 p, .int .i64 q, .slice s2 ys.length n2] 25)) #[.int .i64 0, .int .i64 0, .slice none 0 0] 25
      simp only [World.size_alloc] at kB kR
      go_enter Try.func12, Try.ntmps12
      obtain ⟨akA0, akA1, akA2⟩ := kA.three
      go_wp2_with (fail)
      clear akA0 akA1 akA2
      (with_reducible refine (MA.out _ X.out).mono ?_)
      rintro e u1 ⟨rfl, x9⟩
      replace X := Kept.mk (X.out.trans x9)
      replace kA := kA.keep x9
      replace kB := kB.keep x9
      replace kR := kR.keep x9
      clear x9
      obtain ⟨akB0, akB1, akB2⟩ := kB.three
      go_wp2_with (fail)
      clear akB0 akB1 akB2
      (with_reducible refine (MB.out _ X.out).mono ?_)
      rintro e u2 ⟨rfl, x9⟩
      replace X := Kept.mk (X.out.trans x9)
      replace kA := kA.keep x9
      replace kB := kB.keep x9
      replace kR := kR.keep x9
      clear x9
      clear kA kB
      have RK := Kept.mk kR
      obtain ⟨r0, r1, r2⟩ := kR.three
      have rf := kR.free
      clear kR
      go_wp2
      exact bodyPost_ret (v := .agg #[.int .i64 0, .int .i64 0, .slice none 0 0]) (by simp [results, Try.results12, go_sem, *]) rfl ⟨_, rfl, Own.nil _ _, by first | exact X.out.other3 (by show w.heap.size ≤ w.heap.size + 1 + 1; omega) _ _ _ | exact X.out⟩
    · cases g3 : decide (c = p)
      · clear hroom
        rw [mulM_bad (by simp [g3])]
        obtain ⟨s1, n1, rfl, hm1, hc1⟩ := id h1
        obtain ⟨s2, n2, rfl, hm2, hc2⟩ := id h2
        clear hm1 hc1 hm2 hc2
        have HV := Kept.mk h1
        have HU := Kept.mk h2
        clear h1 h2
        have MA : Kept (∀ w', Ext w w' → Calls Try.prog 24 #[.agg #[.int .i64 r, .int .i64 c, .slice s1 xs.length n1]] w' fun e w'' => e = .returned (.bool true) ∧ Ext w' w'') := ⟨fun w' hx => g1 ▸ impl_MatrixValid _ _ _ xs w' (HV.out.keep hx)⟩
        have MB : Kept (∀ w', Ext w w' → Calls Try.prog 24 #[.agg #[.int .i64 p, .int .i64 q, .slice s2 ys.length n2]] w' fun e w'' => e = .returned (.bool true) ∧ Ext w' w'') := ⟨fun w' hx => g2 ▸ impl_MatrixValid _ _ _ ys w' (HU.out.keep hx)⟩
        have g4 : (c == p) = false := by simpa using g3
        clear g1 g2 g3
        have X := Kept.mk ((((Ext.refl w).alloc (.cells #[.int .i64 r, .int .i64 c, .slice s1 xs.length n1] 25)).alloc (.cells #[.int .i64 p, .int .i64 q, .slice s2 ys.length n2] 25)).alloc (.cells #[.int .i64 0, .int .i64 0, .slice none 0 0] 25))
        have kA := ((Blk.new w #[.int .i64 r, .int .i64 c, .slice s1 xs.length n1] 25).old (.cells #[.int .i64 p, .int .i64 q, .slice s2 ys.length n2] 25)).old (.cells #[.int .i64 0, .int .i64 0, .slice none 0 0] 25)
        have kB := (Blk.new (w.alloc (.cells #[.int .i64 r, .int .i64 c, .slice s1 xs.length n1] 25)) #[.int .i64 p, .int .i64 q, .slice s2 ys.length n2] 25).old (.cells #[.int .i64 0, .int .i64 0, .slice none 0 0] 25)
        have kR := Blk.new ((w.alloc (.cells #[.int .i64 r, .int .i64 c, .slice s1 xs.length n1] 25)).alloc (.cells #[.int .i64 p, .int .i64 q, .slice s2 ys.length n2] 25)) #[.int .i64 0, .int .i64 0, .slice none 0 0] 25
        simp only [World.size_alloc] at kB kR
        go_enter Try.func12, Try.ntmps12
        obtain ⟨akA0, akA1, akA2⟩ := kA.three
        go_wp2_with (fail)
        clear akA0 akA1 akA2
        (with_reducible refine (MA.out _ X.out).mono ?_)
        rintro e u1 ⟨rfl, x9⟩
        replace X := Kept.mk (X.out.trans x9)
        replace kA := kA.keep x9
        replace kB := kB.keep x9
        replace kR := kR.keep x9
        clear x9
        obtain ⟨akB0, akB1, akB2⟩ := kB.three
        go_wp2_with (fail)
        clear akB0 akB1 akB2
        (with_reducible refine (MB.out _ X.out).mono ?_)
        rintro e u2 ⟨rfl, x9⟩
        replace X := Kept.mk (X.out.trans x9)
        replace kA := kA.keep x9
        replace kB := kB.keep x9
        replace kR := kR.keep x9
        clear x9
        obtain ⟨c0, c1, c2⟩ := kA.three
        obtain ⟨d0, d1, d2⟩ := kB.three
        clear kA kB
        have RK := Kept.mk kR
        obtain ⟨r0, r1, r2⟩ := kR.three
        have rf := kR.free
        clear kR
        go_wp2
        exact bodyPost_ret (v := .agg #[.int .i64 0, .int .i64 0, .slice none 0 0]) (by simp [results, Try.results12, go_sem, *]) rfl ⟨_, rfl, Own.nil _ _, by first | exact X.out.other3 (by show w.heap.size ≤ w.heap.size + 1 + 1; omega) _ _ _ | exact X.out⟩
      · have g3' : p = c := by simp only [decide_eq_true_eq] at g3; exact g3.symm
        subst g3'
        obtain ⟨s1, n1, rfl, hm1, hc1⟩ := id h1
        obtain ⟨s2, n2, rfl, hm2, hc2⟩ := id h2
        clear hm1 hc1 hm2 hc2
        have HV := Kept.mk h1
        have HU := Kept.mk h2
        clear h1 h2
        have hcap : xs.length ≤ n1 := hroom _ _ _ rfl
        clear hroom
        obtain ⟨R, K, rfl, rfl, R1, R5, K1, K5, hL, L25, hrv⟩ := mOk_nat g1
        obtain ⟨K', C, e1, rfl, _, _, C1, C5, hL', L25', _⟩ := mOk_nat g2
        obtain rfl : K = K' := by omega
        clear e1 hrv
        rw [mulM_ok g1 g2]
        have MA : Kept (∀ w', Ext w w' → Calls Try.prog 24 #[.agg #[.int .i64 (R : Int), .int .i64 (K : Int), .slice s1 xs.length n1]] w' fun e w'' => e = .returned (.bool true) ∧ Ext w' w'') := ⟨fun w' hx => g1 ▸ impl_MatrixValid _ _ _ xs w' (HV.out.keep hx)⟩
        have MB : Kept (∀ w', Ext w w' → Calls Try.prog 24 #[.agg #[.int .i64 (K : Int), .int .i64 (C : Int), .slice s2 ys.length n2]] w' fun e w'' => e = .returned (.bool true) ∧ Ext w' w'') := ⟨fun w' hx => g2 ▸ impl_MatrixValid _ _ _ ys w' (HU.out.keep hx)⟩
        have EM : Kept (∀ w, Calls Try.prog 38 #[.int .i64 R, .int .i64 C] w (ZeroPost R C w)) := ⟨fun w => impl_emptyMatrix R C R5 C5 w⟩
        unfold ZeroPost at EM
        have hRC25 : R * C ≤ 25 := by have := Nat.mul_le_mul R5 C5; omega
        obtain ⟨LA, hLA⟩ : ∃ LA, LA = R * K := ⟨_, rfl⟩
        obtain ⟨LB, hLB⟩ : ∃ LB, LB = K * C := ⟨_, rfl⟩
        obtain ⟨L, hLL⟩ : ∃ L, L = R * C := ⟨_, rfl⟩
        rw [← hLA] at hL L25
        rw [← hLB] at hL' L25'
        rw [← hLL] at EM hRC25 ⊢
        rw [hL] at HV MA ⊢
        rw [hL'] at HU MB ⊢
        have RO : Kept (∀ i w', i < R → Ext w w' → LA ≤ n1 → Calls Try.prog 40 #[.agg #[.int .i64 R, .int .i64 K, .slice s1 LA n1], .int .i64 i] w' fun e w'' => ∃ ad cap, e = .returned (.slice ad K cap) ∧ (∀ w0, Ints w0 (.slice s1 LA n1) xs → Ints w0 (.slice ad K cap) (rowL xs K i)) ∧ Ext w' w'') := ⟨fun i w' hi hx hc => impl_rowOf R K i LA s1 n1 xs w' (HV.out.keep hx) hL hLA R1 K1 hi hc L25⟩
        have VA : Kept (∀ i j w', i < K → j < C → Ext w w' → Calls Try.prog 41 #[.agg #[.int .i64 K, .int .i64 C, .slice s2 LB n2], .int .i64 i, .int .i64 j] w' fun e w'' => e = .returned (.int .i64 (ys.getD (i * C + j) 0)) ∧ Ext w' w'') := ⟨fun i j w' hi hj hx => impl_valueAt K C i j LB s2 n2 ys w' (HU.out.keep hx) hL' hLB hi hj L25'⟩
        have RG : Kept (∀ n w, Calls Try.prog 42 #[.int .i64 n] w fun e w' => e = .returned (.int .i64 (ring n)) ∧ w = w') := ⟨fun n w => impl_RingOf n w⟩
        have HLL := Kept.mk hLL
        have HCAP := Kept.mk hcap
        rw [hL] at HCAP
        have L26 := Kept.mk hRC25
        have g4 : ((K : Int) == (K : Int)) = true := by simp
        clear hL hL' hLA hLB hLL L25 L25' hRC25 R1 K1 K5 C1 g1 g2 g3 hcap
        have X := Kept.mk ((((Ext.refl w).alloc (.cells #[.int .i64 R, .int .i64 K, .slice s1 LA n1] 25)).alloc (.cells #[.int .i64 K, .int .i64 C, .slice s2 LB n2] 25)).alloc (.cells #[.int .i64 0, .int .i64 0, .slice none 0 0] 25))
        have kA := ((Blk.new w #[.int .i64 R, .int .i64 K, .slice s1 LA n1] 25).old (.cells #[.int .i64 K, .int .i64 C, .slice s2 LB n2] 25)).old (.cells #[.int .i64 0, .int .i64 0, .slice none 0 0] 25)
        have kB := (Blk.new (w.alloc (.cells #[.int .i64 R, .int .i64 K, .slice s1 LA n1] 25)) #[.int .i64 K, .int .i64 C, .slice s2 LB n2] 25).old (.cells #[.int .i64 0, .int .i64 0, .slice none 0 0] 25)
        have kR := Blk.new ((w.alloc (.cells #[.int .i64 R, .int .i64 K, .slice s1 LA n1] 25)).alloc (.cells #[.int .i64 K, .int .i64 C, .slice s2 LB n2] 25)) #[.int .i64 0, .int .i64 0, .slice none 0 0] 25
        simp only [World.size_alloc] at kB kR
        go_enter Try.func12, Try.ntmps12
        obtain ⟨akA0, akA1, akA2⟩ := kA.three
        go_wp2_with (fail)
        clear akA0 akA1 akA2
        (with_reducible refine (MA.out _ X.out).mono ?_)
        rintro e u1 ⟨rfl, x9⟩
        replace X := Kept.mk (X.out.trans x9)
        replace kA := kA.keep x9
        replace kB := kB.keep x9
        replace kR := kR.keep x9
        clear x9
        obtain ⟨akB0, akB1, akB2⟩ := kB.three
        go_wp2_with (fail)
        clear akB0 akB1 akB2
        (with_reducible refine (MB.out _ X.out).mono ?_)
        rintro e u2 ⟨rfl, x9⟩
        replace X := Kept.mk (X.out.trans x9)
        replace kA := kA.keep x9
        replace kB := kB.keep x9
        replace kR := kR.keep x9
        clear x9
        obtain ⟨akA0, akA1, akA2⟩ := kA.three
        obtain ⟨akB0, akB1, akB2⟩ := kB.three
        go_wp2_with (fail)
        clear akA0 akA1 akA2
        clear akB0 akB1 akB2
        (with_reducible refine (EM.out _).mono ?_)
        rintro e u3 ⟨g, rfl, oZ, x9⟩
        replace oZ := oZ.mono X.out.size
        replace X := Kept.mk (X.out.trans x9)
        replace kA := kA.keep x9
        replace kB := kB.keep x9
        replace kR := kR.keep x9
        clear x9
        have kM := Blk.new u3 #[.int .i64 R, .int .i64 C, .slice (some ⟨g, 0, none⟩) L L] 25
        replace kA := kA.old (.cells #[.int .i64 R, .int .i64 C, .slice (some ⟨g, 0, none⟩) L L] 25)
        replace kB := kB.old (.cells #[.int .i64 R, .int .i64 C, .slice (some ⟨g, 0, none⟩) L L] 25)
        replace kR := kR.old (.cells #[.int .i64 R, .int .i64 C, .slice (some ⟨g, 0, none⟩) L L] 25)
        replace oZ := oZ.keep ((Ext.refl u3).alloc (.cells #[.int .i64 R, .int .i64 C, .slice (some ⟨g, 0, none⟩) L L] 25))
        replace X := Kept.mk (X.out.alloc (.cells #[.int .i64 R, .int .i64 C, .slice (some ⟨g, 0, none⟩) L L] 25))
        obtain ⟨akA0, akA1, akA2⟩ := kA.three
        go_wp2_with (fail)
        clear akA0 akA1 akA2
        have lM := X.out.size
        generalize hgM : u3.heap.size = gM at *
        clear MA MB EM g4 lM hgM
        go_loopw [35] (fun i wr => ∃ (j : Nat) (zs : List Int), j ≤ R ∧ i = .int .i64 j ∧ zs.length = L ∧ Own w.heap.size wr (.slice (some ⟨g, 0, none⟩) L L) zs ∧ (∀ p, p < j * C → zs.getD p 0 = mulE xs ys K C p) ∧ Blk wr (gM) #[.int .i64 R, .int .i64 C, .slice (some ⟨g, 0, none⟩) L L] 25 ∧ Blk wr (w.heap.size) #[.int .i64 R, .int .i64 K, .slice s1 LA n1] 25 ∧ Blk wr (w.heap.size + 1) #[.int .i64 K, .int .i64 C, .slice s2 LB n2] 25 ∧ Blk wr (w.heap.size + 1 + 1) #[.int .i64 0, .int .i64 0, .slice none 0 0] 25 ∧ Ext w wr) (fun i _ => R - (intOf i).toNat)
        case atStart => exact ⟨0, zer L, Nat.zero_le _, rfl, zer_len L, oZ, fun i hi => absurd hi (by rw [Nat.zero_mul]; exact Nat.not_lt_zero i), kM, kA, kB, kR, X.out⟩
        case round =>
          clear X kM kA kB kR oZ
          obtain ⟨i0, zs, hi0, rfl, hlen, ho, hval, kM, kA, kB, kR, hx⟩ := hrel
          by_cases hlt : i0 < R
          · have X := Kept.mk hx
            clear hx
            have hltZ : (i0 : Int) < (R : Int) := by omega
            have HO := Kept.mk ho
            have HW := Kept.mk hval
            have HN := Kept.mk hlen
            clear ho hval hlen
            obtain ⟨a0, a1, a2⟩ := kA.three
            go_wp2_with (fail)
            clear a0 a1 a2
            (with_reducible refine (RO.out i0 _ hlt X.out HCAP.out).mono ?_)
            rintro e w1 ⟨ad, cap, rfl, rI, x9⟩
            have RI := Kept.mk (rI w HV.out)
            clear rI
            replace X := Kept.mk (X.out.trans x9)
            replace kM := kM.keep x9
            replace kA := kA.keep x9
            replace kB := kB.keep x9
            replace kR := kR.keep x9
            replace HO := Kept.mk (HO.out.keep x9)
            clear x9
            obtain ⟨b0, b1, b2⟩ := kB.three
            go_wp2_with (fail)
            clear b0 b1 b2
            go_loopw [43] (fun i wr => ∃ (j : Nat) (zs : List Int), j ≤ C ∧ i = .int .i64 j ∧ zs.length = L ∧ Own w.heap.size wr (.slice (some ⟨g, 0, none⟩) L L) zs ∧ (∀ p, p < i0 * C + j → zs.getD p 0 = mulE xs ys K C p) ∧ Blk wr (gM) #[.int .i64 R, .int .i64 C, .slice (some ⟨g, 0, none⟩) L L] 25 ∧ Blk wr (w.heap.size) #[.int .i64 R, .int .i64 K, .slice s1 LA n1] 25 ∧ Blk wr (w.heap.size + 1) #[.int .i64 K, .int .i64 C, .slice s2 LB n2] 25 ∧ Blk wr (w.heap.size + 1 + 1) #[.int .i64 0, .int .i64 0, .slice none 0 0] 25 ∧ Ext w wr) (fun i _ => C - (intOf i).toNat)
            case atStart => exact ⟨0, zs, Nat.zero_le _, rfl, HN.out, HO.out, HW.out, kM, kA, kB, kR, X.out⟩
            case round =>
              clear X kM kA kB kR HO HW HN
              obtain ⟨j0, us, hj0, rfl, hlen, ho, hval, kM, kA, kB, kR, hx⟩ := hrel
              by_cases hlj : j0 < C
              · have X := Kept.mk hx
                clear hx
                have hljZ : (j0 : Int) < (C : Int) := by omega
                have HO := Kept.mk ho
                have HW := Kept.mk hval
                have HN := Kept.mk hlen
                clear ho hval hlen
                go_wp2_with (fail)
                go_loopw [9, 48] (fun s i wr' => ∃ (k : Nat) (t : Int), k ≤ K ∧ s = .int .i64 t ∧ i = .int .i64 k ∧ ring t = ring (sumTo (fun k => xs.getD (i0 * K + k) 0 * ys.getD (k * C + j0) 0) k) ∧ Ext wr wr') (fun _ i _ => K - (intOf i).toNat)
                case atStart => exact ⟨0, 0, Nat.zero_le _, rfl, rfl, rfl, Ext.refl _⟩
                case round =>
                  obtain ⟨k, t, hk, rfl, rfl, hs, hy⟩ := hrel
                  by_cases hlk : k < K
                  · have HS := Kept.mk hs
                    clear hs
                    have hlkZ : (k : Int) < (K : Int) := by omega
                    have B2 := kB.keep hy
                    obtain ⟨b, off, es, lb, cb⟩ := at_len (RI.out.keep X.out) (rowL_len _ _ _) hlk
                    subst es
                    rw [rowL_get _ _ _ _ hlk] at cb
                    have cbr := (hy.cells.1 b (off + k) lb).trans cb
                    clear cb
                    have HP := Kept.mk (rfl : xs.getD (i0 * K + k) 0 = xs.getD (i0 * K + k) 0)
                    generalize hp : xs.getD (i0 * K + k) 0 = p at cbr
                    replace HP := Kept.mk hp
                    clear hp
                    have HY := Kept.mk hy
                    clear hy
                    obtain ⟨b0, b1, b2⟩ := B2.three
                    go_wp2_with (fail)
                    clear b0 b1 b2
                    (with_reducible refine (VA.out k j0 _ hlk hlj (X.out.trans HY.out)).mono ?_)
                    rintro e w3 ⟨rfl, x9⟩
                    generalize hz : ys.getD (k * C + j0) 0 = z
                    have HZQ := Kept.mk hz
                    clear hz
                    have HZ := Kept.mk (HY.out.trans x9)
                    clear x9 HY B2 cbr
                    go_wp2
                    go_roundw
                    case rel => exact ⟨k + 1, _, by omega, rfl, by go_num, sum_step HS.out (by show p * z = xs.getD (i0 * K + k) 0 * ys.getD (k * C + j0) 0; rw [HP.out, HZQ.out]), HZ.out⟩
                    case measure => simp [intOf]; omega

                  · obtain rfl : k = K := by omega
                    have e9 : ring t = mulE xs ys k C (i0 * C + j0) := by rw [mulE_at hlj]; exact hs
                    have HS := Kept.mk e9
                    clear e9 hs
                    replace X := Kept.mk (X.out.trans hy)
                    replace kM := kM.keep hy
                    replace kA := kA.keep hy
                    replace kB := kB.keep hy
                    replace kR := kR.keep hy
                    replace HO := Kept.mk (HO.out.keep hy)
                    clear hy hlk hk
                    have neM := Kept.mk (HO.out.ne kM (by decide))
                    have neA := Kept.mk (HO.out.ne kA (by decide))
                    have neB := Kept.mk (HO.out.ne kB (by decide))
                    have neR := Kept.mk (HO.out.ne kR (by decide))
                    obtain ⟨q, hq⟩ : ∃ q, q = i0 * C := ⟨_, rfl⟩
                    obtain ⟨d, hd⟩ : ∃ d, d = i0 * C + j0 := ⟨_, rfl⟩
                    have hdL : d < L := by rw [hd, HLL.out]; exact place_lt hlt hlj
                    have hd' : d = q + j0 := by rw [hd, hq]
                    have c1 : (i0 : Int) * (C : Int) = (q : Int) := by rw [hq, Int.natCast_mul]
                    have L25 := L26.out
                    rw [← hd] at HS HW
                    have HD := Kept.mk hd
                    clear hd hq
                    have w1' : wrap64 ((i0 : Int) * (C : Int)) = (q : Int) := by rw [c1]; clear c1; unfold wrap64; omega
                    clear c1
                    have w2' : wrap64 ((q : Int) + (j0 : Int)) = (d : Int) := by unfold wrap64; omega
                    have w3' : (d : Int) < (L : Int) := Int.ofNat_lt.2 hdL
                    clear hd'
                    go_wp2_with (fail)
                    apply wp_region_zip [isv _, isv _, isv _, isv _, isv _, isv _, isv _, isv _, isv _, isv _] _ (by kernel_rfl)
                    case hA => intro V; simp [putAll, dstOf, Act.put]; exact rfl
                    case hsl => intro V; exact rfl
                    case step =>
                      intro V lo up w' hr
                      obtain ⟨hcr, hzr⟩ := hr.cells
                      have hsr := hr.size
                      obtain ⟨m0, m1, m2⟩ := (kM.keep hr).three
                      obtain ⟨c0, c1, c2⟩ := (kB.keep hr).three
                      simp only [zipOk, depsImp, isv, newb, waits, Region.binds, List.map_nil, List.map_cons, List.headD_cons, List.nil_append, List.cons_append, List.filterMap_cons, List.filterMap_nil, ↓reduceIte, modeNe, Bool.false_eq_true, true_implies, List.getD_cons_zero, List.getD_cons_succ, and_true]
                      refine ⟨?_, ?_, ?_, ?_, ?_, ?_, ?_, ?_, ?_, ?_⟩
                      · intros
                        go_wp2
                        refine stepQ_mk rfl (by simp only [List.getElem?_toArray, List.getElem?_cons_succ, List.getElem?_cons_zero]; exact rfl) ?_
                        exact ⟨Ext.refl _, rfl⟩
                      · intros
                        go_wp2
                        refine stepQ_mk rfl (by simp only [List.getElem?_toArray, List.getElem?_cons_succ, List.getElem?_cons_zero]; exact rfl) ?_
                        exact ⟨Ext.refl _, rfl⟩
                      · intros
                        go_wp2
                        refine stepQ_mk rfl (by simp only [List.getElem?_toArray, List.getElem?_cons_succ, List.getElem?_cons_zero]; exact rfl) ?_
                        exact ⟨Ext.refl _, rfl⟩
                      · intros
                        go_wp2
                        refine stepQ_mk rfl (by simp only [List.getElem?_toArray, List.getElem?_cons_succ, List.getElem?_cons_zero]; exact rfl) ?_
                        exact ⟨Ext.refl _, rfl⟩
                      · intros
                        go_wp2
                        refine stepQ_mk rfl (by simp only [List.getElem?_toArray, List.getElem?_cons_succ, List.getElem?_cons_zero]; exact rfl) ?_
                        exact ⟨Ext.refl _, rfl⟩
                      · intros
                        go_wp2
                        refine stepQ_mk rfl (by simp only [List.getElem?_toArray, List.getElem?_cons_succ, List.getElem?_cons_zero]; exact rfl) ?_
                        exact ⟨Ext.refl _, rfl⟩
                      · intros
                        go_wp2
                        refine stepQ_mk rfl (by simp only [List.getElem?_toArray, List.getElem?_cons_succ, List.getElem?_cons_zero]; exact rfl) ?_
                        exact ⟨Ext.refl _, rfl⟩
                      · intros
                        go_wp2
                        refine stepQ_mk rfl (by simp only [List.getElem?_toArray, List.getElem?_cons_succ, List.getElem?_cons_zero]; exact rfl) ?_
                        exact ⟨Ext.refl _, rfl⟩
                      · intros
                        go_wp2
                        refine stepQ_mk rfl (by simp only [List.getElem?_toArray, List.getElem?_cons_succ, List.getElem?_cons_zero]; exact rfl) ?_
                        exact ⟨Ext.refl _, rfl⟩
                      · intros
                        go_wp2_with (go_at_call 42; (with_reducible refine (RG.out _ _).mono ?_); rintro e w1 ⟨rfl, rfl⟩)
                        refine stepQ_mk rfl (by simp only [List.getElem?_toArray, List.getElem?_cons_succ, List.getElem?_cons_zero]; exact rfl) ?_
                        first | exact ⟨Ext.refl _, rfl⟩ | exact ⟨hy, rfl⟩
                    case hB => kernel_rfl
                    case fin =>
                      intro V lo up w' hr hf ha
                      simp only [factsOk, isv, newb, List.map_nil, List.map_cons, List.headD_cons, and_true, Nat.zero_add, Nat.reduceAdd] at hf
                      simp only [List.length_cons, List.length_nil, Nat.zero_add, Nat.reduceAdd, List.drop_succ_cons, List.drop_zero]
                      obtain ⟨-, ⟨-, -, -, e1⟩, -, -, -, -, -, ⟨-, -, -, e7⟩, -, ⟨-, -, -, e9⟩⟩ := hf
                      clear ha
                      rw [e1, e7, e9]
                      clear e1 e7 e9
                      obtain ⟨hc1, hc2⟩ := (HO.out.keep hr).cell HN.out d hdL
                      have hst := Kept.mk ((HO.out.keep hr).store HN.out d (ring t))
                      go_wp2
                      go_roundw
                      case rel =>
                        refine ⟨j0 + 1, us.set d (ring t), by omega, by go_num, by rw [List.length_set]; exact HN.out, hst.out.1, fun p hp => ?_, ?_, ?_, ?_, ?_, ?_⟩
                        · rw [getD_set' us d p _ (by rw [HN.out]; exact hdL)]
                          split
                          · rename_i e; rw [e, HS.out]
                          · rename_i e; exact HW.out p (Nat.lt_of_le_of_ne (Nat.le_of_lt_succ (by rw [HD.out]; exact hp)) e)
                        · exact (kM.keep hr).setO (fun e => neM.out (by simp [Value.ownBlock, e])) _ _
                        · exact (kA.keep hr).setO (fun e => neA.out (by simp [Value.ownBlock, e])) _ _
                        · exact (kB.keep hr).setO (fun e => neB.out (by simp [Value.ownBlock, e])) _ _
                        · exact (kR.keep hr).setO (fun e => neR.out (by simp [Value.ownBlock, e])) _ _
                        · exact (X.out.trans hr).setCell (HO.out.block g rfl).1 _
                      case measure => simp [intOf]; omega

              · obtain rfl : j0 = C := by omega
                have hv2 : ∀ p, p < (i0 + 1) * j0 → us.getD p 0 = mulE xs ys K j0 p := fun p hp => hval p (by rw [Nat.add_mul, Nat.one_mul] at hp; exact hp)
                have HW := Kept.mk hv2
                have HO := Kept.mk ho
                have X := Kept.mk hx
                have HN := Kept.mk hlen
                clear hv2 hval ho hx hlen
                go_wp2
                go_roundw
                case rel => exact ⟨i0 + 1, us, by omega, by go_num, HN.out, HO.out, HW.out, kM, kA, kB, kR, X.out⟩
                case measure => simp [intOf]; omega
          · obtain rfl : i0 = R := by omega
            have e : zs = mapTo (mulE xs ys K C) L := by
              apply list_ext'
              · rw [hlen, mapTo_len]
              · intro p hp
                rw [mapTo_get _ _ _ (by omega)]
                exact hval p (by rw [← HLL.out]; omega)
            obtain ⟨m0, m1, m2⟩ := kM.three
            obtain ⟨r0, r1, r2⟩ := kR.three
            have rf := kR.free
            have NR := Kept.mk (ho.ne kR (by decide))
            have HO := Kept.mk (e ▸ ho)
            have HX := Kept.mk hx
            clear ho hx kM kA kB kR hlen hval e HV HU RO VA
            go_wp2
            exact bodyPost_ret (v := .agg #[.int .i64 i0, .int .i64 C, .slice (some ⟨g, 0, none⟩) L L]) (by simp [results, Try.results12, go_sem, *]) rfl ⟨_, rfl, HO.out.other3 NR.out _ _ _, HX.out.other3 (by show w.heap.size ≤ w.heap.size + 1 + 1; omega) _ _ _⟩
end Go.Proofs.Ytpbnbhiffnnliaa
