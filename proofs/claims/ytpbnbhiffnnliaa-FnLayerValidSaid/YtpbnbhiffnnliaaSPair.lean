/- Sums and differences of matrices in the reference. -/
import Derived.Test.YtpbnbhiffnnliaaPairT
namespace Go.Proofs.Ytpbnbhiffnnliaa
set_option linter.unusedSimpArgs false
set_option linter.unusedVariables false
open Go.RowKit
/-- A slice that is handed on: it reads as xs, has room for what it holds, and is not long. -/
structure Arg (w : World) (v : Value) (xs : List Int) : Prop where
  ints : Ints w v xs
  fit : Fit v
  len : xs.length ≤ 1048576
theorem Arg.keep {w w' : World} {v : Value} {xs : List Int} (h : Arg w v xs) (x : Ext w w') : Arg w' v xs := ⟨h.ints.keep x, h.fit, h.len⟩
theorem Own.arg {B : Nat} {w : World} {v : Value} {xs : List Int} (h : Own B w v xs) (hl : xs.length ≤ 1048576) : Arg w v xs := ⟨h.ints, h.fit, hl⟩
theorem Arg.nil (w : World) : Arg w (.slice none 0 0) [] := (Own.nil 0 w).arg (Nat.zero_le _)

set_option maxHeartbeats 2000000 in
theorem spec_l3Like (r c p q : Int) (v u : Value) (xs ys : List Int) (b : Bool) (h : (mOk r c xs && mOk p q ys && (decide (r = p) && decide (c = q))) = b) (w : World) (h1 : Ints w v xs) (h2 : Ints w u ys) : Calls Try.prog 44 #[.agg #[.int .i64 r, .int .i64 c, v], .agg #[.int .i64 p, .int .i64 q, u]] w fun e w' => e = .returned (.bool b) ∧ Ext w w' := by
  cases g1 : mOk r c xs
  · have hb : b = false := by rw [← h, g1]; simp 
    subst hb
    clear h
    obtain ⟨s1, n1, rfl, hm1, hc1⟩ := id h1
    obtain ⟨s2, n2, rfl, hm2, hc2⟩ := id h2
    clear hm1 hc1 hm2 hc2
    have HV := Kept.mk h1
    have HU := Kept.mk h2
    clear h1 h2
    have MA : Kept (∀ w', Ext w w' → Calls Try.prog 31 #[.agg #[.int .i64 r, .int .i64 c, .slice s1 xs.length n1]] w' fun e w'' => e = .returned (.bool false) ∧ Ext w' w'') := ⟨fun w' hx => g1 ▸ spec_MatrixValid _ _ _ xs w' (HV.out.keep hx)⟩
    clear g1
    have X := Kept.mk (((Ext.refl w).alloc (.cells #[.int .i64 r, .int .i64 c, .slice s1 xs.length n1] 25)).alloc (.cells #[.int .i64 p, .int .i64 q, .slice s2 ys.length n2] 25))
    have kA := (Blk.new w #[.int .i64 r, .int .i64 c, .slice s1 xs.length n1] 25).old (.cells #[.int .i64 p, .int .i64 q, .slice s2 ys.length n2] 25)
    have kB := Blk.new (w.alloc (.cells #[.int .i64 r, .int .i64 c, .slice s1 xs.length n1] 25)) #[.int .i64 p, .int .i64 q, .slice s2 ys.length n2] 25
    simp only [World.size_alloc] at kB
    go_enter Try.func44, Try.ntmps44
    obtain ⟨akA0, akA1, akA2⟩ := kA.three
    obtain ⟨akB0, akB1, akB2⟩ := kB.three
    go_wp2_with (fail)
    clear akA0 akA1 akA2
    clear akB0 akB1 akB2
    (with_reducible refine (MA.out _ X.out).mono ?_)
    rintro e u1 ⟨rfl, x9⟩
    replace X := Kept.mk (X.out.trans x9)
    replace kA := kA.keep x9
    replace kB := kB.keep x9
    clear x9
    obtain ⟨akA0, akA1, akA2⟩ := kA.three
    obtain ⟨akB0, akB1, akB2⟩ := kB.three
    clear kA kB
    go_wp2
    go_ret
    exact ⟨rfl, X.out⟩
  · cases g2 : mOk p q ys
    · have hb : b = false := by rw [← h, g1, g2]; simp 
      subst hb
      clear h
      obtain ⟨s1, n1, rfl, hm1, hc1⟩ := id h1
      obtain ⟨s2, n2, rfl, hm2, hc2⟩ := id h2
      clear hm1 hc1 hm2 hc2
      have HV := Kept.mk h1
      have HU := Kept.mk h2
      clear h1 h2
      have MA : Kept (∀ w', Ext w w' → Calls Try.prog 31 #[.agg #[.int .i64 r, .int .i64 c, .slice s1 xs.length n1]] w' fun e w'' => e = .returned (.bool true) ∧ Ext w' w'') := ⟨fun w' hx => g1 ▸ spec_MatrixValid _ _ _ xs w' (HV.out.keep hx)⟩
      have MB : Kept (∀ w', Ext w w' → Calls Try.prog 31 #[.agg #[.int .i64 p, .int .i64 q, .slice s2 ys.length n2]] w' fun e w'' => e = .returned (.bool false) ∧ Ext w' w'') := ⟨fun w' hx => g2 ▸ spec_MatrixValid _ _ _ ys w' (HU.out.keep hx)⟩
      clear g1 g2
      have X := Kept.mk (((Ext.refl w).alloc (.cells #[.int .i64 r, .int .i64 c, .slice s1 xs.length n1] 25)).alloc (.cells #[.int .i64 p, .int .i64 q, .slice s2 ys.length n2] 25))
      have kA := (Blk.new w #[.int .i64 r, .int .i64 c, .slice s1 xs.length n1] 25).old (.cells #[.int .i64 p, .int .i64 q, .slice s2 ys.length n2] 25)
      have kB := Blk.new (w.alloc (.cells #[.int .i64 r, .int .i64 c, .slice s1 xs.length n1] 25)) #[.int .i64 p, .int .i64 q, .slice s2 ys.length n2] 25
      simp only [World.size_alloc] at kB
      go_enter Try.func44, Try.ntmps44
      obtain ⟨akA0, akA1, akA2⟩ := kA.three
      obtain ⟨akB0, akB1, akB2⟩ := kB.three
      go_wp2_with (fail)
      clear akA0 akA1 akA2
      clear akB0 akB1 akB2
      (with_reducible refine (MA.out _ X.out).mono ?_)
      rintro e u1 ⟨rfl, x9⟩
      replace X := Kept.mk (X.out.trans x9)
      replace kA := kA.keep x9
      replace kB := kB.keep x9
      clear x9
      obtain ⟨akA0, akA1, akA2⟩ := kA.three
      obtain ⟨akB0, akB1, akB2⟩ := kB.three
      go_wp2_with (fail)
      clear akA0 akA1 akA2
      clear akB0 akB1 akB2
      (with_reducible refine (MB.out _ X.out).mono ?_)
      rintro e u2 ⟨rfl, x9⟩
      replace X := Kept.mk (X.out.trans x9)
      replace kA := kA.keep x9
      replace kB := kB.keep x9
      clear x9
      obtain ⟨akA0, akA1, akA2⟩ := kA.three
      obtain ⟨akB0, akB1, akB2⟩ := kB.three
      clear kA kB
      go_wp2
      go_ret
      exact ⟨rfl, X.out⟩
    · by_cases g3 : r = p
      · by_cases g4 : c = q
        · have hb : b = true := by rw [← h, g1, g2]; simp [g3, g4]
          subst hb
          clear h
          obtain ⟨s1, n1, rfl, hm1, hc1⟩ := id h1
          obtain ⟨s2, n2, rfl, hm2, hc2⟩ := id h2
          clear hm1 hc1 hm2 hc2
          have HV := Kept.mk h1
          have HU := Kept.mk h2
          clear h1 h2
          have MA : Kept (∀ w', Ext w w' → Calls Try.prog 31 #[.agg #[.int .i64 r, .int .i64 c, .slice s1 xs.length n1]] w' fun e w'' => e = .returned (.bool true) ∧ Ext w' w'') := ⟨fun w' hx => g1 ▸ spec_MatrixValid _ _ _ xs w' (HV.out.keep hx)⟩
          have MB : Kept (∀ w', Ext w w' → Calls Try.prog 31 #[.agg #[.int .i64 p, .int .i64 q, .slice s2 ys.length n2]] w' fun e w'' => e = .returned (.bool true) ∧ Ext w' w'') := ⟨fun w' hx => g2 ▸ spec_MatrixValid _ _ _ ys w' (HU.out.keep hx)⟩
          have e1 : (r == p) = true := by simpa using g3
          clear g3
          have e2 : (c == q) = true := by simpa using g4
          clear g4
          clear g1 g2
          have X := Kept.mk (((Ext.refl w).alloc (.cells #[.int .i64 r, .int .i64 c, .slice s1 xs.length n1] 25)).alloc (.cells #[.int .i64 p, .int .i64 q, .slice s2 ys.length n2] 25))
          have kA := (Blk.new w #[.int .i64 r, .int .i64 c, .slice s1 xs.length n1] 25).old (.cells #[.int .i64 p, .int .i64 q, .slice s2 ys.length n2] 25)
          have kB := Blk.new (w.alloc (.cells #[.int .i64 r, .int .i64 c, .slice s1 xs.length n1] 25)) #[.int .i64 p, .int .i64 q, .slice s2 ys.length n2] 25
          simp only [World.size_alloc] at kB
          go_enter Try.func44, Try.ntmps44
          obtain ⟨akA0, akA1, akA2⟩ := kA.three
          obtain ⟨akB0, akB1, akB2⟩ := kB.three
          go_wp2_with (fail)
          clear akA0 akA1 akA2
          clear akB0 akB1 akB2
          (with_reducible refine (MA.out _ X.out).mono ?_)
          rintro e u1 ⟨rfl, x9⟩
          replace X := Kept.mk (X.out.trans x9)
          replace kA := kA.keep x9
          replace kB := kB.keep x9
          clear x9
          obtain ⟨akA0, akA1, akA2⟩ := kA.three
          obtain ⟨akB0, akB1, akB2⟩ := kB.three
          go_wp2_with (fail)
          clear akA0 akA1 akA2
          clear akB0 akB1 akB2
          (with_reducible refine (MB.out _ X.out).mono ?_)
          rintro e u2 ⟨rfl, x9⟩
          replace X := Kept.mk (X.out.trans x9)
          replace kA := kA.keep x9
          replace kB := kB.keep x9
          clear x9
          obtain ⟨akA0, akA1, akA2⟩ := kA.three
          obtain ⟨akB0, akB1, akB2⟩ := kB.three
          clear kA kB
          go_wp2
          go_ret
          exact ⟨rfl, X.out⟩
        · have hb : b = false := by rw [← h, g1, g2]; simp [g3, g4]
          subst hb
          clear h
          obtain ⟨s1, n1, rfl, hm1, hc1⟩ := id h1
          obtain ⟨s2, n2, rfl, hm2, hc2⟩ := id h2
          clear hm1 hc1 hm2 hc2
          have HV := Kept.mk h1
          have HU := Kept.mk h2
          clear h1 h2
          have MA : Kept (∀ w', Ext w w' → Calls Try.prog 31 #[.agg #[.int .i64 r, .int .i64 c, .slice s1 xs.length n1]] w' fun e w'' => e = .returned (.bool true) ∧ Ext w' w'') := ⟨fun w' hx => g1 ▸ spec_MatrixValid _ _ _ xs w' (HV.out.keep hx)⟩
          have MB : Kept (∀ w', Ext w w' → Calls Try.prog 31 #[.agg #[.int .i64 p, .int .i64 q, .slice s2 ys.length n2]] w' fun e w'' => e = .returned (.bool true) ∧ Ext w' w'') := ⟨fun w' hx => g2 ▸ spec_MatrixValid _ _ _ ys w' (HU.out.keep hx)⟩
          have e1 : (r == p) = true := by simpa using g3
          clear g3
          have e2 : (c == q) = false := by simpa using g4
          clear g4
          clear g1 g2
          have X := Kept.mk (((Ext.refl w).alloc (.cells #[.int .i64 r, .int .i64 c, .slice s1 xs.length n1] 25)).alloc (.cells #[.int .i64 p, .int .i64 q, .slice s2 ys.length n2] 25))
          have kA := (Blk.new w #[.int .i64 r, .int .i64 c, .slice s1 xs.length n1] 25).old (.cells #[.int .i64 p, .int .i64 q, .slice s2 ys.length n2] 25)
          have kB := Blk.new (w.alloc (.cells #[.int .i64 r, .int .i64 c, .slice s1 xs.length n1] 25)) #[.int .i64 p, .int .i64 q, .slice s2 ys.length n2] 25
          simp only [World.size_alloc] at kB
          go_enter Try.func44, Try.ntmps44
          obtain ⟨akA0, akA1, akA2⟩ := kA.three
          obtain ⟨akB0, akB1, akB2⟩ := kB.three
          go_wp2_with (fail)
          clear akA0 akA1 akA2
          clear akB0 akB1 akB2
          (with_reducible refine (MA.out _ X.out).mono ?_)
          rintro e u1 ⟨rfl, x9⟩
          replace X := Kept.mk (X.out.trans x9)
          replace kA := kA.keep x9
          replace kB := kB.keep x9
          clear x9
          obtain ⟨akA0, akA1, akA2⟩ := kA.three
          obtain ⟨akB0, akB1, akB2⟩ := kB.three
          go_wp2_with (fail)
          clear akA0 akA1 akA2
          clear akB0 akB1 akB2
          (with_reducible refine (MB.out _ X.out).mono ?_)
          rintro e u2 ⟨rfl, x9⟩
          replace X := Kept.mk (X.out.trans x9)
          replace kA := kA.keep x9
          replace kB := kB.keep x9
          clear x9
          obtain ⟨akA0, akA1, akA2⟩ := kA.three
          obtain ⟨akB0, akB1, akB2⟩ := kB.three
          clear kA kB
          go_wp2
          go_ret
          exact ⟨rfl, X.out⟩
      · have hb : b = false := by rw [← h, g1, g2]; simp [g3]
        subst hb
        clear h
        obtain ⟨s1, n1, rfl, hm1, hc1⟩ := id h1
        obtain ⟨s2, n2, rfl, hm2, hc2⟩ := id h2
        clear hm1 hc1 hm2 hc2
        have HV := Kept.mk h1
        have HU := Kept.mk h2
        clear h1 h2
        have MA : Kept (∀ w', Ext w w' → Calls Try.prog 31 #[.agg #[.int .i64 r, .int .i64 c, .slice s1 xs.length n1]] w' fun e w'' => e = .returned (.bool true) ∧ Ext w' w'') := ⟨fun w' hx => g1 ▸ spec_MatrixValid _ _ _ xs w' (HV.out.keep hx)⟩
        have MB : Kept (∀ w', Ext w w' → Calls Try.prog 31 #[.agg #[.int .i64 p, .int .i64 q, .slice s2 ys.length n2]] w' fun e w'' => e = .returned (.bool true) ∧ Ext w' w'') := ⟨fun w' hx => g2 ▸ spec_MatrixValid _ _ _ ys w' (HU.out.keep hx)⟩
        have e1 : (r == p) = false := by simpa using g3
        clear g3
        clear g1 g2
        have X := Kept.mk (((Ext.refl w).alloc (.cells #[.int .i64 r, .int .i64 c, .slice s1 xs.length n1] 25)).alloc (.cells #[.int .i64 p, .int .i64 q, .slice s2 ys.length n2] 25))
        have kA := (Blk.new w #[.int .i64 r, .int .i64 c, .slice s1 xs.length n1] 25).old (.cells #[.int .i64 p, .int .i64 q, .slice s2 ys.length n2] 25)
        have kB := Blk.new (w.alloc (.cells #[.int .i64 r, .int .i64 c, .slice s1 xs.length n1] 25)) #[.int .i64 p, .int .i64 q, .slice s2 ys.length n2] 25
        simp only [World.size_alloc] at kB
        go_enter Try.func44, Try.ntmps44
        obtain ⟨akA0, akA1, akA2⟩ := kA.three
        obtain ⟨akB0, akB1, akB2⟩ := kB.three
        go_wp2_with (fail)
        clear akA0 akA1 akA2
        clear akB0 akB1 akB2
        (with_reducible refine (MA.out _ X.out).mono ?_)
        rintro e u1 ⟨rfl, x9⟩
        replace X := Kept.mk (X.out.trans x9)
        replace kA := kA.keep x9
        replace kB := kB.keep x9
        clear x9
        obtain ⟨akA0, akA1, akA2⟩ := kA.three
        obtain ⟨akB0, akB1, akB2⟩ := kB.three
        go_wp2_with (fail)
        clear akA0 akA1 akA2
        clear akB0 akB1 akB2
        (with_reducible refine (MB.out _ X.out).mono ?_)
        rintro e u2 ⟨rfl, x9⟩
        replace X := Kept.mk (X.out.trans x9)
        replace kA := kA.keep x9
        replace kB := kB.keep x9
        clear x9
        obtain ⟨akA0, akA1, akA2⟩ := kA.three
        obtain ⟨akB0, akB1, akB2⟩ := kB.three
        clear kA kB
        go_wp2
        go_ret
        exact ⟨rfl, X.out⟩
set_option maxHeartbeats 4000000 in
set_option maxRecDepth 2000 in
theorem spec_AddMatrices (r c p q : Int) (v u : Value) (xs ys : List Int) (w : World) (h1 : Arg w v xs) (h2 : Arg w u ys) : Calls Try.prog 32 #[.agg #[.int .i64 r, .int .i64 c, v], .agg #[.int .i64 p, .int .i64 q, u]] w (MatPost (addM ⟨r, c, xs⟩ ⟨p, q, ys⟩) w) := by
  unfold MatPost
  cases g : (mOk r c xs && mOk p q ys && (decide (r = p) && decide (c = q)))
  · rw [show addM ⟨r, c, xs⟩ ⟨p, q, ys⟩ = matZ from pairM_bad _ g]
    obtain ⟨s1, n1, rfl, hm1, hc1⟩ := id h1.ints
    obtain ⟨s2, n2, rfl, hm2, hc2⟩ := id h2.ints
    clear hm1 hc1 hm2 hc2
    have HV := Kept.mk h1
    have HU := Kept.mk h2
    clear h1 h2
    have LK : Kept (∀ v1 v2 w', Ints w' v1 xs → Ints w' v2 ys → Calls Try.prog 44 #[.agg #[.int .i64 r, .int .i64 c, v1], .agg #[.int .i64 p, .int .i64 q, v2]] w' fun e w'' => e = .returned (.bool false) ∧ Ext w' w'') := ⟨fun v1 v2 w' h1 h2 => spec_l3Like r c p q v1 v2 xs ys false g w' h1 h2⟩
    clear g
    have OA : Kept (∀ w', Ints w' (.slice s1 xs.length n1) xs → Calls Try.prog 30 #[.agg #[.int .i64 r, .int .i64 c, .slice s1 xs.length n1]] w' (MatPost ⟨r, c, xs⟩ w')) := ⟨fun w' h => spec_l1OwnMatrix r c _ xs w' h HV.out.fit.nil HV.out.len⟩
    unfold MatPost at OA
    have OB : Kept (∀ w', Ints w' (.slice s2 ys.length n2) ys → Calls Try.prog 30 #[.agg #[.int .i64 p, .int .i64 q, .slice s2 ys.length n2]] w' (MatPost ⟨p, q, ys⟩ w')) := ⟨fun w' h => spec_l1OwnMatrix p q _ ys w' h HU.out.fit.nil HU.out.len⟩
    unfold MatPost at OB
    have X := Kept.mk ((((Ext.refl w).alloc (.cells #[.int .i64 r, .int .i64 c, .slice s1 xs.length n1] 25)).alloc (.cells #[.int .i64 p, .int .i64 q, .slice s2 ys.length n2] 25)).alloc (.cells #[.int .i64 0, .int .i64 0, .slice none 0 0] 25))
    have kA := ((Blk.new w #[.int .i64 r, .int .i64 c, .slice s1 xs.length n1] 25).old (.cells #[.int .i64 p, .int .i64 q, .slice s2 ys.length n2] 25)).old (.cells #[.int .i64 0, .int .i64 0, .slice none 0 0] 25)
    have kB := (Blk.new (w.alloc (.cells #[.int .i64 r, .int .i64 c, .slice s1 xs.length n1] 25)) #[.int .i64 p, .int .i64 q, .slice s2 ys.length n2] 25).old (.cells #[.int .i64 0, .int .i64 0, .slice none 0 0] 25)
    have kR := Blk.new ((w.alloc (.cells #[.int .i64 r, .int .i64 c, .slice s1 xs.length n1] 25)).alloc (.cells #[.int .i64 p, .int .i64 q, .slice s2 ys.length n2] 25)) #[.int .i64 0, .int .i64 0, .slice none 0 0] 25
    simp only [World.size_alloc] at kB kR
    go_enter Try.func32, Try.ntmps32
    obtain ⟨akA0, akA1, akA2⟩ := kA.three
    go_wp2_with (fail)
    clear akA0 akA1 akA2
    (with_reducible refine (OA.out _ (HV.out.ints.keep X.out)).mono ?_)
    rintro e u1 ⟨vA, rfl, oA, x9⟩
    obtain ⟨pA, mA, huA, -, -⟩ := id oA.ints
    try simp only at huA
    subst huA
    replace oA := oA.mono X.out.size
    replace X := Kept.mk (X.out.trans x9)
    replace kA := kA.keep x9
    replace kB := kB.keep x9
    replace kR := kR.keep x9
    clear x9
    obtain ⟨akA0, akA1, akA2⟩ := kA.three
    obtain ⟨akB0, akB1, akB2⟩ := kB.three
    have fkA := kA.free
    go_wp2_with (fail)
    clear akA0 akA1 akA2
    clear akB0 akB1 akB2
    clear fkA
    replace oA := oA.oth (oA.ne kA (by decide)) 0 1 2 (.int .i64 r) (.int .i64 c) (.slice pA xs.length mA)
    replace kB := kB.oth (g := w.heap.size) (by omega) 0 1 2 (.int .i64 r) (.int .i64 c) (.slice pA xs.length mA)
    replace kR := kR.oth (g := w.heap.size) (by omega) 0 1 2 (.int .i64 r) (.int .i64 c) (.slice pA xs.length mA)
    replace kA := kA.sub 0 1 2 (.int .i64 r) (.int .i64 c) (.slice pA xs.length mA) (cs' := #[.int .i64 r, .int .i64 c, .slice pA xs.length mA]) rfl
    replace X := Kept.mk (X.out.oth (g := w.heap.size) (by omega) 0 1 2 (.int .i64 r) (.int .i64 c) (.slice pA xs.length mA))
    have sA := X.out.size
    (with_reducible refine (OB.out _ (HU.out.ints.keep X.out)).mono ?_)
    rintro e u2 ⟨vB, rfl, oB, x9⟩
    obtain ⟨pB, mB, huB, -, -⟩ := id oB.ints
    try simp only at huB
    subst huB
    replace oB := oB.mono X.out.size
    replace X := Kept.mk (X.out.trans x9)
    replace kA := kA.keep x9
    replace kB := kB.keep x9
    replace kR := kR.keep x9
    replace oA := oA.keep x9
    clear x9
    clear sA
    obtain ⟨akA0, akA1, akA2⟩ := kA.three
    obtain ⟨akB0, akB1, akB2⟩ := kB.three
    have fkB := kB.free
    go_wp2_with (fail)
    clear akA0 akA1 akA2
    clear akB0 akB1 akB2
    clear fkB
    replace oA := oA.oth (oA.ne kB (by decide)) 0 1 2 (.int .i64 p) (.int .i64 q) (.slice pB ys.length mB)
    replace oB := oB.oth (oB.ne kB (by decide)) 0 1 2 (.int .i64 p) (.int .i64 q) (.slice pB ys.length mB)
    replace kA := kA.oth (g := w.heap.size + 1) (by omega) 0 1 2 (.int .i64 p) (.int .i64 q) (.slice pB ys.length mB)
    replace kR := kR.oth (g := w.heap.size + 1) (by omega) 0 1 2 (.int .i64 p) (.int .i64 q) (.slice pB ys.length mB)
    replace kB := kB.sub 0 1 2 (.int .i64 p) (.int .i64 q) (.slice pB ys.length mB) (cs' := #[.int .i64 p, .int .i64 q, .slice pB ys.length mB]) rfl
    replace X := Kept.mk (X.out.oth (g := w.heap.size + 1) (by omega) 0 1 2 (.int .i64 p) (.int .i64 q) (.slice pB ys.length mB))
    (with_reducible refine (LK.out _ _ _ oA.ints oB.ints).mono ?_)
    rintro e u3 ⟨rfl, x9⟩
    replace X := Kept.mk (X.out.trans x9)
    replace kA := kA.keep x9
    replace kB := kB.keep x9
    replace kR := kR.keep x9
    replace oA := oA.keep x9
    replace oB := oB.keep x9
    clear x9
    clear kA kB oA oB
    have RK := Kept.mk kR
    obtain ⟨r0, r1, r2⟩ := kR.three
    have rf := kR.free
    clear kR
    go_wp2
    exact bodyPost_ret (v := .agg #[.int .i64 0, .int .i64 0, .slice none 0 0]) (by simp [results, Try.results32, go_sem, *]) rfl ⟨_, rfl, Own.nil _ _, by first | exact X.out.other3 (by show w.heap.size ≤ w.heap.size + 1 + 1; omega) _ _ _ | exact X.out⟩
  · have g' : mOk r c xs = true ∧ mOk p q ys = true ∧ (decide (r = p) && decide (c = q)) = true := by rw [Bool.and_eq_true, Bool.and_eq_true] at g; exact ⟨g.1.1, g.1.2, g.2⟩
    obtain ⟨g1, g2, g3⟩ := g'
    rw [show addM ⟨r, c, xs⟩ ⟨p, q, ys⟩ = _ from pairM_ok _ g1 g2 g3]
    obtain ⟨e1, e2⟩ := pair_sides g3
    subst e1 e2
    obtain ⟨s1, n1, rfl, hm1, hc1⟩ := id h1.ints
    obtain ⟨s2, n2, rfl, hm2, hc2⟩ := id h2.ints
    clear hm1 hc1 hm2 hc2
    have HV := Kept.mk h1
    have HU := Kept.mk h2
    clear h1 h2
    obtain ⟨R, C, rfl, rfl, R1, R5, C1, C5, hL, L25, hrv⟩ := mOk_nat g1
    obtain ⟨R', C', e1, e2, _, _, _, _, hL', _, _⟩ := mOk_nat g2
    have hLY : ys.length = xs.length := by rw [hL', hL, show R = R' by omega, show C = C' by omega]
    clear e1 e2 hL' hrv
    have LK : Kept (∀ v1 v2 w', Ints w' v1 xs → Ints w' v2 ys → Calls Try.prog 44 #[.agg #[.int .i64 R, .int .i64 C, v1], .agg #[.int .i64 R, .int .i64 C, v2]] w' fun e w'' => e = .returned (.bool true) ∧ Ext w' w'') := ⟨fun v1 v2 w' h1 h2 => spec_l3Like R C R C v1 v2 xs ys true g w' h1 h2⟩
    have L26 : xs.length ≤ 25 := by omega
    clear hL L25 g g1 g2 g3 R1 R5 C1 C5
    have FA : Kept (∀ x y w, Calls Try.prog 56 #[.int .i64 x, .int .i64 y] w fun e w' => e = .returned (.int .i64 (addR x y)) ∧ w = w') := ⟨fun x y w => spec_AddRing x y w⟩
    have HLY := Kept.mk hLY
    clear hLY
    have OA : Kept (∀ w', Ints w' (.slice s1 xs.length n1) xs → Calls Try.prog 30 #[.agg #[.int .i64 R, .int .i64 C, .slice s1 xs.length n1]] w' (MatPost ⟨R, C, xs⟩ w')) := ⟨fun w' h => spec_l1OwnMatrix R C _ xs w' h HV.out.fit.nil HV.out.len⟩
    unfold MatPost at OA
    have OB : Kept (∀ w', Ints w' (.slice s2 ys.length n2) ys → Calls Try.prog 30 #[.agg #[.int .i64 R, .int .i64 C, .slice s2 ys.length n2]] w' (MatPost ⟨R, C, ys⟩ w')) := ⟨fun w' h => spec_l1OwnMatrix R C _ ys w' h HU.out.fit.nil HU.out.len⟩
    unfold MatPost at OB
    have X := Kept.mk ((((Ext.refl w).alloc (.cells #[.int .i64 R, .int .i64 C, .slice s1 xs.length n1] 25)).alloc (.cells #[.int .i64 R, .int .i64 C, .slice s2 ys.length n2] 25)).alloc (.cells #[.int .i64 0, .int .i64 0, .slice none 0 0] 25))
    have kA := ((Blk.new w #[.int .i64 R, .int .i64 C, .slice s1 xs.length n1] 25).old (.cells #[.int .i64 R, .int .i64 C, .slice s2 ys.length n2] 25)).old (.cells #[.int .i64 0, .int .i64 0, .slice none 0 0] 25)
    have kB := (Blk.new (w.alloc (.cells #[.int .i64 R, .int .i64 C, .slice s1 xs.length n1] 25)) #[.int .i64 R, .int .i64 C, .slice s2 ys.length n2] 25).old (.cells #[.int .i64 0, .int .i64 0, .slice none 0 0] 25)
    have kR := Blk.new ((w.alloc (.cells #[.int .i64 R, .int .i64 C, .slice s1 xs.length n1] 25)).alloc (.cells #[.int .i64 R, .int .i64 C, .slice s2 ys.length n2] 25)) #[.int .i64 0, .int .i64 0, .slice none 0 0] 25
    simp only [World.size_alloc] at kB kR
    go_enter Try.func32, Try.ntmps32
    obtain ⟨akA0, akA1, akA2⟩ := kA.three
    go_wp2_with (fail)
    clear akA0 akA1 akA2
    (with_reducible refine (OA.out _ (HV.out.ints.keep X.out)).mono ?_)
    rintro e u1 ⟨vA, rfl, oA, x9⟩
    obtain ⟨pA, mA, huA, -, -⟩ := id oA.ints
    try simp only at huA
    subst huA
    replace oA := oA.mono X.out.size
    replace X := Kept.mk (X.out.trans x9)
    replace kA := kA.keep x9
    replace kB := kB.keep x9
    replace kR := kR.keep x9
    clear x9
    obtain ⟨akA0, akA1, akA2⟩ := kA.three
    obtain ⟨akB0, akB1, akB2⟩ := kB.three
    have fkA := kA.free
    go_wp2_with (fail)
    clear akA0 akA1 akA2
    clear akB0 akB1 akB2
    clear fkA
    replace oA := oA.oth (oA.ne kA (by decide)) 0 1 2 (.int .i64 R) (.int .i64 C) (.slice pA xs.length mA)
    replace kB := kB.oth (g := w.heap.size) (by omega) 0 1 2 (.int .i64 R) (.int .i64 C) (.slice pA xs.length mA)
    replace kR := kR.oth (g := w.heap.size) (by omega) 0 1 2 (.int .i64 R) (.int .i64 C) (.slice pA xs.length mA)
    replace kA := kA.sub 0 1 2 (.int .i64 R) (.int .i64 C) (.slice pA xs.length mA) (cs' := #[.int .i64 R, .int .i64 C, .slice pA xs.length mA]) rfl
    replace X := Kept.mk (X.out.oth (g := w.heap.size) (by omega) 0 1 2 (.int .i64 R) (.int .i64 C) (.slice pA xs.length mA))
    have sA := X.out.size
    (with_reducible refine (OB.out _ (HU.out.ints.keep X.out)).mono ?_)
    rintro e u2 ⟨vB, rfl, oB, x9⟩
    obtain ⟨pB, mB, huB, -, -⟩ := id oB.ints
    try simp only at huB
    subst huB
    replace oB := oB.mono X.out.size
    replace X := Kept.mk (X.out.trans x9)
    replace kA := kA.keep x9
    replace kB := kB.keep x9
    replace kR := kR.keep x9
    replace oA := oA.keep x9
    clear x9
    clear sA
    obtain ⟨akA0, akA1, akA2⟩ := kA.three
    obtain ⟨akB0, akB1, akB2⟩ := kB.three
    have fkB := kB.free
    go_wp2_with (fail)
    clear akA0 akA1 akA2
    clear akB0 akB1 akB2
    clear fkB
    replace oA := oA.oth (oA.ne kB (by decide)) 0 1 2 (.int .i64 R) (.int .i64 C) (.slice pB ys.length mB)
    replace oB := oB.oth (oB.ne kB (by decide)) 0 1 2 (.int .i64 R) (.int .i64 C) (.slice pB ys.length mB)
    replace kA := kA.oth (g := w.heap.size + 1) (by omega) 0 1 2 (.int .i64 R) (.int .i64 C) (.slice pB ys.length mB)
    replace kR := kR.oth (g := w.heap.size + 1) (by omega) 0 1 2 (.int .i64 R) (.int .i64 C) (.slice pB ys.length mB)
    replace kB := kB.sub 0 1 2 (.int .i64 R) (.int .i64 C) (.slice pB ys.length mB) (cs' := #[.int .i64 R, .int .i64 C, .slice pB ys.length mB]) rfl
    replace X := Kept.mk (X.out.oth (g := w.heap.size + 1) (by omega) 0 1 2 (.int .i64 R) (.int .i64 C) (.slice pB ys.length mB))
    (with_reducible refine (LK.out _ _ _ oA.ints oB.ints).mono ?_)
    rintro e u3 ⟨rfl, x9⟩
    replace X := Kept.mk (X.out.trans x9)
    replace kA := kA.keep x9
    replace kB := kB.keep x9
    replace kR := kR.keep x9
    replace oA := oA.keep x9
    replace oB := oB.keep x9
    clear x9
    obtain ⟨akA0, akA1, akA2⟩ := kA.three
    go_wp2_with (fail)
    clear akA0 akA1 akA2
    clear OA OB LK
    have gR := kR.lt
    have kM := Blk.new u3 #[.int .i64 R, .int .i64 C, .slice none 0 0] 25
    replace kA := kA.old (.cells #[.int .i64 R, .int .i64 C, .slice none 0 0] 25)
    replace kB := kB.old (.cells #[.int .i64 R, .int .i64 C, .slice none 0 0] 25)
    replace kR := kR.old (.cells #[.int .i64 R, .int .i64 C, .slice none 0 0] 25)
    replace oA := oA.keep ((Ext.refl u3).alloc (.cells #[.int .i64 R, .int .i64 C, .slice none 0 0] 25))
    replace oB := oB.keep ((Ext.refl u3).alloc (.cells #[.int .i64 R, .int .i64 C, .slice none 0 0] 25))
    replace X := Kept.mk (X.out.alloc (.cells #[.int .i64 R, .int .i64 C, .slice none 0 0] 25))
    have lX := X.out.size
    generalize hgM : u3.heap.size = gM at *
    have HQ := Kept.mk (fun q hq => (oA.block q hq).2)
    have HQ2 := Kept.mk (fun q hq => (oB.block q hq).2)
    have hB0 : ∃ B0, B0 = (u3.alloc (.cells #[.int .i64 R, .int .i64 C, .slice none 0 0] 25)).heap.size := ⟨_, rfl⟩
    obtain ⟨B0, hB0⟩ := hB0
    rw [← hB0] at HQ HQ2 lX
    have LX := Kept.mk lX
    clear lX
    go_loopw [6] (fun i wr => ∃ (j : Nat) (v : Value), j ≤ xs.length ∧ i = .int .i64 j ∧ Blk wr gM #[.int .i64 R, .int .i64 C, v] 25 ∧ Own B0 wr v (mapTo (fun i => addR (xs.getD i 0) (ys.getD i 0)) j) ∧ Own w.heap.size wr (.slice pA xs.length mA) xs ∧ Own w.heap.size wr (.slice pB ys.length mB) ys ∧ Blk wr w.heap.size #[.int .i64 R, .int .i64 C, .slice pA xs.length mA] 25 ∧ Blk wr (w.heap.size + 1) #[.int .i64 R, .int .i64 C, .slice pB ys.length mB] 25 ∧ Blk wr (w.heap.size + 1 + 1) #[.int .i64 0, .int .i64 0, .slice none 0 0] 25 ∧ Ext w wr ∧ B0 ≤ wr.heap.size) (fun i _ => xs.length - (intOf i).toNat)
    case atStart => exact ⟨0, _, Nat.zero_le _, rfl, kM, Own.nil _ _, oA, oB, kA, kB, kR, X.out, by rw [hB0]; exact Nat.le_refl _⟩
    case round =>
      clear X kM kA kB kR oA oB hB0
      obtain ⟨j, v, hj, rfl, kM, ho, oA, oB, kA, kB, kR, hx, hB⟩ := hrel
      have neM := ho.ne kM (by decide)
      have neA := ho.ne kA (by decide)
      have neB := ho.ne kB (by decide)
      have neR := ho.ne kR (by decide)
      have neP := oA.ne kM (by decide)
      have neQ := oB.ne kM (by decide)
      by_cases hlt : j < xs.length
      · have hltZ : (j : Int) < (xs.length : Int) := by omega
        have hltY : (j : Int) < (ys.length : Int) := by have := HLY.out; omega
        obtain ⟨b, off, es, lb, cb⟩ := at_len oA.ints rfl hlt
        subst es
        obtain ⟨b2, off2, es, lb2, cb2⟩ := at_len oB.ints rfl (n := j) (by have := HLY.out; omega)
        subst es
        generalize hp : xs.getD j 0 = p at cb
        have HP := Kept.mk hp
        clear hp
        generalize hq : ys.getD j 0 = q at cb2
        have HQY := Kept.mk hq
        clear hq
        have KM := Kept.mk kM
        have KA := Kept.mk kA
        have KB := Kept.mk kB
        have KR := Kept.mk kR
        have OA := Kept.mk oA
        have OB := Kept.mk oB
        have HO := Kept.mk ho
        have HX := Kept.mk hx
        clear kM kA kB kR oA oB ho hx
        obtain ⟨a0, a1, a2⟩ := KA.out.three
        go_wp2_with (fail)
        clear a0 a1 a2
        apply wp_region_zip [isv _, isv _, isv _, isv _, isv _, isv _, isv _, isv _, isv _, isv _, isv _, isv _, isv _, oneS (addR p q)] _ (by kernel_rfl)
        case hA => intro V; simp [putAll, dstOf, Act.put]; exact rfl
        case hsl => intro V; exact rfl
        case step =>
          intro V lo up w' hr
          obtain ⟨hcr, hzr⟩ := hr.cells
          have hsr := hr.size
          obtain ⟨m0, m1', m2⟩ := (KM.out.keep hr).three
          obtain ⟨a0, a1, a2⟩ := (KA.out.keep hr).three
          obtain ⟨c0, c1, c2⟩ := (KB.out.keep hr).three
          have cbr := (hr.cells.1 b (off + j) lb).trans cb
          have cbs := (hr.cells.1 b2 (off2 + j) lb2).trans cb2
          simp only [zipOk, depsImp, isv, oneS, modeNg, newb, waits, Region.binds, List.map_nil, List.map_cons, List.headD_cons, List.nil_append, List.cons_append, List.filterMap_cons, List.filterMap_nil, ↓reduceIte, modeNe, Bool.false_eq_true, true_implies, List.getD_cons_zero, List.getD_cons_succ, and_true]
          refine ⟨?_, ?_, ?_, ?_, ?_, ?_, ?_, ?_, ?_, ?_, ?_, ?_, ?_, ?_⟩
          · intros
            go_wp2
            refine stepQ_mk rfl (by simp only [List.getElem?_toArray, List.getElem?_cons_succ, List.getElem?_cons_zero]; exact rfl) ?_
            exact ⟨Ext.refl _, rfl⟩
          · intros
            go_wp2
            refine stepQ_mk rfl (by simp only [List.getElem?_toArray, List.getElem?_cons_succ, List.getElem?_cons_zero]; exact rfl) ?_
            exact ⟨Ext.refl _, rfl⟩
          · intros
            go_wp2
            refine stepQ_mk rfl (by simp only [List.getElem?_toArray, List.getElem?_cons_succ, List.getElem?_cons_zero]; exact rfl) ?_
            exact ⟨Ext.refl _, rfl⟩
          · intros
            go_wp2
            refine stepQ_mk rfl (by simp only [List.getElem?_toArray, List.getElem?_cons_succ, List.getElem?_cons_zero]; exact rfl) ?_
            exact ⟨Ext.refl _, rfl⟩
          · intros
            go_wp2
            refine stepQ_mk rfl (by simp only [List.getElem?_toArray, List.getElem?_cons_succ, List.getElem?_cons_zero]; exact rfl) ?_
            exact ⟨Ext.refl _, rfl⟩
          · intros
            go_wp2
            refine stepQ_mk rfl (by simp only [List.getElem?_toArray, List.getElem?_cons_succ, List.getElem?_cons_zero]; exact rfl) ?_
            exact ⟨Ext.refl _, rfl⟩
          · intros
            go_wp2
            refine stepQ_mk rfl (by simp only [List.getElem?_toArray, List.getElem?_cons_succ, List.getElem?_cons_zero]; exact rfl) ?_
            exact ⟨Ext.refl _, rfl⟩
          · intros
            go_wp2
            refine stepQ_mk rfl (by simp only [List.getElem?_toArray, List.getElem?_cons_succ, List.getElem?_cons_zero]; exact rfl) ?_
            exact ⟨Ext.refl _, rfl⟩
          · intros
            go_wp2
            refine stepQ_mk rfl (by simp only [List.getElem?_toArray, List.getElem?_cons_succ, List.getElem?_cons_zero]; exact rfl) ?_
            exact ⟨Ext.refl _, rfl⟩
          · intros
            go_wp2
            refine stepQ_mk rfl (by simp only [List.getElem?_toArray, List.getElem?_cons_succ, List.getElem?_cons_zero]; exact rfl) ?_
            exact ⟨Ext.refl _, rfl⟩
          · intros
            go_wp2
            refine stepQ_mk rfl (by simp only [List.getElem?_toArray, List.getElem?_cons_succ, List.getElem?_cons_zero]; exact rfl) ?_
            exact ⟨Ext.refl _, rfl⟩
          · intros
            go_wp2
            refine stepQ_mk rfl (by simp only [List.getElem?_toArray, List.getElem?_cons_succ, List.getElem?_cons_zero]; exact rfl) ?_
            exact ⟨Ext.refl _, rfl⟩
          · intros
            go_wp2_with (go_at_call 56; (with_reducible refine (FA.out _ _ _).mono ?_); rintro e w1 ⟨rfl, rfl⟩)
            refine stepQ_mk rfl (by simp only [List.getElem?_toArray, List.getElem?_cons_succ, List.getElem?_cons_zero]; exact rfl) ?_
            first | exact ⟨Ext.refl _, rfl⟩ | exact ⟨hy, rfl⟩
          · intros
            go_wp2
            refine stepQ_mk rfl (by simp only [List.getElem?_toArray, List.getElem?_cons_succ, List.getElem?_cons_zero]; exact rfl) ?_
            exact ⟨(Ext.refl _).alloc _, rfl, by simp, Blk.new _ _ _⟩
        case hB => kernel_rfl
        case fin =>
          intro V lo up w' hr hf ha
          simp only [factsOk, isv, oneS, modeNg, newb, List.map_nil, List.map_cons, List.headD_cons, and_true, Nat.zero_add, Nat.reduceAdd] at hf
          simp only [List.length_cons, List.length_nil, Nat.zero_add, Nat.reduceAdd, List.drop_succ_cons, List.drop_zero]
          obtain ⟨-, ⟨-, -, -, e1⟩, -, -, -, -, -, -, -, -, -, -, -, ⟨l13, -, -, e13, -, k13⟩⟩ := hf
          clear ha
          rw [e1, e13]
          clear e1 e13
          generalize lo 13 = g1 at *
          have hB' : B0 ≤ w'.heap.size := Nat.le_trans hB hr.size
          go_wp2_with (at_builtin; refine wpList_append_one rfl _ _ rfl B0 _ (mapTo (fun i => addR (xs.getD i 0) (ys.getD i 0)) j) rfl (HO.out.keep hr) g1 _ rfl k13 (by rw [mapTo_len]; omega) hB' ?_; intro v' w5 hown htu; have kM1 := Turned.blk (KM.out.keep hr) htu neM; obtain ⟨t0, t1, t2⟩ := kM1.three; have tf := kM1.free; have K1 := Kept.mk kM1; have OW := Kept.mk hown; have hv : ∃ a m, v' = .slice a (j + 1) m := (by obtain ⟨a, m, e, _⟩ := hown.ints; exact ⟨a, m, by rw [e]; simp [mapTo_len]⟩); obtain ⟨p2, m2, rfl⟩ := hv; have TU := Kept.mk htu; clear kM1 hown htu)
          have OW' : Own B0 w5 (.slice p2 (j + 1) m2) (mapTo (fun i => addR (xs.getD i 0) (ys.getD i 0)) (j + 1)) := by rw [mapTo_succ, HP.out, HQY.out]; exact OW.out
          have NE2 := OW'.ne K1.out (by decide)
          have XE := Kept.mk (Turned.ext (HX.out.trans hr) TU.out (fun q hq => Nat.le_trans LX.out (HO.out.block q hq).1))
          have A2 := Turned.blk (KA.out.keep hr) TU.out neA
          have B2 := Turned.blk (KB.out.keep hr) TU.out neB
          have R2 := Turned.blk (KR.out.keep hr) TU.out neR
          have P2 := TU.out.own (OA.out.keep hr) (fun q hq e => by have h3 := (HO.out.block q hq).1; have h4 := HQ.out q e; omega)
          have Q2 := TU.out.own (OB.out.keep hr) (fun q hq e => by have h3 := (HO.out.block q hq).1; have h4 := HQ2.out q e; omega)
          have sz1 := TU.out.size
          clear t0 t1 t2 tf
          go_roundw
          case rel =>
            exact ⟨j + 1, .slice p2 (j + 1) m2, by omega, by go_num, K1.out.set3 2 _, OW'.setOther _ NE2 _ _, P2.setOther _ neP _ _, Q2.setOther _ neQ _ _, A2.setO (by omega) _ _, B2.setO (by omega) _ _, R2.setO (by omega) _ _, XE.out.setCell (by show w.heap.size ≤ gM; omega) _, by simp [World.setCell]; omega⟩
          case measure => simp [intOf]; omega

      · have e : j = xs.length := by omega
        subst e
        have hvv : ∃ a m, v = .slice a xs.length m := by obtain ⟨a, m, e, _⟩ := ho.ints; exact ⟨a, m, by rw [e]; simp [mapTo_len]⟩
        obtain ⟨p2, m2, rfl⟩ := hvv
        obtain ⟨a0, a1, a2⟩ := kA.three
        obtain ⟨t0, t1, t2⟩ := kM.three
        obtain ⟨r0, r1, r2⟩ := kR.three
        have rf := kR.free
        have HO := Kept.mk (ho.mono LX.out)
        have HX := Kept.mk hx
        have NR := Kept.mk neR
        clear ho hx kM kA kB kR oA oB neM neA neB neR neP neQ HV HU
        go_wp2
        exact bodyPost_ret (v := .agg #[.int .i64 R, .int .i64 C, .slice p2 xs.length m2]) (by simp [results, Try.results32, go_sem, *]) rfl ⟨_, rfl, HO.out.other3 NR.out _ _ _, HX.out.other3 (by show w.heap.size ≤ w.heap.size + 1 + 1; omega) _ _ _⟩
end Go.Proofs.Ytpbnbhiffnnliaa
