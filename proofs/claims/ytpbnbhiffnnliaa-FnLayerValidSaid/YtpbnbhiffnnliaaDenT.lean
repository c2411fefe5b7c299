/- Dense layers: the program. -/
import Derived.Test.YtpbnbhiffnnliaaKQ
import Derived.Test.YtpbnbhiffnnliaaKS
import Derived.Test.YtpbnbhiffnnliaaShA
namespace Go.Proofs.Ytpbnbhiffnnliaa
set_option linter.unusedSimpArgs false
set_option linter.unusedVariables false
open Go.RowKit
/-- The cut product. -/
def cutM (a b : Mat) : Mat := mapM 1 (mulM a b).r (mulM a b).c (mulM a b).xs
def fitsB (w b : Mat) : Bool := w.ok && b.ok && decide (b.c = 1) && decide (b.r = w.r)
/-- PlainDense. -/
def denseM (w b x : Mat) : Mat := if (x.ok && fitsB w b && decide (w.c = x.r)) = true then addM (cutM w x) (wideM w.r.toNat x.c.toNat b.xs) else matZ

set_option maxHeartbeats 2000000 in
theorem impl_cutProduct (r c p q : Int) (v u : Value) (xs ys : List Int) (w : World) (h1 : Ints w v xs) (h2 : Ints w u ys) (hf : Fit v) : Calls Try.prog 27 #[.agg #[.int .i64 r, .int .i64 c, v], .agg #[.int .i64 p, .int .i64 q, u]] w (MatPost (cutM ⟨r, c, xs⟩ ⟨p, q, ys⟩) w) := by
  unfold MatPost cutM
  have MM := Kept.mk (fun w' (hx : Ext w w') => impl_MulMatrices r c p q v u xs ys w' (h1.keep hx) (h2.keep hx) hf)
  clear hf
  obtain ⟨s1, n1, rfl, hm9, hc9⟩ := id h1
  clear hm9 hc9
  have HV := Kept.mk h1
  clear h1
  obtain ⟨s2, n2, rfl, hm9, hc9⟩ := id h2
  clear hm9 hc9
  have HU := Kept.mk h2
  clear h2
  unfold MatPost at MM
  generalize mulM ⟨r, c, xs⟩ ⟨p, q, ys⟩ = D at *
  obtain ⟨dr, dc, ds⟩ := D
  simp only at MM ⊢
  have MP := Kept.mk (fun u w' (h : Ints w' u ds) => impl_MapMatrix 1 dr dc u ds w' h)
  unfold MatPost at MP
  generalize mapM 1 dr dc ds = E at *
  obtain ⟨er, ec, es⟩ := E
  simp only at MP
  have X := Kept.mk ((((Ext.refl w).alloc (.cells #[.int .i64 r, .int .i64 c, .slice s1 xs.length n1] 25)).alloc (.cells #[.int .i64 p, .int .i64 q, .slice s2 ys.length n2] 25)).alloc (.cells #[.int .i64 0, .int .i64 0, .slice none 0 0] 25))
  have kA := ((Blk.new w #[.int .i64 r, .int .i64 c, .slice s1 xs.length n1] 25).old (.cells #[.int .i64 p, .int .i64 q, .slice s2 ys.length n2] 25)).old (.cells #[.int .i64 0, .int .i64 0, .slice none 0 0] 25)
  have kB := (Blk.new (w.alloc (.cells #[.int .i64 r, .int .i64 c, .slice s1 xs.length n1] 25)) #[.int .i64 p, .int .i64 q, .slice s2 ys.length n2] 25).old (.cells #[.int .i64 0, .int .i64 0, .slice none 0 0] 25)
  have kR := Blk.new ((w.alloc (.cells #[.int .i64 r, .int .i64 c, .slice s1 xs.length n1] 25)).alloc (.cells #[.int .i64 p, .int .i64 q, .slice s2 ys.length n2] 25)) #[.int .i64 0, .int .i64 0, .slice none 0 0] 25
  simp only [World.size_alloc] at kB kR
  go_enter Try.func27, Try.ntmps27
  obtain ⟨akA0, akA1, akA2⟩ := kA.three
  obtain ⟨akB0, akB1, akB2⟩ := kB.three
  go_wp2_with (fail)
  clear akA0 akA1 akA2
  clear akB0 akB1 akB2
  (with_reducible refine (MM.out _ X.out).mono ?_)
  rintro e u1 ⟨vD, rfl, oD, x9⟩
  obtain ⟨pD, mD, huD, -, -⟩ := id oD.ints
  try simp only at huD
  subst huD
  replace oD := oD.mono X.out.size
  replace X := Kept.mk (X.out.trans x9)
  replace kA := kA.keep x9
  replace kB := kB.keep x9
  replace kR := kR.keep x9
  clear x9
  go_wp2_with (fail)
  (with_reducible refine (MP.out _ _ oD.ints).mono ?_)
  rintro e u2 ⟨vE, rfl, oE, x9⟩
  obtain ⟨pE, mE, huE, -, -⟩ := id oE.ints
  try simp only at huE
  subst huE
  replace oE := oE.mono X.out.size
  replace X := Kept.mk (X.out.trans x9)
  replace kA := kA.keep x9
  replace kB := kB.keep x9
  replace kR := kR.keep x9
  replace oD := oD.keep x9
  clear x9
  have ne9 := Kept.mk (oE.ne kR (by decide))
  have OO := Kept.mk oE
  obtain ⟨r0, r1, r2⟩ := kR.three
  have rf := kR.free
  clear kA kB kR oD oE
  go_wp2
  exact bodyPost_ret (v := .agg #[.int .i64 er, .int .i64 ec, .slice pE es.length mE]) (by simp [results, Try.results27, go_sem, *]) rfl ⟨_, rfl, OO.out.other3 ne9.out _ _ _, X.out.other3 (by show w.heap.size ≤ w.heap.size + 1 + 1; omega) _ _ _⟩
set_option maxHeartbeats 2000000 in
theorem impl_denseFits (r c p q : Int) (v u : Value) (xs ys : List Int) (b : Bool) (h : (mOk r c xs && mOk p q ys && decide (q = 1) && decide (p = r)) = b) (w : World) (h1 : Ints w v xs) (h2 : Ints w u ys) : Calls Try.prog 25 #[.agg #[.int .i64 r, .int .i64 c, v], .agg #[.int .i64 p, .int .i64 q, u]] w fun e w' => e = .returned (.bool b) ∧ Ext w w' := by
  cases g1 : mOk r c xs
  · have hb : b = false := by rw [← h, g1]; simp
    subst hb
    clear h
    obtain ⟨s1, n1, rfl, hm9, hc9⟩ := id h1
    clear hm9 hc9
    have HV := Kept.mk h1
    clear h1
    obtain ⟨s2, n2, rfl, hm9, hc9⟩ := id h2
    clear hm9 hc9
    have HU := Kept.mk h2
    clear h2
    have MA : Kept (∀ w', Ext w w' → Calls Try.prog 24 #[.agg #[.int .i64 r, .int .i64 c, .slice s1 xs.length n1]] w' fun e w'' => e = .returned (.bool false) ∧ Ext w' w'') := ⟨fun w' hx => g1 ▸ impl_MatrixValid _ _ _ xs w' (HV.out.keep hx)⟩
    clear g1
    have X := Kept.mk (((Ext.refl w).alloc (.cells #[.int .i64 r, .int .i64 c, .slice s1 xs.length n1] 25)).alloc (.cells #[.int .i64 p, .int .i64 q, .slice s2 ys.length n2] 25))
    have kA := (Blk.new w #[.int .i64 r, .int .i64 c, .slice s1 xs.length n1] 25).old (.cells #[.int .i64 p, .int .i64 q, .slice s2 ys.length n2] 25)
    have kB := Blk.new (w.alloc (.cells #[.int .i64 r, .int .i64 c, .slice s1 xs.length n1] 25)) #[.int .i64 p, .int .i64 q, .slice s2 ys.length n2] 25
    simp only [World.size_alloc] at kB
    go_enter Try.func25, Try.ntmps25
    obtain ⟨akA0, akA1, akA2⟩ := kA.three
    obtain ⟨akB0, akB1, akB2⟩ := kB.three
    go_wp2_with (fail)
    clear akA0 akA1 akA2
    clear akB0 akB1 akB2
    (with_reducible refine (MA.out _ X.out).mono ?_)
    rintro e u1 ⟨rfl, x9⟩
    replace X := Kept.mk (X.out.trans x9)
    replace kA := kA.keep x9
    replace kB := kB.keep x9
    clear x9
    obtain ⟨akA0, akA1, akA2⟩ := kA.three
    obtain ⟨akB0, akB1, akB2⟩ := kB.three
    clear kA kB
    go_wp2
    go_ret
    exact ⟨rfl, X.out⟩
  · cases g2 : mOk p q ys
    · have hb : b = false := by rw [← h, g1, g2]; simp
      subst hb
      clear h
      obtain ⟨s1, n1, rfl, hm9, hc9⟩ := id h1
      clear hm9 hc9
      have HV := Kept.mk h1
      clear h1
      obtain ⟨s2, n2, rfl, hm9, hc9⟩ := id h2
      clear hm9 hc9
      have HU := Kept.mk h2
      clear h2
      have MA : Kept (∀ w', Ext w w' → Calls Try.prog 24 #[.agg #[.int .i64 r, .int .i64 c, .slice s1 xs.length n1]] w' fun e w'' => e = .returned (.bool true) ∧ Ext w' w'') := ⟨fun w' hx => g1 ▸ impl_MatrixValid _ _ _ xs w' (HV.out.keep hx)⟩
      have MB : Kept (∀ w', Ext w w' → Calls Try.prog 24 #[.agg #[.int .i64 p, .int .i64 q, .slice s2 ys.length n2]] w' fun e w'' => e = .returned (.bool false) ∧ Ext w' w'') := ⟨fun w' hx => g2 ▸ impl_MatrixValid _ _ _ ys w' (HU.out.keep hx)⟩
      clear g1 g2
      have X := Kept.mk (((Ext.refl w).alloc (.cells #[.int .i64 r, .int .i64 c, .slice s1 xs.length n1] 25)).alloc (.cells #[.int .i64 p, .int .i64 q, .slice s2 ys.length n2] 25))
      have kA := (Blk.new w #[.int .i64 r, .int .i64 c, .slice s1 xs.length n1] 25).old (.cells #[.int .i64 p, .int .i64 q, .slice s2 ys.length n2] 25)
      have kB := Blk.new (w.alloc (.cells #[.int .i64 r, .int .i64 c, .slice s1 xs.length n1] 25)) #[.int .i64 p, .int .i64 q, .slice s2 ys.length n2] 25
      simp only [World.size_alloc] at kB
      go_enter Try.func25, Try.ntmps25
      obtain ⟨akA0, akA1, akA2⟩ := kA.three
      obtain ⟨akB0, akB1, akB2⟩ := kB.three
      go_wp2_with (fail)
      clear akA0 akA1 akA2
      clear akB0 akB1 akB2
      (with_reducible refine (MA.out _ X.out).mono ?_)
      rintro e u1 ⟨rfl, x9⟩
      replace X := Kept.mk (X.out.trans x9)
      replace kA := kA.keep x9
      replace kB := kB.keep x9
      clear x9
      obtain ⟨akA0, akA1, akA2⟩ := kA.three
      obtain ⟨akB0, akB1, akB2⟩ := kB.three
      go_wp2_with (fail)
      clear akA0 akA1 akA2
      clear akB0 akB1 akB2
      (with_reducible refine (MB.out _ X.out).mono ?_)
      rintro e u2 ⟨rfl, x9⟩
      replace X := Kept.mk (X.out.trans x9)
      replace kA := kA.keep x9
      replace kB := kB.keep x9
      clear x9
      obtain ⟨akA0, akA1, akA2⟩ := kA.three
      obtain ⟨akB0, akB1, akB2⟩ := kB.three
      clear kA kB
      go_wp2
      go_ret
      exact ⟨rfl, X.out⟩
    · by_cases g3 : q = 1
      · by_cases g4 : p = r
        · have hb : b = true := by rw [← h, g1, g2]; simp [g3, g4]
          subst hb
          clear h
          subst g3
          subst g4
          obtain ⟨s1, n1, rfl, hm9, hc9⟩ := id h1
          clear hm9 hc9
          have HV := Kept.mk h1
          clear h1
          obtain ⟨s2, n2, rfl, hm9, hc9⟩ := id h2
          clear hm9 hc9
          have HU := Kept.mk h2
          clear h2
          have MA : Kept (∀ w', Ext w w' → Calls Try.prog 24 #[.agg #[.int .i64 p, .int .i64 c, .slice s1 xs.length n1]] w' fun e w'' => e = .returned (.bool true) ∧ Ext w' w'') := ⟨fun w' hx => g1 ▸ impl_MatrixValid _ _ _ xs w' (HV.out.keep hx)⟩
          have MB : Kept (∀ w', Ext w w' → Calls Try.prog 24 #[.agg #[.int .i64 p, .int .i64 1, .slice s2 ys.length n2]] w' fun e w'' => e = .returned (.bool true) ∧ Ext w' w'') := ⟨fun w' hx => g2 ▸ impl_MatrixValid _ _ _ ys w' (HU.out.keep hx)⟩
          clear g1 g2
          have X := Kept.mk (((Ext.refl w).alloc (.cells #[.int .i64 p, .int .i64 c, .slice s1 xs.length n1] 25)).alloc (.cells #[.int .i64 p, .int .i64 1, .slice s2 ys.length n2] 25))
          have kA := (Blk.new w #[.int .i64 p, .int .i64 c, .slice s1 xs.length n1] 25).old (.cells #[.int .i64 p, .int .i64 1, .slice s2 ys.length n2] 25)
          have kB := Blk.new (w.alloc (.cells #[.int .i64 p, .int .i64 c, .slice s1 xs.length n1] 25)) #[.int .i64 p, .int .i64 1, .slice s2 ys.length n2] 25
          simp only [World.size_alloc] at kB
          go_enter Try.func25, Try.ntmps25
          obtain ⟨akA0, akA1, akA2⟩ := kA.three
          obtain ⟨akB0, akB1, akB2⟩ := kB.three
          go_wp2_with (fail)
          clear akA0 akA1 akA2
          clear akB0 akB1 akB2
          (with_reducible refine (MA.out _ X.out).mono ?_)
          rintro e u1 ⟨rfl, x9⟩
          replace X := Kept.mk (X.out.trans x9)
          replace kA := kA.keep x9
          replace kB := kB.keep x9
          clear x9
          obtain ⟨akA0, akA1, akA2⟩ := kA.three
          obtain ⟨akB0, akB1, akB2⟩ := kB.three
          go_wp2_with (fail)
          clear akA0 akA1 akA2
          clear akB0 akB1 akB2
          (with_reducible refine (MB.out _ X.out).mono ?_)
          rintro e u2 ⟨rfl, x9⟩
          replace X := Kept.mk (X.out.trans x9)
          replace kA := kA.keep x9
          replace kB := kB.keep x9
          clear x9
          obtain ⟨akA0, akA1, akA2⟩ := kA.three
          obtain ⟨akB0, akB1, akB2⟩ := kB.three
          clear kA kB
          go_wp2
          go_ret
          exact ⟨rfl, X.out⟩
        · have hb : b = false := by rw [← h, g1, g2]; simp [g3, g4]
          subst hb
          clear h
          subst g3
          obtain ⟨s1, n1, rfl, hm9, hc9⟩ := id h1
          clear hm9 hc9
          have HV := Kept.mk h1
          clear h1
          obtain ⟨s2, n2, rfl, hm9, hc9⟩ := id h2
          clear hm9 hc9
          have HU := Kept.mk h2
          clear h2
          have MA : Kept (∀ w', Ext w w' → Calls Try.prog 24 #[.agg #[.int .i64 r, .int .i64 c, .slice s1 xs.length n1]] w' fun e w'' => e = .returned (.bool true) ∧ Ext w' w'') := ⟨fun w' hx => g1 ▸ impl_MatrixValid _ _ _ xs w' (HV.out.keep hx)⟩
          have MB : Kept (∀ w', Ext w w' → Calls Try.prog 24 #[.agg #[.int .i64 p, .int .i64 1, .slice s2 ys.length n2]] w' fun e w'' => e = .returned (.bool true) ∧ Ext w' w'') := ⟨fun w' hx => g2 ▸ impl_MatrixValid _ _ _ ys w' (HU.out.keep hx)⟩
          have e2 : (p == r) = false := by simpa using g4
          clear g1 g2
          have X := Kept.mk (((Ext.refl w).alloc (.cells #[.int .i64 r, .int .i64 c, .slice s1 xs.length n1] 25)).alloc (.cells #[.int .i64 p, .int .i64 1, .slice s2 ys.length n2] 25))
          have kA := (Blk.new w #[.int .i64 r, .int .i64 c, .slice s1 xs.length n1] 25).old (.cells #[.int .i64 p, .int .i64 1, .slice s2 ys.length n2] 25)
          have kB := Blk.new (w.alloc (.cells #[.int .i64 r, .int .i64 c, .slice s1 xs.length n1] 25)) #[.int .i64 p, .int .i64 1, .slice s2 ys.length n2] 25
          simp only [World.size_alloc] at kB
          go_enter Try.func25, Try.ntmps25
          obtain ⟨akA0, akA1, akA2⟩ := kA.three
          obtain ⟨akB0, akB1, akB2⟩ := kB.three
          go_wp2_with (fail)
          clear akA0 akA1 akA2
          clear akB0 akB1 akB2
          (with_reducible refine (MA.out _ X.out).mono ?_)
          rintro e u1 ⟨rfl, x9⟩
          replace X := Kept.mk (X.out.trans x9)
          replace kA := kA.keep x9
          replace kB := kB.keep x9
          clear x9
          obtain ⟨akA0, akA1, akA2⟩ := kA.three
          obtain ⟨akB0, akB1, akB2⟩ := kB.three
          go_wp2_with (fail)
          clear akA0 akA1 akA2
          clear akB0 akB1 akB2
          (with_reducible refine (MB.out _ X.out).mono ?_)
          rintro e u2 ⟨rfl, x9⟩
          replace X := Kept.mk (X.out.trans x9)
          replace kA := kA.keep x9
          replace kB := kB.keep x9
          clear x9
          obtain ⟨akA0, akA1, akA2⟩ := kA.three
          obtain ⟨akB0, akB1, akB2⟩ := kB.three
          clear kA kB
          go_wp2
          go_ret
          exact ⟨rfl, X.out⟩
      · have hb : b = false := by rw [← h, g1, g2]; simp [g3]
        subst hb
        clear h
        obtain ⟨s1, n1, rfl, hm9, hc9⟩ := id h1
        clear hm9 hc9
        have HV := Kept.mk h1
        clear h1
        obtain ⟨s2, n2, rfl, hm9, hc9⟩ := id h2
        clear hm9 hc9
        have HU := Kept.mk h2
        clear h2
        have MA : Kept (∀ w', Ext w w' → Calls Try.prog 24 #[.agg #[.int .i64 r, .int .i64 c, .slice s1 xs.length n1]] w' fun e w'' => e = .returned (.bool true) ∧ Ext w' w'') := ⟨fun w' hx => g1 ▸ impl_MatrixValid _ _ _ xs w' (HV.out.keep hx)⟩
        have MB : Kept (∀ w', Ext w w' → Calls Try.prog 24 #[.agg #[.int .i64 p, .int .i64 q, .slice s2 ys.length n2]] w' fun e w'' => e = .returned (.bool true) ∧ Ext w' w'') := ⟨fun w' hx => g2 ▸ impl_MatrixValid _ _ _ ys w' (HU.out.keep hx)⟩
        have e1 : (q == 1) = false := by simpa using g3
        clear g1 g2
        have X := Kept.mk (((Ext.refl w).alloc (.cells #[.int .i64 r, .int .i64 c, .slice s1 xs.length n1] 25)).alloc (.cells #[.int .i64 p, .int .i64 q, .slice s2 ys.length n2] 25))
        have kA := (Blk.new w #[.int .i64 r, .int .i64 c, .slice s1 xs.length n1] 25).old (.cells #[.int .i64 p, .int .i64 q, .slice s2 ys.length n2] 25)
        have kB := Blk.new (w.alloc (.cells #[.int .i64 r, .int .i64 c, .slice s1 xs.length n1] 25)) #[.int .i64 p, .int .i64 q, .slice s2 ys.length n2] 25
        simp only [World.size_alloc] at kB
        go_enter Try.func25, Try.ntmps25
        obtain ⟨akA0, akA1, akA2⟩ := kA.three
        obtain ⟨akB0, akB1, akB2⟩ := kB.three
        go_wp2_with (fail)
        clear akA0 akA1 akA2
        clear akB0 akB1 akB2
        (with_reducible refine (MA.out _ X.out).mono ?_)
        rintro e u1 ⟨rfl, x9⟩
        replace X := Kept.mk (X.out.trans x9)
        replace kA := kA.keep x9
        replace kB := kB.keep x9
        clear x9
        obtain ⟨akA0, akA1, akA2⟩ := kA.three
        obtain ⟨akB0, akB1, akB2⟩ := kB.three
        go_wp2_with (fail)
        clear akA0 akA1 akA2
        clear akB0 akB1 akB2
        (with_reducible refine (MB.out _ X.out).mono ?_)
        rintro e u2 ⟨rfl, x9⟩
        replace X := Kept.mk (X.out.trans x9)
        replace kA := kA.keep x9
        replace kB := kB.keep x9
        clear x9
        obtain ⟨akA0, akA1, akA2⟩ := kA.three
        obtain ⟨akB0, akB1, akB2⟩ := kB.three
        clear kA kB
        go_wp2
        go_ret
        exact ⟨rfl, X.out⟩
set_option maxHeartbeats 4000000 in
set_option maxRecDepth 2000 in
theorem impl_PlainDense (r c p q d e : Int) (v u z : Value) (xs ys zs : List Int) (w : World) (h1 : Ints w v xs) (h2 : Ints w u ys) (h3 : Ints w z zs) (hf : Fit v) : Calls Try.prog 7 #[.agg #[.int .i64 r, .int .i64 c, v], .agg #[.int .i64 p, .int .i64 q, u], .agg #[.int .i64 d, .int .i64 e, z]] w (MatPost (denseM ⟨r, c, xs⟩ ⟨p, q, ys⟩ ⟨d, e, zs⟩) w) := by
  cases g1 : mOk d e zs
  · unfold MatPost
    rw [show denseM ⟨r, c, xs⟩ ⟨p, q, ys⟩ ⟨d, e, zs⟩ = matZ by unfold denseM fitsB Mat.ok; simp only; rw [if_neg (by simp [g1])]]
    clear hf
    obtain ⟨s1, n1, rfl, hm9, hc9⟩ := id h1
    clear hm9 hc9
    have HV := Kept.mk h1
    clear h1
    obtain ⟨s2, n2, rfl, hm9, hc9⟩ := id h2
    clear hm9 hc9
    have HU := Kept.mk h2
    clear h2
    obtain ⟨s3, n3, rfl, hm9, hc9⟩ := id h3
    clear hm9 hc9
    have HZ := Kept.mk h3
    clear h3
    have MZ : Kept (∀ w', Ext w w' → Calls Try.prog 24 #[.agg #[.int .i64 d, .int .i64 e, .slice s3 zs.length n3]] w' fun e w'' => e = .returned (.bool false) ∧ Ext w' w'') := ⟨fun w' hx => g1 ▸ impl_MatrixValid _ _ _ zs w' (HZ.out.keep hx)⟩
    clear g1
    have X := Kept.mk (((((Ext.refl w).alloc (.cells #[.int .i64 r, .int .i64 c, .slice s1 xs.length n1] 25)).alloc (.cells #[.int .i64 p, .int .i64 q, .slice s2 ys.length n2] 25)).alloc (.cells #[.int .i64 d, .int .i64 e, .slice s3 zs.length n3] 25)).alloc (.cells #[.int .i64 0, .int .i64 0, .slice none 0 0] 25))
    have kA := (((Blk.new w #[.int .i64 r, .int .i64 c, .slice s1 xs.length n1] 25).old (.cells #[.int .i64 p, .int .i64 q, .slice s2 ys.length n2] 25)).old (.cells #[.int .i64 d, .int .i64 e, .slice s3 zs.length n3] 25)).old (.cells #[.int .i64 0, .int .i64 0, .slice none 0 0] 25)
    have kB := ((Blk.new (w.alloc (.cells #[.int .i64 r, .int .i64 c, .slice s1 xs.length n1] 25)) #[.int .i64 p, .int .i64 q, .slice s2 ys.length n2] 25).old (.cells #[.int .i64 d, .int .i64 e, .slice s3 zs.length n3] 25)).old (.cells #[.int .i64 0, .int .i64 0, .slice none 0 0] 25)
    have kD := (Blk.new ((w.alloc (.cells #[.int .i64 r, .int .i64 c, .slice s1 xs.length n1] 25)).alloc (.cells #[.int .i64 p, .int .i64 q, .slice s2 ys.length n2] 25)) #[.int .i64 d, .int .i64 e, .slice s3 zs.length n3] 25).old (.cells #[.int .i64 0, .int .i64 0, .slice none 0 0] 25)
    have kR := Blk.new (((w.alloc (.cells #[.int .i64 r, .int .i64 c, .slice s1 xs.length n1] 25)).alloc (.cells #[.int .i64 p, .int .i64 q, .slice s2 ys.length n2] 25)).alloc (.cells #[.int .i64 d, .int .i64 e, .slice s3 zs.length n3] 25)) #[.int .i64 0, .int .i64 0, .slice none 0 0] 25
    simp only [World.size_alloc] at kB kD kR
    go_enter Try.func7, Try.ntmps7
    obtain ⟨akD0, akD1, akD2⟩ := kD.three
    go_wp2_with (fail)
    clear akD0 akD1 akD2
    (with_reducible refine (MZ.out _ X.out).mono ?_)
    rintro e u1 ⟨rfl, x9⟩
    replace X := Kept.mk (X.out.trans x9)
    replace kA := kA.keep x9
    replace kB := kB.keep x9
    replace kD := kD.keep x9
    replace kR := kR.keep x9
    clear x9
    clear kA kB kD
    have RK := Kept.mk kR
    obtain ⟨r0, r1, r2⟩ := kR.three
    have rf := kR.free
    clear kR
    go_wp2
    exact bodyPost_ret (v := .agg #[.int .i64 0, .int .i64 0, .slice none 0 0]) (by simp [results, Try.results7, go_sem, *]) rfl ⟨_, rfl, Own.nil _ _, by first | exact X.out.other3 (by show w.heap.size ≤ w.heap.size + 1 + 1 + 1; omega) _ _ _ | exact X.out⟩
  · cases g2 : (mOk r c xs && mOk p q ys && decide (q = 1) && decide (p = r))
    · unfold MatPost
      rw [show denseM ⟨r, c, xs⟩ ⟨p, q, ys⟩ ⟨d, e, zs⟩ = matZ by unfold denseM fitsB Mat.ok; simp only; rw [if_neg (by simp [g2])]]
      clear hf
      obtain ⟨s1, n1, rfl, hm9, hc9⟩ := id h1
      clear hm9 hc9
      have HV := Kept.mk h1
      clear h1
      obtain ⟨s2, n2, rfl, hm9, hc9⟩ := id h2
      clear hm9 hc9
      have HU := Kept.mk h2
      clear h2
      obtain ⟨s3, n3, rfl, hm9, hc9⟩ := id h3
      clear hm9 hc9
      have HZ := Kept.mk h3
      clear h3
      have MZ : Kept (∀ w', Ext w w' → Calls Try.prog 24 #[.agg #[.int .i64 d, .int .i64 e, .slice s3 zs.length n3]] w' fun e w'' => e = .returned (.bool true) ∧ Ext w' w'') := ⟨fun w' hx => g1 ▸ impl_MatrixValid _ _ _ zs w' (HZ.out.keep hx)⟩
      have FT : Kept (∀ w', Ext w w' → Calls Try.prog 25 #[.agg #[.int .i64 r, .int .i64 c, .slice s1 xs.length n1], .agg #[.int .i64 p, .int .i64 q, .slice s2 ys.length n2]] w' fun e w'' => e = .returned (.bool false) ∧ Ext w' w'') := ⟨fun w' hx => impl_denseFits r c p q _ _ xs ys false g2 w' (HV.out.keep hx) (HU.out.keep hx)⟩
      clear g1 g2
      have X := Kept.mk (((((Ext.refl w).alloc (.cells #[.int .i64 r, .int .i64 c, .slice s1 xs.length n1] 25)).alloc (.cells #[.int .i64 p, .int .i64 q, .slice s2 ys.length n2] 25)).alloc (.cells #[.int .i64 d, .int .i64 e, .slice s3 zs.length n3] 25)).alloc (.cells #[.int .i64 0, .int .i64 0, .slice none 0 0] 25))
      have kA := (((Blk.new w #[.int .i64 r, .int .i64 c, .slice s1 xs.length n1] 25).old (.cells #[.int .i64 p, .int .i64 q, .slice s2 ys.length n2] 25)).old (.cells #[.int .i64 d, .int .i64 e, .slice s3 zs.length n3] 25)).old (.cells #[.int .i64 0, .int .i64 0, .slice none 0 0] 25)
      have kB := ((Blk.new (w.alloc (.cells #[.int .i64 r, .int .i64 c, .slice s1 xs.length n1] 25)) #[.int .i64 p, .int .i64 q, .slice s2 ys.length n2] 25).old (.cells #[.int .i64 d, .int .i64 e, .slice s3 zs.length n3] 25)).old (.cells #[.int .i64 0, .int .i64 0, .slice none 0 0] 25)
      have kD := (Blk.new ((w.alloc (.cells #[.int .i64 r, .int .i64 c, .slice s1 xs.length n1] 25)).alloc (.cells #[.int .i64 p, .int .i64 q, .slice s2 ys.length n2] 25)) #[.int .i64 d, .int .i64 e, .slice s3 zs.length n3] 25).old (.cells #[.int .i64 0, .int .i64 0, .slice none 0 0] 25)
      have kR := Blk.new (((w.alloc (.cells #[.int .i64 r, .int .i64 c, .slice s1 xs.length n1] 25)).alloc (.cells #[.int .i64 p, .int .i64 q, .slice s2 ys.length n2] 25)).alloc (.cells #[.int .i64 d, .int .i64 e, .slice s3 zs.length n3] 25)) #[.int .i64 0, .int .i64 0, .slice none 0 0] 25
      simp only [World.size_alloc] at kB kD kR
      go_enter Try.func7, Try.ntmps7
      obtain ⟨akD0, akD1, akD2⟩ := kD.three
      go_wp2_with (fail)
      clear akD0 akD1 akD2
      (with_reducible refine (MZ.out _ X.out).mono ?_)
      rintro e u1 ⟨rfl, x9⟩
      replace X := Kept.mk (X.out.trans x9)
      replace kA := kA.keep x9
      replace kB := kB.keep x9
      replace kD := kD.keep x9
      replace kR := kR.keep x9
      clear x9
      obtain ⟨akA0, akA1, akA2⟩ := kA.three
      obtain ⟨akB0, akB1, akB2⟩ := kB.three
      go_wp2_with (fail)
      clear akA0 akA1 akA2
      clear akB0 akB1 akB2
      (with_reducible refine (FT.out _ X.out).mono ?_)
      rintro e u2 ⟨rfl, x9⟩
      replace X := Kept.mk (X.out.trans x9)
      replace kA := kA.keep x9
      replace kB := kB.keep x9
      replace kD := kD.keep x9
      replace kR := kR.keep x9
      clear x9
      clear kA kB kD
      have RK := Kept.mk kR
      obtain ⟨r0, r1, r2⟩ := kR.three
      have rf := kR.free
      clear kR
      go_wp2
      exact bodyPost_ret (v := .agg #[.int .i64 0, .int .i64 0, .slice none 0 0]) (by simp [results, Try.results7, go_sem, *]) rfl ⟨_, rfl, Own.nil _ _, by first | exact X.out.other3 (by show w.heap.size ≤ w.heap.size + 1 + 1 + 1; omega) _ _ _ | exact X.out⟩
    · by_cases g3 : c = d
      · subst g3
        have g2' := g2
        simp only [Bool.and_eq_true, decide_eq_true_eq] at g2'
        obtain ⟨⟨⟨q1, q2⟩, q3⟩, q4⟩ := g2'
        subst q3 q4
        rw [show denseM ⟨p, c, xs⟩ ⟨p, 1, ys⟩ ⟨c, e, zs⟩ = addM (cutM ⟨p, c, xs⟩ ⟨c, e, zs⟩) (wideM p.toNat e.toNat ys) by unfold denseM fitsB Mat.ok; simp only; rw [if_pos (by simp [g1, q1, q2])]]
        have CU := Kept.mk (fun w' (hx : Ext w w') => impl_cutProduct p c c e v z xs zs w' (h1.keep hx) (h3.keep hx) hf)
        clear hf
        obtain ⟨s1, n1, rfl, hm9, hc9⟩ := id h1
        clear hm9 hc9
        have HV := Kept.mk h1
        clear h1
        obtain ⟨s2, n2, rfl, hm9, hc9⟩ := id h2
        clear hm9 hc9
        have HU := Kept.mk h2
        clear h2
        obtain ⟨s3, n3, rfl, hm9, hc9⟩ := id h3
        clear hm9 hc9
        have HZ := Kept.mk h3
        clear h3
        have MZ : Kept (∀ w', Ext w w' → Calls Try.prog 24 #[.agg #[.int .i64 c, .int .i64 e, .slice s3 zs.length n3]] w' fun e w'' => e = .returned (.bool true) ∧ Ext w' w'') := ⟨fun w' hx => g1 ▸ impl_MatrixValid _ _ _ zs w' (HZ.out.keep hx)⟩
        have FT : Kept (∀ w', Ext w w' → Calls Try.prog 25 #[.agg #[.int .i64 p, .int .i64 c, .slice s1 xs.length n1], .agg #[.int .i64 p, .int .i64 1, .slice s2 ys.length n2]] w' fun e w'' => e = .returned (.bool true) ∧ Ext w' w'') := ⟨fun w' hx => impl_denseFits p c p 1 _ _ xs ys true g2 w' (HV.out.keep hx) (HU.out.keep hx)⟩
        obtain ⟨R, O, e1, e2, R1, R5, O1, O5, hl, -, -⟩ := mOk_nat q2
        obtain ⟨K, C, e3, e4, K1, K5, C1, C5, -, -, -⟩ := mOk_nat g1
        subst e1 e3 e4
        have hl' : ys.length = R := by rw [hl, show O = 1 by omega, Nat.mul_one]
        simp only [Int.toNat_natCast]
        have SPR := Kept.mk (fun w' (hx : Ext w w') => impl_spreadColumn R C 1 ⟨R1, R5⟩ ⟨C1, C5⟩ _ ys hl' w' (HU.out.keep hx))
        unfold MatPost at CU SPR
        unfold MatPost
        have wr : (wideM R C ys).r = (R : Int) := rfl
        generalize cutM ⟨R, K, xs⟩ ⟨K, C, zs⟩ = D at *
        generalize wideM R C ys = S at *
        obtain ⟨dr, dc, ds⟩ := D
        obtain ⟨sr, sc, ss⟩ := S
        simp only at CU SPR
        have AM := Kept.mk (fun v u w' (h1 : Ints w' v ds) (h2 : Ints w' u ss) => impl_AddMatrices dr dc sr sc v u ds ss w' h1 h2)
        unfold MatPost at AM
        generalize addM ⟨dr, dc, ds⟩ ⟨sr, sc, ss⟩ = E at *
        obtain ⟨er, ec, es⟩ := E
        simp only at AM
        clear g1 g2 q1 q2 e2 hl hl' wr R1 R5 O1 O5 K1 K5 C1 C5
        have X := Kept.mk (((((Ext.refl w).alloc (.cells #[.int .i64 R, .int .i64 K, .slice s1 xs.length n1] 25)).alloc (.cells #[.int .i64 R, .int .i64 1, .slice s2 ys.length n2] 25)).alloc (.cells #[.int .i64 K, .int .i64 C, .slice s3 zs.length n3] 25)).alloc (.cells #[.int .i64 0, .int .i64 0, .slice none 0 0] 25))
        have kA := (((Blk.new w #[.int .i64 R, .int .i64 K, .slice s1 xs.length n1] 25).old (.cells #[.int .i64 R, .int .i64 1, .slice s2 ys.length n2] 25)).old (.cells #[.int .i64 K, .int .i64 C, .slice s3 zs.length n3] 25)).old (.cells #[.int .i64 0, .int .i64 0, .slice none 0 0] 25)
        have kB := ((Blk.new (w.alloc (.cells #[.int .i64 R, .int .i64 K, .slice s1 xs.length n1] 25)) #[.int .i64 R, .int .i64 1, .slice s2 ys.length n2] 25).old (.cells #[.int .i64 K, .int .i64 C, .slice s3 zs.length n3] 25)).old (.cells #[.int .i64 0, .int .i64 0, .slice none 0 0] 25)
        have kD := (Blk.new ((w.alloc (.cells #[.int .i64 R, .int .i64 K, .slice s1 xs.length n1] 25)).alloc (.cells #[.int .i64 R, .int .i64 1, .slice s2 ys.length n2] 25)) #[.int .i64 K, .int .i64 C, .slice s3 zs.length n3] 25).old (.cells #[.int .i64 0, .int .i64 0, .slice none 0 0] 25)
        have kR := Blk.new (((w.alloc (.cells #[.int .i64 R, .int .i64 K, .slice s1 xs.length n1] 25)).alloc (.cells #[.int .i64 R, .int .i64 1, .slice s2 ys.length n2] 25)).alloc (.cells #[.int .i64 K, .int .i64 C, .slice s3 zs.length n3] 25)) #[.int .i64 0, .int .i64 0, .slice none 0 0] 25
        simp only [World.size_alloc] at kB kD kR
        go_enter Try.func7, Try.ntmps7
        obtain ⟨akD0, akD1, akD2⟩ := kD.three
        go_wp2_with (fail)
        clear akD0 akD1 akD2
        (with_reducible refine (MZ.out _ X.out).mono ?_)
        rintro e u1 ⟨rfl, x9⟩
        replace X := Kept.mk (X.out.trans x9)
        replace kA := kA.keep x9
        replace kB := kB.keep x9
        replace kD := kD.keep x9
        replace kR := kR.keep x9
        clear x9
        obtain ⟨akA0, akA1, akA2⟩ := kA.three
        obtain ⟨akB0, akB1, akB2⟩ := kB.three
        go_wp2_with (fail)
        clear akA0 akA1 akA2
        clear akB0 akB1 akB2
        (with_reducible refine (FT.out _ X.out).mono ?_)
        rintro e u2 ⟨rfl, x9⟩
        replace X := Kept.mk (X.out.trans x9)
        replace kA := kA.keep x9
        replace kB := kB.keep x9
        replace kD := kD.keep x9
        replace kR := kR.keep x9
        clear x9
        obtain ⟨akA0, akA1, akA2⟩ := kA.three
        obtain ⟨akD0, akD1, akD2⟩ := kD.three
        go_wp2_with (fail)
        clear akA0 akA1 akA2
        clear akD0 akD1 akD2
        apply wp_region_zip [isv _, isv _, matR dr dc ds, isv _, isv _, isv _, matR sr sc ss, matR er ec es] _ (by kernel_rfl)
        case hA => intro V; simp [putAll, dstOf, Act.put]; exact rfl
        case hsl => intro V; exact rfl
        case step =>
          intro V lo up w' hr
          obtain ⟨hcr, hzr⟩ := hr.cells
          have hsr := hr.size
          have kA := kA.keep hr
          have kB := kB.keep hr
          have kD := kD.keep hr
          have kR := kR.keep hr
          have hxr := X.out.trans hr
          obtain ⟨akA0, akA1, akA2⟩ := kA.three
          obtain ⟨akB0, akB1, akB2⟩ := kB.three
          obtain ⟨akD0, akD1, akD2⟩ := kD.three
          simp only [zipOk, depsImp, isv, matR, modeNg, newb, waits, Region.binds, List.map_nil, List.map_cons, List.headD_cons, List.nil_append, List.cons_append, List.filterMap_cons, List.filterMap_nil, ↓reduceIte, modeNe, Bool.false_eq_true, true_implies, List.getD_cons_zero, List.getD_cons_succ, and_true]
          refine ⟨?_, ?_, ?_, ?_, ?_, ?_, ?_, ?_⟩
          · intros
            go_wp2
            refine stepQ_mk rfl (by simp only [List.getElem?_toArray, List.getElem?_cons_succ, List.getElem?_cons_zero]; exact rfl) ?_
            exact ⟨Ext.refl _, rfl⟩
          · intros
            go_wp2
            refine stepQ_mk rfl (by simp only [List.getElem?_toArray, List.getElem?_cons_succ, List.getElem?_cons_zero]; exact rfl) ?_
            exact ⟨Ext.refl _, rfl⟩
          · intros
            go_wp2_with (fail)
            (with_reducible refine (CU.out _ hxr).mono ?_)
            rintro e w9 ⟨v9, rfl, o9, x9⟩
            go_wp2
            refine stepQ_mk rfl (by simp only [List.getElem?_toArray, List.getElem?_cons_succ, List.getElem?_cons_zero]; exact rfl) ?_
            exact ⟨x9, v9, rfl, o9, fun q hq => (o9.block q hq).2⟩
          · intros
            go_wp2
            refine stepQ_mk rfl (by simp only [List.getElem?_toArray, List.getElem?_cons_succ, List.getElem?_cons_zero]; exact rfl) ?_
            exact ⟨Ext.refl _, rfl⟩
          · intros
            go_wp2
            refine stepQ_mk rfl (by simp only [List.getElem?_toArray, List.getElem?_cons_succ, List.getElem?_cons_zero]; exact rfl) ?_
            exact ⟨Ext.refl _, rfl⟩
          · intros
            go_wp2
            refine stepQ_mk rfl (by simp only [List.getElem?_toArray, List.getElem?_cons_succ, List.getElem?_cons_zero]; exact rfl) ?_
            exact ⟨Ext.refl _, rfl⟩
          · intros
            go_wp2_with (fail)
            (with_reducible refine (SPR.out _ hxr).mono ?_)
            rintro e w9 ⟨v9, rfl, o9, x9⟩
            go_wp2
            refine stepQ_mk rfl (by simp only [List.getElem?_toArray, List.getElem?_cons_succ, List.getElem?_cons_zero]; exact rfl) ?_
            exact ⟨x9, v9, rfl, o9, fun q hq => (o9.block q hq).2⟩
          · intro _ _ _ ⟨v2, e2, o2, b2⟩ _ _ _ ⟨v6, e6, o6, b6⟩
            intros
            go_wp2_with (fail)
            (with_reducible refine (AM.out _ _ _ o2.ints o6.ints).mono ?_)
            rintro e w9 ⟨v9, rfl, o9, x9⟩
            go_wp2
            refine stepQ_mk rfl (by simp only [List.getElem?_toArray, List.getElem?_cons_succ, List.getElem?_cons_zero]; exact rfl) ?_
            exact ⟨x9, v9, rfl, o9, fun q hq => (o9.block q hq).2⟩
        case hB => kernel_rfl
        case fin =>
          intro V lo up w' hr hf ha
          simp only [factsOk, isv, matR, modeNg, newb, List.map_nil, List.map_cons, List.headD_cons, and_true, Nat.zero_add, Nat.reduceAdd] at hf
          simp only [List.length_cons, List.length_nil, Nat.zero_add, Nat.reduceAdd, List.drop_succ_cons, List.drop_zero]
          obtain ⟨-, -, -, -, -, -, -, ⟨l7, -, -, v7, e7, o7, b7⟩⟩ := hf
          clear ha
          replace kA := kA.keep hr
          replace kB := kB.keep hr
          replace kD := kD.keep hr
          replace kR := kR.keep hr
          replace o7 := o7.mono (Nat.le_trans X.out.size l7)
          replace X := Kept.mk (X.out.trans hr)
          clear hr
          try clear hc hz
          obtain ⟨pE, mE, huE, -, -⟩ := id o7.ints
          try simp only at huE
          subst huE
          rw [e7]
          clear e7 l7 b7
          have oE := o7
          clear o7
          have ne9 := Kept.mk (oE.ne kR (by decide))
          have OO := Kept.mk oE
          obtain ⟨r0, r1, r2⟩ := kR.three
          have rf := kR.free
          clear kA kB kD kR oE
          go_wp2
          exact bodyPost_ret (v := .agg #[.int .i64 er, .int .i64 ec, .slice pE es.length mE]) (by simp [results, Try.results7, go_sem, *]) rfl ⟨_, rfl, OO.out.other3 ne9.out _ _ _, X.out.other3 (by show w.heap.size ≤ w.heap.size + 1 + 1 + 1; omega) _ _ _⟩
      · unfold MatPost
        rw [show denseM ⟨r, c, xs⟩ ⟨p, q, ys⟩ ⟨d, e, zs⟩ = matZ by unfold denseM fitsB Mat.ok; simp only; rw [if_neg (by simp [g3])]]
        clear hf
        obtain ⟨s1, n1, rfl, hm9, hc9⟩ := id h1
        clear hm9 hc9
        have HV := Kept.mk h1
        clear h1
        obtain ⟨s2, n2, rfl, hm9, hc9⟩ := id h2
        clear hm9 hc9
        have HU := Kept.mk h2
        clear h2
        obtain ⟨s3, n3, rfl, hm9, hc9⟩ := id h3
        clear hm9 hc9
        have HZ := Kept.mk h3
        clear h3
        have MZ : Kept (∀ w', Ext w w' → Calls Try.prog 24 #[.agg #[.int .i64 d, .int .i64 e, .slice s3 zs.length n3]] w' fun e w'' => e = .returned (.bool true) ∧ Ext w' w'') := ⟨fun w' hx => g1 ▸ impl_MatrixValid _ _ _ zs w' (HZ.out.keep hx)⟩
        have FT : Kept (∀ w', Ext w w' → Calls Try.prog 25 #[.agg #[.int .i64 r, .int .i64 c, .slice s1 xs.length n1], .agg #[.int .i64 p, .int .i64 q, .slice s2 ys.length n2]] w' fun e w'' => e = .returned (.bool true) ∧ Ext w' w'') := ⟨fun w' hx => impl_denseFits r c p q _ _ xs ys true g2 w' (HV.out.keep hx) (HU.out.keep hx)⟩
        have e1 : (c == d) = false := by simpa using g3
        clear g1 g2
        have X := Kept.mk (((((Ext.refl w).alloc (.cells #[.int .i64 r, .int .i64 c, .slice s1 xs.length n1] 25)).alloc (.cells #[.int .i64 p, .int .i64 q, .slice s2 ys.length n2] 25)).alloc (.cells #[.int .i64 d, .int .i64 e, .slice s3 zs.length n3] 25)).alloc (.cells #[.int .i64 0, .int .i64 0, .slice none 0 0] 25))
        have kA := (((Blk.new w #[.int .i64 r, .int .i64 c, .slice s1 xs.length n1] 25).old (.cells #[.int .i64 p, .int .i64 q, .slice s2 ys.length n2] 25)).old (.cells #[.int .i64 d, .int .i64 e, .slice s3 zs.length n3] 25)).old (.cells #[.int .i64 0, .int .i64 0, .slice none 0 0] 25)
        have kB := ((Blk.new (w.alloc (.cells #[.int .i64 r, .int .i64 c, .slice s1 xs.length n1] 25)) #[.int .i64 p, .int .i64 q, .slice s2 ys.length n2] 25).old (.cells #[.int .i64 d, .int .i64 e, .slice s3 zs.length n3] 25)).old (.cells #[.int .i64 0, .int .i64 0, .slice none 0 0] 25)
        have kD := (Blk.new ((w.alloc (.cells #[.int .i64 r, .int .i64 c, .slice s1 xs.length n1] 25)).alloc (.cells #[.int .i64 p, .int .i64 q, .slice s2 ys.length n2] 25)) #[.int .i64 d, .int .i64 e, .slice s3 zs.length n3] 25).old (.cells #[.int .i64 0, .int .i64 0, .slice none 0 0] 25)
        have kR := Blk.new (((w.alloc (.cells #[.int .i64 r, .int .i64 c, .slice s1 xs.length n1] 25)).alloc (.cells #[.int .i64 p, .int .i64 q, .slice s2 ys.length n2] 25)).alloc (.cells #[.int .i64 d, .int .i64 e, .slice s3 zs.length n3] 25)) #[.int .i64 0, .int .i64 0, .slice none 0 0] 25
        simp only [World.size_alloc] at kB kD kR
        go_enter Try.func7, Try.ntmps7
        obtain ⟨akD0, akD1, akD2⟩ := kD.three
        go_wp2_with (fail)
        clear akD0 akD1 akD2
        (with_reducible refine (MZ.out _ X.out).mono ?_)
        rintro e u1 ⟨rfl, x9⟩
        replace X := Kept.mk (X.out.trans x9)
        replace kA := kA.keep x9
        replace kB := kB.keep x9
        replace kD := kD.keep x9
        replace kR := kR.keep x9
        clear x9
        obtain ⟨akA0, akA1, akA2⟩ := kA.three
        obtain ⟨akB0, akB1, akB2⟩ := kB.three
        go_wp2_with (fail)
        clear akA0 akA1 akA2
        clear akB0 akB1 akB2
        (with_reducible refine (FT.out _ X.out).mono ?_)
        rintro e u2 ⟨rfl, x9⟩
        replace X := Kept.mk (X.out.trans x9)
        replace kA := kA.keep x9
        replace kB := kB.keep x9
        replace kD := kD.keep x9
        replace kR := kR.keep x9
        clear x9
        obtain ⟨c0, c1, c2⟩ := kA.three
        obtain ⟨d0, d1, d2⟩ := kD.three
        clear kA kB kD
        have RK := Kept.mk kR
        obtain ⟨r0, r1, r2⟩ := kR.three
        have rf := kR.free
        clear kR
        go_wp2
        exact bodyPost_ret (v := .agg #[.int .i64 0, .int .i64 0, .slice none 0 0]) (by simp [results, Try.results7, go_sem, *]) rfl ⟨_, rfl, Own.nil _ _, by first | exact X.out.other3 (by show w.heap.size ≤ w.heap.size + 1 + 1 + 1; omega) _ _ _ | exact X.out⟩
end Go.Proofs.Ytpbnbhiffnnliaa
