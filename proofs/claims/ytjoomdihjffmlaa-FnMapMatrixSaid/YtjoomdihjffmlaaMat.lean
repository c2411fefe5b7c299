/- Matrices: the laws' own functions on them, copies, whether they are valid. -/
import Derived.Test.YtjoomdihjffmlaaTab
import Derived.Test.YtjoomdihjffmlaaApp
namespace Go.Proofs.Ytjoomdihjffmlaa
set_option linter.unusedSimpArgs false
set_option linter.unusedVariables false
open Go.RowKit
/-- A matrix: its sides and its values. -/
structure Mat where
  r : Int
  c : Int
  xs : List Int
def matZ : Mat := ⟨0, 0, []⟩
def sideB (n : Int) : Bool := decide (1 ≤ n) && decide (n ≤ 5)
def mOk (r c : Int) (xs : List Int) : Bool := sideB r && sideB c && decide ((xs.length : Int) = r * c) && xs.all rv
/-- A call that leaves a new matrix. -/
def MatPost (m : Mat) (w : World) (e : Ending) (w' : World) : Prop := ∃ v, e = .returned (.agg #[.int .i64 m.r, .int .i64 m.c, v]) ∧ Own w.heap.size w' v m.xs ∧ Ext w w'
theorem Blk.set3 {w : World} {b : Nat} {x y z : Value} {T : TypeId} (h : Blk w b #[x, y, z] T) (i : Nat) (v : Value) : Blk (w.setCell ⟨b, i, none⟩ v) b (#[x, y, z].setIfInBounds i v) T := heap_setCell_same w b i _ T v h
/-- A struct of three cells that has been written anew. -/
theorem Blk.fill3 {w : World} {b : Nat} {x y z : Value} {T : TypeId} (h : Blk w b #[x, y, z] T) (p q u : Value) : Blk (((w.setCell ⟨b, 0, none⟩ p).setCell ⟨b, 1, none⟩ q).setCell ⟨b, 2, none⟩ u) b #[p, q, u] T :=
  heap_setCell_same _ b 2 _ T u (heap_setCell_same _ b 1 _ T q (heap_setCell_same w b 0 _ T p h))
theorem Blk.other3 {w : World} {b g : Nat} {cs : Array Value} {T : TypeId} (h : Blk w b cs T) (hne : b ≠ g) (p q u : Value) : Blk (((w.setCell ⟨g, 0, none⟩ p).setCell ⟨g, 1, none⟩ q).setCell ⟨g, 2, none⟩ u) b cs T := ((h.setO hne 0 p).setO hne 1 q).setO hne 2 u
theorem Own.other3 {B : Nat} {w : World} {v : Value} {xs : List Int} (h : Own B w v xs) {g : Nat} (hne : v.ownBlock ≠ some g) (p q u : Value) : Own B (((w.setCell ⟨g, 0, none⟩ p).setCell ⟨g, 1, none⟩ q).setCell ⟨g, 2, none⟩ u) v xs :=
  ((h.setOther g hne 0 p).setOther g hne 1 q).setOther g hne 2 u
theorem Ext.other3 {a w : World} (h : Ext a w) {g : Nat} (hg : a.heap.size ≤ g) (p q u : Value) : Ext a (((w.setCell ⟨g, 0, none⟩ p).setCell ⟨g, 1, none⟩ q).setCell ⟨g, 2, none⟩ u) :=
  ((h.setCell (p := ⟨g, 0, none⟩) hg p).setCell (p := ⟨g, 1, none⟩) hg q).setCell (p := ⟨g, 2, none⟩) hg u
theorem size_three (w : World) (g : Nat) (p q u : Value) : (((w.setCell ⟨g, 0, none⟩ p).setCell ⟨g, 1, none⟩ q).setCell ⟨g, 2, none⟩ u).heap.size = w.heap.size := by simp [World.setCell]
theorem side_iff {n : Int} : sideB n = true ↔ 1 ≤ n ∧ n ≤ 5 := by simp [sideB]
theorem side_mul {r c : Int} (h1 : sideB r = true) (h2 : sideB c = true) : 1 ≤ r * c ∧ r * c ≤ 25 := by
  rw [side_iff] at h1 h2
  have a := Int.mul_le_mul h1.1 h2.1 (by omega) (by omega)
  have b := Int.mul_le_mul h1.2 h2.2 (by omega) (by omega)
  omega

set_option maxHeartbeats 1000000 in
theorem laws_szMatrix (r c : Int) (v : Value) (xs : List Int) (left : Int) (w : World) (h1 : Ints w v xs) (l0 : 0 ≤ left) (l1 : left ≤ 1048576) : Calls Try.prog 34 #[.agg #[.int .i64 r, .int .i64 c, v], .int .i64 left] w fun e w' => e = .returned (.int .i64 (if left - xs.length < 0 then -1 else left - xs.length)) ∧ Ext w w' := by
  obtain ⟨s1, n1, rfl, hm1, hc1⟩ := id h1
  clear hm1 hc1
  have hx0 := (Ext.refl w).alloc (.cells #[.int .i64 r, .int .i64 c, .slice s1 xs.length n1] 56)
  have S1 := Kept.mk (laws_szIntS _ xs left _ (h1.keep hx0) l0 l1)
  by_cases d1 : left - (xs.length : Int) < 0
  · rw [if_pos d1] at S1 ⊢
    clear h1 l1 d1
    go_enter Try.func34, Try.ntmps34
    go_wp2_with (fail)
    (with_reducible refine (S1.out).mono ?_)
    rintro e w1 ⟨rfl, rfl⟩
    go_wp2
    go_ret
    exact ⟨rfl, hx0⟩
  · rw [if_neg d1] at S1 ⊢
    have e1 : decide (left - (xs.length : Int) < 0) = false := by simpa using d1
    clear h1 l1 d1
    go_enter Try.func34, Try.ntmps34
    go_wp2_with (fail)
    (with_reducible refine (S1.out).mono ?_)
    rintro e w1 ⟨rfl, rfl⟩
    go_wp2
    go_ret
    exact ⟨rfl, hx0⟩

set_option maxHeartbeats 1000000 in
theorem laws_toMatrix (r c : Int) (v : Value) (xs : List Int) (w : World) (h1 : Ints w v xs) (l1 : xs.length ≤ 1048576) : Calls Try.prog 36 #[.agg #[.int .i64 r, .int .i64 c, v]] w (MatPost ⟨r, c, xs⟩ w) := by
  obtain ⟨s1, n1, rfl, hm1, hc1⟩ := id h1
  clear hm1 hc1
  have L1 := Kept.mk l1
  have H1 := Kept.mk h1
  clear l1 h1
  have A := ((Blk.new w #[.int .i64 r, .int .i64 c, .slice s1 xs.length n1] 56).old (.cells #[.int .i64 0, .int .i64 0, .slice none 0 0] 25)).old (.cells #[.int .i64 r, .int .i64 c, .slice none 0 0] 25)
  have B := (Blk.new (w.alloc (.cells #[.int .i64 r, .int .i64 c, .slice s1 xs.length n1] 56)) #[.int .i64 0, .int .i64 0, .slice none 0 0] 25).old (.cells #[.int .i64 r, .int .i64 c, .slice none 0 0] 25)
  have C := Blk.new ((w.alloc (.cells #[.int .i64 r, .int .i64 c, .slice s1 xs.length n1] 56)).alloc (.cells #[.int .i64 0, .int .i64 0, .slice none 0 0] 25)) #[.int .i64 r, .int .i64 c, .slice none 0 0] 25
  have X := (((Ext.refl w).alloc (.cells #[.int .i64 r, .int .i64 c, .slice s1 xs.length n1] 56)).alloc (.cells #[.int .i64 0, .int .i64 0, .slice none 0 0] 25)).alloc (.cells #[.int .i64 r, .int .i64 c, .slice none 0 0] 25)
  simp only [World.size_alloc] at B C
  go_enter Try.func36, Try.ntmps36
  have XS := Kept.mk X
  go_wp2_with (fail)
  (with_reducible refine (laws_toIntS _ xs _ (H1.out.keep XS.out) L1.out).mono ?_)
  rintro e w2 ⟨u1, rfl, o1, x2⟩
  obtain ⟨p1, m1, hu1, -, -⟩ := id o1.ints
  subst hu1
  have CL := C.lt
  replace A := A.keep x2
  replace B := B.keep x2
  replace C := C.keep x2
  have X2 := Kept.mk (XS.out.trans x2)
  have sX := XS.out.size
  clear x2 XS X
  have NC := o1.ne C (by decide)
  have NB := o1.ne B (by decide)
  have CD : Blk (w2.setCell ⟨w.heap.size + 1 + 1, 2, none⟩ (.slice p1 xs.length m1)) (w.heap.size + 1 + 1) #[.int .i64 r, .int .i64 c, .slice p1 xs.length m1] 25 := C.set3 2 _
  have BD := B.setO (by omega : w.heap.size + 1 ≠ w.heap.size + 1 + 1) 2 (.slice p1 xs.length m1)
  have O1 := Kept.mk (((o1.mono sX).setOther _ NC 2 (.slice p1 xs.length m1)).other3 NB (.int .i64 r) (.int .i64 c) (.slice p1 xs.length m1))
  clear o1
  obtain ⟨c0, c1, c2⟩ := C.three
  have f2 := C.free
  obtain ⟨d0, d1, d2⟩ := CD.three
  obtain ⟨b0, b1, b2⟩ := B.three
  have f1 := B.free
  have g1 := BD.free
  obtain ⟨e0, e1, e2⟩ := BD.three
  clear A B C CD BD NC NB
  go_wp2
  exact bodyPost_ret (v := .agg #[.int .i64 r, .int .i64 c, .slice p1 xs.length m1]) (by simp [results, Try.results36, go_sem, *]) rfl ⟨_, rfl, O1.out, (X2.out.setCell (by show w.heap.size ≤ w.heap.size + 1 + 1; omega) _).other3 (by omega) _ _ _⟩
set_option maxHeartbeats 1000000 in
theorem laws_eqMatrix (r c : Int) (v u : Value) (xs : List Int) (w : World) (h1 : Ints w v xs) (h2 : Ints w u xs) : Calls Try.prog 38 #[.agg #[.int .i64 r, .int .i64 c, v], .agg #[.int .i64 r, .int .i64 c, u]] w fun e w' => e = .returned (.bool true) ∧ Ext w w' := by
  obtain ⟨s1, n1, rfl, hm1, hc1⟩ := id h1
  obtain ⟨s2, n2, rfl, hm2, hc2⟩ := id h2
  clear hm1 hc1 hm2 hc2
  have A := (Blk.new w #[.int .i64 r, .int .i64 c, .slice s1 xs.length n1] 25).old (.cells #[.int .i64 r, .int .i64 c, .slice s2 xs.length n2] 25)
  have B := Blk.new (w.alloc (.cells #[.int .i64 r, .int .i64 c, .slice s1 xs.length n1] 25)) #[.int .i64 r, .int .i64 c, .slice s2 xs.length n2] 25
  have X := ((Ext.refl w).alloc (.cells #[.int .i64 r, .int .i64 c, .slice s1 xs.length n1] 25)).alloc (.cells #[.int .i64 r, .int .i64 c, .slice s2 xs.length n2] 25)
  simp only [World.size_alloc] at B
  have H1 := Kept.mk (h1.keep X)
  have H2 := Kept.mk (h2.keep X)
  have HX := Kept.mk X
  clear h1 h2 X
  obtain ⟨a0, a1, a2⟩ := A.three
  obtain ⟨b0, b1, b2⟩ := B.three
  go_enter Try.func38, Try.ntmps38
  go_wp2_with (fail)
  (with_reducible refine (laws_eqIntS _ _ xs _ H1.out H2.out).mono ?_)
  rintro e w1 ⟨rfl, x1⟩
  go_wp2
  go_ret
  exact ⟨rfl, HX.out.trans x1⟩
set_option maxHeartbeats 1000000 in
theorem laws_sameMatrix (r c : Int) (v u : Value) (xs : List Int) (w : World) (h1 : Ints w v xs) (h2 : Ints w u xs) : Calls Try.prog 12 #[.agg #[.int .i64 r, .int .i64 c, v], .agg #[.int .i64 r, .int .i64 c, u]] w fun e w' => e = .returned (.bool true) ∧ Ext w w' := by
  obtain ⟨s1, n1, rfl, hm1, hc1⟩ := id h1
  obtain ⟨s2, n2, rfl, hm2, hc2⟩ := id h2
  clear hm1 hc1 hm2 hc2
  have A := (Blk.new w #[.int .i64 r, .int .i64 c, .slice s1 xs.length n1] 25).old (.cells #[.int .i64 r, .int .i64 c, .slice s2 xs.length n2] 25)
  have B := Blk.new (w.alloc (.cells #[.int .i64 r, .int .i64 c, .slice s1 xs.length n1] 25)) #[.int .i64 r, .int .i64 c, .slice s2 xs.length n2] 25
  have X := ((Ext.refl w).alloc (.cells #[.int .i64 r, .int .i64 c, .slice s1 xs.length n1] 25)).alloc (.cells #[.int .i64 r, .int .i64 c, .slice s2 xs.length n2] 25)
  simp only [World.size_alloc] at B
  have H1 := Kept.mk (h1.keep X)
  have H2 := Kept.mk (h2.keep X)
  have HX := Kept.mk X
  clear h1 h2 X
  obtain ⟨a0, a1, a2⟩ := A.three
  obtain ⟨b0, b1, b2⟩ := B.three
  go_enter Try.func12, Try.ntmps12
  go_wp2_with (fail)
  (with_reducible refine (laws_sameInts _ _ xs _ H1.out H2.out).mono ?_)
  rintro e w1 ⟨rfl, x1⟩
  go_wp2
  go_ret
  exact ⟨rfl, HX.out.trans x1⟩
theorem heap_alloc_old (w : World) (o : Obj) (b : Nat) (hb : b < w.heap.size) : (w.alloc o).heap[b]? = w.heap[b]? := Below.block ((Ext.refl w).alloc o) b hb
set_option maxHeartbeats 1000000 in
theorem laws_markMatrix (B : Nat) (r c : Int) (v : Value) (xs : List Int) (k : Int) (n : Nat) (hn : xs.length = n) (w : World) (h1 : Own B w v xs) (h0 : 0 ≤ k) (hk : k + n ≤ 1099511627776) : Calls Try.prog 39 #[.agg #[.int .i64 r, .int .i64 c, v], .int .i64 k] w (MarkPost B v k n w) := by
  subst hn
  obtain ⟨s1, n1, hv, hm1, hc1⟩ := id h1.ints
  subst hv
  clear hm1 hc1
  have A := Blk.new w #[.int .i64 r, .int .i64 c, .slice s1 xs.length n1] 25
  have X := (Ext.refl w).alloc (.cells #[.int .i64 r, .int .i64 c, .slice s1 xs.length n1] 25)
  have o1 := h1.keep X
  have NA := o1.ne A (by decide)
  have NN := Kept.mk (fun q hq => (h1.block q hq).2)
  have O1 := Kept.mk o1
  clear o1 h1
  obtain ⟨a0, a1, a2⟩ := A.three
  go_enter Try.func39, Try.ntmps39
  go_wp2_with (fail)
  (with_reducible refine (laws_markIntS B _ xs k _ rfl _ O1.out h0 hk).mono ?_)
  rintro e w1 ⟨rfl, m1, t1⟩
  go_wp2
  go_ret
  exact ⟨rfl, m1, ⟨t1.os, t1.tape, t1.output, by have := t1.size; simp at this; omega, fun b hb hne => (t1.block b (by simp; omega) hne).trans (heap_alloc_old w _ b hb)⟩⟩
set_option maxHeartbeats 1000000 in
theorem laws_heldMatrix (r c : Int) (v : Value) (k : Int) (n : Nat) (w : World) (h1 : Ints w v (marks k n)) (h0 : 0 ≤ k) (hk : k + n ≤ 1099511627776) : Calls Try.prog 40 #[.agg #[.int .i64 r, .int .i64 c, v], .int .i64 k] w fun e w' => e = .returned (.int .i64 (k + n)) ∧ Ext w w' := by
  obtain ⟨s1, n1, hv, hm1, hc1⟩ := id h1
  subst hv
  clear hm1 hc1
  have A := Blk.new w #[.int .i64 r, .int .i64 c, .slice s1 (marks k n).length n1] 25
  have X := (Ext.refl w).alloc (.cells #[.int .i64 r, .int .i64 c, .slice s1 (marks k n).length n1] 25)
  have H1 := Kept.mk (h1.keep X)
  clear h1
  obtain ⟨a0, a1, a2⟩ := A.three
  go_enter Try.func40, Try.ntmps40
  go_wp2_with (fail)
  (with_reducible refine (laws_heldIntS _ k n _ H1.out h0 hk).mono ?_)
  rintro e w1 ⟨rfl, rfl⟩
  have e1 : decide (k + (n : Int) < 0) = false := by simp; omega
  go_wp2
  go_ret
  exact ⟨rfl, X⟩
set_option maxHeartbeats 2000000 in
theorem spec_l1OwnMatrix (r c : Int) (v : Value) (xs : List Int) (w : World) (h1 : Ints w v xs) (hn : NilOk v) (hl : xs.length ≤ 1048576) : Calls Try.prog 47 #[.agg #[.int .i64 r, .int .i64 c, v]] w (MatPost ⟨r, c, xs⟩ w) := by
  obtain ⟨s1, n1, rfl, hm1, hc1⟩ := id h1
  clear hm1 hc1
  have A := (((Blk.new w #[.int .i64 r, .int .i64 c, .slice s1 xs.length n1] 25).old (.cells #[.int .i64 0, .int .i64 0, .slice none 0 0] 25)).old (.cells #[.int .i64 r, .int .i64 c, .slice s1 xs.length n1] 25)).old (.cells #[] 3)
  have B := ((Blk.new (w.alloc (.cells #[.int .i64 r, .int .i64 c, .slice s1 xs.length n1] 25)) #[.int .i64 0, .int .i64 0, .slice none 0 0] 25).old (.cells #[.int .i64 r, .int .i64 c, .slice s1 xs.length n1] 25)).old (.cells #[] 3)
  have C := (Blk.new ((w.alloc (.cells #[.int .i64 r, .int .i64 c, .slice s1 xs.length n1] 25)).alloc (.cells #[.int .i64 0, .int .i64 0, .slice none 0 0] 25)) #[.int .i64 r, .int .i64 c, .slice s1 xs.length n1] 25).old (.cells #[] 3)
  have X := ((((Ext.refl w).alloc (.cells #[.int .i64 r, .int .i64 c, .slice s1 xs.length n1] 25)).alloc (.cells #[.int .i64 0, .int .i64 0, .slice none 0 0] 25)).alloc (.cells #[.int .i64 r, .int .i64 c, .slice s1 xs.length n1] 25)).alloc (.cells #[] 3)
  have D := Blk.new (((w.alloc (.cells #[.int .i64 r, .int .i64 c, .slice s1 xs.length n1] 25)).alloc (.cells #[.int .i64 0, .int .i64 0, .slice none 0 0] 25)).alloc (.cells #[.int .i64 r, .int .i64 c, .slice s1 xs.length n1] 25)) #[] 3
  simp only [World.size_alloc] at B C D
  have oD : Own (w.heap.size + 1 + 1 + 1) ((((w.alloc (.cells #[.int .i64 r, .int .i64 c, .slice s1 xs.length n1] 25)).alloc (.cells #[.int .i64 0, .int .i64 0, .slice none 0 0] 25)).alloc (.cells #[.int .i64 r, .int .i64 c, .slice s1 xs.length n1] 25)).alloc (.cells #[] 3)) (.slice (some ⟨w.heap.size + 1 + 1 + 1, 0, none⟩) 0 0) [] := Own.empty (Nat.le_refl _) D (Nat.zero_le _) rfl
  clear D
  have H1 := Kept.mk (h1.keep X)
  clear h1
  have NA := oD.ne A (by decide)
  have NB := oD.ne B (by decide)
  have NC := oD.ne C (by decide)
  have OD := Kept.mk oD
  have HX := Kept.mk X
  have HN := Kept.mk hn
  have HL := Kept.mk hl
  have KA := Kept.mk A
  have KB := Kept.mk B
  have KC := Kept.mk C
  obtain ⟨a0, a1, a2⟩ := A.three
  obtain ⟨b0, b1, b2⟩ := B.three
  obtain ⟨c0, c1, c2⟩ := C.three
  clear oD X hn hl A B C
  go_enter Try.func47, Try.ntmps47
  go_wp2_with (at_builtin; refine wpList_append_ints rfl _ _ rfl (w.heap.size + 1 + 1 + 1) _ [] rfl OD.out _ xs rfl H1.out HN.out (by have := HL.out; simp; omega) (by simp) ?_; intro v' w5 hown htu; have B1 := Turned.blk KB.out htu NB; have C1 := Turned.blk KC.out htu NC; have OW := Kept.mk (show Own (w.heap.size + 1 + 1 + 1) w5 v' xs from hown); have XE := Kept.mk (Turned.ext HX.out htu (fun q hq => by have := (OD.out.block q hq).1; omega)); clear hown htu KA KB KC OD NA NB NC a0 a1 a2 b0 b1 b2 c0 c1 c2; obtain ⟨p1, m1, hu1, -, -⟩ := id OW.out.ints; subst hu1; have MC := Kept.mk (OW.out.ne C1 (by decide)); have MB := Kept.mk (OW.out.ne B1 (by decide)); have C2 : Blk (w5.setCell ⟨w.heap.size + 1 + 1, 2, none⟩ (.slice p1 xs.length m1)) (w.heap.size + 1 + 1) #[.int .i64 r, .int .i64 c, .slice p1 xs.length m1] 25 := C1.set3 2 _; have B2 := B1.setO (by omega : w.heap.size + 1 ≠ w.heap.size + 1 + 1) 2 (.slice p1 xs.length m1); obtain ⟨c0, c1, c2⟩ := C1.three; have f0 := C1.free; obtain ⟨d0, d1, d2⟩ := C2.three; obtain ⟨b0, b1, b2⟩ := B1.three; have f1 := B1.free; obtain ⟨e0, e1, e2⟩ := B2.three; have f2 := B2.free; clear B1 C1 B2 C2)
  exact bodyPost_ret (v := .agg #[.int .i64 r, .int .i64 c, .slice p1 xs.length m1]) (by simp [results, Try.results47, go_sem, *]) rfl ⟨_, rfl, (((OW.out.mono (by omega)).setOther _ MC.out 2 _).other3 MB.out _ _ _), (XE.out.setCell (by show w.heap.size ≤ w.heap.size + 1 + 1; omega) _).other3 (by omega) _ _ _⟩
end Go.Proofs.Ytjoomdihjffmlaa
