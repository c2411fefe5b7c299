/- Matrices: the laws' own functions on them, copies, whether they are valid. -/
import Derived.Test.YtpbnbhiffnnliaaTab
import Derived.Test.YtpbnbhiffnnliaaKI
namespace Go.Proofs.Ytpbnbhiffnnliaa
set_option linter.unusedSimpArgs false
set_option linter.unusedVariables false
open Go.RowKit
/-- A matrix: its sides and its values. -/
structure Mat where
  r : Int
  c : Int
  xs : List Int
def matZ : Mat := ⟨0, 0, []⟩
def sideB (n : Int) : Bool := decide (1 ≤ n) && decide (n ≤ 5)
def mOk (r c : Int) (xs : List Int) : Bool := sideB r && sideB c && decide ((xs.length : Int) = r * c) && xs.all rv
/-- A call that leaves a new matrix. -/
def MatPost (m : Mat) (w : World) (e : Ending) (w' : World) : Prop := ∃ v, e = .returned (.agg #[.int .i64 m.r, .int .i64 m.c, v]) ∧ Own w.heap.size w' v m.xs ∧ Ext w w'
theorem Blk.set3 {w : World} {b : Nat} {x y z : Value} {T : TypeId} (h : Blk w b #[x, y, z] T) (i : Nat) (v : Value) : Blk (w.setCell ⟨b, i, none⟩ v) b (#[x, y, z].setIfInBounds i v) T := heap_setCell_same w b i _ T v h
/-- A struct of three cells that has been written anew. -/
theorem Blk.fill3 {w : World} {b : Nat} {x y z : Value} {T : TypeId} (h : Blk w b #[x, y, z] T) (p q u : Value) : Blk (((w.setCell ⟨b, 0, none⟩ p).setCell ⟨b, 1, none⟩ q).setCell ⟨b, 2, none⟩ u) b #[p, q, u] T :=
  heap_setCell_same _ b 2 _ T u (heap_setCell_same _ b 1 _ T q (heap_setCell_same w b 0 _ T p h))
theorem Blk.other3 {w : World} {b g : Nat} {cs : Array Value} {T : TypeId} (h : Blk w b cs T) (hne : b ≠ g) (p q u : Value) : Blk (((w.setCell ⟨g, 0, none⟩ p).setCell ⟨g, 1, none⟩ q).setCell ⟨g, 2, none⟩ u) b cs T := ((h.setO hne 0 p).setO hne 1 q).setO hne 2 u
theorem Own.other3 {B : Nat} {w : World} {v : Value} {xs : List Int} (h : Own B w v xs) {g : Nat} (hne : v.ownBlock ≠ some g) (p q u : Value) : Own B (((w.setCell ⟨g, 0, none⟩ p).setCell ⟨g, 1, none⟩ q).setCell ⟨g, 2, none⟩ u) v xs :=
  ((h.setOther g hne 0 p).setOther g hne 1 q).setOther g hne 2 u
theorem Ext.other3 {a w : World} (h : Ext a w) {g : Nat} (hg : a.heap.size ≤ g) (p q u : Value) : Ext a (((w.setCell ⟨g, 0, none⟩ p).setCell ⟨g, 1, none⟩ q).setCell ⟨g, 2, none⟩ u) :=
  ((h.setCell (p := ⟨g, 0, none⟩) hg p).setCell (p := ⟨g, 1, none⟩) hg q).setCell (p := ⟨g, 2, none⟩) hg u
theorem size_three (w : World) (g : Nat) (p q u : Value) : (((w.setCell ⟨g, 0, none⟩ p).setCell ⟨g, 1, none⟩ q).setCell ⟨g, 2, none⟩ u).heap.size = w.heap.size := by simp [World.setCell]
theorem side_iff {n : Int} : sideB n = true ↔ 1 ≤ n ∧ n ≤ 5 := by simp [sideB]
theorem side_mul {r c : Int} (h1 : sideB r = true) (h2 : sideB c = true) : 1 ≤ r * c ∧ r * c ≤ 25 := by
  rw [side_iff] at h1 h2
  have a := Int.mul_le_mul h1.1 h2.1 (by omega) (by omega)
  have b := Int.mul_le_mul h1.2 h2.2 (by omega) (by omega)
  omega

set_option maxHeartbeats 1000000 in
theorem laws_szMatrix (r c : Int) (v : Value) (xs : List Int) (left : Int) (w : World) (h1 : Ints w v xs) (l0 : 0 ≤ left) (l1 : left ≤ 1048576) : Calls Try.prog 60 #[.agg #[.int .i64 r, .int .i64 c, v], .int .i64 left] w fun e w' => e = .returned (.int .i64 (if left - xs.length < 0 then -1 else left - xs.length)) ∧ Ext w w' := by
  obtain ⟨s1, n1, rfl, hm1, hc1⟩ := id h1
  clear hm1 hc1
  have hx0 := (Ext.refl w).alloc (.cells #[.int .i64 r, .int .i64 c, .slice s1 xs.length n1] 75)
  have S1 := Kept.mk (laws_szIntS _ xs left _ (h1.keep hx0) l0 l1)
  by_cases d1 : left - (xs.length : Int) < 0
  · rw [if_pos d1] at S1 ⊢
    clear h1 l1 d1
    go_enter Try.func60, Try.ntmps60
    go_wp2_with (fail)
    (with_reducible refine (S1.out).mono ?_)
    rintro e w1 ⟨rfl, rfl⟩
    go_wp2
    go_ret
    exact ⟨rfl, hx0⟩
  · rw [if_neg d1] at S1 ⊢
    have e1 : decide (left - (xs.length : Int) < 0) = false := by simpa using d1
    clear h1 l1 d1
    go_enter Try.func60, Try.ntmps60
    go_wp2_with (fail)
    (with_reducible refine (S1.out).mono ?_)
    rintro e w1 ⟨rfl, rfl⟩
    go_wp2
    go_ret
    exact ⟨rfl, hx0⟩

set_option maxHeartbeats 1000000 in
theorem laws_toMatrix (r c : Int) (v : Value) (xs : List Int) (w : World) (h1 : Ints w v xs) (l1 : xs.length ≤ 1048576) : Calls Try.prog 61 #[.agg #[.int .i64 r, .int .i64 c, v]] w (MatPost ⟨r, c, xs⟩ w) := by
  obtain ⟨s1, n1, rfl, hm1, hc1⟩ := id h1
  clear hm1 hc1
  have L1 := Kept.mk l1
  have H1 := Kept.mk h1
  clear l1 h1
  have A := ((Blk.new w #[.int .i64 r, .int .i64 c, .slice s1 xs.length n1] 75).old (.cells #[.int .i64 0, .int .i64 0, .slice none 0 0] 25)).old (.cells #[.int .i64 r, .int .i64 c, .slice none 0 0] 25)
  have B := (Blk.new (w.alloc (.cells #[.int .i64 r, .int .i64 c, .slice s1 xs.length n1] 75)) #[.int .i64 0, .int .i64 0, .slice none 0 0] 25).old (.cells #[.int .i64 r, .int .i64 c, .slice none 0 0] 25)
  have C := Blk.new ((w.alloc (.cells #[.int .i64 r, .int .i64 c, .slice s1 xs.length n1] 75)).alloc (.cells #[.int .i64 0, .int .i64 0, .slice none 0 0] 25)) #[.int .i64 r, .int .i64 c, .slice none 0 0] 25
  have X := (((Ext.refl w).alloc (.cells #[.int .i64 r, .int .i64 c, .slice s1 xs.length n1] 75)).alloc (.cells #[.int .i64 0, .int .i64 0, .slice none 0 0] 25)).alloc (.cells #[.int .i64 r, .int .i64 c, .slice none 0 0] 25)
  simp only [World.size_alloc] at B C
  go_enter Try.func61, Try.ntmps61
  have XS := Kept.mk X
  go_wp2_with (fail)
  (with_reducible refine (laws_toIntS _ xs _ (H1.out.keep XS.out) L1.out).mono ?_)
  rintro e w2 ⟨u1, rfl, o1, x2⟩
  obtain ⟨p1, m1, hu1, -, -⟩ := id o1.ints
  subst hu1
  have CL := C.lt
  replace A := A.keep x2
  replace B := B.keep x2
  replace C := C.keep x2
  have X2 := Kept.mk (XS.out.trans x2)
  have sX := XS.out.size
  clear x2 XS X
  have NC := o1.ne C (by decide)
  have NB := o1.ne B (by decide)
  have CD : Blk (w2.setCell ⟨w.heap.size + 1 + 1, 2, none⟩ (.slice p1 xs.length m1)) (w.heap.size + 1 + 1) #[.int .i64 r, .int .i64 c, .slice p1 xs.length m1] 25 := C.set3 2 _
  have BD := B.setO (by omega : w.heap.size + 1 ≠ w.heap.size + 1 + 1) 2 (.slice p1 xs.length m1)
  have O1 := Kept.mk (((o1.mono sX).setOther _ NC 2 (.slice p1 xs.length m1)).other3 NB (.int .i64 r) (.int .i64 c) (.slice p1 xs.length m1))
  clear o1
  obtain ⟨c0, c1, c2⟩ := C.three
  have f2 := C.free
  obtain ⟨d0, d1, d2⟩ := CD.three
  obtain ⟨b0, b1, b2⟩ := B.three
  have f1 := B.free
  have g1 := BD.free
  obtain ⟨e0, e1, e2⟩ := BD.three
  clear A B C CD BD NC NB
  go_wp2
  exact bodyPost_ret (v := .agg #[.int .i64 r, .int .i64 c, .slice p1 xs.length m1]) (by simp [results, Try.results61, go_sem, *]) rfl ⟨_, rfl, O1.out, (X2.out.setCell (by show w.heap.size ≤ w.heap.size + 1 + 1; omega) _).other3 (by omega) _ _ _⟩
set_option maxHeartbeats 1000000 in
theorem laws_eqMatrix (r c : Int) (v u : Value) (xs : List Int) (w : World) (h1 : Ints w v xs) (h2 : Ints w u xs) : Calls Try.prog 63 #[.agg #[.int .i64 r, .int .i64 c, v], .agg #[.int .i64 r, .int .i64 c, u]] w fun e w' => e = .returned (.bool true) ∧ Ext w w' := by
  obtain ⟨s1, n1, rfl, hm1, hc1⟩ := id h1
  obtain ⟨s2, n2, rfl, hm2, hc2⟩ := id h2
  clear hm1 hc1 hm2 hc2
  have A := (Blk.new w #[.int .i64 r, .int .i64 c, .slice s1 xs.length n1] 25).old (.cells #[.int .i64 r, .int .i64 c, .slice s2 xs.length n2] 25)
  have B := Blk.new (w.alloc (.cells #[.int .i64 r, .int .i64 c, .slice s1 xs.length n1] 25)) #[.int .i64 r, .int .i64 c, .slice s2 xs.length n2] 25
  have X := ((Ext.refl w).alloc (.cells #[.int .i64 r, .int .i64 c, .slice s1 xs.length n1] 25)).alloc (.cells #[.int .i64 r, .int .i64 c, .slice s2 xs.length n2] 25)
  simp only [World.size_alloc] at B
  have H1 := Kept.mk (h1.keep X)
  have H2 := Kept.mk (h2.keep X)
  have HX := Kept.mk X
  clear h1 h2 X
  obtain ⟨a0, a1, a2⟩ := A.three
  obtain ⟨b0, b1, b2⟩ := B.three
  go_enter Try.func63, Try.ntmps63
  go_wp2_with (fail)
  (with_reducible refine (laws_eqIntS _ _ xs _ H1.out H2.out).mono ?_)
  rintro e w1 ⟨rfl, x1⟩
  go_wp2
  go_ret
  exact ⟨rfl, HX.out.trans x1⟩
set_option maxHeartbeats 1000000 in
theorem laws_sameMatrix (r c : Int) (v u : Value) (xs : List Int) (w : World) (h1 : Ints w v xs) (h2 : Ints w u xs) : Calls Try.prog 8 #[.agg #[.int .i64 r, .int .i64 c, v], .agg #[.int .i64 r, .int .i64 c, u]] w fun e w' => e = .returned (.bool true) ∧ Ext w w' := by
  obtain ⟨s1, n1, rfl, hm1, hc1⟩ := id h1
  obtain ⟨s2, n2, rfl, hm2, hc2⟩ := id h2
  clear hm1 hc1 hm2 hc2
  have A := (Blk.new w #[.int .i64 r, .int .i64 c, .slice s1 xs.length n1] 25).old (.cells #[.int .i64 r, .int .i64 c, .slice s2 xs.length n2] 25)
  have B := Blk.new (w.alloc (.cells #[.int .i64 r, .int .i64 c, .slice s1 xs.length n1] 25)) #[.int .i64 r, .int .i64 c, .slice s2 xs.length n2] 25
  have X := ((Ext.refl w).alloc (.cells #[.int .i64 r, .int .i64 c, .slice s1 xs.length n1] 25)).alloc (.cells #[.int .i64 r, .int .i64 c, .slice s2 xs.length n2] 25)
  simp only [World.size_alloc] at B
  have H1 := Kept.mk (h1.keep X)
  have H2 := Kept.mk (h2.keep X)
  have HX := Kept.mk X
  clear h1 h2 X
  obtain ⟨a0, a1, a2⟩ := A.three
  obtain ⟨b0, b1, b2⟩ := B.three
  go_enter Try.func8, Try.ntmps8
  go_wp2_with (fail)
  (with_reducible refine (laws_sameInts _ _ xs _ H1.out H2.out).mono ?_)
  rintro e w1 ⟨rfl, x1⟩
  go_wp2
  go_ret
  exact ⟨rfl, HX.out.trans x1⟩
set_option maxHeartbeats 2000000 in
theorem spec_l1OwnMatrix (r c : Int) (v : Value) (xs : List Int) (w : World) (h1 : Ints w v xs) (hn : NilOk v) (hl : xs.length ≤ 1048576) : Calls Try.prog 30 #[.agg #[.int .i64 r, .int .i64 c, v]] w (MatPost ⟨r, c, xs⟩ w) := by
  obtain ⟨s1, n1, rfl, hm1, hc1⟩ := id h1
  clear hm1 hc1
  have A := (((Blk.new w #[.int .i64 r, .int .i64 c, .slice s1 xs.length n1] 25).old (.cells #[.int .i64 0, .int .i64 0, .slice none 0 0] 25)).old (.cells #[.int .i64 r, .int .i64 c, .slice s1 xs.length n1] 25)).old (.cells #[] 3)
  have B := ((Blk.new (w.alloc (.cells #[.int .i64 r, .int .i64 c, .slice s1 xs.length n1] 25)) #[.int .i64 0, .int .i64 0, .slice none 0 0] 25).old (.cells #[.int .i64 r, .int .i64 c, .slice s1 xs.length n1] 25)).old (.cells #[] 3)
  have C := (Blk.new ((w.alloc (.cells #[.int .i64 r, .int .i64 c, .slice s1 xs.length n1] 25)).alloc (.cells #[.int .i64 0, .int .i64 0, .slice none 0 0] 25)) #[.int .i64 r, .int .i64 c, .slice s1 xs.length n1] 25).old (.cells #[] 3)
  have X := ((((Ext.refl w).alloc (.cells #[.int .i64 r, .int .i64 c, .slice s1 xs.length n1] 25)).alloc (.cells #[.int .i64 0, .int .i64 0, .slice none 0 0] 25)).alloc (.cells #[.int .i64 r, .int .i64 c, .slice s1 xs.length n1] 25)).alloc (.cells #[] 3)
  have D := Blk.new (((w.alloc (.cells #[.int .i64 r, .int .i64 c, .slice s1 xs.length n1] 25)).alloc (.cells #[.int .i64 0, .int .i64 0, .slice none 0 0] 25)).alloc (.cells #[.int .i64 r, .int .i64 c, .slice s1 xs.length n1] 25)) #[] 3
  simp only [World.size_alloc] at B C D
  have oD : Own (w.heap.size + 1 + 1 + 1) ((((w.alloc (.cells #[.int .i64 r, .int .i64 c, .slice s1 xs.length n1] 25)).alloc (.cells #[.int .i64 0, .int .i64 0, .slice none 0 0] 25)).alloc (.cells #[.int .i64 r, .int .i64 c, .slice s1 xs.length n1] 25)).alloc (.cells #[] 3)) (.slice (some ⟨w.heap.size + 1 + 1 + 1, 0, none⟩) 0 0) [] := Own.empty (Nat.le_refl _) D (Nat.zero_le _) rfl
  clear D
  have H1 := Kept.mk (h1.keep X)
  clear h1
  have NA := oD.ne A (by decide)
  have NB := oD.ne B (by decide)
  have NC := oD.ne C (by decide)
  have OD := Kept.mk oD
  have HX := Kept.mk X
  have HN := Kept.mk hn
  have HL := Kept.mk hl
  have KA := Kept.mk A
  have KB := Kept.mk B
  have KC := Kept.mk C
  obtain ⟨a0, a1, a2⟩ := A.three
  obtain ⟨b0, b1, b2⟩ := B.three
  obtain ⟨c0, c1, c2⟩ := C.three
  clear oD X hn hl A B C
  go_enter Try.func30, Try.ntmps30
  go_wp2_with (at_builtin; refine wpList_append_ints rfl _ _ rfl (w.heap.size + 1 + 1 + 1) _ [] rfl OD.out _ xs rfl H1.out HN.out (by have := HL.out; simp; omega) (by simp) ?_; intro v' w5 hown htu; have B1 := Turned.blk KB.out htu NB; have C1 := Turned.blk KC.out htu NC; have OW := Kept.mk (show Own (w.heap.size + 1 + 1 + 1) w5 v' xs from hown); have XE := Kept.mk (Turned.ext HX.out htu (fun q hq => by have := (OD.out.block q hq).1; omega)); clear hown htu KA KB KC OD NA NB NC a0 a1 a2 b0 b1 b2 c0 c1 c2; obtain ⟨p1, m1, hu1, -, -⟩ := id OW.out.ints; subst hu1; have MC := Kept.mk (OW.out.ne C1 (by decide)); have MB := Kept.mk (OW.out.ne B1 (by decide)); have C2 : Blk (w5.setCell ⟨w.heap.size + 1 + 1, 2, none⟩ (.slice p1 xs.length m1)) (w.heap.size + 1 + 1) #[.int .i64 r, .int .i64 c, .slice p1 xs.length m1] 25 := C1.set3 2 _; have B2 := B1.setO (by omega : w.heap.size + 1 ≠ w.heap.size + 1 + 1) 2 (.slice p1 xs.length m1); obtain ⟨c0, c1, c2⟩ := C1.three; have f0 := C1.free; obtain ⟨d0, d1, d2⟩ := C2.three; obtain ⟨b0, b1, b2⟩ := B1.three; have f1 := B1.free; obtain ⟨e0, e1, e2⟩ := B2.three; have f2 := B2.free; clear B1 C1 B2 C2)
  exact bodyPost_ret (v := .agg #[.int .i64 r, .int .i64 c, .slice p1 xs.length m1]) (by simp [results, Try.results30, go_sem, *]) rfl ⟨_, rfl, (((OW.out.mono (by omega)).setOther _ MC.out 2 _).other3 MB.out _ _ _), (XE.out.setCell (by show w.heap.size ≤ w.heap.size + 1 + 1; omega) _).other3 (by omega) _ _ _⟩
end Go.Proofs.Ytpbnbhiffnnliaa
namespace Go.Proofs.Ytpbnbhiffnnliaa
set_option linter.unusedSimpArgs false
set_option linter.unusedVariables false
open Go.RowKit
/-- A slice that has room for what it holds. -/
structure Fit (v : Value) : Prop where
  nil : NilOk v
  room : ∀ s n c, v = .slice s n c → n ≤ c
theorem Own.fit {B : Nat} {w : World} {v : Value} {xs : List Int} (h : Own B w v xs) : Fit v := by
  refine ⟨h.nilOk, ?_⟩
  obtain ⟨_, ⟨rfl, _⟩ | ⟨g, cap, cur, rfl, _, _, hc, _⟩⟩ := h
  · intro s n c e; cases e; exact Nat.le_refl _
  · intro s n c e; cases e; exact hc
/-- What a number's function makes of 0, 1, .. -/
def mapTo (f : Nat → Int) (n : Nat) : List Int := (List.range n).map f
theorem mapTo_len (f : Nat → Int) (n : Nat) : (mapTo f n).length = n := by simp [mapTo]
theorem mapTo_succ (f : Nat → Int) (n : Nat) : mapTo f (n + 1) = mapTo f n ++ [f n] := by simp [mapTo, List.range_succ]
theorem mapTo_get (f : Nat → Int) (n i : Nat) (h : i < n) : (mapTo f n).getD i 0 = f i := by simp [mapTo, h]
theorem mapTo_all (f : Nat → Int) (n : Nat) (h : ∀ i, i < n → rv (f i) = true) : (mapTo f n).all rv = true := by
  rw [List.all_eq_true]
  intro x hx
  simp only [mapTo, List.mem_map, List.mem_range] at hx
  obtain ⟨i, hi, rfl⟩ := hx
  exact h i hi
theorem mapTo_congr (f g : Nat → Int) (n : Nat) (h : ∀ i, i < n → f i = g i) : mapTo f n = mapTo g n := by
  apply list_ext'
  · rw [mapTo_len, mapTo_len]
  · intro i hi
    rw [mapTo_len] at hi
    rw [mapTo_get _ _ _ hi, mapTo_get _ _ _ hi, h i hi]
theorem mOk_parts {r c : Int} {xs : List Int} (h : mOk r c xs = true) : sideB r = true ∧ sideB c = true ∧ (xs.length : Int) = r * c ∧ xs.all rv = true := by
  simp only [mOk, Bool.and_eq_true, decide_eq_true_eq] at h
  exact ⟨h.1.1.1, h.1.1.2, h.1.2, h.2⟩
theorem mOk_mk {r c : Int} {xs : List Int} (h1 : sideB r = true) (h2 : sideB c = true) (h3 : (xs.length : Int) = r * c) (h4 : xs.all rv = true) : mOk r c xs = true := by simp [mOk, h1, h2, h3, h4]
/-- A valid matrix's sides as numbers. -/
theorem mOk_nat {r c : Int} {xs : List Int} (h : mOk r c xs = true) : ∃ R C : Nat, r = (R : Int) ∧ c = (C : Int) ∧ 1 ≤ R ∧ R ≤ 5 ∧ 1 ≤ C ∧ C ≤ 5 ∧ xs.length = R * C ∧ R * C ≤ 25 ∧ ∀ i, i < xs.length → rv (xs.getD i 0) = true := by
  obtain ⟨h1, h2, h3, h4⟩ := mOk_parts h
  rw [side_iff] at h1 h2
  obtain ⟨R, rfl⟩ := Int.eq_ofNat_of_zero_le (show 0 ≤ r by omega)
  obtain ⟨C, rfl⟩ := Int.eq_ofNat_of_zero_le (show 0 ≤ c by omega)
  refine ⟨R, C, rfl, rfl, by omega, by omega, by omega, by omega, ?_, ?_, fun i hi => ?_⟩
  · rw [← Int.natCast_mul] at h3; omega
  · have := Nat.mul_le_mul (show R ≤ 5 by omega) (show C ≤ 5 by omega); omega
  · rw [List.all_eq_true] at h4
    have e : xs.getD i 0 = xs[i] := by simp [hi]
    rw [e]; exact h4 _ (List.getElem_mem hi)
theorem side_dec {n : Int} {b : Bool} (h : sideB n = b) : (decide (1 ≤ n) && decide (n ≤ 5)) = b := h
/-- The place of row i, column k lies in a matrix of R rows and C columns. -/
theorem place_lt {i k R C : Nat} (hi : i < R) (hk : k < C) : i * C + k < R * C := by
  have h : (i + 1) * C ≤ R * C := Nat.mul_le_mul_right C (by omega)
  rw [Nat.add_mul] at h; omega
theorem place_div {i k C : Nat} (hk : k < C) : (i * C + k) / C = i := by
  rw [Nat.add_comm, Nat.mul_comm, Nat.add_mul_div_left _ _ (by omega), Nat.div_eq_of_lt hk]; omega
theorem place_mod {i k C : Nat} (hk : k < C) : (i * C + k) % C = k := by
  rw [Nat.add_comm, Nat.add_mul_mod_self_right, Nat.mod_eq_of_lt hk]

theorem impl_sideValid (n : Int) (b : Bool) (h : sideB n = b) (w : World) : Calls Try.prog 51 #[.int .i64 n] w fun e w' => e = .returned (.bool b) ∧ w = w' := by
  by_cases h1 : 1 ≤ n
  · by_cases h2 : n ≤ 5
    · have hb : b = true := by rw [← h]; simp [sideB, h1, h2]
      subst hb
      clear h
      go_enter Try.func51, Try.ntmps51
      go_wp2
      go_ret
      exact ⟨rfl, rfl⟩
    · have hb : b = false := by rw [← h]; simp [sideB, h2]
      subst hb
      clear h
      go_enter Try.func51, Try.ntmps51
      go_wp2
      go_ret
      exact ⟨rfl, rfl⟩
  · have hb : b = false := by rw [← h]; simp [sideB, h1]
    subst hb
    clear h
    go_enter Try.func51, Try.ntmps51
    go_wp2
    go_ret
    exact ⟨rfl, rfl⟩

set_option maxHeartbeats 1000000 in
theorem impl_sameSides (r c p q : Int) (v u : Value) (b : Bool) (h : (decide (r = p) && decide (c = q)) = b) (w : World) : Calls Try.prog 64 #[.agg #[.int .i64 r, .int .i64 c, v], .agg #[.int .i64 p, .int .i64 q, u]] w fun e w' => e = .returned (.bool b) ∧ Ext w w' := by
  have A := (Blk.new w #[.int .i64 r, .int .i64 c, v] 25).old (.cells #[.int .i64 p, .int .i64 q, u] 25)
  have B := Blk.new (w.alloc (.cells #[.int .i64 r, .int .i64 c, v] 25)) #[.int .i64 p, .int .i64 q, u] 25
  have X := ((Ext.refl w).alloc (.cells #[.int .i64 r, .int .i64 c, v] 25)).alloc (.cells #[.int .i64 p, .int .i64 q, u] 25)
  simp only [World.size_alloc] at B
  obtain ⟨a0, a1, a2⟩ := A.three
  obtain ⟨b0, b1, b2⟩ := B.three
  clear A B
  by_cases h1 : r = p
  · by_cases h2 : c = q
    · have hb : b = true := by rw [← h]; simp [h1, h2]
      clear h
      have h := hb
      clear hb
      have e1 : (r == p) = true := by simpa using h1
      clear h1
      have e2 : (c == q) = true := by simpa using h2
      clear h2
      subst h
      go_enter Try.func64, Try.ntmps64
      go_wp2
      go_ret
      exact ⟨rfl, X⟩
    · have hb : b = false := by rw [← h]; simp [h2]
      clear h
      have h := hb
      clear hb
      have e1 : (r == p) = true := by simpa using h1
      clear h1
      have e2 : (c == q) = false := by simpa using h2
      clear h2
      subst h
      go_enter Try.func64, Try.ntmps64
      go_wp2
      go_ret
      exact ⟨rfl, X⟩
  · have hb : b = false := by rw [← h]; simp [h1]
    clear h
    have h := hb
    clear hb
    have e1 : (r == p) = false := by simpa using h1
    clear h1
    subst h
    go_enter Try.func64, Try.ntmps64
    go_wp2
    go_ret
    exact ⟨rfl, X⟩
set_option maxHeartbeats 2000000 in
theorem impl_MatrixValid (r c : Int) (v : Value) (xs : List Int) (w : World) (h1 : Ints w v xs) : Calls Try.prog 24 #[.agg #[.int .i64 r, .int .i64 c, v]] w fun e w' => e = .returned (.bool (mOk r c xs)) ∧ Ext w w' := by
  obtain ⟨s1, n1, rfl, hm1, hc1⟩ := id h1
  clear hc1
  unfold maxLen at hm1
  have A := Blk.new w #[.int .i64 r, .int .i64 c, .slice s1 xs.length n1] 25
  have X := (Ext.refl w).alloc (.cells #[.int .i64 r, .int .i64 c, .slice s1 xs.length n1] 25)
  have H1 := Kept.mk (h1.keep X)
  clear h1
  obtain ⟨a0, a1, a2⟩ := A.three
  cases e1 : sideB r
  · rw [show mOk r c xs = false by simp [mOk, e1]]
    have HS1 := Kept.mk e1
    clear e1
    go_enter Try.func24, Try.ntmps24
    go_wp2_with (fail)
    (with_reducible refine (impl_sideValid r false HS1.out _).mono ?_)
    rintro e w1 ⟨rfl, rfl⟩
    go_wp2
    go_ret
    exact ⟨rfl, X⟩
  · cases e2 : sideB c
    · rw [show mOk r c xs = false by simp [mOk, e2]]
      have HS1 := Kept.mk e1
      have HS2 := Kept.mk e2
      clear e1
      clear e2
      go_enter Try.func24, Try.ntmps24
      go_wp2_with (fail)
      (with_reducible refine (impl_sideValid r true HS1.out _).mono ?_)
      rintro e w1 ⟨rfl, rfl⟩
      go_wp2_with (fail)
      (with_reducible refine (impl_sideValid c false HS2.out _).mono ?_)
      rintro e w1 ⟨rfl, rfl⟩
      go_wp2
      go_ret
      exact ⟨rfl, X⟩
    · by_cases e3 : (xs.length : Int) = r * c
      · rw [show mOk r c xs = xs.all rv by simp [mOk, e1, e2, e3]]
        have HS1 := Kept.mk e1
        have HS2 := Kept.mk e2
        obtain ⟨p1, p2⟩ := side_mul e1 e2
        clear e1
        clear e2
        have d3 : ((xs.length : Int) == r * c) = true := by simpa using e3
        clear e3
        go_enter Try.func24, Try.ntmps24
        go_wp2_with (fail)
        (with_reducible refine (impl_sideValid r true HS1.out _).mono ?_)
        rintro e w1 ⟨rfl, rfl⟩
        go_wp2_with (fail)
        (with_reducible refine (impl_sideValid c true HS2.out _).mono ?_)
        rintro e w1 ⟨rfl, rfl⟩
        go_wp2_with (fail)
        (with_reducible refine (impl_allRing _ xs _ H1.out).mono ?_)
        rintro e w1 ⟨rfl, rfl⟩
        go_wp2
        go_ret
        exact ⟨rfl, X⟩
      · rw [show mOk r c xs = false by simp [mOk, e3]]
        have HS1 := Kept.mk e1
        have HS2 := Kept.mk e2
        obtain ⟨p1, p2⟩ := side_mul e1 e2
        clear e1
        clear e2
        have d3 : ((xs.length : Int) == r * c) = false := by simpa using e3
        clear e3
        go_enter Try.func24, Try.ntmps24
        go_wp2_with (fail)
        (with_reducible refine (impl_sideValid r true HS1.out _).mono ?_)
        rintro e w1 ⟨rfl, rfl⟩
        go_wp2_with (fail)
        (with_reducible refine (impl_sideValid c true HS2.out _).mono ?_)
        rintro e w1 ⟨rfl, rfl⟩
        go_wp2
        go_ret
        exact ⟨rfl, X⟩
set_option maxHeartbeats 2000000 in
theorem spec_MatrixValid (r c : Int) (v : Value) (xs : List Int) (w : World) (h1 : Ints w v xs) : Calls Try.prog 31 #[.agg #[.int .i64 r, .int .i64 c, v]] w fun e w' => e = .returned (.bool (mOk r c xs)) ∧ Ext w w' := by
  generalize hmo : mOk r c xs = bb
  have HMO := Kept.mk hmo
  clear hmo
  obtain ⟨s1, n1, rfl, hm1, hc1⟩ := id h1
  clear hc1
  unfold maxLen at hm1
  have A := Blk.new w #[.int .i64 r, .int .i64 c, .slice s1 xs.length n1] 25
  have X := (Ext.refl w).alloc (.cells #[.int .i64 r, .int .i64 c, .slice s1 xs.length n1] 25)
  obtain ⟨_, _, hh, _, hca⟩ := h1.keep X
  cases hh
  have HC := Kept.mk hca
  clear hca h1
  obtain ⟨a0, a1, a2⟩ := A.three
  go_enter Try.func31, Try.ntmps31
  go_wp2
  go_loopw [3] (fun i wr => ∃ k : Nat, k ≤ xs.length ∧ i = .int .i64 k ∧ (∀ i, i < k → rv (xs.getD i 0) = true) ∧ wr = w.alloc (.cells #[.int .i64 r, .int .i64 c, .slice s1 xs.length n1] 25)) (fun i _ => xs.length - (intOf i).toNat)
  case atStart => exact ⟨0, Nat.zero_le _, rfl, fun i hi => absurd hi (Nat.not_lt_zero _), rfl⟩
  case round =>
    obtain ⟨k, hk, rfl, hall, rfl⟩ := hrel
    have HA := Kept.mk hall; clear hall
    by_cases hlt : k < xs.length
    · obtain ⟨b, off, rfl, _, h1⟩ := HC.out k hlt
      cases hr : rv (xs.getD k 0)
      · have HN := Kept.mk (all_no hlt hr)
        have HR := Kept.mk hr; clear hr
        generalize xs.getD k 0 = y at *
        go_wp2_with (go_at_call 54; (with_reducible refine (spec_RingValid _ false HR.out _).mono ?_); rintro e w1 ⟨rfl, rfl⟩)
        go_ret
        exact ⟨by rw [← HMO.out, show mOk r c xs = false by simp only [mOk, HN.out, Bool.and_false]]; rfl, X⟩
      · have HN : Kept (∀ i, i < k + 1 → rv (xs.getD i 0) = true) := ⟨fun i hi => by
          by_cases e : i = k
          · rw [e]; exact hr
          · exact HA.out i (by omega)⟩
        have HR := Kept.mk hr; clear hr
        generalize xs.getD k 0 = y at *
        go_wp2_with (go_at_call 54; (with_reducible refine (spec_RingValid _ true HR.out _).mono ?_); rintro e w1 ⟨rfl, rfl⟩)
        go_roundw
        case rel => exact ⟨k + 1, by omega, by go_num, HN.out, by trivial⟩
        case measure => simp [intOf]; omega
    · have hlt' : decide ((k : Int) < (xs.length : Int)) = false := by simp; omega
      have hall := all_yes fun i hi => HA.out i (by omega)
      clear HA
      cases e1 : sideB r
      · obtain rfl : bb = false := by rw [← HMO.out]; simp [mOk, e1]
        have HS1 := Kept.mk e1
        clear e1
        go_wp2_with (fail)
        (with_reducible refine (spec_l1In r 1 5 false (side_dec HS1.out) _).mono ?_)
        rintro e w1 ⟨rfl, rfl⟩
        go_wp2
        go_ret
        exact ⟨rfl, X⟩
      · cases e2 : sideB c
        · obtain rfl : bb = false := by rw [← HMO.out]; simp [mOk, e2]
          have HS1 := Kept.mk e1
          have HS2 := Kept.mk e2
          clear e1
          clear e2
          go_wp2_with (fail)
          (with_reducible refine (spec_l1In r 1 5 true (side_dec HS1.out) _).mono ?_)
          rintro e w1 ⟨rfl, rfl⟩
          go_wp2_with (fail)
          (with_reducible refine (spec_l1In c 1 5 false (side_dec HS2.out) _).mono ?_)
          rintro e w1 ⟨rfl, rfl⟩
          go_wp2
          go_ret
          exact ⟨rfl, X⟩
        · by_cases e3 : (xs.length : Int) = r * c
          · obtain rfl : bb = true := by rw [← HMO.out]; simp only [mOk, e1, e2, e3, hall, decide_true, Bool.and_self]
            have HS1 := Kept.mk e1
            have HS2 := Kept.mk e2
            obtain ⟨p1, p2⟩ := side_mul e1 e2
            clear e1
            clear e2
            have d3 : ((xs.length : Int) == r * c) = true := by simpa using e3
            clear e3
            go_wp2_with (fail)
            (with_reducible refine (spec_l1In r 1 5 true (side_dec HS1.out) _).mono ?_)
            rintro e w1 ⟨rfl, rfl⟩
            go_wp2_with (fail)
            (with_reducible refine (spec_l1In c 1 5 true (side_dec HS2.out) _).mono ?_)
            rintro e w1 ⟨rfl, rfl⟩
            go_wp2
            go_ret
            exact ⟨rfl, X⟩
          · obtain rfl : bb = false := by rw [← HMO.out]; simp [mOk, e3]
            have HS1 := Kept.mk e1
            have HS2 := Kept.mk e2
            obtain ⟨p1, p2⟩ := side_mul e1 e2
            clear e1
            clear e2
            have d3 : ((xs.length : Int) == r * c) = false := by simpa using e3
            clear e3
            go_wp2_with (fail)
            (with_reducible refine (spec_l1In r 1 5 true (side_dec HS1.out) _).mono ?_)
            rintro e w1 ⟨rfl, rfl⟩
            go_wp2_with (fail)
            (with_reducible refine (spec_l1In c 1 5 true (side_dec HS2.out) _).mono ?_)
            rintro e w1 ⟨rfl, rfl⟩
            go_wp2
            go_ret
            exact ⟨rfl, X⟩
def zer (n : Nat) : List Int := List.replicate n 0
theorem zer_len (n : Nat) : (zer n).length = n := List.length_replicate
/-- A new matrix of zeros. -/
def ZeroPost (R C : Nat) (w : World) (e : Ending) (w' : World) : Prop := ∃ g, e = .returned (.agg #[.int .i64 R, .int .i64 C, .slice (some ⟨g, 0, none⟩) (R * C) (R * C)]) ∧ Own w.heap.size w' (.slice (some ⟨g, 0, none⟩) (R * C) (R * C)) (zer (R * C)) ∧ Ext w w'
set_option maxHeartbeats 1000000 in
theorem impl_emptyMatrix (R C : Nat) (hR : R ≤ 5) (hC : C ≤ 5) (w : World) : Calls Try.prog 38 #[.int .i64 R, .int .i64 C] w (ZeroPost R C w) := by
  have A := Blk.new w #[.int .i64 0, .int .i64 0, .slice none 0 0] 25
  have X := (Ext.refl w).alloc (.cells #[.int .i64 0, .int .i64 0, .slice none 0 0] 25)
  have HM := Nat.mul_le_mul hR hC
  have em : (R : Int) * (C : Int) = ((R * C : Nat) : Int) := by rw [Int.natCast_mul]
  have m1 : (0 : Int) ≤ (R : Int) * (C : Int) := by rw [em]; omega
  have m2 : (R : Int) * (C : Int) ≤ 25 := by rw [em]; omega
  have HK := Kept.mk HM
  have EM := Kept.mk em
  clear HM em hR hC
  go_enter Try.func38, Try.ntmps38
  have KA := Kept.mk A
  clear A
  go_wp2_with (at_make; refine wpList_make_ints _ rfl _ _ rfl (w.heap.size + 1) (R * C) ((R : Int) * (C : Int)) rfl rfl EM.out (by have := HK.out; omega) (by simp) ?_; intro w1 hown hx1 hlt; simp only [World.size_alloc] at hown; have OW := Kept.mk (show Own (w.heap.size + 1) w1 (.slice (some ⟨w.heap.size + 1, 0, none⟩) (R * C) (R * C)) (zer (R * C)) from hown); have B := KA.out.keep hx1; obtain ⟨b0, b1, b2⟩ := B.three; have f0 := B.free; have XE := Kept.mk (X.trans hx1); have NB := Kept.mk (hown.ne B (by decide)); clear hown B hx1)
  exact bodyPost_ret (v := .agg #[.int .i64 R, .int .i64 C, .slice (some ⟨w.heap.size + 1, 0, none⟩) (R * C) (R * C)]) (by simp [results, Try.results38, go_sem, *]) rfl ⟨_, rfl, (OW.out.mono (B' := w.heap.size) (Nat.le_succ _)).other3 NB.out _ _ _, XE.out.other3 (Nat.le_refl _) _ _ _⟩
end Go.Proofs.Ytpbnbhiffnnliaa
