import Derived.Test.YtkkdikoknegpjaaGreatPairT
import Derived.Test.YtkkdikoknegpjaaGreatKF
namespace Go.Proofs.YtkkdikoknegpjaaGreat
set_option linter.unusedSimpArgs false
set_option linter.unusedVariables false
open Go.RowKit
theorem ne_at {xs ys : List Int} {k : Nat} (h : xs.getD k 0 ≠ ys.getD k 0) : xs ≠ ys := fun e => h (by rw [e])
set_option maxHeartbeats 2000000 in
theorem lib_Equal (v u : Value) (xs ys : List Int) (b0 : Bool) (h : decide (xs = ys) = b0) (w : World) (h1 : Ints w v xs) (h2 : Ints w u ys) : Calls Tryz.prog 130 #[v, u] w fun e w' => e = .returned (.bool b0) ∧ Ext w w' := by
 obtain ⟨s1, n1, rfl, hm1, hc1⟩ := id h1
 obtain ⟨s2, n2, rfl, hm2, hc2⟩ := id h2
 unfold maxLen at hm1 hm2
 have HV := kp h1
 have HU := kp h2
 clear hc1 hc2 h1 h2
 by_cases hl : xs.length = ys.length
 ·have e1 : ((xs.length : Int) == (ys.length : Int)) = true := by simp; omega
  have HL := kp hl
  have X := kp (Ext.refl w)
  go_enter Tryz.func130, Tryz.ntmps130
  go_wp2_with (fail)
  go_loopw [5, 13] (fun _ i wr => ∃ k : Nat, k ≤ xs.length ∧ i = .int .i64 k ∧ (∀ j, j < k → xs.getD j 0 = ys.getD j 0) ∧ Ext w wr) (fun _ i _ => xs.length - (intOf i).toNat)
  case atStart => exact ⟨0, Nat.zero_le _, rfl, fun j hj => absurd hj (Nat.not_lt_zero j), X.out⟩
  clear X
  obtain ⟨k, hk, rfl, hall, hx⟩ := hrel
  have X := kp hx
  clear hx
  by_cases hlt : k < xs.length
  ·have hltY : k < ys.length := by have := HL.out; omega
   have z1 : (k : Int) < (xs.length : Int) := Int.ofNat_lt.2 hlt
   have z2 : (k : Int) < (ys.length : Int) := Int.ofNat_lt.2 hltY
   obtain ⟨b, off, es, lb, cb⟩ := at_len (HV.out.keep X.out) rfl hlt
   subst es
   obtain ⟨b', off', es, lb', cb'⟩ := at_len (HU.out.keep X.out) rfl hltY
   subst es
   have HA := kp hall
   clear hall
   by_cases he : xs.getD k 0 = ys.getD k 0
   ·have HN : Kept (∀ j, j < k + 1 → xs.getD j 0 = ys.getD j 0) := ⟨fun j hj => by
     rcases Nat.lt_succ_iff_lt_or_eq.1 hj with h | h
     ·exact HA.out j h
     rw [h]; exact he⟩
    generalize hp : xs.getD k 0 = p0 at cb he
    generalize hq : ys.getD k 0 = q0 at cb' he
    subst he
    clear hp hq
    go_wp2_with (fail)
    go_quiet (fail)
    go_wp2
    go_roundw
    case rel => exact ⟨k + 1, by omega, by go_num, HN.out, X.out.drewN _⟩
    case measure => simp [intOf]; omega
   have hne := ne_at he
   obtain rfl : b0 = false := by rw [← h]; simp [hne]
   generalize hp : xs.getD k 0 = p0 at cb he
   generalize hq : ys.getD k 0 = q0 at cb' he
   clear hp hq hne h
   have heq : (p0 == q0) = false := by simpa using he
   clear he
   go_wp2_with (fail)
   go_quiet (fail)
   go_wp2
   go_ret
   exact ⟨rfl, X.out.drewN _⟩
  obtain rfl : k = xs.length := by omega
  have hxy : xs = ys := list_ext' HL.out (fun i hi => hall i hi)
  obtain rfl : b0 = true := by rw [← h]; simp [hxy]
  clear hall hxy h
  go_wp2
  go_ret
  exact ⟨rfl, X.out⟩
 have hne : xs ≠ ys := fun e => hl (by rw [e])
 obtain rfl : b0 = false := by rw [← h]; simp [hne]
 have e1 : ((xs.length : Int) == (ys.length : Int)) = false := by simp; omega
 clear hne h HV HU hl
 go_enter Tryz.func130, Tryz.ntmps130
 go_wp2
 go_ret
 exact ⟨rfl, Ext.refl _⟩
set_option maxHeartbeats 2000000 in
theorem impl_sameMatrix (r c p q : Int) (v u : Value) (xs ys : List Int) (b0 : Bool) (h : (decide (r = p) && decide (c = q) && decide (xs = ys)) = b0) (w : World) (h1 : Ints w v xs) (h2 : Ints w u ys) : Calls Tryz.prog 124 #[.agg #[.int .i64 r, .int .i64 c, v], .agg #[.int .i64 p, .int .i64 q, u]] w fun e w' => e = .returned (.bool b0) ∧ Ext w w' := by
 cases g : (decide (r = p) && decide (c = q))
 ·rw [g] at h
  rw [Bool.false_and] at h
  subst h
  obtain ⟨s1, n1, rfl, hm1, hc1⟩ := id h1
  obtain ⟨s2, n2, rfl, hm2, hc2⟩ := id h2
  clear hm1 hm2
  have HV := kp h1
  have HU := kp h2
  clear hc1 hc2 h1 h2
  have SS : Kept (∀ w', Calls Tryz.prog 62 #[.agg #[.int .i64 r, .int .i64 c, .slice s1 xs.length n1], .agg #[.int .i64 p, .int .i64 q, .slice s2 ys.length n2]] w' fun e w'' => e = .returned (.bool false) ∧ Ext w' w'') := ⟨fun w' => impl_sameSides r c p q _ _ false g w'⟩
  clear g
  have X := kp (((Ext.refl w).alloc (.cells #[.int .i64 r, .int .i64 c, .slice s1 xs.length n1] 28)).alloc (.cells #[.int .i64 p, .int .i64 q, .slice s2 ys.length n2] 28))
  have kA := (Blk.new w #[.int .i64 r, .int .i64 c, .slice s1 xs.length n1] 28).old (.cells #[.int .i64 p, .int .i64 q, .slice s2 ys.length n2] 28)
  have kB := Blk.new (w.alloc (.cells #[.int .i64 r, .int .i64 c, .slice s1 xs.length n1] 28)) #[.int .i64 p, .int .i64 q, .slice s2 ys.length n2] 28
  simp only [World.size_alloc] at kB
  go_enter Tryz.func124, Tryz.ntmps124
  obtain ⟨akA0, akA1, akA2⟩ := kA.three
  obtain ⟨akB0, akB1, akB2⟩ := kB.three
  go_wp2_with (fail)
  clear akA0 akA1 akA2
  clear akB0 akB1 akB2
  (with_reducible refine (SS.out _).mono ?_)
  rintro e u1 ⟨rfl, x9⟩
  replace X := kp (X.out.trans x9)
  replace kA := kA.keep x9
  replace kB := kB.keep x9
  clear x9
  obtain ⟨akA0, akA1, akA2⟩ := kA.three
  obtain ⟨akB0, akB1, akB2⟩ := kB.three
  clear kA kB
  go_wp2
  go_ret
  exact ⟨rfl, X.out⟩
 rw [g] at h
 rw [Bool.true_and] at h
 obtain ⟨s1, n1, rfl, hm1, hc1⟩ := id h1
 obtain ⟨s2, n2, rfl, hm2, hc2⟩ := id h2
 clear hm1 hm2
 have HV := kp h1
 have HU := kp h2
 clear hc1 hc2 h1 h2
 have SS : Kept (∀ w', Calls Tryz.prog 62 #[.agg #[.int .i64 r, .int .i64 c, .slice s1 xs.length n1], .agg #[.int .i64 p, .int .i64 q, .slice s2 ys.length n2]] w' fun e w'' => e = .returned (.bool true) ∧ Ext w' w'') := ⟨fun w' => impl_sameSides r c p q _ _ true g w'⟩
 clear g
 have LE := kp (fun w' (hx : Ext w w') => lib_Equal _ _ xs ys b0 h w' (HV.out.keep hx) (HU.out.keep hx))
 clear h
 have X := kp (((Ext.refl w).alloc (.cells #[.int .i64 r, .int .i64 c, .slice s1 xs.length n1] 28)).alloc (.cells #[.int .i64 p, .int .i64 q, .slice s2 ys.length n2] 28))
 have kA := (Blk.new w #[.int .i64 r, .int .i64 c, .slice s1 xs.length n1] 28).old (.cells #[.int .i64 p, .int .i64 q, .slice s2 ys.length n2] 28)
 have kB := Blk.new (w.alloc (.cells #[.int .i64 r, .int .i64 c, .slice s1 xs.length n1] 28)) #[.int .i64 p, .int .i64 q, .slice s2 ys.length n2] 28
 simp only [World.size_alloc] at kB
 go_enter Tryz.func124, Tryz.ntmps124
 obtain ⟨akA0, akA1, akA2⟩ := kA.three
 obtain ⟨akB0, akB1, akB2⟩ := kB.three
 go_wp2_with (fail)
 clear akA0 akA1 akA2
 clear akB0 akB1 akB2
 (with_reducible refine (SS.out _).mono ?_)
 rintro e u1 ⟨rfl, x9⟩
 replace X := kp (X.out.trans x9)
 replace kA := kA.keep x9
 replace kB := kB.keep x9
 clear x9
 obtain ⟨akA0, akA1, akA2⟩ := kA.three
 obtain ⟨akB0, akB1, akB2⟩ := kB.three
 go_wp2_with (fail)
 clear akA0 akA1 akA2
 clear akB0 akB1 akB2
 (with_reducible refine (LE.out _ X.out).mono ?_)
 rintro e u2 ⟨rfl, x9⟩
 replace X := kp (X.out.trans x9)
 replace kA := kA.keep x9
 replace kB := kB.keep x9
 clear x9
 obtain ⟨akA0, akA1, akA2⟩ := kA.three
 obtain ⟨akB0, akB1, akB2⟩ := kB.three
 clear kA kB
 go_wp2
 go_ret
 exact ⟨rfl, X.out⟩
set_option maxHeartbeats 4000000 in
theorem spec_l8Same (r c p q : Int) (v u : Value) (xs ys : List Int) (b0 : Bool) (h : (decide (r = p) && decide (c = q) && decide (xs = ys)) = b0) (w : World) (h1 : Ints w v xs) (h2 : Ints w u ys) : Calls Tryz.prog 104 #[.agg #[.int .i64 r, .int .i64 c, v], .agg #[.int .i64 p, .int .i64 q, u]] w fun e w' => e = .returned (.bool b0) ∧ Ext w w' := by
 by_cases g1 : r = p
 ·by_cases g2 : c = q
  ·by_cases g3 : xs.length = ys.length
   ·have h' : decide (xs = ys) = b0 := by rw [← h]; simp [g1, g2]
    clear h
    have h := h'
    clear h'
    have HL := kp g3
    subst g1
    subst g2
    obtain ⟨s1, n1, rfl, hm1, hc1⟩ := id h1
    obtain ⟨s2, n2, rfl, hm2, hc2⟩ := id h2
    unfold maxLen at hm1 hm2
    have HV := kp h1
    have HU := kp h2
    clear hc1 hc2 h1 h2
    have e3 : ((xs.length : Int) == (ys.length : Int)) = true := by simp; omega
    clear g3
    have X := kp (((Ext.refl w).alloc (.cells #[.int .i64 r, .int .i64 c, .slice s1 xs.length n1] 28)).alloc (.cells #[.int .i64 r, .int .i64 c, .slice s2 ys.length n2] 28))
    have kA := (Blk.new w #[.int .i64 r, .int .i64 c, .slice s1 xs.length n1] 28).old (.cells #[.int .i64 r, .int .i64 c, .slice s2 ys.length n2] 28)
    have kB := Blk.new (w.alloc (.cells #[.int .i64 r, .int .i64 c, .slice s1 xs.length n1] 28)) #[.int .i64 r, .int .i64 c, .slice s2 ys.length n2] 28
    simp only [World.size_alloc] at kB
    go_enter Tryz.func104, Tryz.ntmps104
    obtain ⟨akA0, akA1, akA2⟩ := kA.three
    obtain ⟨akB0, akB1, akB2⟩ := kB.three
    go_wp2_with (fail)
    clear akA0 akA1 akA2 akB0 akB1 akB2
    go_loopw [5] (fun  i wr => ∃ k : Nat, k ≤ xs.length ∧ i = .int .i64 k ∧ (∀ j, j < k → xs.getD j 0 = ys.getD j 0) ∧ Ext w wr ∧ Blk wr (w.heap.size) #[.int .i64 r, .int .i64 c, .slice s1 xs.length n1] 28 ∧ Blk wr (w.heap.size + 1) #[.int .i64 r, .int .i64 c, .slice s2 ys.length n2] 28) (fun  i _ => xs.length - (intOf i).toNat)
    case atStart => exact ⟨0, Nat.zero_le _, rfl, fun j hj => absurd hj (Nat.not_lt_zero j), X.out, kA, kB⟩
    clear X kA kB
    obtain ⟨k, hk, rfl, hall, hx, kA, kB⟩ := hrel
    have X := kp hx
    clear hx
    by_cases hlt : k < xs.length
    ·have hltY : k < ys.length := by have := HL.out; omega
     have z1 : (k : Int) < (xs.length : Int) := Int.ofNat_lt.2 hlt
     have z2 : (k : Int) < (ys.length : Int) := Int.ofNat_lt.2 hltY
     obtain ⟨b, off, es, lb, cb⟩ := at_len (HV.out.keep X.out) rfl hlt
     subst es
     obtain ⟨b', off', es, lb', cb'⟩ := at_len (HU.out.keep X.out) rfl hltY
     subst es
     have HA := kp hall
     clear hall
     by_cases he : xs.getD k 0 = ys.getD k 0
     ·have HN : Kept (∀ j, j < k + 1 → xs.getD j 0 = ys.getD j 0) := ⟨fun j hj => by
       rcases Nat.lt_succ_iff_lt_or_eq.1 hj with h | h
       ·exact HA.out j h
       rw [h]; exact he⟩
      generalize hp : xs.getD k 0 = p0 at cb he
      generalize hq : ys.getD k 0 = q0 at cb' he
      subst he
      clear hp hq
      obtain ⟨ckA0, ckA1, ckA2⟩ := kA.three
      obtain ⟨ckB0, ckB1, ckB2⟩ := kB.three
      have KA := kp kA
      clear kA
      have KB := kp kB
      clear kB
      go_wp2_with (fail)
      go_quiet (fail)
      go_wp2
      go_roundw
      case rel => exact ⟨k + 1, by omega, by go_num, HN.out, X.out.drewN _, KA.out.keep ((Ext.refl _).drewN _), KB.out.keep ((Ext.refl _).drewN _)⟩
      case measure => simp [intOf]; omega
     have hne := ne_at he
     obtain rfl : b0 = false := by rw [← h]; simp [hne]
     generalize hp : xs.getD k 0 = p0 at cb he
     generalize hq : ys.getD k 0 = q0 at cb' he
     clear hp hq hne h
     have heq : (p0 == q0) = false := by simpa using he
     clear he
     obtain ⟨ckA0, ckA1, ckA2⟩ := kA.three
     obtain ⟨ckB0, ckB1, ckB2⟩ := kB.three
     have KA := kp kA
     clear kA
     have KB := kp kB
     clear kB
     go_wp2_with (fail)
     go_quiet (fail)
     go_wp2
     go_ret
     exact ⟨rfl, X.out.drewN _⟩
    obtain rfl : k = xs.length := by omega
    have hxy : xs = ys := list_ext' HL.out (fun i hi => hall i hi)
    obtain rfl : b0 = true := by rw [← h]; simp [hxy]
    clear hall hxy h
    obtain ⟨ckA0, ckA1, ckA2⟩ := kA.three
    obtain ⟨ckB0, ckB1, ckB2⟩ := kB.three
    go_wp2
    go_ret
    exact ⟨rfl, X.out⟩
   obtain rfl : b0 = false := by rw [← h]; simp [show xs ≠ ys from fun e => g3 (by rw [e])]
   clear h
   subst g1
   subst g2
   obtain ⟨s1, n1, rfl, hm1, hc1⟩ := id h1
   obtain ⟨s2, n2, rfl, hm2, hc2⟩ := id h2
   unfold maxLen at hm1 hm2
   have HV := kp h1
   have HU := kp h2
   clear hc1 hc2 h1 h2
   have e3 : ((xs.length : Int) == (ys.length : Int)) = false := by simp; omega
   clear g3
   have X := kp (((Ext.refl w).alloc (.cells #[.int .i64 r, .int .i64 c, .slice s1 xs.length n1] 28)).alloc (.cells #[.int .i64 r, .int .i64 c, .slice s2 ys.length n2] 28))
   have kA := (Blk.new w #[.int .i64 r, .int .i64 c, .slice s1 xs.length n1] 28).old (.cells #[.int .i64 r, .int .i64 c, .slice s2 ys.length n2] 28)
   have kB := Blk.new (w.alloc (.cells #[.int .i64 r, .int .i64 c, .slice s1 xs.length n1] 28)) #[.int .i64 r, .int .i64 c, .slice s2 ys.length n2] 28
   simp only [World.size_alloc] at kB
   go_enter Tryz.func104, Tryz.ntmps104
   obtain ⟨akA0, akA1, akA2⟩ := kA.three
   obtain ⟨akB0, akB1, akB2⟩ := kB.three
   clear kA kB HV HU
   go_wp2
   go_ret
   exact ⟨rfl, X.out⟩
  obtain rfl : b0 = false := by rw [← h]; simp [g1, g2]
  clear h
  subst g1
  obtain ⟨s1, n1, rfl, hm1, hc1⟩ := id h1
  obtain ⟨s2, n2, rfl, hm2, hc2⟩ := id h2
  unfold maxLen at hm1 hm2
  have HV := kp h1
  have HU := kp h2
  clear hc1 hc2 h1 h2
  have e2 : (c == q) = false := by simpa using g2
  have X := kp (((Ext.refl w).alloc (.cells #[.int .i64 r, .int .i64 c, .slice s1 xs.length n1] 28)).alloc (.cells #[.int .i64 r, .int .i64 q, .slice s2 ys.length n2] 28))
  have kA := (Blk.new w #[.int .i64 r, .int .i64 c, .slice s1 xs.length n1] 28).old (.cells #[.int .i64 r, .int .i64 q, .slice s2 ys.length n2] 28)
  have kB := Blk.new (w.alloc (.cells #[.int .i64 r, .int .i64 c, .slice s1 xs.length n1] 28)) #[.int .i64 r, .int .i64 q, .slice s2 ys.length n2] 28
  simp only [World.size_alloc] at kB
  go_enter Tryz.func104, Tryz.ntmps104
  obtain ⟨akA0, akA1, akA2⟩ := kA.three
  obtain ⟨akB0, akB1, akB2⟩ := kB.three
  clear kA kB HV HU
  go_wp2
  go_ret
  exact ⟨rfl, X.out⟩
 obtain rfl : b0 = false := by rw [← h]; simp [g1]
 clear h
 obtain ⟨s1, n1, rfl, hm1, hc1⟩ := id h1
 obtain ⟨s2, n2, rfl, hm2, hc2⟩ := id h2
 unfold maxLen at hm1 hm2
 have HV := kp h1
 have HU := kp h2
 clear hc1 hc2 h1 h2
 have e1 : (r == p) = false := by simpa using g1
 have X := kp (((Ext.refl w).alloc (.cells #[.int .i64 r, .int .i64 c, .slice s1 xs.length n1] 28)).alloc (.cells #[.int .i64 p, .int .i64 q, .slice s2 ys.length n2] 28))
 have kA := (Blk.new w #[.int .i64 r, .int .i64 c, .slice s1 xs.length n1] 28).old (.cells #[.int .i64 p, .int .i64 q, .slice s2 ys.length n2] 28)
 have kB := Blk.new (w.alloc (.cells #[.int .i64 r, .int .i64 c, .slice s1 xs.length n1] 28)) #[.int .i64 p, .int .i64 q, .slice s2 ys.length n2] 28
 simp only [World.size_alloc] at kB
 go_enter Tryz.func104, Tryz.ntmps104
 obtain ⟨akA0, akA1, akA2⟩ := kA.three
 obtain ⟨akB0, akB1, akB2⟩ := kB.three
 clear kA kB HV HU
 go_wp2
 go_ret
 exact ⟨rfl, X.out⟩
theorem Blk.nineC {w : World} {b : Nat} {x0 x1 x2 x3 x4 x5 x6 x7 x8 : Value} {T : TypeId} (h : Blk w b #[x0, x1, x2, x3, x4, x5, x6, x7, x8] T) : w.cell? ⟨b, 0, none⟩ = some x0 ∧ w.cell? ⟨b, 1, none⟩ = some x1 ∧ w.cell? ⟨b, 2, none⟩ = some x2 ∧ w.cell? ⟨b, 3, none⟩ = some x3 ∧ w.cell? ⟨b, 4, none⟩ = some x4 ∧ w.cell? ⟨b, 5, none⟩ = some x5 ∧ w.cell? ⟨b, 6, none⟩ = some x6 ∧ w.cell? ⟨b, 7, none⟩ = some x7 ∧ w.cell? ⟨b, 8, none⟩ = some x8 :=
 ⟨by rw [h.cell]; rfl, by rw [h.cell]; rfl, by rw [h.cell]; rfl, by rw [h.cell]; rfl, by rw [h.cell]; rfl, by rw [h.cell]; rfl, by rw [h.cell]; rfl, by rw [h.cell]; rfl, by rw [h.cell]; rfl⟩
set_option maxHeartbeats 4000000 in
set_option maxRecDepth 4000 in
theorem impl_sumMatrices2 (r0 c0 r1 c1 r2 c2 : Int) (v0 v1 v2 : Value) (x0 x1 x2 : List Int) (g : Nat) (w : World) (hg : Blk w g #[.int .i64 r1, .int .i64 c1, v1, .int .i64 r2, .int .i64 c2, v2] 28) (h0 : Ints w v0 x0) (h1 : Ints w v1 x1) (h2 : Ints w v2 x2) : Calls Tryz.prog 113 #[.agg #[.int .i64 r0, .int .i64 c0, v0], .slice (some ⟨g, 0, none⟩) 2 2] w (MatPost (addM (addM ⟨r0, c0, x0⟩ ⟨r1, c1, x1⟩) ⟨r2, c2, x2⟩) w) := by
 obtain ⟨s0, n0, rfl, hm9, hc9⟩ := id h0
 clear hm9 hc9
 have H0 := kp h0
 clear h0
 obtain ⟨s1, n1, rfl, hm9, hc9⟩ := id h1
 clear hm9 hc9
 have H1 := kp h1
 clear h1
 obtain ⟨s2, n2, rfl, hm9, hc9⟩ := id h2
 clear hm9 hc9
 have H2 := kp h2
 clear h2
 have KG := kp hg
 clear hg
 have A1 := kp (fun (u : Value) (w' : World) (h : Ints w' u x0) (k : Ints w' (.slice s1 x1.length n1) x1) => impl_AddMatrices r0 c0 r1 c1 u _ x0 x1 w' h k)
 unfold MatPost at A1
 generalize addM ⟨r0, c0, x0⟩ ⟨r1, c1, x1⟩ = D1 at *
 obtain ⟨d1, e1, y1⟩ := D1
 simp only at A1 ⊢
 have A2 := kp (fun (u : Value) (w' : World) (h : Ints w' u y1) (k : Ints w' (.slice s2 x2.length n2) x2) => impl_AddMatrices d1 e1 r2 c2 u _ y1 x2 w' h k)
 unfold MatPost at A2
 generalize addM ⟨d1, e1, y1⟩ ⟨r2, c2, x2⟩ = D2 at *
 obtain ⟨d2, e2, y2⟩ := D2
 simp only at A2 ⊢
 unfold MatPost
 simp only
 have S := kp (St.start w)
 go_enter Tryz.func113, Tryz.ntmps113
 go_wp2_with (first | (refine bxiM (L := []) S.o ?_; clear S; intro b2 w9 S) | (refine aliM (L := [_]) S.o ?_; clear S; intro b4 w9 S) | (refine aliM (L := [_, _]) S.o ?_; clear S; intro b5 w9 S) | (refine ldiM S.o ?_) | (refine stiM S.o ?_; clear S; intro w9 S) | fail)
 go_loopw [11] (fun i wr => (i = .int .i64 (0 : Nat) ∧ St none w wr [⟨b5, 28, [.int .i64 r0, .int .i64 c0, .slice s0 x0.length n0]⟩, ⟨b4, 28, [.int .i64 0, .int .i64 0, .slice none 0 0]⟩, ⟨b2, 28, [.int .i64 r0, .int .i64 c0, .slice s0 x0.length n0]⟩] [] []) ∨ (i = .int .i64 (1 : Nat) ∧ ∃ p m, St none w wr [⟨b5, 28, [.int .i64 d1, .int .i64 e1, .slice p y1.length m]⟩, ⟨b4, 28, [.int .i64 0, .int .i64 0, .slice none 0 0]⟩, ⟨b2, 28, [.int .i64 r0, .int .i64 c0, .slice s0 x0.length n0]⟩] [.slice p y1.length m] [y1]) ∨ (i = .int .i64 (2 : Nat) ∧ ∃ p m, St none w wr [⟨b5, 28, [.int .i64 d2, .int .i64 e2, .slice p y2.length m]⟩, ⟨b4, 28, [.int .i64 0, .int .i64 0, .slice none 0 0]⟩, ⟨b2, 28, [.int .i64 r0, .int .i64 c0, .slice s0 x0.length n0]⟩] [.slice p y2.length m] [y2])) (fun i _ => 2 - (intOf i).toNat)
 case atStart => exact .inl ⟨rfl, S.o⟩
 clear S
 obtain ⟨rfl, S⟩ | ⟨rfl, p, m, S⟩ | ⟨rfl, p, m, S⟩ := hrel
 ·have S := kp S
  obtain ⟨a0, a1, a2, a3, a4, a5⟩ := (KG.out.keep S.o.ext).sixC
  go_wp2_with (first | (refine aliM S.o ?_; clear S; intro b7 w9 S) | (refine ldiM S.o ?_) | (refine stiM S.o ?_; clear S; intro w9 S) | fail)
  (with_reducible refine (A1.out _ _ (H0.out.keep S.o.ext) (H1.out.keep S.o.ext)).mono ?_)
  rintro e u9 ⟨v9, rfl, o9, x9⟩
  replace S := kp (S.o.made o9 x9)
  clear x9
  obtain ⟨p9, m9, hu9, -, -⟩ := id o9.ints
  try simp only at hu9
  subst hu9
  clear o9
  go_wp2_with (first | (refine aliM S.o ?_; clear S; intro b7 w9 S) | (refine ldiM S.o ?_) | (refine stiM S.o ?_; clear S; intro w9 S) | fail)
  go_roundw
  case rel => exact .inr (.inl (⟨rfl, _, _, (S.o.sub (List.sublist_cons_self _ _) (by simp) ⟨S.o.own, trivial⟩)⟩))
  case measure => simp [intOf]
 ·have S := kp S
  obtain ⟨a0, a1, a2, a3, a4, a5⟩ := (KG.out.keep S.o.ext).sixC
  go_wp2_with (first | (refine aliM S.o ?_; clear S; intro b7 w9 S) | (refine ldiM S.o ?_) | (refine stiM S.o ?_; clear S; intro w9 S) | fail)
  (with_reducible refine (A2.out _ _ S.o.own.ints (H2.out.keep S.o.ext)).mono ?_)
  rintro e u9 ⟨v9, rfl, o9, x9⟩
  replace S := kp (S.o.made o9 x9)
  clear x9
  obtain ⟨p9, m9, hu9, -, -⟩ := id o9.ints
  try simp only at hu9
  subst hu9
  clear o9
  go_wp2_with (first | (refine aliM S.o ?_; clear S; intro b7 w9 S) | (refine ldiM S.o ?_) | (refine stiM S.o ?_; clear S; intro w9 S) | fail)
  go_roundw
  case rel => exact .inr (.inr (⟨rfl, _, _, (S.o.sub (List.sublist_cons_self _ _) (by simp) ⟨S.o.own, trivial⟩)⟩))
  case measure => simp [intOf]
 have S := kp S
 go_wp2_with (first | (refine aliM S.o ?_; clear S; intro b7 w9 S) | (refine ldiM S.o ?_) | (refine stiM S.o ?_; clear S; intro w9 S) | fail)
 exact bodyPost_ret (v := .agg #[.int .i64 d2, .int .i64 e2, .slice p y2.length m]) (by exact res1 rfl (by exact (rsiM S.o))) rfl ⟨_, rfl, S.o.own, S.o.ext⟩
set_option maxHeartbeats 4000000 in
set_option maxRecDepth 4000 in
theorem impl_sumMatrices3 (r0 c0 r1 c1 r2 c2 r3 c3 : Int) (v0 v1 v2 v3 : Value) (x0 x1 x2 x3 : List Int) (g : Nat) (w : World) (hg : Blk w g #[.int .i64 r1, .int .i64 c1, v1, .int .i64 r2, .int .i64 c2, v2, .int .i64 r3, .int .i64 c3, v3] 28) (h0 : Ints w v0 x0) (h1 : Ints w v1 x1) (h2 : Ints w v2 x2) (h3 : Ints w v3 x3) : Calls Tryz.prog 113 #[.agg #[.int .i64 r0, .int .i64 c0, v0], .slice (some ⟨g, 0, none⟩) 3 3] w (MatPost (addM (addM (addM ⟨r0, c0, x0⟩ ⟨r1, c1, x1⟩) ⟨r2, c2, x2⟩) ⟨r3, c3, x3⟩) w) := by
 obtain ⟨s0, n0, rfl, hm9, hc9⟩ := id h0
 clear hm9 hc9
 have H0 := kp h0
 clear h0
 obtain ⟨s1, n1, rfl, hm9, hc9⟩ := id h1
 clear hm9 hc9
 have H1 := kp h1
 clear h1
 obtain ⟨s2, n2, rfl, hm9, hc9⟩ := id h2
 clear hm9 hc9
 have H2 := kp h2
 clear h2
 obtain ⟨s3, n3, rfl, hm9, hc9⟩ := id h3
 clear hm9 hc9
 have H3 := kp h3
 clear h3
 have KG := kp hg
 clear hg
 have A1 := kp (fun (u : Value) (w' : World) (h : Ints w' u x0) (k : Ints w' (.slice s1 x1.length n1) x1) => impl_AddMatrices r0 c0 r1 c1 u _ x0 x1 w' h k)
 unfold MatPost at A1
 generalize addM ⟨r0, c0, x0⟩ ⟨r1, c1, x1⟩ = D1 at *
 obtain ⟨d1, e1, y1⟩ := D1
 simp only at A1 ⊢
 have A2 := kp (fun (u : Value) (w' : World) (h : Ints w' u y1) (k : Ints w' (.slice s2 x2.length n2) x2) => impl_AddMatrices d1 e1 r2 c2 u _ y1 x2 w' h k)
 unfold MatPost at A2
 generalize addM ⟨d1, e1, y1⟩ ⟨r2, c2, x2⟩ = D2 at *
 obtain ⟨d2, e2, y2⟩ := D2
 simp only at A2 ⊢
 have A3 := kp (fun (u : Value) (w' : World) (h : Ints w' u y2) (k : Ints w' (.slice s3 x3.length n3) x3) => impl_AddMatrices d2 e2 r3 c3 u _ y2 x3 w' h k)
 unfold MatPost at A3
 generalize addM ⟨d2, e2, y2⟩ ⟨r3, c3, x3⟩ = D3 at *
 obtain ⟨d3, e3, y3⟩ := D3
 simp only at A3 ⊢
 unfold MatPost
 simp only
 have S := kp (St.start w)
 go_enter Tryz.func113, Tryz.ntmps113
 go_wp2_with (first | (refine bxiM (L := []) S.o ?_; clear S; intro b2 w9 S) | (refine aliM (L := [_]) S.o ?_; clear S; intro b4 w9 S) | (refine aliM (L := [_, _]) S.o ?_; clear S; intro b5 w9 S) | (refine ldiM S.o ?_) | (refine stiM S.o ?_; clear S; intro w9 S) | fail)
 go_loopw [11] (fun i wr => (i = .int .i64 (0 : Nat) ∧ St none w wr [⟨b5, 28, [.int .i64 r0, .int .i64 c0, .slice s0 x0.length n0]⟩, ⟨b4, 28, [.int .i64 0, .int .i64 0, .slice none 0 0]⟩, ⟨b2, 28, [.int .i64 r0, .int .i64 c0, .slice s0 x0.length n0]⟩] [] []) ∨ (i = .int .i64 (1 : Nat) ∧ ∃ p m, St none w wr [⟨b5, 28, [.int .i64 d1, .int .i64 e1, .slice p y1.length m]⟩, ⟨b4, 28, [.int .i64 0, .int .i64 0, .slice none 0 0]⟩, ⟨b2, 28, [.int .i64 r0, .int .i64 c0, .slice s0 x0.length n0]⟩] [.slice p y1.length m] [y1]) ∨ (i = .int .i64 (2 : Nat) ∧ ∃ p m, St none w wr [⟨b5, 28, [.int .i64 d2, .int .i64 e2, .slice p y2.length m]⟩, ⟨b4, 28, [.int .i64 0, .int .i64 0, .slice none 0 0]⟩, ⟨b2, 28, [.int .i64 r0, .int .i64 c0, .slice s0 x0.length n0]⟩] [.slice p y2.length m] [y2]) ∨ (i = .int .i64 (3 : Nat) ∧ ∃ p m, St none w wr [⟨b5, 28, [.int .i64 d3, .int .i64 e3, .slice p y3.length m]⟩, ⟨b4, 28, [.int .i64 0, .int .i64 0, .slice none 0 0]⟩, ⟨b2, 28, [.int .i64 r0, .int .i64 c0, .slice s0 x0.length n0]⟩] [.slice p y3.length m] [y3])) (fun i _ => 3 - (intOf i).toNat)
 case atStart => exact .inl ⟨rfl, S.o⟩
 clear S
 obtain ⟨rfl, S⟩ | ⟨rfl, p, m, S⟩ | ⟨rfl, p, m, S⟩ | ⟨rfl, p, m, S⟩ := hrel
 ·have S := kp S
  obtain ⟨a0, a1, a2, a3, a4, a5, a6, a7, a8⟩ := (KG.out.keep S.o.ext).nineC
  go_wp2_with (first | (refine aliM S.o ?_; clear S; intro b7 w9 S) | (refine ldiM S.o ?_) | (refine stiM S.o ?_; clear S; intro w9 S) | fail)
  (with_reducible refine (A1.out _ _ (H0.out.keep S.o.ext) (H1.out.keep S.o.ext)).mono ?_)
  rintro e u9 ⟨v9, rfl, o9, x9⟩
  replace S := kp (S.o.made o9 x9)
  clear x9
  obtain ⟨p9, m9, hu9, -, -⟩ := id o9.ints
  try simp only at hu9
  subst hu9
  clear o9
  go_wp2_with (first | (refine aliM S.o ?_; clear S; intro b7 w9 S) | (refine ldiM S.o ?_) | (refine stiM S.o ?_; clear S; intro w9 S) | fail)
  go_roundw
  case rel => exact .inr (.inl (⟨rfl, _, _, (S.o.sub (List.sublist_cons_self _ _) (by simp) ⟨S.o.own, trivial⟩)⟩))
  case measure => simp [intOf]
 ·have S := kp S
  obtain ⟨a0, a1, a2, a3, a4, a5, a6, a7, a8⟩ := (KG.out.keep S.o.ext).nineC
  go_wp2_with (first | (refine aliM S.o ?_; clear S; intro b7 w9 S) | (refine ldiM S.o ?_) | (refine stiM S.o ?_; clear S; intro w9 S) | fail)
  (with_reducible refine (A2.out _ _ S.o.own.ints (H2.out.keep S.o.ext)).mono ?_)
  rintro e u9 ⟨v9, rfl, o9, x9⟩
  replace S := kp (S.o.made o9 x9)
  clear x9
  obtain ⟨p9, m9, hu9, -, -⟩ := id o9.ints
  try simp only at hu9
  subst hu9
  clear o9
  go_wp2_with (first | (refine aliM S.o ?_; clear S; intro b7 w9 S) | (refine ldiM S.o ?_) | (refine stiM S.o ?_; clear S; intro w9 S) | fail)
  go_roundw
  case rel => exact .inr (.inr (.inl (⟨rfl, _, _, (S.o.sub (List.sublist_cons_self _ _) (by simp) ⟨S.o.own, trivial⟩)⟩)))
  case measure => simp [intOf]
 ·have S := kp S
  obtain ⟨a0, a1, a2, a3, a4, a5, a6, a7, a8⟩ := (KG.out.keep S.o.ext).nineC
  go_wp2_with (first | (refine aliM S.o ?_; clear S; intro b7 w9 S) | (refine ldiM S.o ?_) | (refine stiM S.o ?_; clear S; intro w9 S) | fail)
  (with_reducible refine (A3.out _ _ S.o.own.ints (H3.out.keep S.o.ext)).mono ?_)
  rintro e u9 ⟨v9, rfl, o9, x9⟩
  replace S := kp (S.o.made o9 x9)
  clear x9
  obtain ⟨p9, m9, hu9, -, -⟩ := id o9.ints
  try simp only at hu9
  subst hu9
  clear o9
  go_wp2_with (first | (refine aliM S.o ?_; clear S; intro b7 w9 S) | (refine ldiM S.o ?_) | (refine stiM S.o ?_; clear S; intro w9 S) | fail)
  go_roundw
  case rel => exact .inr (.inr (.inr (⟨rfl, _, _, (S.o.sub (List.sublist_cons_self _ _) (by simp) ⟨S.o.own, trivial⟩)⟩)))
  case measure => simp [intOf]
 have S := kp S
 go_wp2_with (first | (refine aliM S.o ?_; clear S; intro b7 w9 S) | (refine ldiM S.o ?_) | (refine stiM S.o ?_; clear S; intro w9 S) | fail)
 exact bodyPost_ret (v := .agg #[.int .i64 d3, .int .i64 e3, .slice p y3.length m]) (by exact res1 rfl (by exact (rsiM S.o))) rfl ⟨_, rfl, S.o.own, S.o.ext⟩
end Go.Proofs.YtkkdikoknegpjaaGreat
