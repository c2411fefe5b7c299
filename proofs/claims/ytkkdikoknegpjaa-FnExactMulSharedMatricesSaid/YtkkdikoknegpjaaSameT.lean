/- Whether lists and matrices are equal. -/
import Derived.Test.YtkkdikoknegpjaaPairT
namespace Go.Proofs.Ytkkdikoknegpjaa
set_option linter.unusedSimpArgs false
set_option linter.unusedVariables false
open Go.RowKit
theorem ne_at {xs ys : List Int} {k : Nat} (h : xs.getD k 0 ≠ ys.getD k 0) : xs ≠ ys := fun e => h (by rw [e])

set_option maxHeartbeats 2000000 in
theorem lib_Equal (v u : Value) (xs ys : List Int) (b0 : Bool) (h : decide (xs = ys) = b0) (w : World) (h1 : Ints w v xs) (h2 : Ints w u ys) : Calls Try.prog 123 #[v, u] w fun e w' => e = .returned (.bool b0) ∧ Ext w w' := by
  obtain ⟨s1, n1, rfl, hm1, hc1⟩ := id h1
  obtain ⟨s2, n2, rfl, hm2, hc2⟩ := id h2
  unfold maxLen at hm1 hm2
  have HV := Kept.mk h1
  have HU := Kept.mk h2
  clear hc1 hc2 h1 h2
  by_cases hl : xs.length = ys.length
  · have e1 : ((xs.length : Int) == (ys.length : Int)) = true := by simp; omega
    have HL := Kept.mk hl
    have X := Kept.mk (Ext.refl w)
    go_enter Try.func123, Try.ntmps123
    go_wp2_with (fail)
    go_loopw [5, 13] (fun _ i wr => ∃ k : Nat, k ≤ xs.length ∧ i = .int .i64 k ∧ (∀ j, j < k → xs.getD j 0 = ys.getD j 0) ∧ Ext w wr) (fun _ i _ => xs.length - (intOf i).toNat)
    case atStart => exact ⟨0, Nat.zero_le _, rfl, fun j hj => absurd hj (Nat.not_lt_zero j), X.out⟩
    case round =>
      clear X
      obtain ⟨k, hk, rfl, hall, hx⟩ := hrel
      have X := Kept.mk hx
      clear hx
      by_cases hlt : k < xs.length
      · have hltY : k < ys.length := by have := HL.out; omega
        have z1 : (k : Int) < (xs.length : Int) := Int.ofNat_lt.2 hlt
        have z2 : (k : Int) < (ys.length : Int) := Int.ofNat_lt.2 hltY
        obtain ⟨b, off, es, lb, cb⟩ := at_len (HV.out.keep X.out) rfl hlt
        subst es
        obtain ⟨b', off', es, lb', cb'⟩ := at_len (HU.out.keep X.out) rfl hltY
        subst es
        have HA := Kept.mk hall
        clear hall
        by_cases he : xs.getD k 0 = ys.getD k 0
        · have HN : Kept (∀ j, j < k + 1 → xs.getD j 0 = ys.getD j 0) := ⟨fun j hj => by
            rcases Nat.lt_succ_iff_lt_or_eq.1 hj with h | h
            · exact HA.out j h
            · rw [h]; exact he⟩
          generalize hp : xs.getD k 0 = p0 at cb he
          generalize hq : ys.getD k 0 = q0 at cb' he
          subst he
          clear hp hq
          go_wp2_with (fail)
          go_quiet (fail)
          go_wp2
          go_roundw
          case rel => exact ⟨k + 1, by omega, by go_num, HN.out, X.out.drewN _⟩
          case measure => simp [intOf]; omega
        · have hne := ne_at he
          obtain rfl : b0 = false := by rw [← h]; simp [hne]
          generalize hp : xs.getD k 0 = p0 at cb he
          generalize hq : ys.getD k 0 = q0 at cb' he
          clear hp hq hne h
          have heq : (p0 == q0) = false := by simpa using he
          clear he
          go_wp2_with (fail)
          go_quiet (fail)
          go_wp2
          go_ret
          exact ⟨rfl, X.out.drewN _⟩
      · obtain rfl : k = xs.length := by omega
        have hxy : xs = ys := list_ext' HL.out (fun i hi => hall i hi)
        obtain rfl : b0 = true := by rw [← h]; simp [hxy]
        clear hall hxy h
        go_wp2
        go_ret
        exact ⟨rfl, X.out⟩
  · have hne : xs ≠ ys := fun e => hl (by rw [e])
    obtain rfl : b0 = false := by rw [← h]; simp [hne]
    have e1 : ((xs.length : Int) == (ys.length : Int)) = false := by simp; omega
    clear hne h HV HU hl
    go_enter Try.func123, Try.ntmps123
    go_wp2
    go_ret
    exact ⟨rfl, Ext.refl _⟩
set_option maxHeartbeats 2000000 in
theorem impl_sameMatrix (r c p q : Int) (v u : Value) (xs ys : List Int) (b0 : Bool) (h : (decide (r = p) && decide (c = q) && decide (xs = ys)) = b0) (w : World) (h1 : Ints w v xs) (h2 : Ints w u ys) : Calls Try.prog 98 #[.agg #[.int .i64 r, .int .i64 c, v], .agg #[.int .i64 p, .int .i64 q, u]] w fun e w' => e = .returned (.bool b0) ∧ Ext w w' := by
  cases g : (decide (r = p) && decide (c = q))
  · rw [g] at h
    rw [Bool.false_and] at h
    subst h
    obtain ⟨s1, n1, rfl, hm1, hc1⟩ := id h1
    obtain ⟨s2, n2, rfl, hm2, hc2⟩ := id h2
    clear hm1 hm2
    have HV := Kept.mk h1
    have HU := Kept.mk h2
    clear hc1 hc2 h1 h2
    have SS : Kept (∀ w', Calls Try.prog 56 #[.agg #[.int .i64 r, .int .i64 c, .slice s1 xs.length n1], .agg #[.int .i64 p, .int .i64 q, .slice s2 ys.length n2]] w' fun e w'' => e = .returned (.bool false) ∧ Ext w' w'') := ⟨fun w' => impl_sameSides r c p q _ _ false g w'⟩
    clear g
    have X := Kept.mk (((Ext.refl w).alloc (.cells #[.int .i64 r, .int .i64 c, .slice s1 xs.length n1] 31)).alloc (.cells #[.int .i64 p, .int .i64 q, .slice s2 ys.length n2] 31))
    have kA := (Blk.new w #[.int .i64 r, .int .i64 c, .slice s1 xs.length n1] 31).old (.cells #[.int .i64 p, .int .i64 q, .slice s2 ys.length n2] 31)
    have kB := Blk.new (w.alloc (.cells #[.int .i64 r, .int .i64 c, .slice s1 xs.length n1] 31)) #[.int .i64 p, .int .i64 q, .slice s2 ys.length n2] 31
    simp only [World.size_alloc] at kB
    go_enter Try.func98, Try.ntmps98
    obtain ⟨akA0, akA1, akA2⟩ := kA.three
    obtain ⟨akB0, akB1, akB2⟩ := kB.three
    go_wp2_with (fail)
    clear akA0 akA1 akA2
    clear akB0 akB1 akB2
    (with_reducible refine (SS.out _).mono ?_)
    rintro e u1 ⟨rfl, x9⟩
    replace X := Kept.mk (X.out.trans x9)
    replace kA := kA.keep x9
    replace kB := kB.keep x9
    clear x9
    obtain ⟨akA0, akA1, akA2⟩ := kA.three
    obtain ⟨akB0, akB1, akB2⟩ := kB.three
    clear kA kB
    go_wp2
    go_ret
    exact ⟨rfl, X.out⟩
  · rw [g] at h
    rw [Bool.true_and] at h
    obtain ⟨s1, n1, rfl, hm1, hc1⟩ := id h1
    obtain ⟨s2, n2, rfl, hm2, hc2⟩ := id h2
    clear hm1 hm2
    have HV := Kept.mk h1
    have HU := Kept.mk h2
    clear hc1 hc2 h1 h2
    have SS : Kept (∀ w', Calls Try.prog 56 #[.agg #[.int .i64 r, .int .i64 c, .slice s1 xs.length n1], .agg #[.int .i64 p, .int .i64 q, .slice s2 ys.length n2]] w' fun e w'' => e = .returned (.bool true) ∧ Ext w' w'') := ⟨fun w' => impl_sameSides r c p q _ _ true g w'⟩
    clear g
    have LE := Kept.mk (fun w' (hx : Ext w w') => lib_Equal _ _ xs ys b0 h w' (HV.out.keep hx) (HU.out.keep hx))
    clear h
    have X := Kept.mk (((Ext.refl w).alloc (.cells #[.int .i64 r, .int .i64 c, .slice s1 xs.length n1] 31)).alloc (.cells #[.int .i64 p, .int .i64 q, .slice s2 ys.length n2] 31))
    have kA := (Blk.new w #[.int .i64 r, .int .i64 c, .slice s1 xs.length n1] 31).old (.cells #[.int .i64 p, .int .i64 q, .slice s2 ys.length n2] 31)
    have kB := Blk.new (w.alloc (.cells #[.int .i64 r, .int .i64 c, .slice s1 xs.length n1] 31)) #[.int .i64 p, .int .i64 q, .slice s2 ys.length n2] 31
    simp only [World.size_alloc] at kB
    go_enter Try.func98, Try.ntmps98
    obtain ⟨akA0, akA1, akA2⟩ := kA.three
    obtain ⟨akB0, akB1, akB2⟩ := kB.three
    go_wp2_with (fail)
    clear akA0 akA1 akA2
    clear akB0 akB1 akB2
    (with_reducible refine (SS.out _).mono ?_)
    rintro e u1 ⟨rfl, x9⟩
    replace X := Kept.mk (X.out.trans x9)
    replace kA := kA.keep x9
    replace kB := kB.keep x9
    clear x9
    obtain ⟨akA0, akA1, akA2⟩ := kA.three
    obtain ⟨akB0, akB1, akB2⟩ := kB.three
    go_wp2_with (fail)
    clear akA0 akA1 akA2
    clear akB0 akB1 akB2
    (with_reducible refine (LE.out _ X.out).mono ?_)
    rintro e u2 ⟨rfl, x9⟩
    replace X := Kept.mk (X.out.trans x9)
    replace kA := kA.keep x9
    replace kB := kB.keep x9
    clear x9
    obtain ⟨akA0, akA1, akA2⟩ := kA.three
    obtain ⟨akB0, akB1, akB2⟩ := kB.three
    clear kA kB
    go_wp2
    go_ret
    exact ⟨rfl, X.out⟩
set_option maxHeartbeats 4000000 in
theorem spec_l8Same (r c p q : Int) (v u : Value) (xs ys : List Int) (b0 : Bool) (h : (decide (r = p) && decide (c = q) && decide (xs = ys)) = b0) (w : World) (h1 : Ints w v xs) (h2 : Ints w u ys) : Calls Try.prog 92 #[.agg #[.int .i64 r, .int .i64 c, v], .agg #[.int .i64 p, .int .i64 q, u]] w fun e w' => e = .returned (.bool b0) ∧ Ext w w' := by
  by_cases g1 : r = p
  · by_cases g2 : c = q
    · by_cases g3 : xs.length = ys.length
      · have h' : decide (xs = ys) = b0 := by rw [← h]; simp [g1, g2]
        clear h
        have h := h'
        clear h'
        have HL := Kept.mk g3
        subst g1
        subst g2
        obtain ⟨s1, n1, rfl, hm1, hc1⟩ := id h1
        obtain ⟨s2, n2, rfl, hm2, hc2⟩ := id h2
        unfold maxLen at hm1 hm2
        have HV := Kept.mk h1
        have HU := Kept.mk h2
        clear hc1 hc2 h1 h2
        have e3 : ((xs.length : Int) == (ys.length : Int)) = true := by simp; omega
        clear g3
        have X := Kept.mk (((Ext.refl w).alloc (.cells #[.int .i64 r, .int .i64 c, .slice s1 xs.length n1] 31)).alloc (.cells #[.int .i64 r, .int .i64 c, .slice s2 ys.length n2] 31))
        have kA := (Blk.new w #[.int .i64 r, .int .i64 c, .slice s1 xs.length n1] 31).old (.cells #[.int .i64 r, .int .i64 c, .slice s2 ys.length n2] 31)
        have kB := Blk.new (w.alloc (.cells #[.int .i64 r, .int .i64 c, .slice s1 xs.length n1] 31)) #[.int .i64 r, .int .i64 c, .slice s2 ys.length n2] 31
        simp only [World.size_alloc] at kB
        go_enter Try.func92, Try.ntmps92
        obtain ⟨akA0, akA1, akA2⟩ := kA.three
        obtain ⟨akB0, akB1, akB2⟩ := kB.three
        go_wp2_with (fail)
        clear akA0 akA1 akA2 akB0 akB1 akB2
        go_loopw [5] (fun  i wr => ∃ k : Nat, k ≤ xs.length ∧ i = .int .i64 k ∧ (∀ j, j < k → xs.getD j 0 = ys.getD j 0) ∧ Ext w wr ∧ Blk wr (w.heap.size) #[.int .i64 r, .int .i64 c, .slice s1 xs.length n1] 31 ∧ Blk wr (w.heap.size + 1) #[.int .i64 r, .int .i64 c, .slice s2 ys.length n2] 31) (fun  i _ => xs.length - (intOf i).toNat)
        case atStart => exact ⟨0, Nat.zero_le _, rfl, fun j hj => absurd hj (Nat.not_lt_zero j), X.out, kA, kB⟩
        case round =>
          clear X kA kB
          obtain ⟨k, hk, rfl, hall, hx, kA, kB⟩ := hrel
          have X := Kept.mk hx
          clear hx
          by_cases hlt : k < xs.length
          · have hltY : k < ys.length := by have := HL.out; omega
            have z1 : (k : Int) < (xs.length : Int) := Int.ofNat_lt.2 hlt
            have z2 : (k : Int) < (ys.length : Int) := Int.ofNat_lt.2 hltY
            obtain ⟨b, off, es, lb, cb⟩ := at_len (HV.out.keep X.out) rfl hlt
            subst es
            obtain ⟨b', off', es, lb', cb'⟩ := at_len (HU.out.keep X.out) rfl hltY
            subst es
            have HA := Kept.mk hall
            clear hall
            by_cases he : xs.getD k 0 = ys.getD k 0
            · have HN : Kept (∀ j, j < k + 1 → xs.getD j 0 = ys.getD j 0) := ⟨fun j hj => by
                rcases Nat.lt_succ_iff_lt_or_eq.1 hj with h | h
                · exact HA.out j h
                · rw [h]; exact he⟩
              generalize hp : xs.getD k 0 = p0 at cb he
              generalize hq : ys.getD k 0 = q0 at cb' he
              subst he
              clear hp hq
              obtain ⟨ckA0, ckA1, ckA2⟩ := kA.three
              obtain ⟨ckB0, ckB1, ckB2⟩ := kB.three
              have KA := Kept.mk kA
              clear kA
              have KB := Kept.mk kB
              clear kB
              go_wp2_with (fail)
              go_quiet (fail)
              go_wp2
              go_roundw
              case rel => exact ⟨k + 1, by omega, by go_num, HN.out, X.out.drewN _, KA.out.keep ((Ext.refl _).drewN _), KB.out.keep ((Ext.refl _).drewN _)⟩
              case measure => simp [intOf]; omega
            · have hne := ne_at he
              obtain rfl : b0 = false := by rw [← h]; simp [hne]
              generalize hp : xs.getD k 0 = p0 at cb he
              generalize hq : ys.getD k 0 = q0 at cb' he
              clear hp hq hne h
              have heq : (p0 == q0) = false := by simpa using he
              clear he
              obtain ⟨ckA0, ckA1, ckA2⟩ := kA.three
              obtain ⟨ckB0, ckB1, ckB2⟩ := kB.three
              have KA := Kept.mk kA
              clear kA
              have KB := Kept.mk kB
              clear kB
              go_wp2_with (fail)
              go_quiet (fail)
              go_wp2
              go_ret
              exact ⟨rfl, X.out.drewN _⟩
          · obtain rfl : k = xs.length := by omega
            have hxy : xs = ys := list_ext' HL.out (fun i hi => hall i hi)
            obtain rfl : b0 = true := by rw [← h]; simp [hxy]
            clear hall hxy h
            obtain ⟨ckA0, ckA1, ckA2⟩ := kA.three
            obtain ⟨ckB0, ckB1, ckB2⟩ := kB.three
            go_wp2
            go_ret
            exact ⟨rfl, X.out⟩
      · obtain rfl : b0 = false := by rw [← h]; simp [show xs ≠ ys from fun e => g3 (by rw [e])]
        clear h
        subst g1
        subst g2
        obtain ⟨s1, n1, rfl, hm1, hc1⟩ := id h1
        obtain ⟨s2, n2, rfl, hm2, hc2⟩ := id h2
        unfold maxLen at hm1 hm2
        have HV := Kept.mk h1
        have HU := Kept.mk h2
        clear hc1 hc2 h1 h2
        have e3 : ((xs.length : Int) == (ys.length : Int)) = false := by simp; omega
        clear g3
        have X := Kept.mk (((Ext.refl w).alloc (.cells #[.int .i64 r, .int .i64 c, .slice s1 xs.length n1] 31)).alloc (.cells #[.int .i64 r, .int .i64 c, .slice s2 ys.length n2] 31))
        have kA := (Blk.new w #[.int .i64 r, .int .i64 c, .slice s1 xs.length n1] 31).old (.cells #[.int .i64 r, .int .i64 c, .slice s2 ys.length n2] 31)
        have kB := Blk.new (w.alloc (.cells #[.int .i64 r, .int .i64 c, .slice s1 xs.length n1] 31)) #[.int .i64 r, .int .i64 c, .slice s2 ys.length n2] 31
        simp only [World.size_alloc] at kB
        go_enter Try.func92, Try.ntmps92
        obtain ⟨akA0, akA1, akA2⟩ := kA.three
        obtain ⟨akB0, akB1, akB2⟩ := kB.three
        clear kA kB HV HU
        go_wp2
        go_ret
        exact ⟨rfl, X.out⟩
    · obtain rfl : b0 = false := by rw [← h]; simp [g1, g2]
      clear h
      subst g1
      obtain ⟨s1, n1, rfl, hm1, hc1⟩ := id h1
      obtain ⟨s2, n2, rfl, hm2, hc2⟩ := id h2
      unfold maxLen at hm1 hm2
      have HV := Kept.mk h1
      have HU := Kept.mk h2
      clear hc1 hc2 h1 h2
      have e2 : (c == q) = false := by simpa using g2
      have X := Kept.mk (((Ext.refl w).alloc (.cells #[.int .i64 r, .int .i64 c, .slice s1 xs.length n1] 31)).alloc (.cells #[.int .i64 r, .int .i64 q, .slice s2 ys.length n2] 31))
      have kA := (Blk.new w #[.int .i64 r, .int .i64 c, .slice s1 xs.length n1] 31).old (.cells #[.int .i64 r, .int .i64 q, .slice s2 ys.length n2] 31)
      have kB := Blk.new (w.alloc (.cells #[.int .i64 r, .int .i64 c, .slice s1 xs.length n1] 31)) #[.int .i64 r, .int .i64 q, .slice s2 ys.length n2] 31
      simp only [World.size_alloc] at kB
      go_enter Try.func92, Try.ntmps92
      obtain ⟨akA0, akA1, akA2⟩ := kA.three
      obtain ⟨akB0, akB1, akB2⟩ := kB.three
      clear kA kB HV HU
      go_wp2
      go_ret
      exact ⟨rfl, X.out⟩
  · obtain rfl : b0 = false := by rw [← h]; simp [g1]
    clear h
    obtain ⟨s1, n1, rfl, hm1, hc1⟩ := id h1
    obtain ⟨s2, n2, rfl, hm2, hc2⟩ := id h2
    unfold maxLen at hm1 hm2
    have HV := Kept.mk h1
    have HU := Kept.mk h2
    clear hc1 hc2 h1 h2
    have e1 : (r == p) = false := by simpa using g1
    have X := Kept.mk (((Ext.refl w).alloc (.cells #[.int .i64 r, .int .i64 c, .slice s1 xs.length n1] 31)).alloc (.cells #[.int .i64 p, .int .i64 q, .slice s2 ys.length n2] 31))
    have kA := (Blk.new w #[.int .i64 r, .int .i64 c, .slice s1 xs.length n1] 31).old (.cells #[.int .i64 p, .int .i64 q, .slice s2 ys.length n2] 31)
    have kB := Blk.new (w.alloc (.cells #[.int .i64 r, .int .i64 c, .slice s1 xs.length n1] 31)) #[.int .i64 p, .int .i64 q, .slice s2 ys.length n2] 31
    simp only [World.size_alloc] at kB
    go_enter Try.func92, Try.ntmps92
    obtain ⟨akA0, akA1, akA2⟩ := kA.three
    obtain ⟨akB0, akB1, akB2⟩ := kB.three
    clear kA kB HV HU
    go_wp2
    go_ret
    exact ⟨rfl, X.out⟩
end Go.Proofs.Ytkkdikoknegpjaa
