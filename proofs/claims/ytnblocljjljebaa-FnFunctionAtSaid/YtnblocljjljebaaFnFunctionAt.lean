/- Proved: the law FnFunctionAt answers true for every input. No condition. -/
import Derived.Test.YtnblocljjljebaaRows
import Derived.Test.YtnblocljjljebaaDrawAt
import Derived.Test.YtnblocljjljebaaFnAt
import Derived.ChangeSlices
import Derived.Test.YtnblocljjljebaaOpen
import Derived.ChangeOld
import Derived.Carry
namespace Go.Proofs.Ytnblocljjljebaa
open Go.ChangeShapes Go.WideShapes Go.ChangeAt Go.RowKit Go.Joins
set_option linter.unusedVariables false
theorem own : ownKnob Try.prog.godebug = none := by kernel_rfl
theorem laidOut : laidOutB Try.prog = true := by kernel_rfl

theorem laws_alive (w : World) : Calls Try.prog 18 #[] w fun e w' => e = .returned (.bool true) ∧ w = w' := by
  go_enter Try.func18, Try.ntmps18
  go_wp2_with (go_at_call 33; (with_reducible refine (impl_RingValid 5 true (by decide) _).mono ?_); rintro e w1 ⟨rfl, rfl⟩)
  go_ret
  exact ⟨rfl, rfl⟩

theorem grow_cases (n : Int) : grow n = 1 ∨ grow n = 2 ∨ grow n = 4 ∨ grow n = 8 ∨ grow n = 16 ∨ grow n = 32 ∨ grow n = 64 := by
  unfold grow; repeat' split
  all_goals simp
theorem fAt_bad {k x : Int} (h : ¬(rv x = true ∧ fKnown k = true)) : fAt k x = -1 := by unfold fAt; rw [if_neg h]
theorem fKnown_cases {k : Int} (h : fKnown k = true) : k = 1 ∨ k = 2 ∨ k = 3 ∨ k = 4 ∨ k = 5 := by
  have := fk h
  simp only [Bool.and_eq_true, decide_eq_true_eq] at this
  omega
theorem quot_bd {n : Int} (h : 0 < n) : 256 / n * n ≤ 256 ∧ 256 < (256 / n + 1) * n ∧ 0 ≤ 256 / n ∧ 256 / n ≤ 256 := by
  have h1 := Int.ediv_mul_le 256 (show n ≠ 0 by omega)
  have h2 := Int.lt_ediv_add_one_mul_self 256 h
  exact ⟨h1, h2, Int.ediv_nonneg (by omega) (by omega), Int.ediv_le_self _ (by omega)⟩

set_option maxHeartbeats 4000000 in
theorem walk_FnFunctionAt (v : Value) (w : World) (hb : Bytes w v) : Calls Try.prog 4 #[v] w fun e w' => e = .returned (.bool true) ∧ Ext w w' := by
  obtain ⟨a, n, cap, rfl, hn, hm, hc⟩ := id hb
  clear hc
  have HB := Kept.mk hb; clear hb
  by_cases hl : (n : Int) ≤ 1048576
  · go_enter Try.func4, Try.ntmps4
    go_wp2_with (fail)
    (with_reducible refine (spec_DrawFunctionAt _ _ HB.out).mono ?_)
    rintro e w1 ⟨k, x, rfl, hx⟩
    clear hl hn hm
    go_wp2_with fail
    (with_reducible refine (impl_FunctionAt _ _ _).mono ?_)
    rintro e w2 ⟨rfl, rfl⟩
    go_wp2_with fail
    (with_reducible refine (spec_FunctionAt _ _ _).mono ?_)
    rintro e w2 ⟨rfl, rfl⟩
    by_cases hok : rv x = true ∧ fKnown k = true
    · obtain ⟨hr, hk⟩ := hok
      have hs := sgn_bd hr
      have es : sgnOf x = sgn x := by simp [sgnOf, hr]
      have ec : cutR x = ring (sgn x / 16) := by simp [cutR, hr]
      have ef : fAt k x = if k = 1 then ring (sgn x / 16) else if k = 2 then max (sgn x) 0 else if k = 3 then (if sgn x < 0 then 1 else 0) else if k = 4 then grow (sgn x) else (if sgn x ≤ 0 then 0 else 256 / sgn x) := by unfold fAt; rw [if_pos ⟨hr, hk⟩]
      have SO := Kept.mk (fun w => (es ▸ impl_SignedOf x w : Calls Try.prog 19 #[.int .i64 x] w fun e w' => e = .returned (.int .i64 (sgn x)) ∧ w = w'))
      have CO := Kept.mk (fun w => (ec ▸ impl_CutRing x w : Calls Try.prog 20 #[.int .i64 x] w fun e w' => e = .returned (.int .i64 (ring (sgn x / 16))) ∧ w = w'))
      clear es ec
      have hk5 := fKnown_cases hk
      clear hk hr
      generalize sgn x = n at *
      rw [ef]
      clear ef
      rcases hk5 with rfl | rfl | rfl | rfl | rfl
      · rw [if_pos rfl]
        have l1 := ring_lo (n / 16)
        generalize ring (n / 16) = y at *
        go_wp2_with (first | (go_at_call 19; (with_reducible refine (SO.out _).mono ?_); rintro e w1 ⟨rfl, rfl⟩) | (go_at_call 20; (with_reducible refine (CO.out _).mono ?_); rintro e w1 ⟨rfl, rfl⟩))
        go_ret
        exact ⟨rfl, hx⟩
      · rw [if_neg (by decide), if_pos rfl]
        by_cases hn : n ≤ 0
        · rw [show max n 0 = 0 by omega]
          have hm' : (0 : Int) < n ↔ False := by simp; omega
          go_wp2_with (first | (go_at_call 19; (with_reducible refine (SO.out _).mono ?_); rintro e w1 ⟨rfl, rfl⟩) | (go_at_call 20; (with_reducible refine (CO.out _).mono ?_); rintro e w1 ⟨rfl, rfl⟩))
          go_ret
          exact ⟨by simp <;> omega, hx⟩
        · rw [show max n 0 = n by omega]
          go_wp2_with (first | (go_at_call 19; (with_reducible refine (SO.out _).mono ?_); rintro e w1 ⟨rfl, rfl⟩) | (go_at_call 20; (with_reducible refine (CO.out _).mono ?_); rintro e w1 ⟨rfl, rfl⟩))
          go_ret
          exact ⟨by simp <;> omega, hx⟩
      · rw [if_neg (by decide), if_neg (by decide), if_pos rfl]
        by_cases hn : n < 0
        · rw [if_pos hn]
          have hd : decide (n < 0) = true := by simpa using hn
          go_wp2_with (first | (go_at_call 19; (with_reducible refine (SO.out _).mono ?_); rintro e w1 ⟨rfl, rfl⟩) | (go_at_call 20; (with_reducible refine (CO.out _).mono ?_); rintro e w1 ⟨rfl, rfl⟩))
          go_ret
          exact ⟨rfl, hx⟩
        · rw [if_neg hn]
          have hd : decide (n < 0) = false := by simpa using hn
          go_wp2_with (first | (go_at_call 19; (with_reducible refine (SO.out _).mono ?_); rintro e w1 ⟨rfl, rfl⟩) | (go_at_call 20; (with_reducible refine (CO.out _).mono ?_); rintro e w1 ⟨rfl, rfl⟩))
          go_ret
          exact ⟨rfl, hx⟩
      · rw [if_neg (by decide), if_neg (by decide), if_neg (by decide), if_pos rfl]
        rcases grow_cases n with h | h | h | h | h | h | h
        all_goals
          rw [h]
          go_wp2_with (first | (go_at_call 19; (with_reducible refine (SO.out _).mono ?_); rintro e w1 ⟨rfl, rfl⟩) | (go_at_call 20; (with_reducible refine (CO.out _).mono ?_); rintro e w1 ⟨rfl, rfl⟩))
          go_ret
          exact ⟨rfl, hx⟩
      · rw [if_neg (by decide), if_neg (by decide), if_neg (by decide), if_neg (by decide)]
        by_cases hn : n ≤ 0
        · rw [if_pos hn]
          have hd : decide (0 < n) = false := by simp; omega
          have hd' : decide (n ≤ 0) = true := by simpa using hn
          go_wp2_with (first | (go_at_call 19; (with_reducible refine (SO.out _).mono ?_); rintro e w1 ⟨rfl, rfl⟩) | (go_at_call 20; (with_reducible refine (CO.out _).mono ?_); rintro e w1 ⟨rfl, rfl⟩))
          go_ret
          exact ⟨rfl, hx⟩
        · rw [if_neg hn]
          obtain ⟨q1, q2, q3, q4⟩ := quot_bd (show 0 < n by omega)
          generalize 256 / n = y at *
          have hd : decide (0 < n) = true := by simp; omega
          have hd' : decide (n ≤ 0) = false := by simp; omega
          have e1 : (y + 1) * n = y * n + n := by rw [Int.add_mul, Int.one_mul]
          have e2 : wrap64 ((y + 1) * n) = (y + 1) * n := by unfold wrap64; omega
          have e3 : decide (256 < y * n + n) = true := by rw [← e1]; simpa using q2
          go_wp2_with (first | (go_at_call 19; (with_reducible refine (SO.out _).mono ?_); rintro e w1 ⟨rfl, rfl⟩) | (go_at_call 20; (with_reducible refine (CO.out _).mono ?_); rintro e w1 ⟨rfl, rfl⟩))
          go_ret
          exact ⟨by first | rfl | (show Ending.returned (Value.bool (decide (256 < y * n + n))) = _; rw [e3]), hx⟩
    · rw [fAt_bad hok]
      clear hok
      go_wp2_with (go_at_call 18; (with_reducible refine (laws_alive _).mono ?_); rintro e w1 ⟨rfl, rfl⟩)
      go_ret
      exact ⟨rfl, hx⟩

  · go_enter Try.func4, Try.ntmps4
    go_wp2
    go_ret
    exact ⟨rfl, (by (repeat (first | refine Ext.setCell ?_ (by first | (simp; done) | (simp; omega) | omega) _ | refine Ext.alloc ?_ _ | refine Ext.drew ?_ | refine Ext.setRow ?_ (by omega) _)); first | exact Ext.refl _ | exact hx | (refine Ext.trans ?_ hx; (repeat (refine Ext.alloc ?_ _)); exact Ext.refl _))⟩
theorem add_at (b o i : Nat) : (⟨b, o, none⟩ : Addr).add i = ⟨b, o + i, none⟩ := by
  unfold Addr.add; by_cases h : i = 0
  · subst h; rfl
  · rw [if_neg h]
theorem cell_lt {w : World} {b o : Nat} {v : Value} (h : w.cell? ⟨b, o, none⟩ = some v) : b < w.heap.size := by
  apply Classical.byContradiction
  intro hn
  have : w.heap[b]? = none := by simp; omega
  simp [World.cell?, this] at h
theorem bytes_of {H : Type} {enc : TypeId × Value → H} {w : World} {base : Nat} {held : Bool} {t e : TypeId} {fuel : Nat} {a : Option Addr} {len cap : Nat} {x : DataW H × List MemPlace} (ht : Try.prog.underlying t = some (.slice e)) (he : Try.prog.underlying e = some (.int .u8)) (hc : Try.prog.cellsOf e = 1)
    (h : DataW.trod enc Try.prog w base (fun _ => true) held fuel t (Value.slice a len cap).cells.toList = some x) : Bytes w (.slice a len cap) := by
  rcases open_ints ht he hc h with ⟨hcs, _⟩ | ⟨x, l, c, zs, hcs, _, hl, hm, hz, _, hcell, hwz⟩
  · simp [Value.cells] at hcs
    obtain ⟨rfl, rfl, rfl⟩ := hcs
    exact ⟨none, 0, 0, rfl, Nat.le_refl _, by omega, fun i hi => absurd hi (Nat.not_lt_zero _)⟩
  · simp [Value.cells] at hcs
    obtain ⟨rfl, rfl, rfl⟩ := hcs
    have hz' : zs.length = cap := by simpa using hz
    refine ⟨some x, len, cap, rfl, hl, by unfold maxLen at hm; omega, fun i hi => ?_⟩
    have hci := hcell i (by omega)
    obtain ⟨b, off, spot⟩ := x
    have hspot : spot = none := by
      have h0 := hcell 0 (by omega)
      simpa [Addr.add] using World.cell?_spot h0
    subst hspot
    rw [add_at] at hci
    have hwf := hwz (zs.getD i 0) (by
      have : i < zs.length := by omega
      simp [this])
    refine ⟨b, off, rfl, cell_lt hci, _, hci, ?_⟩
    have := bounds_u8 hwf
    omega

set_option maxRecDepth 100000 in
theorem lifted_FnFunctionAt (os : Os) (started : os.Started) (H : Type) (enc : TypeId × Value → H) :
    ReturnsInHanded {} Try.checked os 4 .any (Rows.fnFunctionAtSpec.pre6 enc Try.prog Try.f4 Rows.fnFunctionAtRow.domain false) (Rows.fnFunctionAtSpec.post enc Try.prog Try.f4 false true false false) := by
  refine returnsInHanded_of_change (C := Try.checked) own started (by kernel_rfl) Try.func4
    (ChangeSpec.witness6 (enc := enc) (C := Try.checked) false ⟨#[], #[.slice none 0 0], []⟩ 8 (by kernel_rfl) (by kernel_rfl) (by kernel_rfl) (by kernel_rfl)) ?_
  intro W base args ds gs before hval0 hW hcnd _
  have hval : ∀ (j : Nat) t v, Try.f4.params[j]? = some t → args[j]? = some v → Value.okWide Try.prog W .any base t v := hval0
  have hW' := hW
  obtain ⟨p, q, hA0, hV, rfl, hfz, hnd⟩ := hW
  have hA : DataW.TrodAll enc Try.prog W 0 (fun _ => true) true Try.f4.params.toList args.toList ds p := hA0
  rw [Try.params4] at hA hval
  obtain ⟨v0, vs0, d0, ds0, p0, q0, hargs, rfl, rfl, h0, r0⟩ := trodAll_cons hA
  obtain ⟨rfl, rfl, rfl⟩ := trodAll_nil r0
  obtain rfl : args = #[v0] := by cases args; simp_all
  obtain ⟨rfl, rfl⟩ := trodVars_none hV
  have k0 := h0
  have lt0 : ∀ x ∈ p0, x.block < W.heap.size := by obtain ⟨m, hm⟩ := k0; exact DataW.trod_lt m _ _ _ hm
  obtain ⟨sa0, sl0, sc0, rfl⟩ := okWide_slice Try.underlying24 (hval 0 24 v0 rfl rfl)
  have by0 : Bytes W (.slice sa0 sl0 sc0) := by
    obtain ⟨fu, hf⟩ := h0
    exact bytes_of Try.underlying24 Try.underlying5 (by kernel_rfl) hf
  clear hA0 hval0
  refine (walk_FnFunctionAt (.slice sa0 sl0 sc0) W by0).mono fun e W' ⟨he, bel⟩ => ?_
  subst he
  exact ⟨_, rfl, _, _, _, [], _, [], hW', trodAll_mk1 (shut_bool Try.underlying4 _), (trodAll_cons_mk (Below.trod laidOut (by kernel_rfl) (of_decide_eq_true (by kernel_rfl)) k0 bel lt0) trodAll_mk0), rfl, Below.frame bel _, fun h => by cases h⟩
theorem proved_FnFunctionAt : Rows.FnFunctionAtSaid :=
  OpenClaim.holds_of_wide 4 Try.f4 rfl rfl rfl rfl rfl rfl rfl ⟨rfl, rfl, rfl, rfl, rfl⟩ rfl rfl rfl rfl rfl (by kernel_rfl) Try.func4 (by kernel_rfl)
    (of_decide_eq_true (by kernel_rfl)) (by unfold Func.isWrapper; rw [if_neg (of_decide_eq_false (by kernel_rfl))]; exact ⟨rfl, rfl⟩)
    (fun os started H enc _ => lifted_FnFunctionAt os started H enc)
#print axioms proved_FnFunctionAt

end Go.Proofs.Ytnblocljjljebaa
