/- Proved: the law FnTripleRight answers true for every input. No condition. -/
import Derived.Test.YtokjdaknfkleeaaRows
import Derived.Test.YtokjdaknfkleeaaDrawT
import Derived.Test.YtokjdaknfkleeaaMulP
import Derived.ChangeSlices
import Derived.Test.YtokjdaknfkleeaaOpen
import Derived.ChangeOld
import Derived.Carry
namespace Go.Proofs.Ytokjdaknfkleeaa
open Go.ChangeShapes Go.WideShapes Go.ChangeAt Go.RowKit Go.Joins
set_option linter.unusedVariables false
theorem own : ownKnob Try.prog.godebug = none := by kernel_rfl
theorem laidOut : laidOutB Try.prog = true := by kernel_rfl

theorem laws_alive (w : World) : Calls Try.prog 30 #[] w fun e w' => e = .returned (.bool true) ∧ w = w' := by
  go_enter Try.func30, Try.ntmps30
  go_wp2_with (go_at_call 52; (with_reducible refine (impl_RingValid 5 true (by decide) _).mono ?_); rintro e w1 ⟨rfl, rfl⟩)
  go_ret
  exact ⟨rfl, rfl⟩
/-- With 1 added a right triple is wrong. -/
theorem tri_add {a b c d h j : Int} (t : triR a b c d h j = true) : triR a b c d (akF h j 1) (akL h j 1) = false := by
  simp only [triR, okT, prodT, Bool.and_eq_true, beq_iff_eq] at t
  obtain ⟨⟨⟨h1, h2⟩, ⟨h3, h4⟩, h5, h6⟩, h7⟩ := t
  have hk : okK h j 1 = true := by simp [okK, h5, h6]; decide
  have e : addR (ring (h + 1)) j ≠ prodT a b c d := by
    rw [prodT, ← h7, addR_ok (rv_ring _) h6, addR_ok h5 h6]
    unfold ring; omega
  simp [triR, akF, akL, hk, e]

set_option maxHeartbeats 2000000 in
theorem walk_FnTripleRight (v : Value) (w : World) (hb : Bytes w v) : Calls Try.prog 11 #[v] w fun e w' => e = .returned (.bool true) ∧ Ext w w' := by
  obtain ⟨a, n, cap, rfl, hn, hm, hc⟩ := id hb
  clear hc
  have HB := Kept.mk hb; clear hb
  by_cases hl : (n : Int) ≤ 1048576
  · go_enter Try.func11, Try.ntmps11
    go_wp2_with (fail)
    (with_reducible refine (spec_DrawTripleRight _ _ HB.out).mono ?_)
    rintro e w1 ⟨a, b, c, d, h, j, rfl, hx1⟩
    clear hl
    replace hx1 := Kept.mk hx1
    cases ht : triR a b c d h j
    · have T1 : Kept (∀ w, Calls Try.prog 25 #[.agg #[.int .i64 a, .int .i64 b, .int .i64 c, .int .i64 d, .int .i64 h, .int .i64 j]] w (fun e w' => e = .returned (.bool false) ∧ Ext w w')) := ⟨fun w => ht ▸ impl_TripleRight a b c d h j w⟩
      have T2 : Kept (∀ w, Calls Try.prog 23 #[.agg #[.int .i64 a, .int .i64 b, .int .i64 c, .int .i64 d, .int .i64 h, .int .i64 j]] w (fun e w' => e = .returned (.bool false) ∧ Ext w w')) := ⟨fun w => ht ▸ spec_TripleRight a b c d h j w⟩
      clear ht
      go_wp2_with (fail)
      have kA := Blk.new w1 #[.int .i64 a, .int .i64 b, .int .i64 c, .int .i64 d, .int .i64 h, .int .i64 j] 35
      (with_reducible refine (T1.out _).mono ?_)
      rintro e w2 ⟨rfl, x2⟩
      replace kA := kA.keep x2
      replace hx1 := Kept.mk (hx1.out.trans (((Ext.refl w1).alloc _).trans x2))
      clear x2
      obtain ⟨c0, c1, c2, c3, c4, c5⟩ := kA.six
      go_wp2_with (fail)
      (with_reducible refine (T2.out _).mono ?_)
      rintro e w3 ⟨rfl, x3⟩
      replace kA := kA.keep x3
      replace hx1 := Kept.mk (hx1.out.trans x3)
      clear x3 c0 c1 c2 c3 c4 c5
      obtain ⟨c0, c1, c2, c3, c4, c5⟩ := kA.six
      have la := kA.lt
      have HL := Kept.mk (show w.heap.size ≤ w3.heap.size from hx1.out.size)
      have ne : w1.heap.size ≠ w3.heap.size := by omega
      have ne' : w3.heap.size ≠ w1.heap.size := by omega
      go_wp2_with (fail)
      have kB := Blk.new w3 #[.int .i64 a, .int .i64 b, .int .i64 c, .int .i64 d, .int .i64 h, .int .i64 j] 35
      replace kA := kA.old (.cells #[.int .i64 a, .int .i64 b, .int .i64 c, .int .i64 d, .int .i64 h, .int .i64 j] 35)
      (with_reducible refine (impl_AddKnown h j 1 _).mono ?_)
      rintro e w4 ⟨rfl, x4⟩
      replace kA := kA.keep x4
      replace kB := kB.keep x4
      replace hx1 := Kept.mk (hx1.out.trans (((Ext.refl w3).alloc _).trans x4))
      clear x4 c0 c1 c2 c3 c4 c5 la
      obtain ⟨d0, d1, d2, d3, d4, d5⟩ := kB.six
      have fB := kB.free
      have lB := kB.lt
      go_wp2_with ((go_at_call 30; (with_reducible refine (laws_alive _).mono ?_); rintro e w1 ⟨rfl, rfl⟩))
      go_ret
      exact ⟨rfl, (hx1.out.setCell HL.out _).setCell HL.out _⟩
    · have T1 : Kept (∀ w, Calls Try.prog 25 #[.agg #[.int .i64 a, .int .i64 b, .int .i64 c, .int .i64 d, .int .i64 h, .int .i64 j]] w (fun e w' => e = .returned (.bool true) ∧ Ext w w')) := ⟨fun w => ht ▸ impl_TripleRight a b c d h j w⟩
      have T2 : Kept (∀ w, Calls Try.prog 23 #[.agg #[.int .i64 a, .int .i64 b, .int .i64 c, .int .i64 d, .int .i64 h, .int .i64 j]] w (fun e w' => e = .returned (.bool true) ∧ Ext w w')) := ⟨fun w => ht ▸ spec_TripleRight a b c d h j w⟩
      have T3 : Kept (∀ w, Calls Try.prog 25 #[.agg #[.int .i64 a, .int .i64 b, .int .i64 c, .int .i64 d, .int .i64 (akF h j 1), .int .i64 (akL h j 1)]] w (fun e w' => e = .returned (.bool false) ∧ Ext w w')) := ⟨fun w => (tri_add ht) ▸ impl_TripleRight a b c d (akF h j 1) (akL h j 1) w⟩
      clear ht
      go_wp2_with (fail)
      have kA := Blk.new w1 #[.int .i64 a, .int .i64 b, .int .i64 c, .int .i64 d, .int .i64 h, .int .i64 j] 35
      (with_reducible refine (T1.out _).mono ?_)
      rintro e w2 ⟨rfl, x2⟩
      replace kA := kA.keep x2
      replace hx1 := Kept.mk (hx1.out.trans (((Ext.refl w1).alloc _).trans x2))
      clear x2
      obtain ⟨c0, c1, c2, c3, c4, c5⟩ := kA.six
      go_wp2_with (fail)
      (with_reducible refine (T2.out _).mono ?_)
      rintro e w3 ⟨rfl, x3⟩
      replace kA := kA.keep x3
      replace hx1 := Kept.mk (hx1.out.trans x3)
      clear x3 c0 c1 c2 c3 c4 c5
      obtain ⟨c0, c1, c2, c3, c4, c5⟩ := kA.six
      have la := kA.lt
      have HL := Kept.mk (show w.heap.size ≤ w3.heap.size from hx1.out.size)
      have ne : w1.heap.size ≠ w3.heap.size := by omega
      have ne' : w3.heap.size ≠ w1.heap.size := by omega
      go_wp2_with (fail)
      have kB := Blk.new w3 #[.int .i64 a, .int .i64 b, .int .i64 c, .int .i64 d, .int .i64 h, .int .i64 j] 35
      replace kA := kA.old (.cells #[.int .i64 a, .int .i64 b, .int .i64 c, .int .i64 d, .int .i64 h, .int .i64 j] 35)
      (with_reducible refine (impl_AddKnown h j 1 _).mono ?_)
      rintro e w4 ⟨rfl, x4⟩
      replace kA := kA.keep x4
      replace kB := kB.keep x4
      replace hx1 := Kept.mk (hx1.out.trans (((Ext.refl w3).alloc _).trans x4))
      clear x4 c0 c1 c2 c3 c4 c5 la
      obtain ⟨d0, d1, d2, d3, d4, d5⟩ := kB.six
      have fB := kB.free
      have lB := kB.lt
      go_wp2_with (fail)
      (with_reducible refine (T3.out _).mono ?_)
      rintro e w5 ⟨rfl, x5⟩
      go_wp2_with ((go_at_call 30; (with_reducible refine (laws_alive _).mono ?_); rintro e w1 ⟨rfl, rfl⟩))
      go_ret
      exact ⟨rfl, ((hx1.out.setCell HL.out _).setCell HL.out _).trans x5⟩
  · have hl' : ¬ (n : Int) ≤ 1048576 := hl
    have hg : (1048576 : Int) < n := by omega
    clear hl
    go_enter Try.func11, Try.ntmps11
    go_wp2_with (fail)
    go_ret
    exact ⟨rfl, Ext.refl _⟩
theorem add_at (b o i : Nat) : (⟨b, o, none⟩ : Addr).add i = ⟨b, o + i, none⟩ := by
  unfold Addr.add; by_cases h : i = 0
  · subst h; rfl
  · rw [if_neg h]
theorem cell_lt {w : World} {b o : Nat} {v : Value} (h : w.cell? ⟨b, o, none⟩ = some v) : b < w.heap.size := by
  apply Classical.byContradiction
  intro hn
  have : w.heap[b]? = none := by simp; omega
  simp [World.cell?, this] at h
theorem bytes_of {H : Type} {enc : TypeId × Value → H} {w : World} {base : Nat} {held : Bool} {t e : TypeId} {fuel : Nat} {a : Option Addr} {len cap : Nat} {x : DataW H × List MemPlace} (ht : Try.prog.underlying t = some (.slice e)) (he : Try.prog.underlying e = some (.int .u8)) (hc : Try.prog.cellsOf e = 1)
    (h : DataW.trod enc Try.prog w base (fun _ => true) held fuel t (Value.slice a len cap).cells.toList = some x) : Bytes w (.slice a len cap) := by
  rcases open_ints ht he hc h with ⟨hcs, _⟩ | ⟨x, l, c, zs, hcs, _, hl, hm, hz, _, hcell, hwz⟩
  · simp [Value.cells] at hcs
    obtain ⟨rfl, rfl, rfl⟩ := hcs
    exact ⟨none, 0, 0, rfl, Nat.le_refl _, by omega, fun i hi => absurd hi (Nat.not_lt_zero _)⟩
  · simp [Value.cells] at hcs
    obtain ⟨rfl, rfl, rfl⟩ := hcs
    have hz' : zs.length = cap := by simpa using hz
    refine ⟨some x, len, cap, rfl, hl, by unfold maxLen at hm; omega, fun i hi => ?_⟩
    have hci := hcell i (by omega)
    obtain ⟨b, off, spot⟩ := x
    have hspot : spot = none := by
      have h0 := hcell 0 (by omega)
      simpa [Addr.add] using World.cell?_spot h0
    subst hspot
    rw [add_at] at hci
    have hwf := hwz (zs.getD i 0) (by
      have : i < zs.length := by omega
      simp [this])
    refine ⟨b, off, rfl, cell_lt hci, _, hci, ?_⟩
    have := bounds_u8 hwf
    omega

set_option maxRecDepth 100000 in
theorem lifted_FnTripleRight (os : Os) (started : os.Started) (H : Type) (enc : TypeId × Value → H) :
    ReturnsInHanded {} Try.checked os 11 .any (Rows.fnTripleRightSpec.pre6 enc Try.prog Try.f11 Rows.fnTripleRightRow.domain false) (Rows.fnTripleRightSpec.post enc Try.prog Try.f11 false true false false) := by
  refine returnsInHanded_of_change (C := Try.checked) own started (by kernel_rfl) Try.func11
    (ChangeSpec.witness6 (enc := enc) (C := Try.checked) false ⟨#[], #[.slice none 0 0], []⟩ 8 (by kernel_rfl) (by kernel_rfl) (by kernel_rfl) (by kernel_rfl)) ?_
  intro W base args ds gs before hval0 hW hcnd _
  have hval : ∀ (j : Nat) t v, Try.f11.params[j]? = some t → args[j]? = some v → Value.okWide Try.prog W .any base t v := hval0
  have hW' := hW
  obtain ⟨p, q, hA0, hV, rfl, hfz, hnd⟩ := hW
  have hA : DataW.TrodAll enc Try.prog W 0 (fun _ => true) true Try.f11.params.toList args.toList ds p := hA0
  rw [Try.params11] at hA hval
  obtain ⟨v0, vs0, d0, ds0, p0, q0, hargs, rfl, rfl, h0, r0⟩ := trodAll_cons hA
  obtain ⟨rfl, rfl, rfl⟩ := trodAll_nil r0
  obtain rfl : args = #[v0] := by cases args; simp_all
  obtain ⟨rfl, rfl⟩ := trodVars_none hV
  have k0 := h0
  have lt0 : ∀ x ∈ p0, x.block < W.heap.size := by obtain ⟨m, hm⟩ := k0; exact DataW.trod_lt m _ _ _ hm
  obtain ⟨sa0, sl0, sc0, rfl⟩ := okWide_slice Try.underlying38 (hval 0 38 v0 rfl rfl)
  have by0 : Bytes W (.slice sa0 sl0 sc0) := by
    obtain ⟨fu, hf⟩ := h0
    exact bytes_of Try.underlying38 Try.underlying5 (by kernel_rfl) hf
  clear hA0 hval0
  refine (walk_FnTripleRight (.slice sa0 sl0 sc0) W by0).mono fun e W' ⟨he, bel⟩ => ?_
  subst he
  exact ⟨_, rfl, _, _, _, [], _, [], hW', trodAll_mk1 (shut_bool Try.underlying4 _), (trodAll_cons_mk (Below.trod laidOut (by kernel_rfl) (of_decide_eq_true (by kernel_rfl)) k0 bel lt0) trodAll_mk0), rfl, Below.frame bel _, fun h => by cases h⟩
theorem proved_FnTripleRight : Rows.FnTripleRightSaid :=
  OpenClaim.holds_of_wide 11 Try.f11 rfl rfl rfl rfl rfl rfl rfl ⟨rfl, rfl, rfl, rfl, rfl⟩ rfl rfl rfl rfl rfl (by kernel_rfl) Try.func11 (by kernel_rfl)
    (of_decide_eq_true (by kernel_rfl)) (by unfold Func.isWrapper; rw [if_neg (of_decide_eq_false (by kernel_rfl))]; exact ⟨rfl, rfl⟩)
    (fun os started H enc _ => lifted_FnTripleRight os started H enc)
#print axioms proved_FnTripleRight

end Go.Proofs.Ytokjdaknfkleeaa
