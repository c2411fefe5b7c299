/- Proved: the law FnMakeTriple answers true for every input. No condition. -/
import Derived.Test.YtnblocljjljebaaRows
import Derived.Test.YtnblocljjljebaaMkT
import Derived.Test.YtnblocljjljebaaOpen
import Derived.ChangeSlices
import Derived.Test.YtnblocljjljebaaOpen
import Derived.ChangeOld
import Derived.Carry
namespace Go.Proofs.Ytnblocljjljebaa
set_option linter.unusedSimpArgs false
set_option linter.unusedVariables false
open Go.ChangeShapes Go.WideShapes Go.ChangeAt Go.RowKit Go.Joins
set_option linter.unusedVariables false
theorem own : ownKnob Try.prog.godebug = none := by kernel_rfl
theorem laidOut : laidOutB Try.prog = true := by kernel_rfl

theorem laws_alive (w : World) : Calls Try.prog 18 #[] w fun e w' => e = .returned (.bool true) ∧ w = w' := by
  go_enter Try.func18, Try.ntmps18
  go_wp2_with (go_at_call 33; (with_reducible refine (impl_RingValid 5 true (by decide) _).mono ?_); rintro e w1 ⟨rfl, rfl⟩)
  go_ret
  exact ⟨rfl, rfl⟩
theorem made_right {s : Int} (h : seedOk s = true) : triR (tA s) (tB s) (tC s) (tD s) (tE s) (tF s) = true := by
  have r0 := rnd_rv s 0
  have r1 := rnd_rv s 1
  have r2 := rnd_rv s 2
  have r3 := rnd_rv s 3
  have r4 := rnd_rv s 4
  have hp : rv (prodT (rnd s 0) (rnd s 1) (rnd s 2) (rnd s 3)) = true := by
    simp [prodT, addR_ok, mulR, r0, r1, r2, r3, rv_ring]
  have e : addR (rnd s 4) (ring (prodT (rnd s 0) (rnd s 1) (rnd s 2) (rnd s 3) - rnd s 4)) = prodT (rnd s 0) (rnd s 1) (rnd s 2) (rnd s 3) := by
    rw [addR_ok r4 (rv_ring _)]
    rw [rv_iff] at hp
    unfold ring; omega
  have hA : tA s = rnd s 0 := by simp [tA, h]
  have hB : tB s = rnd s 1 := by simp [tB, h]
  have hC : tC s = rnd s 2 := by simp [tC, h]
  have hD : tD s = rnd s 3 := by simp [tD, h]
  have hE : tE s = rnd s 4 := by
    have hp' : rv (mulR (addR (rnd s 0) (rnd s 1)) (addR (rnd s 2) (rnd s 3))) = true := hp
    simp [tE, h, splF, hp', r4]
  have hF : tF s = ring (prodT (rnd s 0) (rnd s 1) (rnd s 2) (rnd s 3) - rnd s 4) := by
    have hp' : rv (mulR (addR (rnd s 0) (rnd s 1)) (addR (rnd s 2) (rnd s 3))) = true := hp
    simp [tF, h, splL, hp', r4, prodT]
  rw [hA, hB, hC, hD, hE, hF]
  simp [triR, okT, r0, r1, r2, r3, r4, rv_ring, e]

set_option maxHeartbeats 2000000 in
theorem walk_FnMakeTriple (v : Value) (w : World) (hb : Bytes w v) : Calls Try.prog 12 #[v] w fun e w' => e = .returned (.bool true) ∧ Ext w w' := by
  obtain ⟨a, n, cap, rfl, hn, hm, hc⟩ := id hb
  clear hc
  have HB := Kept.mk hb; clear hb
  by_cases hl : (n : Int) ≤ 1048576
  · go_enter Try.func12, Try.ntmps12
    go_wp2_with (fail)
    (with_reducible refine (spec_DrawMakeTriple _ _ HB.out).mono ?_)
    rintro e w1 ⟨s, rfl, hx1⟩
    clear hl
    have hx := Kept.mk hx1
    clear hx1
    cases hk : seedOk s
    · have Mimpl : Kept (∀ w, Calls Try.prog 41 #[.int .i64 s] w (fun e w' => e = .returned (.tuple #[.agg #[.int .i64 0, .int .i64 0, .int .i64 0, .int .i64 0, .int .i64 0, .int .i64 0], .int .i64 0]) ∧ Ext w w')) := ⟨fun w => by have := impl_MakeTriple s w; rw [show tA s = 0 by simp [tA, hk], show tB s = 0 by simp [tB, hk], show tC s = 0 by simp [tC, hk], show tD s = 0 by simp [tD, hk], show tE s = 0 by simp [tE, hk], show tF s = 0 by simp [tF, hk], show tN s = 0 by simp [tN, hk]] at this; exact this⟩
      have Mspec : Kept (∀ w, Calls Try.prog 40 #[.int .i64 s] w (fun e w' => e = .returned (.tuple #[.agg #[.int .i64 0, .int .i64 0, .int .i64 0, .int .i64 0, .int .i64 0, .int .i64 0], .int .i64 0]) ∧ Ext w w')) := ⟨fun w => by have := spec_MakeTriple s w; rw [show tA s = 0 by simp [tA, hk], show tB s = 0 by simp [tB, hk], show tC s = 0 by simp [tC, hk], show tD s = 0 by simp [tD, hk], show tE s = 0 by simp [tE, hk], show tF s = 0 by simp [tF, hk], show tN s = 0 by simp [tN, hk]] at this; exact this⟩
      clear hk
      go_wp2_with (fail)
      (with_reducible refine (Mimpl.out _).mono ?_)
      rintro e w2 ⟨rfl, x2⟩
      go_wp2_with (fail)
      (with_reducible refine (Mspec.out _).mono ?_)
      rintro e w3 ⟨rfl, x3⟩
      have kA := (Blk.new w2 #[.int .i64 0, .int .i64 0, .int .i64 0, .int .i64 0, .int .i64 0, .int .i64 0] 57).keep x3
      replace hx := Kept.mk (((hx.out.trans x2).alloc (.cells #[.int .i64 0, .int .i64 0, .int .i64 0, .int .i64 0, .int .i64 0, .int .i64 0] 57)).trans x3)
      clear x2 x3
      have lA := kA.lt
      replace kA := kA.old (.cells #[.int .i64 0, .int .i64 0, .int .i64 0, .int .i64 0, .int .i64 0, .int .i64 0] 57)
      have HX := Kept.mk (hx.out.alloc (.cells #[.int .i64 0, .int .i64 0, .int .i64 0, .int .i64 0, .int .i64 0, .int .i64 0] 57))
      obtain ⟨a0, a1, a2, a3, a4, a5⟩ := kA.six
      go_wp2_with (go_at_call 18; (with_reducible refine (laws_alive _).mono ?_); rintro e w1 ⟨rfl, rfl⟩)
      go_ret
      exact ⟨rfl, HX.out⟩
    · have Mimpl : Kept (∀ w, Calls Try.prog 41 #[.int .i64 s] w (fun e w' => e = .returned (.tuple #[.agg #[.int .i64 (tA s), .int .i64 (tB s), .int .i64 (tC s), .int .i64 (tD s), .int .i64 (tE s), .int .i64 (tF s)], .int .i64 (tN s)]) ∧ Ext w w')) := ⟨fun w => by have := impl_MakeTriple s w; exact this⟩
      have Mspec : Kept (∀ w, Calls Try.prog 40 #[.int .i64 s] w (fun e w' => e = .returned (.tuple #[.agg #[.int .i64 (tA s), .int .i64 (tB s), .int .i64 (tC s), .int .i64 (tD s), .int .i64 (tE s), .int .i64 (tF s)], .int .i64 (tN s)]) ∧ Ext w w')) := ⟨fun w => by have := spec_MakeTriple s w; exact this⟩
      have TR : Kept (∀ w, Calls Try.prog 44 #[.agg #[.int .i64 (tA s), .int .i64 (tB s), .int .i64 (tC s), .int .i64 (tD s), .int .i64 (tE s), .int .i64 (tF s)]] w (fun e w' => e = .returned (.bool true) ∧ Ext w w')) := ⟨fun w => (made_right hk) ▸ impl_TripleRight _ _ _ _ _ _ w⟩
      have SN := (seed_of hk).strm 5
      rw [show strm s 5 = tN s by simp [tN, hk]] at SN
      clear hk
      generalize tN s = m at *
      go_wp2_with (fail)
      (with_reducible refine (Mimpl.out _).mono ?_)
      rintro e w2 ⟨rfl, x2⟩
      go_wp2_with (fail)
      (with_reducible refine (Mspec.out _).mono ?_)
      rintro e w3 ⟨rfl, x3⟩
      have kA := (Blk.new w2 #[.int .i64 (tA s), .int .i64 (tB s), .int .i64 (tC s), .int .i64 (tD s), .int .i64 (tE s), .int .i64 (tF s)] 57).keep x3
      replace hx := Kept.mk (((hx.out.trans x2).alloc (.cells #[.int .i64 (tA s), .int .i64 (tB s), .int .i64 (tC s), .int .i64 (tD s), .int .i64 (tE s), .int .i64 (tF s)] 57)).trans x3)
      clear x2 x3
      have lA := kA.lt
      replace kA := kA.old (.cells #[.int .i64 (tA s), .int .i64 (tB s), .int .i64 (tC s), .int .i64 (tD s), .int .i64 (tE s), .int .i64 (tF s)] 57)
      have HX := Kept.mk (hx.out.alloc (.cells #[.int .i64 (tA s), .int .i64 (tB s), .int .i64 (tC s), .int .i64 (tD s), .int .i64 (tE s), .int .i64 (tF s)] 57))
      obtain ⟨a0, a1, a2, a3, a4, a5⟩ := kA.six
      have s1 := SN.lo
      have e0 : (m == 0) = false := by simp; omega
      have s2 := Kept.mk SN.hi
      clear SN
      go_wp2_with (fail)
      (with_reducible refine (TR.out _).mono ?_)
      rintro e w5 ⟨rfl, x5⟩
      have s3 := s2.out
      go_wp2
      go_ret
      exact ⟨rfl, HX.out.trans x5⟩
  · have hl' : ¬ (n : Int) ≤ 1048576 := hl
    have hg : (1048576 : Int) < n := by omega
    clear hl
    go_enter Try.func12, Try.ntmps12
    go_wp2_with (fail)
    go_ret
    exact ⟨rfl, Ext.refl _⟩
theorem add_at (b o i : Nat) : (⟨b, o, none⟩ : Addr).add i = ⟨b, o + i, none⟩ := by
  unfold Addr.add; by_cases h : i = 0
  · subst h; rfl
  · rw [if_neg h]
theorem cell_lt {w : World} {b o : Nat} {v : Value} (h : w.cell? ⟨b, o, none⟩ = some v) : b < w.heap.size := by
  apply Classical.byContradiction
  intro hn
  have : w.heap[b]? = none := by simp; omega
  simp [World.cell?, this] at h
theorem bytes_of {H : Type} {enc : TypeId × Value → H} {w : World} {base : Nat} {held : Bool} {t e : TypeId} {fuel : Nat} {a : Option Addr} {len cap : Nat} {x : DataW H × List MemPlace} (ht : Try.prog.underlying t = some (.slice e)) (he : Try.prog.underlying e = some (.int .u8)) (hc : Try.prog.cellsOf e = 1)
    (h : DataW.trod enc Try.prog w base (fun _ => true) held fuel t (Value.slice a len cap).cells.toList = some x) : Bytes w (.slice a len cap) := by
  rcases open_ints ht he hc h with ⟨hcs, _⟩ | ⟨x, l, c, zs, hcs, _, hl, hm, hz, _, hcell, hwz⟩
  · simp [Value.cells] at hcs
    obtain ⟨rfl, rfl, rfl⟩ := hcs
    exact ⟨none, 0, 0, rfl, Nat.le_refl _, by omega, fun i hi => absurd hi (Nat.not_lt_zero _)⟩
  · simp [Value.cells] at hcs
    obtain ⟨rfl, rfl, rfl⟩ := hcs
    have hz' : zs.length = cap := by simpa using hz
    refine ⟨some x, len, cap, rfl, hl, by unfold maxLen at hm; omega, fun i hi => ?_⟩
    have hci := hcell i (by omega)
    obtain ⟨b, off, spot⟩ := x
    have hspot : spot = none := by
      have h0 := hcell 0 (by omega)
      simpa [Addr.add] using World.cell?_spot h0
    subst hspot
    rw [add_at] at hci
    have hwf := hwz (zs.getD i 0) (by
      have : i < zs.length := by omega
      simp [this])
    refine ⟨b, off, rfl, cell_lt hci, _, hci, ?_⟩
    have := bounds_u8 hwf
    omega

set_option maxRecDepth 100000 in
theorem lifted_FnMakeTriple (os : Os) (started : os.Started) (H : Type) (enc : TypeId × Value → H) :
    ReturnsInHanded {} Try.checked os 12 .any (Rows.fnMakeTripleSpec.pre6 enc Try.prog Try.f12 Rows.fnMakeTripleRow.domain false) (Rows.fnMakeTripleSpec.post enc Try.prog Try.f12 false true false false) := by
  refine returnsInHanded_of_change (C := Try.checked) own started (by kernel_rfl) Try.func12
    (ChangeSpec.witness6 (enc := enc) (C := Try.checked) false ⟨#[], #[.slice none 0 0], []⟩ 8 (by kernel_rfl) (by kernel_rfl) (by kernel_rfl) (by kernel_rfl)) ?_
  intro W base args ds gs before hval0 hW hcnd _
  have hval : ∀ (j : Nat) t v, Try.f12.params[j]? = some t → args[j]? = some v → Value.okWide Try.prog W .any base t v := hval0
  have hW' := hW
  obtain ⟨p, q, hA0, hV, rfl, hfz, hnd⟩ := hW
  have hA : DataW.TrodAll enc Try.prog W 0 (fun _ => true) true Try.f12.params.toList args.toList ds p := hA0
  rw [Try.params12] at hA hval
  obtain ⟨v0, vs0, d0, ds0, p0, q0, hargs, rfl, rfl, h0, r0⟩ := trodAll_cons hA
  obtain ⟨rfl, rfl, rfl⟩ := trodAll_nil r0
  obtain rfl : args = #[v0] := by cases args; simp_all
  obtain ⟨rfl, rfl⟩ := trodVars_none hV
  have k0 := h0
  have lt0 : ∀ x ∈ p0, x.block < W.heap.size := by obtain ⟨m, hm⟩ := k0; exact DataW.trod_lt m _ _ _ hm
  obtain ⟨sa0, sl0, sc0, rfl⟩ := okWide_slice Try.underlying24 (hval 0 24 v0 rfl rfl)
  have by0 : Bytes W (.slice sa0 sl0 sc0) := by
    obtain ⟨fu, hf⟩ := h0
    exact bytes_of Try.underlying24 Try.underlying5 (by kernel_rfl) hf
  clear hA0 hval0
  refine (walk_FnMakeTriple (.slice sa0 sl0 sc0) W by0).mono fun e W' ⟨he, bel⟩ => ?_
  subst he
  exact ⟨_, rfl, _, _, _, [], _, [], hW', trodAll_mk1 (shut_bool Try.underlying4 _), (trodAll_cons_mk (Below.trod laidOut (by kernel_rfl) (of_decide_eq_true (by kernel_rfl)) k0 bel lt0) trodAll_mk0), rfl, Below.frame bel _, fun h => by cases h⟩
theorem proved_FnMakeTriple : Rows.FnMakeTripleSaid :=
  OpenClaim.holds_of_wide 12 Try.f12 rfl rfl rfl rfl rfl rfl rfl ⟨rfl, rfl, rfl, rfl, rfl⟩ rfl rfl rfl rfl rfl (by kernel_rfl) Try.func12 (by kernel_rfl)
    (of_decide_eq_true (by kernel_rfl)) (by unfold Func.isWrapper; rw [if_neg (of_decide_eq_false (by kernel_rfl))]; exact ⟨rfl, rfl⟩)
    (fun os started H enc _ => lifted_FnMakeTriple os started H enc)
#print axioms proved_FnMakeTriple

end Go.Proofs.Ytnblocljjljebaa
