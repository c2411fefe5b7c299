/- Proved: the law FnTableOther answers true for every input. No condition. -/
import Derived.Test.YtbkallacblkmpaaRows
import Derived.Test.YtbkallacblkmpaaTabE
import Derived.Test.YtbkallacblkmpaaMadeP
import Derived.Test.YtbkallacblkmpaaOpen
import Derived.ChangeSlices
import Derived.Test.YtbkallacblkmpaaOpen
import Derived.ChangeOld
import Derived.Carry
namespace Go.Proofs.Ytbkallacblkmpaa
set_option linter.unusedSimpArgs false
set_option linter.unusedVariables false
open Go.ChangeShapes Go.WideShapes Go.ChangeAt Go.RowKit Go.Joins
set_option linter.unusedVariables false
theorem own : ownKnob Try.prog.godebug = none := by kernel_rfl
theorem laidOut : laidOutB Try.prog = true := by kernel_rfl

theorem laws_alive (w : World) : Calls Try.prog 12 #[] w fun e w' => e = .returned (.bool true) ∧ w = w' := by
  go_enter Try.func12, Try.ntmps12
  go_wp2_with (go_at_call 41; (with_reducible refine (impl_RingValid 5 true (by decide) _).mono ?_); rintro e w1 ⟨rfl, rfl⟩)
  go_ret
  exact ⟨rfl, rfl⟩
set_option maxHeartbeats 8000000 in
set_option maxRecDepth 4000 in
theorem walk_FnTableOther (v : Value) (w : World) (hb : Bytes w v) : Calls Try.prog 3 #[v] w fun e w' => e = .returned (.bool true) ∧ Ext w w' := by
  obtain ⟨a, n, cap, rfl, hn, hm, hc⟩ := id hb
  clear hc
  have HB := Kept.mk hb; clear hb
  by_cases hl : (n : Int) ≤ 1048576
  · go_enter Try.func3, Try.ntmps3
    go_wp2_with (fail)
    (with_reducible refine (spec_DrawMakeTable _ _ HB.out).mono ?_)
    rintro e w1 ⟨u5, vs, s, rfl, i5, hx1⟩
    clear hl
    obtain ⟨sv, nv, h5, -, -⟩ := id i5.ints
    subst h5
    have I5 := Kept.mk i5.ints
    clear i5
    have hx0 := Kept.mk hx1
    clear hx1
    have hx := Ext.refl w1
    have MI : Kept (∀ w', Ext w1 w' → Calls Try.prog 9 #[.slice sv vs.length nv, .int .i64 s] w' (MadePost vs s w')) := ⟨fun w' hx => impl_MakeTable vs s _ w' (I5.out.keep hx)⟩
    have MS : Kept (∀ w', Ext w1 w' → Calls Try.prog 10 #[.slice sv vs.length nv, .int .i64 s] w' (MadePost vs s w')) := ⟨fun w' hx => spec_MakeTable vs s _ w' (I5.out.keep hx)⟩
    unfold MadePost at MI MS
    cases hk : mkOk vs s
    · have z1 : mtA vs s = 0 := by simp [mtA, hk]
      have z2 : mtB vs s = 0 := by simp [mtB, hk]
      have z3 : mtF vs s = [] := by simp [mtF, hk]
      have z4 : mtS vs s = [] := by simp [mtS, hk]
      have z5 : mtN vs s = 0 := by simp [mtN, hk]
      rw [z1, z2, z3, z4, z5] at MI MS
      clear z1 z2 z3 z4 z5 hk
      go_wp2_with (fail)
      (with_reducible refine (MI.out _ hx).mono ?_)
      rintro e w2 ⟨v1, v2, rfl, o71, o72, -, x2⟩
      replace hx := hx.trans x2
      clear x2
      obtain ⟨p71, m71, hh, -, -⟩ := id o71.ints
      simp only [List.length_nil] at hh
      subst hh
      obtain ⟨p72, m72, hh, -, -⟩ := id o72.ints
      simp only [List.length_nil] at hh
      subst hh
      have k7 := Blk.new w2 #[.int .i64 0, .int .i64 0, .slice p71 0 m71, .slice p72 0 m72] 29
      have xa := (Ext.refl w2).alloc (.cells #[.int .i64 0, .int .i64 0, .slice p71 0 m71, .slice p72 0 m72] 29)
      replace o71 := o71.keep xa
      replace o72 := o72.keep xa
      replace hx := hx.trans xa
      clear xa
      go_wp2_with (fail)
      (with_reducible refine (MS.out _ hx).mono ?_)
      rintro e w3 ⟨v1, v2, rfl, o91, o92, -, x3⟩
      have l7 := k7.lt
      replace k7 := k7.keep x3
      replace o71 := o71.keep x3
      replace o72 := o72.keep x3
      replace hx := hx.trans x3
      clear x3
      obtain ⟨p91, m91, hh, -, -⟩ := id o91.ints
      simp only [List.length_nil] at hh
      subst hh
      obtain ⟨p92, m92, hh, -, -⟩ := id o92.ints
      simp only [List.length_nil] at hh
      subst hh
      have k9 := Blk.new w3 #[.int .i64 0, .int .i64 0, .slice p91 0 m91, .slice p92 0 m92] 29
      have xa := (Ext.refl w3).alloc (.cells #[.int .i64 0, .int .i64 0, .slice p91 0 m91, .slice p92 0 m92] 29)
      replace k7 := k7.keep xa
      replace o71 := o71.keep xa
      replace o72 := o72.keep xa
      replace o91 := o91.keep xa
      replace o92 := o92.keep xa
      replace hx := hx.trans xa
      clear xa
      obtain ⟨a0, a1, a2, a3⟩ := k7.four
      obtain ⟨b0, b1, b2, b3⟩ := k9.four
      go_wp2_with (fail)
      (with_reducible refine (laws_sameTable 0 0 _ _ _ _ [] [] _ o71.ints o72.ints o91.ints o92.ints).mono ?_)
      rintro e w4 ⟨rfl, x4⟩
      clear a0 a1 a2 a3 b0 b1 b2 b3 k9 o91 o92
      replace k7 := k7.keep x4
      replace o71 := o71.keep x4
      replace o72 := o72.keep x4
      replace hx := hx.trans x4
      clear x4
      obtain ⟨a0, a1, a2, a3⟩ := k7.four
      have HX := Kept.mk (hx0.out.trans hx)
      go_wp2_with (go_at_call 12; (with_reducible refine (laws_alive _).mono ?_); rintro e w1 ⟨rfl, rfl⟩)
      go_ret
      exact ⟨rfl, HX.out⟩
    · have N0 := made_seed hk
      have s3 : seedOk s = true := by simp only [mkOk, Bool.and_eq_true] at hk; exact hk.2
      have h4 : mkOk (fVals 4) s = true := by simp [mkOk, good_fVals (show fKnown 4 = true from rfl), s3]
      have MG := fun (v : Value) (w' : World) (h : Ints w' v (fVals 4)) => impl_MakeTable (fVals 4) s v w' h
      unfold MadePost at MG
      rw [show mtA (fVals 4) s = mtA vs s by simp [mtA, hk, h4], show mtB (fVals 4) s = mtB vs s by simp [mtB, hk, h4], show mtF (fVals 4) s = mtF vs s by simp [mtF, hk, h4], show mtN (fVals 4) s = mtN vs s by simp [mtN, hk, h4]] at MG
      clear h4 s3
      replace MG := Kept.mk MG
      have FV : Kept (∀ w', Calls Try.prog 13 #[.int .i64 4] w' (OwnPost (fVals 4) w')) := ⟨fun w' => impl_FunctionValues 4 w'⟩
      clear hk
      generalize mtA vs s = A at *
      generalize mtB vs s = C at *
      generalize mtF vs s = F at *
      generalize mtS vs s = G at *
      generalize mtN vs s = N at *
      generalize mtS (fVals 4) s = G4 at *
      go_wp2_with (fail)
      (with_reducible refine (MI.out _ hx).mono ?_)
      rintro e w2 ⟨v1, v2, rfl, o71, o72, -, x2⟩
      replace hx := hx.trans x2
      clear x2
      obtain ⟨p71, m71, hh, -, -⟩ := id o71.ints
      subst hh
      obtain ⟨p72, m72, hh, -, -⟩ := id o72.ints
      subst hh
      have k7 := Blk.new w2 #[.int .i64 A, .int .i64 C, .slice p71 F.length m71, .slice p72 G.length m72] 29
      have xa := (Ext.refl w2).alloc (.cells #[.int .i64 A, .int .i64 C, .slice p71 F.length m71, .slice p72 G.length m72] 29)
      replace o71 := o71.keep xa
      replace o72 := o72.keep xa
      replace hx := hx.trans xa
      clear xa
      go_wp2_with (fail)
      (with_reducible refine (MS.out _ hx).mono ?_)
      rintro e w3 ⟨v1, v2, rfl, o91, o92, -, x3⟩
      have l7 := k7.lt
      replace k7 := k7.keep x3
      replace o71 := o71.keep x3
      replace o72 := o72.keep x3
      replace hx := hx.trans x3
      clear x3
      obtain ⟨p91, m91, hh, -, -⟩ := id o91.ints
      subst hh
      obtain ⟨p92, m92, hh, -, -⟩ := id o92.ints
      subst hh
      have k9 := Blk.new w3 #[.int .i64 A, .int .i64 C, .slice p91 F.length m91, .slice p92 G.length m92] 29
      have xa := (Ext.refl w3).alloc (.cells #[.int .i64 A, .int .i64 C, .slice p91 F.length m91, .slice p92 G.length m92] 29)
      replace k7 := k7.keep xa
      replace o71 := o71.keep xa
      replace o72 := o72.keep xa
      replace o91 := o91.keep xa
      replace o92 := o92.keep xa
      replace hx := hx.trans xa
      clear xa
      obtain ⟨a0, a1, a2, a3⟩ := k7.four
      obtain ⟨b0, b1, b2, b3⟩ := k9.four
      go_wp2_with (fail)
      (with_reducible refine (laws_sameTable A C _ _ _ _ F G _ o71.ints o72.ints o91.ints o92.ints).mono ?_)
      rintro e w4 ⟨rfl, x4⟩
      clear a0 a1 a2 a3 b0 b1 b2 b3 k9 o91 o92
      replace k7 := k7.keep x4
      replace o71 := o71.keep x4
      replace o72 := o72.keep x4
      replace hx := hx.trans x4
      clear x4
      have e0 : (N == 0) = false := by simp; omega
      clear N0
      go_wp2_with (fail)
      (with_reducible refine (FV.out _).mono ?_)
      rintro e w5 ⟨v5, rfl, o5, x5⟩
      have i5 := o5.ints
      clear o5 FV e0
      replace k7 := k7.keep x5
      replace o71 := o71.keep x5
      replace o72 := o72.keep x5
      replace hx := hx.trans x5
      clear x5
      have HI := Kept.mk i5
      clear i5
      go_wp2_with (fail)
      (with_reducible refine (MG.out _ _ HI.out).mono ?_)
      rintro e w6 ⟨v1, v2, rfl, o31, o32, -, x6⟩
      have l7 := k7.lt
      clear MG HI
      replace k7 := k7.keep x6
      replace o71 := o71.keep x6
      replace o72 := o72.keep x6
      replace hx := hx.trans x6
      clear x6
      obtain ⟨p31, m31, hh, -, -⟩ := id o31.ints
      subst hh
      obtain ⟨p32, m32, hh, -, -⟩ := id o32.ints
      subst hh
      have k3 := Blk.new w6 #[.int .i64 A, .int .i64 C, .slice p31 F.length m31, .slice p32 G4.length m32] 29
      have xa := (Ext.refl w6).alloc (.cells #[.int .i64 A, .int .i64 C, .slice p31 F.length m31, .slice p32 G4.length m32] 29)
      replace k7 := k7.keep xa
      replace o71 := o71.keep xa
      replace o31 := o31.keep xa
      replace hx := hx.trans xa
      clear xa
      obtain ⟨a0, a1, a2, a3⟩ := k7.four
      obtain ⟨b0, b1, b2, b3⟩ := k3.four
      have O3 := Kept.mk o31.ints
      have O7 := Kept.mk o71.ints
      clear o31 o32 o71 o72
      go_wp2_with (fail)
      (with_reducible refine (laws_sameInts _ _ F _ O3.out O7.out).mono ?_)
      rintro e w8 ⟨rfl, x8⟩
      have HX := Kept.mk (hx0.out.trans (hx.trans x8))
      clear hx x8 k7 k3 O3 O7 a0 a1 a2 a3 b0 b1 b2 b3
      go_wp2
      go_ret
      exact ⟨rfl, HX.out⟩
  · have hl' : ¬ (n : Int) ≤ 1048576 := hl
    have hg : (1048576 : Int) < n := by omega
    clear hl
    go_enter Try.func3, Try.ntmps3
    go_wp2_with (fail)
    go_ret
    exact ⟨rfl, Ext.refl _⟩
theorem add_at (b o i : Nat) : (⟨b, o, none⟩ : Addr).add i = ⟨b, o + i, none⟩ := by
  unfold Addr.add; by_cases h : i = 0
  · subst h; rfl
  · rw [if_neg h]
theorem cell_lt {w : World} {b o : Nat} {v : Value} (h : w.cell? ⟨b, o, none⟩ = some v) : b < w.heap.size := by
  apply Classical.byContradiction
  intro hn
  have : w.heap[b]? = none := by simp; omega
  simp [World.cell?, this] at h
theorem bytes_of {H : Type} {enc : TypeId × Value → H} {w : World} {base : Nat} {held : Bool} {t e : TypeId} {fuel : Nat} {a : Option Addr} {len cap : Nat} {x : DataW H × List MemPlace} (ht : Try.prog.underlying t = some (.slice e)) (he : Try.prog.underlying e = some (.int .u8)) (hc : Try.prog.cellsOf e = 1)
    (h : DataW.trod enc Try.prog w base (fun _ => true) held fuel t (Value.slice a len cap).cells.toList = some x) : Bytes w (.slice a len cap) := by
  rcases open_ints ht he hc h with ⟨hcs, _⟩ | ⟨x, l, c, zs, hcs, _, hl, hm, hz, _, hcell, hwz⟩
  · simp [Value.cells] at hcs
    obtain ⟨rfl, rfl, rfl⟩ := hcs
    exact ⟨none, 0, 0, rfl, Nat.le_refl _, by omega, fun i hi => absurd hi (Nat.not_lt_zero _)⟩
  · simp [Value.cells] at hcs
    obtain ⟨rfl, rfl, rfl⟩ := hcs
    have hz' : zs.length = cap := by simpa using hz
    refine ⟨some x, len, cap, rfl, hl, by unfold maxLen at hm; omega, fun i hi => ?_⟩
    have hci := hcell i (by omega)
    obtain ⟨b, off, spot⟩ := x
    have hspot : spot = none := by
      have h0 := hcell 0 (by omega)
      simpa [Addr.add] using World.cell?_spot h0
    subst hspot
    rw [add_at] at hci
    have hwf := hwz (zs.getD i 0) (by
      have : i < zs.length := by omega
      simp [this])
    refine ⟨b, off, rfl, cell_lt hci, _, hci, ?_⟩
    have := bounds_u8 hwf
    omega

set_option maxRecDepth 100000 in
theorem lifted_FnTableOther (os : Os) (started : os.Started) (H : Type) (enc : TypeId × Value → H) :
    ReturnsInHanded {} Try.checked os 3 .any (Rows.fnTableOtherSpec.pre6 enc Try.prog Try.f3 Rows.fnTableOtherRow.domain false) (Rows.fnTableOtherSpec.post enc Try.prog Try.f3 false true false false) := by
  refine returnsInHanded_of_change (C := Try.checked) own started (by kernel_rfl) Try.func3
    (ChangeSpec.witness6 (enc := enc) (C := Try.checked) false ⟨#[], #[.slice none 0 0], []⟩ 8 (by kernel_rfl) (by kernel_rfl) (by kernel_rfl) (by kernel_rfl)) ?_
  intro W base args ds gs before hval0 hW hcnd _
  have hval : ∀ (j : Nat) t v, Try.f3.params[j]? = some t → args[j]? = some v → Value.okWide Try.prog W .any base t v := hval0
  have hW' := hW
  obtain ⟨p, q, hA0, hV, rfl, hfz, hnd⟩ := hW
  have hA : DataW.TrodAll enc Try.prog W 0 (fun _ => true) true Try.f3.params.toList args.toList ds p := hA0
  rw [Try.params3] at hA hval
  obtain ⟨v0, vs0, d0, ds0, p0, q0, hargs, rfl, rfl, h0, r0⟩ := trodAll_cons hA
  obtain ⟨rfl, rfl, rfl⟩ := trodAll_nil r0
  obtain rfl : args = #[v0] := by cases args; simp_all
  obtain ⟨rfl, rfl⟩ := trodVars_none hV
  have k0 := h0
  have lt0 : ∀ x ∈ p0, x.block < W.heap.size := by obtain ⟨m, hm⟩ := k0; exact DataW.trod_lt m _ _ _ hm
  obtain ⟨sa0, sl0, sc0, rfl⟩ := okWide_slice Try.underlying22 (hval 0 22 v0 rfl rfl)
  have by0 : Bytes W (.slice sa0 sl0 sc0) := by
    obtain ⟨fu, hf⟩ := h0
    exact bytes_of Try.underlying22 Try.underlying5 (by kernel_rfl) hf
  clear hA0 hval0
  refine (walk_FnTableOther (.slice sa0 sl0 sc0) W by0).mono fun e W' ⟨he, bel⟩ => ?_
  subst he
  exact ⟨_, rfl, _, _, _, [], _, [], hW', trodAll_mk1 (shut_bool Try.underlying4 _), (trodAll_cons_mk (Below.trod laidOut (by kernel_rfl) (of_decide_eq_true (by kernel_rfl)) k0 bel lt0) trodAll_mk0), rfl, Below.frame bel _, fun h => by cases h⟩
theorem proved_FnTableOther : Rows.FnTableOtherSaid :=
  OpenClaim.holds_of_wide 3 Try.f3 rfl rfl rfl rfl rfl rfl rfl ⟨rfl, rfl, rfl, rfl, rfl⟩ rfl rfl rfl rfl rfl (by kernel_rfl) Try.func3 (by kernel_rfl)
    (of_decide_eq_true (by kernel_rfl)) (by unfold Func.isWrapper; rw [if_neg (of_decide_eq_false (by kernel_rfl))]; exact ⟨rfl, rfl⟩)
    (fun os started H enc _ => lifted_FnTableOther os started H enc)
#print axioms proved_FnTableOther

end Go.Proofs.Ytbkallacblkmpaa
