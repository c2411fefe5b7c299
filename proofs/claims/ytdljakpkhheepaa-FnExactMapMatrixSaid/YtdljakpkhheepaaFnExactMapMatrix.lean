/- Proved: the law FnExactMapMatrix answers true for every input and leaves its arguments as they were. No condition. -/
import Derived.Test.YtdljakpkhheepaaRows
import Derived.Test.YtdljakpkhheepaaMapT
import Derived.Test.YtdljakpkhheepaaMatS
import Derived.ChangeSlices
import Derived.Test.YtdljakpkhheepaaOpen
import Derived.ChangeOld
import Derived.Carry
namespace Go.Proofs.Ytdljakpkhheepaa
set_option linter.unusedSimpArgs false
set_option linter.unusedVariables false
open Go.ChangeShapes Go.WideShapes Go.ChangeAt Go.RowKit Go.Joins
set_option linter.unusedVariables false
theorem own : ownKnob Try.prog.godebug = none := by kernel_rfl
theorem laidOut : laidOutB Try.prog = true := by kernel_rfl

theorem mapM_len (k r c : Int) (xs : List Int) : (mapM k r c xs).xs.length ≤ 25 := by
  unfold mapM
  split
  · rename_i h
    simp only [Bool.and_eq_true] at h
    obtain ⟨R, C, _, _, _, _, _, _, hl, h25, _⟩ := mOk_nat h.2
    simp only [mapTo_len]; omega
  · exact Nat.zero_le _

set_option maxHeartbeats 4000000 in
set_option maxRecDepth 2000 in
theorem walk_FnExactMapMatrix (k r c : Int) (v : Value) (xs : List Int) (w : World) (h1 : Ints w v xs) : Calls Try.prog 7 #[.int .i64 k, .agg #[.int .i64 r, .int .i64 c, v]] w fun e w' => e = .returned (.bool true) ∧ Ext w w' := by
  obtain ⟨s1, n1, rfl, hm1, hc1⟩ := id h1
  clear hm1 hc1
  have hx := (Ext.refl w).alloc (.cells #[.int .i64 r, .int .i64 c, .slice s1 xs.length n1] 24)
  have SZ := Kept.mk (laws_szMatrix r c _ xs 1048576 _ (h1.keep hx) (by omega) (by omega))
  have HA := Kept.mk h1
  have kA := Blk.new w #[.int .i64 r, .int .i64 c, .slice s1 xs.length n1] 24
  clear h1
  by_cases hb : (1048576 : Int) - xs.length < 0
  · rw [if_pos hb] at SZ
    clear hb
    go_enter Try.func7, Try.ntmps7
    obtain ⟨dkA0, dkA1, dkA2⟩ := kA.three
    go_wp2_with (fail)
    (with_reducible refine (SZ.out).mono ?_)
    rintro e u0 ⟨rfl, z0⟩
    have HX := Kept.mk (hx.trans z0)
    clear hx z0 kA dkA0 dkA1 dkA2
    go_wp2
    go_ret
    exact ⟨rfl, HX.out⟩
  · rw [if_neg hb] at SZ
    have L1 : Kept (xs.length ≤ 1048576) := ⟨by omega⟩
    have hd : decide ((1048576 : Int) - xs.length < 0) = false := by simpa using hb
    clear hb
    have SP : Kept (∀ (u : Value) (w' : World), Own 0 w' u xs → Calls Try.prog 33 #[.int .i64 k, .agg #[.int .i64 r, .int .i64 c, u]] w' (MkPost (mapM k r c xs).r (mapM k r c xs).c (mapM k r c xs).xs w')) := ⟨fun u w' h => spec_MapMatrix k r c u xs w' h.ints h.nilOk L1.out⟩
    have IP : Kept (∀ (u : Value) (w' : World), Own 0 w' u xs → Calls Try.prog 34 #[.int .i64 k, .agg #[.int .i64 r, .int .i64 c, u]] w' (MkPost (mapM k r c xs).r (mapM k r c xs).c (mapM k r c xs).xs w')) := ⟨fun u w' h => impl_MapMatrix k r c u xs w' h.ints⟩
    have TO : Kept (∀ w', Ext w w' → Calls Try.prog 17 #[.agg #[.int .i64 r, .int .i64 c, .slice s1 xs.length n1]] w' (MkPost r c xs w')) := ⟨fun w' h => laws_toMatrix r c _ xs w' (HA.out.keep h) L1.out⟩
    have NL := Kept.mk (mapM_len k r c xs)
    unfold MkPost at SP IP TO
    generalize (mapM k r c xs) = N at *
    obtain ⟨nr, nc, ns⟩ := N
    simp only at SP IP NL
    go_enter Try.func7, Try.ntmps7
    obtain ⟨dkA0, dkA1, dkA2⟩ := kA.three
    go_wp2_with (fail)
    (with_reducible refine (SZ.out).mono ?_)
    rintro e u1 ⟨rfl, z1⟩
    clear dkA0 dkA1 dkA2
    replace kA := kA.keep z1
    replace hx := hx.trans z1
    clear z1
    clear SZ
    have eB := Kept.mk hx.size
    obtain ⟨dkA0, dkA1, dkA2⟩ := kA.three
    go_wp2_with (fail)
    (with_reducible refine (TO.out _ hx).mono ?_)
    rintro e u2 ⟨vC, rfl, oC, z2⟩
    clear dkA0 dkA1 dkA2
    obtain ⟨pC, mC, hvC, -, -⟩ := id oC.ints
    try simp only at hvC
    subst hvC
    replace kA := kA.keep z2
    replace hx := hx.trans z2
    clear z2
    clear hd
    have hBW := Kept.mk hx.size
    go_wp2_with (fail)
    (with_reducible refine (SP.out _ _ (oC.mono (Nat.zero_le _))).mono ?_)
    rintro e u3 ⟨vW, rfl, oW, z3⟩
    have sWC := Kept.mk (apart oC oW)
    obtain ⟨pW, mW, hvW, -, -⟩ := id oW.ints
    try simp only at hvW
    subst hvW
    replace kA := kA.keep z3
    replace oC := oC.keep z3
    replace hx := hx.trans z3
    clear z3
    clear oC
    have kW := Blk.new u3 #[.int .i64 nr, .int .i64 nc, .slice pW ns.length mW] 26
    replace kA := kA.old (.cells #[.int .i64 nr, .int .i64 nc, .slice pW ns.length mW] 26)
    replace oW := oW.keep ((Ext.refl u3).alloc (.cells #[.int .i64 nr, .int .i64 nc, .slice pW ns.length mW] 26))
    replace hx := hx.alloc (.cells #[.int .i64 nr, .int .i64 nc, .slice pW ns.length mW] 26)
    have hBT := Kept.mk hx.size
    obtain ⟨dkA0, dkA1, dkA2⟩ := kA.three
    go_wp2_with (fail)
    (with_reducible refine (TO.out _ hx).mono ?_)
    rintro e u4 ⟨vT, rfl, oT, z4⟩
    clear dkA0 dkA1 dkA2
    have sTW := Kept.mk (apart oW oT)
    obtain ⟨pT, mT, hvT, -, -⟩ := id oT.ints
    try simp only at hvT
    subst hvT
    replace kA := kA.keep z4
    replace kW := kW.keep z4
    replace oW := oW.keep z4
    replace hx := hx.trans z4
    clear z4
    have kT := Blk.new u4 #[.int .i64 r, .int .i64 c, .slice pT xs.length mT] 26
    replace kA := kA.old (.cells #[.int .i64 r, .int .i64 c, .slice pT xs.length mT] 26)
    replace kW := kW.old (.cells #[.int .i64 r, .int .i64 c, .slice pT xs.length mT] 26)
    replace oW := oW.keep ((Ext.refl u4).alloc (.cells #[.int .i64 r, .int .i64 c, .slice pT xs.length mT] 26))
    replace oT := oT.keep ((Ext.refl u4).alloc (.cells #[.int .i64 r, .int .i64 c, .slice pT xs.length mT] 26))
    replace hx := hx.alloc (.cells #[.int .i64 r, .int .i64 c, .slice pT xs.length mT] 26)
    have hBG := Kept.mk hx.size
    obtain ⟨dkT0, dkT1, dkT2⟩ := kT.three
    go_wp2_with (fail)
    (with_reducible refine (IP.out _ _ (oT.mono (Nat.zero_le _))).mono ?_)
    rintro e u5 ⟨vG, rfl, oG, z5⟩
    clear dkT0 dkT1 dkT2
    have sGW := Kept.mk (apart oW oG)
    have sGT := Kept.mk (apart oT oG)
    obtain ⟨pG, mG, hvG, -, -⟩ := id oG.ints
    try simp only at hvG
    subst hvG
    replace kA := kA.keep z5
    replace kW := kW.keep z5
    replace kT := kT.keep z5
    replace oW := oW.keep z5
    replace oT := oT.keep z5
    replace hx := hx.trans z5
    clear z5
    have kG := Blk.new u5 #[.int .i64 nr, .int .i64 nc, .slice pG ns.length mG] 26
    replace kA := kA.old (.cells #[.int .i64 nr, .int .i64 nc, .slice pG ns.length mG] 26)
    replace kW := kW.old (.cells #[.int .i64 nr, .int .i64 nc, .slice pG ns.length mG] 26)
    replace kT := kT.old (.cells #[.int .i64 nr, .int .i64 nc, .slice pG ns.length mG] 26)
    replace oW := oW.keep ((Ext.refl u5).alloc (.cells #[.int .i64 nr, .int .i64 nc, .slice pG ns.length mG] 26))
    replace oT := oT.keep ((Ext.refl u5).alloc (.cells #[.int .i64 nr, .int .i64 nc, .slice pG ns.length mG] 26))
    replace oG := oG.keep ((Ext.refl u5).alloc (.cells #[.int .i64 nr, .int .i64 nc, .slice pG ns.length mG] 26))
    replace hx := hx.alloc (.cells #[.int .i64 nr, .int .i64 nc, .slice pG ns.length mG] 26)
    obtain ⟨dkG0, dkG1, dkG2⟩ := kG.three
    obtain ⟨dkW0, dkW1, dkW2⟩ := kW.three
    go_wp2_with (fail)
    (with_reducible refine (laws_eqMatrix nr nc _ _ ns _ oG.ints oW.ints).mono ?_)
    rintro e u6 ⟨rfl, z6⟩
    clear dkG0 dkG1 dkG2
    clear dkW0 dkW1 dkW2
    replace kA := kA.keep z6
    replace kW := kW.keep z6
    replace kT := kT.keep z6
    replace kG := kG.keep z6
    replace oW := oW.keep z6
    replace oT := oT.keep z6
    replace oG := oG.keep z6
    replace hx := hx.trans z6
    clear z6
    obtain ⟨dkT0, dkT1, dkT2⟩ := kT.three
    obtain ⟨dkA0, dkA1, dkA2⟩ := kA.three
    go_wp2_with (fail)
    clear dkT0 dkT1 dkT2
    clear dkA0 dkA1 dkA2
    apply wp_region_zip [isv _, isv _, matS r c xs, isv _, isv _] _ (by kernel_rfl)
    case hA => intro V; simp [putAll, dstOf, Act.put]; exact rfl
    case hsl => intro V; exact rfl
    case step =>
      intro V lo up w' hr
      have hxr := hx.trans hr
      obtain ⟨hcr, hzr⟩ := hxr.cells
      have hsr := hr.size
      have kA := kA.keep hr
      have kW := kW.keep hr
      have kT := kT.keep hr
      have kG := kG.keep hr
      have oW := oW.keep hr
      have oT := oT.keep hr
      have oG := oG.keep hr
      obtain ⟨dkT0, dkT1, dkT2⟩ := kT.three
      obtain ⟨dkA0, dkA1, dkA2⟩ := kA.three
      simp only [zipOk, depsImp, isv, matS, modeNg, newb, waits, Region.binds, List.map_nil, List.map_cons, List.headD_cons, List.nil_append, List.cons_append, List.filterMap_cons, List.filterMap_nil, ↓reduceIte, modeNe, Bool.false_eq_true, true_implies, List.getD_cons_zero, List.getD_cons_succ, and_true]
      refine ⟨?_, ?_, ?_, ?_, ?_⟩
      · intros
        go_wp2
        refine stepQ_mk rfl (by simp only [List.getElem?_toArray, List.getElem?_cons_succ, List.getElem?_cons_zero]; exact rfl) ?_
        exact ⟨Ext.refl _, rfl⟩
      · intros
        go_wp2
        refine stepQ_mk rfl (by simp only [List.getElem?_toArray, List.getElem?_cons_succ, List.getElem?_cons_zero]; exact rfl) ?_
        exact ⟨Ext.refl _, rfl⟩
      · intros
        go_wp2_with (fail)
        (with_reducible refine (TO.out _ hxr).mono ?_)
        rintro e w9 ⟨v9, rfl, o9, x9⟩
        go_wp2
        refine stepQ_mk rfl (by simp only [List.getElem?_toArray, List.getElem?_cons_succ, List.getElem?_cons_zero]; exact rfl) ?_
        exact ⟨x9, v9, rfl, o9.mono (Nat.zero_le _)⟩
      · intro _ _ _ e0 _ _ _ ⟨v9, e9, o9⟩
        intros
        go_wp2_with (fail)
        (with_reducible refine (laws_eqMatrix r c _ _ xs _ oT.ints o9.ints).mono ?_)
        rintro e w9 ⟨rfl, x9⟩
        go_wp2
        refine stepQ_mk rfl (by simp only [List.getElem?_toArray, List.getElem?_cons_succ, List.getElem?_cons_zero]; exact rfl) ?_
        exact ⟨x9, rfl⟩
      · intros
        go_wp2
        refine stepQ_mk rfl (by simp only [List.getElem?_toArray, List.getElem?_cons_succ, List.getElem?_cons_zero]; exact rfl) ?_
        exact ⟨Ext.refl _, rfl⟩
    case hB => kernel_rfl
    case fin =>
      intro V lo up w' hr hf ha
      simp only [factsOk, isv, matS, modeNg, newb, List.map_nil, List.map_cons, List.headD_cons, and_true, Nat.zero_add, Nat.reduceAdd] at hf
      simp only [List.length_cons, List.length_nil, Nat.zero_add, Nat.reduceAdd, List.drop_succ_cons, List.drop_zero]
      obtain ⟨-, -, -, -, ⟨-, -, -, e4⟩⟩ := hf
      clear ha
      have hs0 := hx.size
      have hx' := hx.trans hr
      clear hx
      have hx := hx'
      clear hx'
      replace kA := kA.keep hr
      replace kW := kW.keep hr
      replace kT := kT.keep hr
      replace kG := kG.keep hr
      replace oW := oW.keep hr
      replace oT := oT.keep hr
      replace oG := oG.keep hr
      rw [e4]
      clear e4
      clear hr
      have bT := Kept.mk ((oT.mono hBT.out).block)
      have nTkA := oT.ne kA (by decide)
      have nTkW := oT.ne kW (by decide)
      have nTkT := oT.ne kT (by decide)
      have nTkG := oT.ne kG (by decide)
      obtain ⟨dkT0, dkT1, dkT2⟩ := kT.three
      go_wp2_with (fail)
      (with_reducible refine (laws_markMatrix _ r c _ xs 1 xs.length rfl _ oT (by omega) (by have := L1.out; omega)).mono ?_)
      rintro e u7 ⟨rfl, mkT, tu⟩
      clear dkT0 dkT1 dkT2
      replace kA := tu.blk kA (nTkA)
      replace kW := tu.blk kW (nTkW)
      replace kT := tu.blk kT (nTkT)
      replace kG := tu.blk kG (nTkG)
      replace oW := tu.own oW sTW.out.1
      replace oG := tu.own oG sGT.out.2
      replace hx := tu.ext hx (fun q hq => (bT.out q hq).1)
      clear tu nTkA nTkW nTkT nTkG oT
      have oT := mkT
      clear mkT
      clear oT
      obtain ⟨dkG0, dkG1, dkG2⟩ := kG.three
      obtain ⟨dkW0, dkW1, dkW2⟩ := kW.three
      go_wp2_with (fail)
      (with_reducible refine (laws_eqMatrix nr nc _ _ ns _ oG.ints oW.ints).mono ?_)
      rintro e u8 ⟨rfl, z8⟩
      clear dkG0 dkG1 dkG2
      clear dkW0 dkW1 dkW2
      replace kA := kA.keep z8
      replace kW := kW.keep z8
      replace kT := kT.keep z8
      replace kG := kG.keep z8
      replace oW := oW.keep z8
      replace oG := oG.keep z8
      replace hx := hx.trans z8
      clear z8
      have bG := Kept.mk ((oG.mono hBG.out).block)
      have nGkA := oG.ne kA (by decide)
      have nGkW := oG.ne kW (by decide)
      have nGkT := oG.ne kT (by decide)
      have nGkG := oG.ne kG (by decide)
      obtain ⟨dkG0, dkG1, dkG2⟩ := kG.three
      go_wp2_with (fail)
      (with_reducible refine (laws_markMatrix _ nr nc _ ns 1 ns.length rfl _ oG (by omega) (by have := NL.out; omega)).mono ?_)
      rintro e u9 ⟨rfl, mkG, tu⟩
      clear dkG0 dkG1 dkG2
      replace kA := tu.blk kA (nGkA)
      replace kW := tu.blk kW (nGkW)
      replace kT := tu.blk kT (nGkT)
      replace kG := tu.blk kG (nGkG)
      replace oW := tu.own oW sGW.out.1
      replace hx := tu.ext hx (fun q hq => (bG.out q hq).1)
      clear tu nGkA nGkW nGkT nGkG oG
      have oG := mkG
      clear mkG
      obtain ⟨dkG0, dkG1, dkG2⟩ := kG.three
      go_wp2_with (fail)
      (with_reducible refine (laws_heldMatrix nr nc _ 1 ns.length _ oG.ints (by omega) (by have := NL.out; omega)).mono ?_)
      rintro e u10 ⟨rfl, z10⟩
      clear dkG0 dkG1 dkG2
      replace kA := kA.keep z10
      replace kW := kW.keep z10
      replace kT := kT.keep z10
      replace kG := kG.keep z10
      replace oW := oW.keep z10
      replace oG := oG.keep z10
      replace hx := hx.trans z10
      clear z10
      obtain ⟨dkA0, dkA1, dkA2⟩ := kA.three
      go_wp2_with (fail)
      (with_reducible refine (TO.out _ hx).mono ?_)
      rintro e u11 ⟨vE, rfl, oE, z11⟩
      clear dkA0 dkA1 dkA2
      have sEW := Kept.mk (apart oW oE)
      have sEG := Kept.mk (apart oG oE)
      obtain ⟨pE, mE, hvE, -, -⟩ := id oE.ints
      try simp only at hvE
      subst hvE
      replace kA := kA.keep z11
      replace kW := kW.keep z11
      replace kT := kT.keep z11
      replace kG := kG.keep z11
      replace oW := oW.keep z11
      replace oG := oG.keep z11
      replace hx := hx.trans z11
      clear z11
      go_wp2_with (fail)
      (with_reducible refine (IP.out _ _ (oE.mono (Nat.zero_le _))).mono ?_)
      rintro e u12 ⟨vH, rfl, oH, z12⟩
      have sHW := Kept.mk (apart oW oH)
      have sHG := Kept.mk (apart oG oH)
      have sHE := Kept.mk (apart oE oH)
      obtain ⟨pH, mH, hvH, -, -⟩ := id oH.ints
      try simp only at hvH
      subst hvH
      replace kA := kA.keep z12
      replace kW := kW.keep z12
      replace kT := kT.keep z12
      replace kG := kG.keep z12
      replace oW := oW.keep z12
      replace oG := oG.keep z12
      replace oE := oE.keep z12
      replace hx := hx.trans z12
      clear z12
      clear oE
      have kH := Blk.new u12 #[.int .i64 nr, .int .i64 nc, .slice pH ns.length mH] 26
      replace kA := kA.old (.cells #[.int .i64 nr, .int .i64 nc, .slice pH ns.length mH] 26)
      replace kW := kW.old (.cells #[.int .i64 nr, .int .i64 nc, .slice pH ns.length mH] 26)
      replace kT := kT.old (.cells #[.int .i64 nr, .int .i64 nc, .slice pH ns.length mH] 26)
      replace kG := kG.old (.cells #[.int .i64 nr, .int .i64 nc, .slice pH ns.length mH] 26)
      replace oW := oW.keep ((Ext.refl u12).alloc (.cells #[.int .i64 nr, .int .i64 nc, .slice pH ns.length mH] 26))
      replace oG := oG.keep ((Ext.refl u12).alloc (.cells #[.int .i64 nr, .int .i64 nc, .slice pH ns.length mH] 26))
      replace oH := oH.keep ((Ext.refl u12).alloc (.cells #[.int .i64 nr, .int .i64 nc, .slice pH ns.length mH] 26))
      replace hx := hx.alloc (.cells #[.int .i64 nr, .int .i64 nc, .slice pH ns.length mH] 26)
      obtain ⟨dkH0, dkH1, dkH2⟩ := kH.three
      obtain ⟨dkW0, dkW1, dkW2⟩ := kW.three
      go_wp2_with (fail)
      (with_reducible refine (laws_eqMatrix nr nc _ _ ns _ oH.ints oW.ints).mono ?_)
      rintro e u13 ⟨rfl, z13⟩
      clear dkH0 dkH1 dkH2
      clear dkW0 dkW1 dkW2
      replace kA := kA.keep z13
      replace kW := kW.keep z13
      replace kT := kT.keep z13
      replace kG := kG.keep z13
      replace kH := kH.keep z13
      replace oW := oW.keep z13
      replace oG := oG.keep z13
      replace oH := oH.keep z13
      replace hx := hx.trans z13
      clear z13
      obtain ⟨dkG0, dkG1, dkG2⟩ := kG.three
      go_wp2_with (fail)
      (with_reducible refine (laws_heldMatrix nr nc _ 1 ns.length _ oG.ints (by omega) (by have := NL.out; omega)).mono ?_)
      rintro e u14 ⟨rfl, z14⟩
      clear dkG0 dkG1 dkG2
      replace kA := kA.keep z14
      replace kW := kW.keep z14
      replace kT := kT.keep z14
      replace kG := kG.keep z14
      replace kH := kH.keep z14
      replace oW := oW.keep z14
      replace oG := oG.keep z14
      replace oH := oH.keep z14
      replace hx := hx.trans z14
      clear z14
      have HX := Kept.mk hx
      clear hx kA kW kT kG kH oW oG oH
      go_wp2
      go_ret
      exact ⟨rfl, HX.out⟩
theorem iadd_at (b o i : Nat) : (⟨b, o, none⟩ : Addr).add i = ⟨b, o + i, none⟩ := by
  unfold Addr.add; by_cases h : i = 0
  · subst h; rfl
  · rw [if_neg h]
theorem icell_lt {w : World} {b o : Nat} {v : Value} (h : w.cell? ⟨b, o, none⟩ = some v) : b < w.heap.size := by
  apply Classical.byContradiction
  intro hn
  have : w.heap[b]? = none := by simp; omega
  simp [World.cell?, this] at h
theorem ints_of {H : Type} {enc : TypeId × Value → H} {w : World} {base : Nat} {spare : Nat → Bool} {held : Bool} {fuel : Nat} {c : Value} {x : DataW H × List MemPlace}
    (h : DataW.trod enc Try.prog w base spare held fuel 22 [c] = some x) : ∃ xs, Ints w c xs := by
  rcases open_ints Try.underlying22 Try.underlying3 (by kernel_rfl) h with ⟨hcs, _⟩ | ⟨y, l, cp, zs, hcs, _, hl, hm, hz, _, hcell, hwz⟩
  · simp at hcs
    subst hcs
    exact ⟨[], none, 0, rfl, Nat.zero_le _, fun i hi => absurd hi (Nat.not_lt_zero _)⟩
  · simp at hcs
    subst hcs
    have hz' : l ≤ zs.length := by rw [hz]; split <;> omega
    have hlen : (zs.take l).length = l := by rw [List.length_take]; omega
    refine ⟨zs.take l, some y, cp, by rw [hlen], by rw [hlen]; omega, fun i hi => ?_⟩
    rw [hlen] at hi
    have hci := hcell i (by omega)
    obtain ⟨b, off, spot⟩ := y
    have hspot : spot = none := by
      have h0 := hcell 0 (by omega)
      simpa [Addr.add] using World.cell?_spot h0
    subst hspot
    rw [iadd_at] at hci
    refine ⟨b, off, rfl, icell_lt hci, ?_⟩
    rw [hci]
    have h1 : i < zs.length := by omega
    simp [hi, h1]
theorem cells_mi : Try.prog.cellsOf 3 = 1 := by kernel_rfl
theorem cells_ml : Try.prog.cellsOf 22 = 1 := by kernel_rfl
theorem cells_mat : Try.prog.cellsOf 24 = 3 := by kernel_rfl
theorem trod_mat {H : Type} {enc : TypeId × Value → H} {w : World} {base : Nat} {spare : Nat → Bool} {held : Bool} {n : Nat} {c0 c1 c2 : Value} {x : DataW H × List MemPlace} (h : DataW.trod enc Try.prog w base spare held n 24 [c0, c1, c2] = some x) :
    ∃ (a b : Int) (xs : List Int), c0 = .int .i64 a ∧ c1 = .int .i64 b ∧ Ints w c2 xs := by
  obtain ⟨_, hf⟩ := struct_field Try.underlying24 h
  obtain ⟨_, _, t0⟩ := hf 0 _ rfl
  obtain ⟨_, _, t1⟩ := hf 1 _ rfl
  obtain ⟨_, _, t2⟩ := hf 2 _ rfl
  simp [cells_mi, cells_ml] at t0 t1 t2
  obtain ⟨a, e0, b0⟩ := leaf_int Try.underlying3 t0
  obtain ⟨b, e1, b1⟩ := leaf_int Try.underlying3 t1
  simp at e0 e1
  obtain ⟨xs, hx⟩ := ints_of t2
  exact ⟨a, b, xs, e0, e1, hx⟩

set_option maxRecDepth 100000 in
theorem lifted_FnExactMapMatrix (os : Os) (started : os.Started) (H : Type) (enc : TypeId × Value → H) :
    ReturnsInHanded {} Try.checked os 7 .any (Rows.fnExactMapMatrixSpec.pre6 enc Try.prog Try.f7 Rows.fnExactMapMatrixRow.domain false) (Rows.fnExactMapMatrixSpec.post enc Try.prog Try.f7 false true false false) := by
  refine returnsInHanded_of_change (C := Try.checked) own started (by kernel_rfl) Try.func7
    (ChangeSpec.witness6 (enc := enc) (C := Try.checked) false ⟨#[], #[.int .i64 0, .agg #[.int .i64 0, .int .i64 0, .slice none 0 0]], []⟩ 8 (by kernel_rfl) (by kernel_rfl) (by kernel_rfl) (by kernel_rfl)) ?_
  intro W base args ds gs before hval0 hW hcnd _
  have hval : ∀ (j : Nat) t v, Try.f7.params[j]? = some t → args[j]? = some v → Value.okWide Try.prog W .any base t v := hval0
  have hW' := hW
  obtain ⟨p, q, hA0, hV, rfl, hfz, hnd⟩ := hW
  have hA : DataW.TrodAll enc Try.prog W 0 (fun _ => true) true Try.f7.params.toList args.toList ds p := hA0
  rw [Try.params7] at hA hval
  obtain ⟨v0, vs0, d0, ds0, p0, q0, hargs, rfl, rfl, h0, r0⟩ := trodAll_cons hA
  obtain ⟨v1, vs1, d1, ds1, p1, q1, rfl, rfl, rfl, h1, r1⟩ := trodAll_cons r0
  obtain ⟨rfl, rfl, rfl⟩ := trodAll_nil r1
  obtain rfl : args = #[v0, v1] := by cases args; simp_all
  obtain ⟨rfl, rfl⟩ := trodVars_none hV
  have k0 := h0
  have lt0 : ∀ x ∈ p0, x.block < W.heap.size := by obtain ⟨m, hm⟩ := k0; exact DataW.trod_lt m _ _ _ hm
  obtain ⟨a0, rfl, rfl, rfl, w0⟩ := open_int Try.underlying3 (hval 0 3 v0 rfl rfl) h0
  have k1 := h1
  have lt1 : ∀ x ∈ p1, x.block < W.heap.size := by obtain ⟨m, hm⟩ := k1; exact DataW.trod_lt m _ _ _ hm
  obtain ⟨cs1, rfl, hs1⟩ := okWide_struct Try.underlying24 (hval 1 24 v1 rfl rfl)
  rw [cells_mat] at hs1
  obtain ⟨cs1⟩ := cs1
  obtain ⟨c10, c11, c12, rfl⟩ := list3 (l := cs1) (by simpa using hs1)
  obtain ⟨fu1, hf1⟩ := h1
  obtain ⟨a10, a11, xs1, rfl, rfl, ix1⟩ := trod_mat (by simpa [Value.cells] using hf1)
  clear hA0 hval0
  refine (walk_FnExactMapMatrix a0 a10 a11 c12 xs1 W ix1).mono fun e W' ⟨he, bel⟩ => ?_
  subst he
  exact ⟨_, rfl, _, _, _, [], _, [], hW', trodAll_mk1 (shut_bool Try.underlying4 _), (trodAll_cons_mk (shut_int Try.underlying3 w0) (trodAll_cons_mk (Below.trod laidOut (by kernel_rfl) (of_decide_eq_true (by kernel_rfl)) k1 bel lt1) trodAll_mk0)), rfl, Below.frame bel _, fun h => by cases h⟩
theorem proved_FnExactMapMatrix : Rows.FnExactMapMatrixSaid :=
  OpenClaim.holds_of_wide 7 Try.f7 rfl rfl rfl rfl rfl rfl rfl ⟨rfl, rfl, rfl, rfl, rfl⟩ rfl rfl rfl rfl rfl (by kernel_rfl) Try.func7 (by kernel_rfl)
    (of_decide_eq_true (by kernel_rfl)) (by unfold Func.isWrapper; rw [if_neg (of_decide_eq_false (by kernel_rfl))]; exact ⟨rfl, rfl⟩)
    (fun os started H enc _ => lifted_FnExactMapMatrix os started H enc)
#print axioms proved_FnExactMapMatrix

end Go.Proofs.Ytdljakpkhheepaa
