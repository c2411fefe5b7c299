/- The walk through the law FnExactRowSums. -/
import Derived.Test.YtdljakpkhheepaaSRow
import Derived.Test.YtdljakpkhheepaaExL
namespace Go.Proofs.Ytdljakpkhheepaa
set_option linter.unusedSimpArgs false
set_option linter.unusedVariables false
open Go.RowKit
theorem rowSums_len (r c : Int) (xs : List Int) : (rowSums r c xs).xs.length ≤ 25 := by
  unfold rowSums
  split
  · rename_i h
    obtain ⟨R, C, rfl, _, _, h5, _⟩ := mOk_nat h
    simp only [mapTo_len, Int.toNat_natCast]
    omega
  · exact Nat.zero_le _

set_option maxHeartbeats 8000000 in
set_option maxRecDepth 4000 in
theorem walk_FnExactRowSums (ra0 ca0 : Int) (vxa0 : Value) (xa0 : List Int) (w : World) (hxa0 : Ints w vxa0 xa0) : Calls Try.prog 3 #[.agg #[.int .i64 ra0, .int .i64 ca0, vxa0]] w fun e w' => e = .returned (.bool true) ∧ Ext w w' := by
  obtain ⟨sa0, na0, rfl, hm9, hc9⟩ := id hxa0
  clear hm9 hc9
  have Hxa0 := Kept.mk hxa0
  clear hxa0
  obtain ⟨Ta, hTa⟩ : ∃ T : Nat, T = xa0.length := ⟨_, rfl⟩
  by_cases da : (1048576 : Int) - (Ta : Int) < 0
  · have Za : Kept (∀ w', Ext w w' → Calls Try.prog 15 #[.agg #[.int .i64 ra0, .int .i64 ca0, .slice sa0 xa0.length na0], .int .i64 1048576] w' fun e w'' => e = .returned (.int .i64 (-1)) ∧ Ext w' w'') := by
      refine ⟨fun w' hx => ?_⟩
      have h := laws_szMatrix ra0 ca0 _ xa0 1048576 w' (Hxa0.out.keep hx) (by omega) (by omega)
      rw [show (if (1048576 : Int) - (xa0.length : Int) < 0 then (-1 : Int) else 1048576 - (xa0.length : Int)) = if 1048576 - (Ta : Int) < 0 then -1 else 1048576 - (Ta : Int) by rw [hTa]] at h
      rw [if_pos da] at h
      exact h
    clear da hTa
    have X := Kept.mk ((Ext.refl w).alloc (.cells #[.int .i64 ra0, .int .i64 ca0, .slice sa0 xa0.length na0] 24))
    have ka := Blk.new w #[.int .i64 ra0, .int .i64 ca0, .slice sa0 xa0.length na0] 24
    go_enter Try.func3, Try.ntmps3
    obtain ⟨aka0, aka1, aka2⟩ := ka.three
    go_wp2_with (fail)
    clear aka0 aka1 aka2
    (with_reducible refine (Za.out _ X.out).mono ?_)
    rintro e u1 ⟨rfl, x9⟩
    replace X := Kept.mk (X.out.trans x9)
    replace ka := ka.keep x9
    clear x9
    clear ka
    go_wp2
    go_ret
    exact ⟨rfl, X.out⟩
  · have Za : Kept (∀ w', Ext w w' → Calls Try.prog 15 #[.agg #[.int .i64 ra0, .int .i64 ca0, .slice sa0 xa0.length na0], .int .i64 1048576] w' fun e w'' => e = .returned (.int .i64 (1048576 - (Ta : Int))) ∧ Ext w' w'') := by
      refine ⟨fun w' hx => ?_⟩
      have h := laws_szMatrix ra0 ca0 _ xa0 1048576 w' (Hxa0.out.keep hx) (by omega) (by omega)
      rw [show (if (1048576 : Int) - (xa0.length : Int) < 0 then (-1 : Int) else 1048576 - (xa0.length : Int)) = if 1048576 - (Ta : Int) < 0 then -1 else 1048576 - (Ta : Int) by rw [hTa]] at h
      rw [if_neg da] at h
      exact h
    have ga : decide (1048576 - (Ta : Int) < 0) = false := by simp; omega
    have Lxa0 : Kept (xa0.length ≤ 1048576) := ⟨by omega⟩
    have TOa : Kept (∀ w', Ext w w' → Calls Try.prog 17 #[.agg #[.int .i64 ra0, .int .i64 ca0, .slice sa0 xa0.length na0]] w' fun e w'' => ∃ v0, e = .returned (.agg #[.int .i64 ra0, .int .i64 ca0, v0]) ∧ Grp w'.heap.size w'' [v0] [xa0] ∧ Ext w' w'') := ⟨fun w' hx => (laws_toMatrix ra0 ca0 _ xa0 w' (Hxa0.out.keep hx) Lxa0.out).mono fun e w'' h => h.grp⟩
    obtain ⟨DR, hDR⟩ : ∃ D, D = rowSums ra0 ca0 xa0 := ⟨_, rfl⟩
    have NL := rowSums_len ra0 ca0 xa0
    rw [← hDR] at NL
    obtain ⟨gr0, gc0, gs0⟩ := DR
    simp only at NL
    have NL := Kept.mk NL
    have SP : Kept (∀ (ua0 : Value) (w' : World), Arg w' ua0 xa0 → Calls Try.prog 16 #[.agg #[.int .i64 ra0, .int .i64 ca0, ua0]] w' fun e w'' => ∃ y0, e = .returned (.agg #[.int .i64 gr0, .int .i64 gc0, y0]) ∧ Grp w'.heap.size w'' [y0] [gs0] ∧ Ext w' w'') := by
      refine ⟨fun ua0 w' fa0 => ?_⟩
      have h := (spec_RowSums ra0 ca0 ua0 xa0 w' fa0).mono fun e w'' h => h.grp
      rw [← hDR] at h
      exact h
    have IP : Kept (∀ (ua0 : Value) (w' : World), Arg w' ua0 xa0 → Calls Try.prog 18 #[.agg #[.int .i64 ra0, .int .i64 ca0, ua0]] w' fun e w'' => ∃ y0, e = .returned (.agg #[.int .i64 gr0, .int .i64 gc0, y0]) ∧ Grp w'.heap.size w'' [y0] [gs0] ∧ Ext w' w'') := by
      refine ⟨fun ua0 w' fa0 => ?_⟩
      have h := (impl_RowSums ra0 ca0 ua0 xa0 w' fa0.ints fa0.fit).mono fun e w'' h => h.grp
      rw [← hDR] at h
      exact h
    clear hDR hTa da
    have X := Kept.mk ((Ext.refl w).alloc (.cells #[.int .i64 ra0, .int .i64 ca0, .slice sa0 xa0.length na0] 24))
    have ka := Blk.new w #[.int .i64 ra0, .int .i64 ca0, .slice sa0 xa0.length na0] 24
    go_enter Try.func3, Try.ntmps3
    obtain ⟨aka0, aka1, aka2⟩ := ka.three
    go_wp2_with (fail)
    clear aka0 aka1 aka2
    (with_reducible refine (Za.out _ X.out).mono ?_)
    rintro e u1 ⟨rfl, x9⟩
    replace X := Kept.mk (X.out.trans x9)
    replace ka := ka.keep x9
    clear x9
    clear Za
    obtain ⟨aka0, aka1, aka2⟩ := ka.three
    go_wp2_with (fail)
    clear aka0 aka1 aka2
    (with_reducible refine (TOa.out _ X.out).mono ?_)
    rintro e u2 ⟨vWq0, rfl, gWq, x9⟩
    obtain ⟨⟨q90, -⟩, -⟩ := id gWq
    obtain ⟨pWq0, mWq0, hu9, -, -⟩ := id q90.ints
    try simp only at hu9
    subst hu9
    clear q90
    replace gWq := gWq.mono X.out.size
    replace X := Kept.mk (X.out.trans x9)
    replace ka := ka.keep x9
    clear x9
    go_wp2_with (fail)
    (with_reducible refine (SP.out _ _ (gWq.o0.arg Lxa0.out)).mono ?_)
    rintro e u3 ⟨vW0, rfl, gW, x9⟩
    have sW_Wq := Kept.mk (gWq.sep gW)
    obtain ⟨⟨q90, -⟩, -⟩ := id gW
    obtain ⟨pW0, mW0, hu9, -, -⟩ := id q90.ints
    try simp only at hu9
    subst hu9
    clear q90
    replace gW := gW.mono X.out.size
    replace X := Kept.mk (X.out.trans x9)
    replace ka := ka.keep x9
    replace gWq := gWq.keep x9
    clear x9
    clear gWq
    have kW := Blk.new u3 #[.int .i64 gr0, .int .i64 gc0, .slice pW0 gs0.length mW0] 26
    replace ka := ka.old (.cells #[.int .i64 gr0, .int .i64 gc0, .slice pW0 gs0.length mW0] 26)
    replace gW := gW.keep ((Ext.refl u3).alloc (.cells #[.int .i64 gr0, .int .i64 gc0, .slice pW0 gs0.length mW0] 26))
    replace X := Kept.mk (X.out.alloc (.cells #[.int .i64 gr0, .int .i64 gc0, .slice pW0 gs0.length mW0] 26))
    obtain ⟨aka0, aka1, aka2⟩ := ka.three
    go_wp2_with (fail)
    clear aka0 aka1 aka2
    (with_reducible refine (TOa.out _ X.out).mono ?_)
    rintro e u4 ⟨vTa0, rfl, gTa, x9⟩
    have sTa_W := Kept.mk (gW.sep gTa)
    obtain ⟨⟨q90, -⟩, -⟩ := id gTa
    obtain ⟨pTa0, mTa0, hu9, -, -⟩ := id q90.ints
    try simp only at hu9
    subst hu9
    clear q90
    replace gTa := gTa.mono X.out.size
    replace X := Kept.mk (X.out.trans x9)
    replace ka := ka.keep x9
    replace kW := kW.keep x9
    replace gW := gW.keep x9
    clear x9
    have kTa := Blk.new u4 #[.int .i64 ra0, .int .i64 ca0, .slice pTa0 xa0.length mTa0] 26
    replace ka := ka.old (.cells #[.int .i64 ra0, .int .i64 ca0, .slice pTa0 xa0.length mTa0] 26)
    replace kW := kW.old (.cells #[.int .i64 ra0, .int .i64 ca0, .slice pTa0 xa0.length mTa0] 26)
    replace gW := gW.keep ((Ext.refl u4).alloc (.cells #[.int .i64 ra0, .int .i64 ca0, .slice pTa0 xa0.length mTa0] 26))
    replace gTa := gTa.keep ((Ext.refl u4).alloc (.cells #[.int .i64 ra0, .int .i64 ca0, .slice pTa0 xa0.length mTa0] 26))
    replace X := Kept.mk (X.out.alloc (.cells #[.int .i64 ra0, .int .i64 ca0, .slice pTa0 xa0.length mTa0] 26))
    obtain ⟨akTa0, akTa1, akTa2⟩ := kTa.three
    go_wp2_with (fail)
    clear akTa0 akTa1 akTa2
    (with_reducible refine (IP.out _ _ (gTa.o0.arg Lxa0.out)).mono ?_)
    rintro e u5 ⟨vG0, rfl, gG, x9⟩
    have sG_W := Kept.mk (gW.sep gG)
    have sG_Ta := Kept.mk (gTa.sep gG)
    obtain ⟨⟨q90, -⟩, -⟩ := id gG
    obtain ⟨pG0, mG0, hu9, -, -⟩ := id q90.ints
    try simp only at hu9
    subst hu9
    clear q90
    replace gG := gG.mono X.out.size
    replace X := Kept.mk (X.out.trans x9)
    replace ka := ka.keep x9
    replace kW := kW.keep x9
    replace kTa := kTa.keep x9
    replace gW := gW.keep x9
    replace gTa := gTa.keep x9
    clear x9
    have kG := Blk.new u5 #[.int .i64 gr0, .int .i64 gc0, .slice pG0 gs0.length mG0] 26
    replace ka := ka.old (.cells #[.int .i64 gr0, .int .i64 gc0, .slice pG0 gs0.length mG0] 26)
    replace kW := kW.old (.cells #[.int .i64 gr0, .int .i64 gc0, .slice pG0 gs0.length mG0] 26)
    replace kTa := kTa.old (.cells #[.int .i64 gr0, .int .i64 gc0, .slice pG0 gs0.length mG0] 26)
    replace gW := gW.keep ((Ext.refl u5).alloc (.cells #[.int .i64 gr0, .int .i64 gc0, .slice pG0 gs0.length mG0] 26))
    replace gTa := gTa.keep ((Ext.refl u5).alloc (.cells #[.int .i64 gr0, .int .i64 gc0, .slice pG0 gs0.length mG0] 26))
    replace gG := gG.keep ((Ext.refl u5).alloc (.cells #[.int .i64 gr0, .int .i64 gc0, .slice pG0 gs0.length mG0] 26))
    replace X := Kept.mk (X.out.alloc (.cells #[.int .i64 gr0, .int .i64 gc0, .slice pG0 gs0.length mG0] 26))
    obtain ⟨akG0, akG1, akG2⟩ := kG.three
    obtain ⟨akW0, akW1, akW2⟩ := kW.three
    go_wp2_with (fail)
    clear akG0 akG1 akG2
    clear akW0 akW1 akW2
    (with_reducible refine (laws_eqMatrix gr0 gc0 _ _ gs0 _ gG.o0.ints gW.o0.ints).mono ?_)
    rintro e u6 ⟨rfl, x9⟩
    replace X := Kept.mk (X.out.trans x9)
    replace ka := ka.keep x9
    replace kW := kW.keep x9
    replace kTa := kTa.keep x9
    replace kG := kG.keep x9
    replace gW := gW.keep x9
    replace gTa := gTa.keep x9
    replace gG := gG.keep x9
    clear x9
    obtain ⟨aka0, aka1, aka2⟩ := ka.three
    obtain ⟨akTa0, akTa1, akTa2⟩ := kTa.three
    go_wp2_with (fail)
    clear aka0 aka1 aka2
    clear akTa0 akTa1 akTa2
    apply wp_region_zip [isv _, isv _, grpR1 ra0 ca0 xa0, isv _, isv _] _ (by kernel_rfl)
    case hA => intro V; simp [putAll, dstOf, Act.put]; exact rfl
    case hsl => intro V; exact rfl
    case step =>
      intro V lo up w' hr
      obtain ⟨hcr, hzr⟩ := hr.cells
      have hsr := hr.size
      have ka := ka.keep hr
      have kW := kW.keep hr
      have kTa := kTa.keep hr
      have kG := kG.keep hr
      have gW := gW.keep hr
      have gTa := gTa.keep hr
      have gG := gG.keep hr
      have hxr := X.out.trans hr
      obtain ⟨aka0, aka1, aka2⟩ := ka.three
      obtain ⟨akTa0, akTa1, akTa2⟩ := kTa.three
      simp only [zipOk, depsImp, isv, grpR1, modeNg, newb, waits, Region.binds, List.map_nil, List.map_cons, List.headD_cons, List.nil_append, List.cons_append, List.filterMap_cons, List.filterMap_nil, ↓reduceIte, modeNe, Bool.false_eq_true, true_implies, List.getD_cons_zero, List.getD_cons_succ, and_true]
      refine ⟨?_, ?_, ?_, ?_, ?_⟩
      · intros
        go_wp2
        refine stepQ_mk rfl (by simp only [List.getElem?_toArray, List.getElem?_cons_succ, List.getElem?_cons_zero]; exact rfl) ?_
        exact ⟨Ext.refl _, rfl⟩
      · intros
        go_wp2
        refine stepQ_mk rfl (by simp only [List.getElem?_toArray, List.getElem?_cons_succ, List.getElem?_cons_zero]; exact rfl) ?_
        exact ⟨Ext.refl _, rfl⟩
      · intros
        go_wp2_with (fail)
        (with_reducible refine (TOa.out _ hxr).mono ?_)
        rintro e w9 ⟨v90, rfl, g9, x9⟩
        go_wp2
        refine stepQ_mk rfl (by simp only [List.getElem?_toArray, List.getElem?_cons_succ, List.getElem?_cons_zero]; exact rfl) ?_
        exact ⟨x9, v90, rfl, g9⟩
      · intro _ _ _ e0 _ _ _ ⟨v90, e9, g9⟩
        intros
        go_wp2_with (fail)
        (with_reducible refine (laws_eqMatrix ra0 ca0 _ _ xa0 _ gTa.o0.ints g9.o0.ints).mono ?_)
        rintro e w9 ⟨rfl, x9⟩
        go_wp2
        refine stepQ_mk rfl (by simp only [List.getElem?_toArray, List.getElem?_cons_succ, List.getElem?_cons_zero]; exact rfl) ?_
        exact ⟨x9, rfl⟩
      · intros
        go_wp2
        refine stepQ_mk rfl (by simp only [List.getElem?_toArray, List.getElem?_cons_succ, List.getElem?_cons_zero]; exact rfl) ?_
        exact ⟨Ext.refl _, rfl⟩
    case hB => kernel_rfl
    case fin =>
      intro V lo up w' hr hf ha
      simp only [factsOk, isv, grpR1, modeNg, newb, List.map_nil, List.map_cons, List.headD_cons, and_true, Nat.zero_add, Nat.reduceAdd] at hf
      simp only [List.length_cons, List.length_nil, Nat.zero_add, Nat.reduceAdd, List.drop_succ_cons, List.drop_zero]
      obtain ⟨-, -, -, -, ⟨-, -, -, e4⟩⟩ := hf
      have tgW := gW
      have tgTa := gTa
      have tgG := gG
      have zka := ka.lt
      have zkW := kW.lt
      have zkTa := kTa.lt
      have zkG := kG.lt
      clear ha
      replace ka := ka.keep hr
      replace kW := kW.keep hr
      replace kTa := kTa.keep hr
      replace kG := kG.keep hr
      replace gW := gW.keep hr
      replace gTa := gTa.keep hr
      replace gG := gG.keep hr
      replace X := Kept.mk (X.out.trans hr)
      rw [e4]
      clear e4 hr
      try clear hc hz
      obtain ⟨Ka, hKa⟩ : ∃ K : Int, K = 1 + (totL [xa0.length] : Nat) := ⟨_, rfl⟩
      have hka : 0 ≤ Ka ∧ Ka ≤ 7000000 := by rw [hKa]; simp only [totL]; have := Lxa0.out; omega
      obtain ⟨akTa0, akTa1, akTa2⟩ := kTa.three
      go_wp2_with (fail)
      clear akTa0 akTa1 akTa2
      (with_reducible refine (laws_markMatrixG _ ra0 ca0 _ xa0 1 _ rfl _ gTa (by omega) (by have := Lxa0.out; omega)).mono ?_)
      rintro e u7 ⟨e9, mk9, t9⟩
      rw [← hKa] at e9
      subst e9
      clear hKa
      replace ka := gTa.blk t9 ka (by decide)
      replace kW := gTa.blk t9 kW (by decide)
      replace kTa := gTa.blk t9 kTa (by decide)
      replace kG := gTa.blk t9 kG (by decide)
      replace gW := gW.turned t9 sTa_W.out.symm
      replace gG := gG.turned t9 sG_Ta.out
      replace X := Kept.mk (t9.ext0 X.out (fun v hv q hq => (gTa.own.block v hv q hq).1))
      clear t9 gTa
      have gTa := mk9
      clear mk9
      have hkn : decide (Ka < 0) = false := by simp; omega
      obtain ⟨akG0, akG1, akG2⟩ := kG.three
      obtain ⟨akW0, akW1, akW2⟩ := kW.three
      go_wp2_with (fail)
      clear akG0 akG1 akG2
      clear akW0 akW1 akW2
      (with_reducible refine (laws_eqMatrix gr0 gc0 _ _ gs0 _ gG.o0.ints gW.o0.ints).mono ?_)
      rintro e u8 ⟨rfl, x9⟩
      replace X := Kept.mk (X.out.trans x9)
      replace ka := ka.keep x9
      replace kW := kW.keep x9
      replace kTa := kTa.keep x9
      replace kG := kG.keep x9
      replace gW := gW.keep x9
      replace gTa := gTa.keep x9
      replace gG := gG.keep x9
      clear x9
      clear gTa kTa
      obtain ⟨KG, hKG⟩ : ∃ K : Int, K = 1 + (totL [gs0.length] : Nat) := ⟨_, rfl⟩
      have hkG : decide (KG < 0) = false := by rw [hKG]; simp; omega
      obtain ⟨akG0, akG1, akG2⟩ := kG.three
      go_wp2_with (fail)
      clear akG0 akG1 akG2
      (with_reducible refine (laws_markMatrixG _ gr0 gc0 _ gs0 1 _ rfl _ gG (by omega) (by have := NL.out; omega)).mono ?_)
      rintro e u9 ⟨e9, mk9, t9⟩
      rw [← hKG] at e9
      subst e9
      replace ka := gG.blk t9 ka (by decide)
      replace kW := gG.blk t9 kW (by decide)
      replace kG := gG.blk t9 kG (by decide)
      replace gW := gW.turned t9 sG_W.out.symm
      replace X := Kept.mk (t9.ext0 X.out (fun v hv q hq => (gG.own.block v hv q hq).1))
      clear t9 gG
      have gG := mk9
      clear mk9
      obtain ⟨akG0, akG1, akG2⟩ := kG.three
      go_wp2_with (fail)
      clear akG0 akG1 akG2
      (with_reducible refine (laws_heldMatrixG gr0 gc0 _ 1 gs0.length _ gG.own.ints (by omega) (by have := NL.out; omega)).mono ?_)
      rintro e u10 ⟨e9, x9⟩
      rw [← hKG] at e9
      subst e9
      replace X := Kept.mk (X.out.trans x9)
      replace ka := ka.keep x9
      replace kW := kW.keep x9
      replace kG := kG.keep x9
      replace gW := gW.keep x9
      replace gG := gG.keep x9
      clear x9
      obtain ⟨aka0, aka1, aka2⟩ := ka.three
      go_wp2_with (fail)
      clear aka0 aka1 aka2
      (with_reducible refine (TOa.out _ X.out).mono ?_)
      rintro e u11 ⟨vHq0, rfl, gHq, x9⟩
      have sHq_W := Kept.mk (gW.sep gHq)
      have sHq_G := Kept.mk (gG.sep gHq)
      obtain ⟨⟨q90, -⟩, -⟩ := id gHq
      obtain ⟨pHq0, mHq0, hu9, -, -⟩ := id q90.ints
      try simp only at hu9
      subst hu9
      clear q90
      replace gHq := gHq.mono X.out.size
      replace X := Kept.mk (X.out.trans x9)
      replace ka := ka.keep x9
      replace kW := kW.keep x9
      replace kG := kG.keep x9
      replace gW := gW.keep x9
      replace gG := gG.keep x9
      clear x9
      go_wp2_with (fail)
      (with_reducible refine (IP.out _ _ (gHq.o0.arg Lxa0.out)).mono ?_)
      rintro e u12 ⟨vH0, rfl, gH, x9⟩
      have sH_W := Kept.mk (gW.sep gH)
      have sH_G := Kept.mk (gG.sep gH)
      have sH_Hq := Kept.mk (gHq.sep gH)
      obtain ⟨⟨q90, -⟩, -⟩ := id gH
      obtain ⟨pH0, mH0, hu9, -, -⟩ := id q90.ints
      try simp only at hu9
      subst hu9
      clear q90
      replace gH := gH.mono X.out.size
      replace X := Kept.mk (X.out.trans x9)
      replace ka := ka.keep x9
      replace kW := kW.keep x9
      replace kG := kG.keep x9
      replace gW := gW.keep x9
      replace gG := gG.keep x9
      replace gHq := gHq.keep x9
      clear x9
      clear gHq
      have kH := Blk.new u12 #[.int .i64 gr0, .int .i64 gc0, .slice pH0 gs0.length mH0] 26
      replace ka := ka.old (.cells #[.int .i64 gr0, .int .i64 gc0, .slice pH0 gs0.length mH0] 26)
      replace kW := kW.old (.cells #[.int .i64 gr0, .int .i64 gc0, .slice pH0 gs0.length mH0] 26)
      replace kG := kG.old (.cells #[.int .i64 gr0, .int .i64 gc0, .slice pH0 gs0.length mH0] 26)
      replace gW := gW.keep ((Ext.refl u12).alloc (.cells #[.int .i64 gr0, .int .i64 gc0, .slice pH0 gs0.length mH0] 26))
      replace gG := gG.keep ((Ext.refl u12).alloc (.cells #[.int .i64 gr0, .int .i64 gc0, .slice pH0 gs0.length mH0] 26))
      replace gH := gH.keep ((Ext.refl u12).alloc (.cells #[.int .i64 gr0, .int .i64 gc0, .slice pH0 gs0.length mH0] 26))
      replace X := Kept.mk (X.out.alloc (.cells #[.int .i64 gr0, .int .i64 gc0, .slice pH0 gs0.length mH0] 26))
      obtain ⟨akH0, akH1, akH2⟩ := kH.three
      obtain ⟨akW0, akW1, akW2⟩ := kW.three
      go_wp2_with (fail)
      clear akH0 akH1 akH2
      clear akW0 akW1 akW2
      (with_reducible refine (laws_eqMatrix gr0 gc0 _ _ gs0 _ gH.o0.ints gW.o0.ints).mono ?_)
      rintro e u13 ⟨rfl, x9⟩
      replace X := Kept.mk (X.out.trans x9)
      replace ka := ka.keep x9
      replace kW := kW.keep x9
      replace kG := kG.keep x9
      replace kH := kH.keep x9
      replace gW := gW.keep x9
      replace gG := gG.keep x9
      replace gH := gH.keep x9
      clear x9
      obtain ⟨akG0, akG1, akG2⟩ := kG.three
      go_wp2_with (fail)
      clear akG0 akG1 akG2
      (with_reducible refine (laws_heldMatrixG gr0 gc0 _ 1 gs0.length _ gG.own.ints (by omega) (by have := NL.out; omega)).mono ?_)
      rintro e u14 ⟨e9, x9⟩
      rw [← hKG] at e9
      subst e9
      replace X := Kept.mk (X.out.trans x9)
      replace ka := ka.keep x9
      replace kW := kW.keep x9
      replace kG := kG.keep x9
      replace kH := kH.keep x9
      replace gW := gW.keep x9
      replace gG := gG.keep x9
      replace gH := gH.keep x9
      clear x9
      clear ka kW kG kH gW gG gH
      go_wp2
      go_ret
      exact ⟨rfl, X.out⟩
end Go.Proofs.Ytdljakpkhheepaa
