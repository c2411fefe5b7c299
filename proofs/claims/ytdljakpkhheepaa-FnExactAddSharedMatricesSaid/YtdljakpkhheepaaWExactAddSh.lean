/- The walk through the law FnExactAddSharedMatrices. -/
import Derived.Test.YtdljakpkhheepaaShB
import Derived.Test.YtdljakpkhheepaaShL
import Derived.Test.YtdljakpkhheepaaExL
namespace Go.Proofs.Ytdljakpkhheepaa
set_option linter.unusedSimpArgs false
set_option linter.unusedVariables false
open Go.RowKit

theorem Mat.len {m : Mat} (h : m.ok = true) : m.xs.length ≤ 25 := by
  obtain ⟨R, C, f, rfl, hR, hC, _⟩ := Mat.ok_form h
  rw [Fm_len]
  have := Nat.mul_le_mul hR.hi hC.hi
  omega
theorem ShM.len {m : ShM} (h : m.ok = true) : m.f.xs.length ≤ 25 ∧ m.s.xs.length ≤ 25 := by
  simp only [ShM.ok, Bool.and_eq_true] at h
  exact ⟨Mat.len h.1.1, Mat.len h.1.2⟩
theorem addSh_len (a b : ShM) : (addSh a b).f.xs.length ≤ 25 ∧ (addSh a b).s.xs.length ≤ 25 := by
  by_cases h : shAddOk a b = true
  · exact ShM.len (join_addSh h).1
  · rw [show addSh a b = shZ by unfold addSh; rw [if_neg h]]
    exact ⟨Nat.zero_le _, Nat.zero_le _⟩

set_option maxHeartbeats 8000000 in
set_option maxRecDepth 4000 in
theorem walk_FnExactAddSharedMatrices (ra0 ca0 : Int) (vxa0 : Value) (xa0 : List Int) (ra1 ca1 : Int) (vxa1 : Value) (xa1 : List Int) (rb0 cb0 : Int) (vxb0 : Value) (xb0 : List Int) (rb1 cb1 : Int) (vxb1 : Value) (xb1 : List Int) (w : World) (hxa0 : Ints w vxa0 xa0) (hxa1 : Ints w vxa1 xa1) (hxb0 : Ints w vxb0 xb0) (hxb1 : Ints w vxb1 xb1) : Calls Try.prog 9 #[.agg #[.int .i64 ra0, .int .i64 ca0, vxa0, .int .i64 ra1, .int .i64 ca1, vxa1], .agg #[.int .i64 rb0, .int .i64 cb0, vxb0, .int .i64 rb1, .int .i64 cb1, vxb1]] w fun e w' => e = .returned (.bool true) ∧ Ext w w' := by
  obtain ⟨sa0, na0, rfl, hm9, hc9⟩ := id hxa0
  clear hm9 hc9
  have Hxa0 := Kept.mk hxa0
  clear hxa0
  obtain ⟨sa1, na1, rfl, hm9, hc9⟩ := id hxa1
  clear hm9 hc9
  have Hxa1 := Kept.mk hxa1
  clear hxa1
  obtain ⟨sb0, nb0, rfl, hm9, hc9⟩ := id hxb0
  clear hm9 hc9
  have Hxb0 := Kept.mk hxb0
  clear hxb0
  obtain ⟨sb1, nb1, rfl, hm9, hc9⟩ := id hxb1
  clear hm9 hc9
  have Hxb1 := Kept.mk hxb1
  clear hxb1
  obtain ⟨Ta, hTa⟩ : ∃ T : Nat, T = xa0.length + xa1.length := ⟨_, rfl⟩
  obtain ⟨Tb, hTb⟩ : ∃ T : Nat, T = xb0.length + xb1.length := ⟨_, rfl⟩
  by_cases da : (1048576 : Int) - (Ta : Int) < 0
  · have Za : Kept (∀ w', Ext w w' → Calls Try.prog 38 #[.agg #[.int .i64 ra0, .int .i64 ca0, .slice sa0 xa0.length na0, .int .i64 ra1, .int .i64 ca1, .slice sa1 xa1.length na1], .int .i64 1048576] w' fun e w'' => e = .returned (.int .i64 (-1)) ∧ Ext w' w'') := by
      refine ⟨fun w' hx => ?_⟩
      have h := laws_szSharedMatrix ra0 ca0 ra1 ca1 _ _ xa0 xa1 1048576 w' (Hxa0.out.keep hx) (Hxa1.out.keep hx) (by omega) (by omega)
      try rw [show leftL 1048576 (xa0.length + xa1.length) = if 1048576 - (Ta : Int) < 0 then -1 else 1048576 - (Ta : Int) by unfold leftL; rw [hTa]] at h
      rw [if_pos da] at h
      exact h
    clear da hTa hTb
    have X := Kept.mk (((Ext.refl w).alloc (.cells #[.int .i64 ra0, .int .i64 ca0, .slice sa0 xa0.length na0, .int .i64 ra1, .int .i64 ca1, .slice sa1 xa1.length na1] 56)).alloc (.cells #[.int .i64 rb0, .int .i64 cb0, .slice sb0 xb0.length nb0, .int .i64 rb1, .int .i64 cb1, .slice sb1 xb1.length nb1] 56))
    have ka := (Blk.new w #[.int .i64 ra0, .int .i64 ca0, .slice sa0 xa0.length na0, .int .i64 ra1, .int .i64 ca1, .slice sa1 xa1.length na1] 56).old (.cells #[.int .i64 rb0, .int .i64 cb0, .slice sb0 xb0.length nb0, .int .i64 rb1, .int .i64 cb1, .slice sb1 xb1.length nb1] 56)
    have kb := Blk.new (w.alloc (.cells #[.int .i64 ra0, .int .i64 ca0, .slice sa0 xa0.length na0, .int .i64 ra1, .int .i64 ca1, .slice sa1 xa1.length na1] 56)) #[.int .i64 rb0, .int .i64 cb0, .slice sb0 xb0.length nb0, .int .i64 rb1, .int .i64 cb1, .slice sb1 xb1.length nb1] 56
    simp only [World.size_alloc] at kb
    go_enter Try.func9, Try.ntmps9
    obtain ⟨aka0, aka1, aka2, aka3, aka4, aka5⟩ := ka.sixC
    go_wp2_with (fail)
    clear aka0 aka1 aka2 aka3 aka4 aka5
    (with_reducible refine (Za.out _ X.out).mono ?_)
    rintro e u1 ⟨rfl, x9⟩
    replace X := Kept.mk (X.out.trans x9)
    replace ka := ka.keep x9
    replace kb := kb.keep x9
    clear x9
    clear ka kb
    go_wp2
    go_ret
    exact ⟨rfl, X.out⟩
  · by_cases db : (1048576 - (Ta : Int)) - (Tb : Int) < 0
    · have Za : Kept (∀ w', Ext w w' → Calls Try.prog 38 #[.agg #[.int .i64 ra0, .int .i64 ca0, .slice sa0 xa0.length na0, .int .i64 ra1, .int .i64 ca1, .slice sa1 xa1.length na1], .int .i64 1048576] w' fun e w'' => e = .returned (.int .i64 (1048576 - (Ta : Int))) ∧ Ext w' w'') := by
        refine ⟨fun w' hx => ?_⟩
        have h := laws_szSharedMatrix ra0 ca0 ra1 ca1 _ _ xa0 xa1 1048576 w' (Hxa0.out.keep hx) (Hxa1.out.keep hx) (by omega) (by omega)
        try rw [show leftL 1048576 (xa0.length + xa1.length) = if 1048576 - (Ta : Int) < 0 then -1 else 1048576 - (Ta : Int) by unfold leftL; rw [hTa]] at h
        rw [if_neg da] at h
        exact h
      have Zb : Kept (∀ w', Ext w w' → Calls Try.prog 38 #[.agg #[.int .i64 rb0, .int .i64 cb0, .slice sb0 xb0.length nb0, .int .i64 rb1, .int .i64 cb1, .slice sb1 xb1.length nb1], .int .i64 (1048576 - (Ta : Int))] w' fun e w'' => e = .returned (.int .i64 (-1)) ∧ Ext w' w'') := by
        refine ⟨fun w' hx => ?_⟩
        have h := laws_szSharedMatrix rb0 cb0 rb1 cb1 _ _ xb0 xb1 (1048576 - (Ta : Int)) w' (Hxb0.out.keep hx) (Hxb1.out.keep hx) (by omega) (by omega)
        try rw [show leftL (1048576 - (Ta : Int)) (xb0.length + xb1.length) = if (1048576 - (Ta : Int)) - (Tb : Int) < 0 then -1 else (1048576 - (Ta : Int)) - (Tb : Int) by unfold leftL; rw [hTb]] at h
        rw [if_pos db] at h
        exact h
      have ga : decide (1048576 - (Ta : Int) < 0) = false := by simp; omega
      clear da db hTa hTb
      have X := Kept.mk (((Ext.refl w).alloc (.cells #[.int .i64 ra0, .int .i64 ca0, .slice sa0 xa0.length na0, .int .i64 ra1, .int .i64 ca1, .slice sa1 xa1.length na1] 56)).alloc (.cells #[.int .i64 rb0, .int .i64 cb0, .slice sb0 xb0.length nb0, .int .i64 rb1, .int .i64 cb1, .slice sb1 xb1.length nb1] 56))
      have ka := (Blk.new w #[.int .i64 ra0, .int .i64 ca0, .slice sa0 xa0.length na0, .int .i64 ra1, .int .i64 ca1, .slice sa1 xa1.length na1] 56).old (.cells #[.int .i64 rb0, .int .i64 cb0, .slice sb0 xb0.length nb0, .int .i64 rb1, .int .i64 cb1, .slice sb1 xb1.length nb1] 56)
      have kb := Blk.new (w.alloc (.cells #[.int .i64 ra0, .int .i64 ca0, .slice sa0 xa0.length na0, .int .i64 ra1, .int .i64 ca1, .slice sa1 xa1.length na1] 56)) #[.int .i64 rb0, .int .i64 cb0, .slice sb0 xb0.length nb0, .int .i64 rb1, .int .i64 cb1, .slice sb1 xb1.length nb1] 56
      simp only [World.size_alloc] at kb
      go_enter Try.func9, Try.ntmps9
      obtain ⟨aka0, aka1, aka2, aka3, aka4, aka5⟩ := ka.sixC
      go_wp2_with (fail)
      clear aka0 aka1 aka2 aka3 aka4 aka5
      (with_reducible refine (Za.out _ X.out).mono ?_)
      rintro e u1 ⟨rfl, x9⟩
      replace X := Kept.mk (X.out.trans x9)
      replace ka := ka.keep x9
      replace kb := kb.keep x9
      clear x9
      obtain ⟨akb0, akb1, akb2, akb3, akb4, akb5⟩ := kb.sixC
      go_wp2_with (fail)
      clear akb0 akb1 akb2 akb3 akb4 akb5
      (with_reducible refine (Zb.out _ X.out).mono ?_)
      rintro e u2 ⟨rfl, x9⟩
      replace X := Kept.mk (X.out.trans x9)
      replace ka := ka.keep x9
      replace kb := kb.keep x9
      clear x9
      clear ka kb
      go_wp2
      go_ret
      exact ⟨rfl, X.out⟩
    · have Za : Kept (∀ w', Ext w w' → Calls Try.prog 38 #[.agg #[.int .i64 ra0, .int .i64 ca0, .slice sa0 xa0.length na0, .int .i64 ra1, .int .i64 ca1, .slice sa1 xa1.length na1], .int .i64 1048576] w' fun e w'' => e = .returned (.int .i64 (1048576 - (Ta : Int))) ∧ Ext w' w'') := by
        refine ⟨fun w' hx => ?_⟩
        have h := laws_szSharedMatrix ra0 ca0 ra1 ca1 _ _ xa0 xa1 1048576 w' (Hxa0.out.keep hx) (Hxa1.out.keep hx) (by omega) (by omega)
        try rw [show leftL 1048576 (xa0.length + xa1.length) = if 1048576 - (Ta : Int) < 0 then -1 else 1048576 - (Ta : Int) by unfold leftL; rw [hTa]] at h
        rw [if_neg da] at h
        exact h
      have Zb : Kept (∀ w', Ext w w' → Calls Try.prog 38 #[.agg #[.int .i64 rb0, .int .i64 cb0, .slice sb0 xb0.length nb0, .int .i64 rb1, .int .i64 cb1, .slice sb1 xb1.length nb1], .int .i64 (1048576 - (Ta : Int))] w' fun e w'' => e = .returned (.int .i64 ((1048576 - (Ta : Int)) - (Tb : Int))) ∧ Ext w' w'') := by
        refine ⟨fun w' hx => ?_⟩
        have h := laws_szSharedMatrix rb0 cb0 rb1 cb1 _ _ xb0 xb1 (1048576 - (Ta : Int)) w' (Hxb0.out.keep hx) (Hxb1.out.keep hx) (by omega) (by omega)
        try rw [show leftL (1048576 - (Ta : Int)) (xb0.length + xb1.length) = if (1048576 - (Ta : Int)) - (Tb : Int) < 0 then -1 else (1048576 - (Ta : Int)) - (Tb : Int) by unfold leftL; rw [hTb]] at h
        rw [if_neg db] at h
        exact h
      have ga : decide (1048576 - (Ta : Int) < 0) = false := by simp; omega
      have Lxa0 : Kept (xa0.length ≤ 1048576) := ⟨by omega⟩
      have Lxa1 : Kept (xa1.length ≤ 1048576) := ⟨by omega⟩
      have gb : decide ((1048576 - (Ta : Int)) - (Tb : Int) < 0) = false := by simp; omega
      have Lxb0 : Kept (xb0.length ≤ 1048576) := ⟨by omega⟩
      have Lxb1 : Kept (xb1.length ≤ 1048576) := ⟨by omega⟩
      have TOa : Kept (∀ w', Ext w w' → Calls Try.prog 40 #[.agg #[.int .i64 ra0, .int .i64 ca0, .slice sa0 xa0.length na0, .int .i64 ra1, .int .i64 ca1, .slice sa1 xa1.length na1]] w' fun e w'' => ∃ v0 v1, e = .returned (.agg #[.int .i64 ra0, .int .i64 ca0, v0, .int .i64 ra1, .int .i64 ca1, v1]) ∧ Grp w'.heap.size w'' [v0, v1] [xa0, xa1] ∧ Ext w' w'') := ⟨fun w' hx => (laws_toSharedMatrix ra0 ca0 ra1 ca1 _ _ xa0 xa1 w' (Hxa0.out.keep hx) (Hxa1.out.keep hx) Lxa0.out Lxa1.out).mono fun e w'' h => h.grp⟩
      have TOb : Kept (∀ w', Ext w w' → Calls Try.prog 40 #[.agg #[.int .i64 rb0, .int .i64 cb0, .slice sb0 xb0.length nb0, .int .i64 rb1, .int .i64 cb1, .slice sb1 xb1.length nb1]] w' fun e w'' => ∃ v0 v1, e = .returned (.agg #[.int .i64 rb0, .int .i64 cb0, v0, .int .i64 rb1, .int .i64 cb1, v1]) ∧ Grp w'.heap.size w'' [v0, v1] [xb0, xb1] ∧ Ext w' w'') := ⟨fun w' hx => (laws_toSharedMatrix rb0 cb0 rb1 cb1 _ _ xb0 xb1 w' (Hxb0.out.keep hx) (Hxb1.out.keep hx) Lxb0.out Lxb1.out).mono fun e w'' h => h.grp⟩
      obtain ⟨DR, hDR⟩ : ∃ D, D = addSh ⟨⟨ra0, ca0, xa0⟩, ⟨ra1, ca1, xa1⟩⟩ ⟨⟨rb0, cb0, xb0⟩, ⟨rb1, cb1, xb1⟩⟩ := ⟨_, rfl⟩
      have NL := addSh_len ⟨⟨ra0, ca0, xa0⟩, ⟨ra1, ca1, xa1⟩⟩ ⟨⟨rb0, cb0, xb0⟩, ⟨rb1, cb1, xb1⟩⟩
      rw [← hDR] at NL
      obtain ⟨⟨gr0, gc0, gs0⟩, ⟨gr1, gc1, gs1⟩⟩ := DR
      simp only at NL
      have NL := Kept.mk NL
      have SP : Kept (∀ (ua0 ua1 ub0 ub1 : Value) (w' : World), Arg w' ua0 xa0 → Arg w' ua1 xa1 → Arg w' ub0 xb0 → Arg w' ub1 xb1 → Calls Try.prog 39 #[.agg #[.int .i64 ra0, .int .i64 ca0, ua0, .int .i64 ra1, .int .i64 ca1, ua1], .agg #[.int .i64 rb0, .int .i64 cb0, ub0, .int .i64 rb1, .int .i64 cb1, ub1]] w' fun e w'' => ∃ y0 y1, e = .returned (.agg #[.int .i64 gr0, .int .i64 gc0, y0, .int .i64 gr1, .int .i64 gc1, y1]) ∧ Grp w'.heap.size w'' [y0, y1] [gs0, gs1] ∧ Ext w' w'') := by
        refine ⟨fun ua0 ua1 ub0 ub1 w' fa0 fa1 fb0 fb1 => ?_⟩
        have h := (spec_AddSharedMatrices ra0 ca0 ua0 xa0 ra1 ca1 ua1 xa1 rb0 cb0 ub0 xb0 rb1 cb1 ub1 xb1 w' fa0 fa1 fb0 fb1).mono fun e w'' h => h.grp
        rw [← hDR] at h
        exact h
      have IP : Kept (∀ (ua0 ua1 ub0 ub1 : Value) (w' : World), Ints w' ua0 xa0 → Ints w' ua1 xa1 → Ints w' ub0 xb0 → Ints w' ub1 xb1 → Calls Try.prog 41 #[.agg #[.int .i64 ra0, .int .i64 ca0, ua0, .int .i64 ra1, .int .i64 ca1, ua1], .agg #[.int .i64 rb0, .int .i64 cb0, ub0, .int .i64 rb1, .int .i64 cb1, ub1]] w' fun e w'' => ∃ y0 y1, e = .returned (.agg #[.int .i64 gr0, .int .i64 gc0, y0, .int .i64 gr1, .int .i64 gc1, y1]) ∧ Grp w'.heap.size w'' [y0, y1] [gs0, gs1] ∧ Ext w' w'') := by
        refine ⟨fun ua0 ua1 ub0 ub1 w' fa0 fa1 fb0 fb1 => ?_⟩
        have h := (impl_AddSharedMatrices ra0 ca0 ua0 xa0 ra1 ca1 ua1 xa1 rb0 cb0 ub0 xb0 rb1 cb1 ub1 xb1 w' fa0 fa1 fb0 fb1).mono fun e w'' h => h.grp
        rw [← hDR] at h
        exact h
      clear hDR hTa hTb da db
      have X := Kept.mk (((Ext.refl w).alloc (.cells #[.int .i64 ra0, .int .i64 ca0, .slice sa0 xa0.length na0, .int .i64 ra1, .int .i64 ca1, .slice sa1 xa1.length na1] 56)).alloc (.cells #[.int .i64 rb0, .int .i64 cb0, .slice sb0 xb0.length nb0, .int .i64 rb1, .int .i64 cb1, .slice sb1 xb1.length nb1] 56))
      have ka := (Blk.new w #[.int .i64 ra0, .int .i64 ca0, .slice sa0 xa0.length na0, .int .i64 ra1, .int .i64 ca1, .slice sa1 xa1.length na1] 56).old (.cells #[.int .i64 rb0, .int .i64 cb0, .slice sb0 xb0.length nb0, .int .i64 rb1, .int .i64 cb1, .slice sb1 xb1.length nb1] 56)
      have kb := Blk.new (w.alloc (.cells #[.int .i64 ra0, .int .i64 ca0, .slice sa0 xa0.length na0, .int .i64 ra1, .int .i64 ca1, .slice sa1 xa1.length na1] 56)) #[.int .i64 rb0, .int .i64 cb0, .slice sb0 xb0.length nb0, .int .i64 rb1, .int .i64 cb1, .slice sb1 xb1.length nb1] 56
      simp only [World.size_alloc] at kb
      go_enter Try.func9, Try.ntmps9
      obtain ⟨aka0, aka1, aka2, aka3, aka4, aka5⟩ := ka.sixC
      go_wp2_with (fail)
      clear aka0 aka1 aka2 aka3 aka4 aka5
      (with_reducible refine (Za.out _ X.out).mono ?_)
      rintro e u1 ⟨rfl, x9⟩
      replace X := Kept.mk (X.out.trans x9)
      replace ka := ka.keep x9
      replace kb := kb.keep x9
      clear x9
      obtain ⟨akb0, akb1, akb2, akb3, akb4, akb5⟩ := kb.sixC
      go_wp2_with (fail)
      clear akb0 akb1 akb2 akb3 akb4 akb5
      (with_reducible refine (Zb.out _ X.out).mono ?_)
      rintro e u2 ⟨rfl, x9⟩
      replace X := Kept.mk (X.out.trans x9)
      replace ka := ka.keep x9
      replace kb := kb.keep x9
      clear x9
      clear Za Zb
      obtain ⟨aka0, aka1, aka2, aka3, aka4, aka5⟩ := ka.sixC
      obtain ⟨akb0, akb1, akb2, akb3, akb4, akb5⟩ := kb.sixC
      go_wp2_with (fail)
      clear aka0 aka1 aka2 aka3 aka4 aka5
      clear akb0 akb1 akb2 akb3 akb4 akb5
      apply wp_region_zip [isv _, grpR2 ra0 ca0 ra1 ca1 xa0 xa1, isv _, grpR2 rb0 cb0 rb1 cb1 xb0 xb1, grpR2 gr0 gc0 gr1 gc1 gs0 gs1, newb _ 59] _ (by kernel_rfl)
      case hA => intro V; simp [putAll, dstOf, Act.put]; exact rfl
      case hsl => intro V; exact rfl
      case step =>
        intro V lo up w' hr
        obtain ⟨hcr, hzr⟩ := hr.cells
        have hsr := hr.size
        have ka := ka.keep hr
        have kb := kb.keep hr
        have hxr := X.out.trans hr
        obtain ⟨aka0, aka1, aka2, aka3, aka4, aka5⟩ := ka.sixC
        obtain ⟨akb0, akb1, akb2, akb3, akb4, akb5⟩ := kb.sixC
        simp only [zipOk, depsImp, isv, grpR2, modeNg, newb, waits, Region.binds, List.map_nil, List.map_cons, List.headD_cons, List.nil_append, List.cons_append, List.filterMap_cons, List.filterMap_nil, ↓reduceIte, modeNe, Bool.false_eq_true, true_implies, List.getD_cons_zero, List.getD_cons_succ, and_true]
        refine ⟨?_, ?_, ?_, ?_, ?_, ?_⟩
        · intros
          go_wp2
          refine stepQ_mk rfl (by simp only [List.getElem?_toArray, List.getElem?_cons_succ, List.getElem?_cons_zero]; exact rfl) ?_
          exact ⟨Ext.refl _, rfl⟩
        · intros
          go_wp2_with (fail)
          (with_reducible refine (TOa.out _ hxr).mono ?_)
          rintro e w9 ⟨v90, v91, rfl, g9, x9⟩
          go_wp2
          refine stepQ_mk rfl (by simp only [List.getElem?_toArray, List.getElem?_cons_succ, List.getElem?_cons_zero]; exact rfl) ?_
          exact ⟨x9, v90, v91, rfl, g9⟩
        · intros
          go_wp2
          refine stepQ_mk rfl (by simp only [List.getElem?_toArray, List.getElem?_cons_succ, List.getElem?_cons_zero]; exact rfl) ?_
          exact ⟨Ext.refl _, rfl⟩
        · intros
          go_wp2_with (fail)
          (with_reducible refine (TOb.out _ hxr).mono ?_)
          rintro e w9 ⟨v90, v91, rfl, g9, x9⟩
          go_wp2
          refine stepQ_mk rfl (by simp only [List.getElem?_toArray, List.getElem?_cons_succ, List.getElem?_cons_zero]; exact rfl) ?_
          exact ⟨x9, v90, v91, rfl, g9⟩
        · intro _ _ _ ⟨va90, va91, ea9, ga9⟩ _ _ _ ⟨vb90, vb91, eb9, gb9⟩
          intros
          go_wp2_with (fail)
          (with_reducible refine (SP.out _ _ _ _ _ (ga9.o0.arg Lxa0.out) (ga9.o1.arg Lxa1.out) (gb9.o0.arg Lxb0.out) (gb9.o1.arg Lxb1.out)).mono ?_)
          rintro e w9 ⟨v90, v91, rfl, g9, x9⟩
          go_wp2
          refine stepQ_mk rfl (by simp only [List.getElem?_toArray, List.getElem?_cons_succ, List.getElem?_cons_zero]; exact rfl) ?_
          exact ⟨x9, v90, v91, rfl, g9⟩
        · intros
          go_wp2
          refine stepQ_mk rfl (by simp only [List.getElem?_toArray, List.getElem?_cons_succ, List.getElem?_cons_zero]; exact rfl) ?_
          exact ⟨(Ext.refl _).alloc _, rfl, by simp, Blk.new _ _ _⟩
      case hB => kernel_rfl
      case fin =>
        intro V lo up w' hr hf ha
        simp only [factsOk, isv, grpR2, modeNg, newb, List.map_nil, List.map_cons, List.headD_cons, and_true, Nat.zero_add, Nat.reduceAdd] at hf
        simp only [List.length_cons, List.length_nil, Nat.zero_add, Nat.reduceAdd, List.drop_succ_cons, List.drop_zero]
        obtain ⟨-, -, -, -, ⟨l4, -, -, v40, v41, e4, g4⟩, ⟨l5, -, -, e5, -, kW⟩⟩ := hf
        have zka := ka.lt
        have zkb := kb.lt
        clear ha
        replace ka := ka.keep hr
        replace kb := kb.keep hr
        rw [e4, e5]
        clear e4 e5
        have gW := g4.mono l4
        clear g4 l4
        obtain ⟨⟨q90, q91, -⟩, -⟩ := id gW
        obtain ⟨pW0, mW0, hu9, -, -⟩ := id q90.ints
        try simp only at hu9
        subst hu9
        clear q90
        obtain ⟨pW1, mW1, hu9, -, -⟩ := id q91.ints
        try simp only at hu9
        subst hu9
        clear q91
        replace gW := gW.mono X.out.size
        replace X := Kept.mk (X.out.trans hr)
        clear hr
        try clear hc hz
        generalize lo 5 = bkW at *
        have X0 := X.out.size
        obtain ⟨aka0, aka1, aka2, aka3, aka4, aka5⟩ := ka.sixC
        obtain ⟨akb0, akb1, akb2, akb3, akb4, akb5⟩ := kb.sixC
        obtain ⟨akW0, akW1, akW2, akW3, akW4, akW5⟩ := kW.sixC
        have fkW := kW.free
        go_wp2_with (fail)
        clear aka0 aka1 aka2 aka3 aka4 aka5
        clear akb0 akb1 akb2 akb3 akb4 akb5
        clear akW0 akW1 akW2 akW3 akW4 akW5
        clear fkW
        replace gW := gW.oth (gW.ne kW (by decide)) 0 1 2 (.int .i64 gr0) (.int .i64 gc0) (.slice pW0 gs0.length mW0)
        replace ka := ka.oth (g := bkW) (by omega) 0 1 2 (.int .i64 gr0) (.int .i64 gc0) (.slice pW0 gs0.length mW0)
        replace kb := kb.oth (g := bkW) (by omega) 0 1 2 (.int .i64 gr0) (.int .i64 gc0) (.slice pW0 gs0.length mW0)
        replace kW := kW.sub 0 1 2 (.int .i64 gr0) (.int .i64 gc0) (.slice pW0 gs0.length mW0) (cs' := #[.int .i64 gr0, .int .i64 gc0, .slice pW0 gs0.length mW0, .int .i64 0, .int .i64 0, .slice none 0 0]) rfl
        replace X := Kept.mk (X.out.oth (g := bkW) (by omega) 0 1 2 (.int .i64 gr0) (.int .i64 gc0) (.slice pW0 gs0.length mW0))
        replace gW := gW.oth (gW.ne kW (by decide)) 3 4 5 (.int .i64 gr1) (.int .i64 gc1) (.slice pW1 gs1.length mW1)
        replace ka := ka.oth (g := bkW) (by omega) 3 4 5 (.int .i64 gr1) (.int .i64 gc1) (.slice pW1 gs1.length mW1)
        replace kb := kb.oth (g := bkW) (by omega) 3 4 5 (.int .i64 gr1) (.int .i64 gc1) (.slice pW1 gs1.length mW1)
        replace kW := kW.sub 3 4 5 (.int .i64 gr1) (.int .i64 gc1) (.slice pW1 gs1.length mW1) (cs' := #[.int .i64 gr0, .int .i64 gc0, .slice pW0 gs0.length mW0, .int .i64 gr1, .int .i64 gc1, .slice pW1 gs1.length mW1]) rfl
        replace X := Kept.mk (X.out.oth (g := bkW) (by omega) 3 4 5 (.int .i64 gr1) (.int .i64 gc1) (.slice pW1 gs1.length mW1))
        (with_reducible refine (TOa.out _ X.out).mono ?_)
        rintro e u3 ⟨vTa0, vTa1, rfl, gTa, x9⟩
        have sTa_W := Kept.mk (gW.sep gTa)
        obtain ⟨⟨q90, q91, -⟩, -⟩ := id gTa
        obtain ⟨pTa0, mTa0, hu9, -, -⟩ := id q90.ints
        try simp only at hu9
        subst hu9
        clear q90
        obtain ⟨pTa1, mTa1, hu9, -, -⟩ := id q91.ints
        try simp only at hu9
        subst hu9
        clear q91
        replace gTa := gTa.mono X.out.size
        replace X := Kept.mk (X.out.trans x9)
        replace ka := ka.keep x9
        replace kb := kb.keep x9
        replace kW := kW.keep x9
        replace gW := gW.keep x9
        clear x9
        have kTa := Blk.new u3 #[.int .i64 ra0, .int .i64 ca0, .slice pTa0 xa0.length mTa0, .int .i64 ra1, .int .i64 ca1, .slice pTa1 xa1.length mTa1] 59
        replace ka := ka.old (.cells #[.int .i64 ra0, .int .i64 ca0, .slice pTa0 xa0.length mTa0, .int .i64 ra1, .int .i64 ca1, .slice pTa1 xa1.length mTa1] 59)
        replace kb := kb.old (.cells #[.int .i64 ra0, .int .i64 ca0, .slice pTa0 xa0.length mTa0, .int .i64 ra1, .int .i64 ca1, .slice pTa1 xa1.length mTa1] 59)
        replace kW := kW.old (.cells #[.int .i64 ra0, .int .i64 ca0, .slice pTa0 xa0.length mTa0, .int .i64 ra1, .int .i64 ca1, .slice pTa1 xa1.length mTa1] 59)
        replace gW := gW.keep ((Ext.refl u3).alloc (.cells #[.int .i64 ra0, .int .i64 ca0, .slice pTa0 xa0.length mTa0, .int .i64 ra1, .int .i64 ca1, .slice pTa1 xa1.length mTa1] 59))
        replace gTa := gTa.keep ((Ext.refl u3).alloc (.cells #[.int .i64 ra0, .int .i64 ca0, .slice pTa0 xa0.length mTa0, .int .i64 ra1, .int .i64 ca1, .slice pTa1 xa1.length mTa1] 59))
        replace X := Kept.mk (X.out.alloc (.cells #[.int .i64 ra0, .int .i64 ca0, .slice pTa0 xa0.length mTa0, .int .i64 ra1, .int .i64 ca1, .slice pTa1 xa1.length mTa1] 59))
        obtain ⟨aka0, aka1, aka2, aka3, aka4, aka5⟩ := ka.sixC
        obtain ⟨akb0, akb1, akb2, akb3, akb4, akb5⟩ := kb.sixC
        go_wp2_with (fail)
        clear aka0 aka1 aka2 aka3 aka4 aka5
        clear akb0 akb1 akb2 akb3 akb4 akb5
        (with_reducible refine (TOb.out _ X.out).mono ?_)
        rintro e u4 ⟨vTb0, vTb1, rfl, gTb, x9⟩
        have sTb_W := Kept.mk (gW.sep gTb)
        have sTb_Ta := Kept.mk (gTa.sep gTb)
        obtain ⟨⟨q90, q91, -⟩, -⟩ := id gTb
        obtain ⟨pTb0, mTb0, hu9, -, -⟩ := id q90.ints
        try simp only at hu9
        subst hu9
        clear q90
        obtain ⟨pTb1, mTb1, hu9, -, -⟩ := id q91.ints
        try simp only at hu9
        subst hu9
        clear q91
        replace gTb := gTb.mono X.out.size
        replace X := Kept.mk (X.out.trans x9)
        replace ka := ka.keep x9
        replace kb := kb.keep x9
        replace kW := kW.keep x9
        replace kTa := kTa.keep x9
        replace gW := gW.keep x9
        replace gTa := gTa.keep x9
        clear x9
        have kTb := Blk.new u4 #[.int .i64 rb0, .int .i64 cb0, .slice pTb0 xb0.length mTb0, .int .i64 rb1, .int .i64 cb1, .slice pTb1 xb1.length mTb1] 59
        replace ka := ka.old (.cells #[.int .i64 rb0, .int .i64 cb0, .slice pTb0 xb0.length mTb0, .int .i64 rb1, .int .i64 cb1, .slice pTb1 xb1.length mTb1] 59)
        replace kb := kb.old (.cells #[.int .i64 rb0, .int .i64 cb0, .slice pTb0 xb0.length mTb0, .int .i64 rb1, .int .i64 cb1, .slice pTb1 xb1.length mTb1] 59)
        replace kW := kW.old (.cells #[.int .i64 rb0, .int .i64 cb0, .slice pTb0 xb0.length mTb0, .int .i64 rb1, .int .i64 cb1, .slice pTb1 xb1.length mTb1] 59)
        replace kTa := kTa.old (.cells #[.int .i64 rb0, .int .i64 cb0, .slice pTb0 xb0.length mTb0, .int .i64 rb1, .int .i64 cb1, .slice pTb1 xb1.length mTb1] 59)
        replace gW := gW.keep ((Ext.refl u4).alloc (.cells #[.int .i64 rb0, .int .i64 cb0, .slice pTb0 xb0.length mTb0, .int .i64 rb1, .int .i64 cb1, .slice pTb1 xb1.length mTb1] 59))
        replace gTa := gTa.keep ((Ext.refl u4).alloc (.cells #[.int .i64 rb0, .int .i64 cb0, .slice pTb0 xb0.length mTb0, .int .i64 rb1, .int .i64 cb1, .slice pTb1 xb1.length mTb1] 59))
        replace gTb := gTb.keep ((Ext.refl u4).alloc (.cells #[.int .i64 rb0, .int .i64 cb0, .slice pTb0 xb0.length mTb0, .int .i64 rb1, .int .i64 cb1, .slice pTb1 xb1.length mTb1] 59))
        replace X := Kept.mk (X.out.alloc (.cells #[.int .i64 rb0, .int .i64 cb0, .slice pTb0 xb0.length mTb0, .int .i64 rb1, .int .i64 cb1, .slice pTb1 xb1.length mTb1] 59))
        obtain ⟨akTa0, akTa1, akTa2, akTa3, akTa4, akTa5⟩ := kTa.sixC
        obtain ⟨akTb0, akTb1, akTb2, akTb3, akTb4, akTb5⟩ := kTb.sixC
        go_wp2_with (fail)
        clear akTa0 akTa1 akTa2 akTa3 akTa4 akTa5
        clear akTb0 akTb1 akTb2 akTb3 akTb4 akTb5
        (with_reducible refine (IP.out _ _ _ _ _ gTa.o0.ints gTa.o1.ints gTb.o0.ints gTb.o1.ints).mono ?_)
        rintro e u5 ⟨vG0, vG1, rfl, gG, x9⟩
        have sG_W := Kept.mk (gW.sep gG)
        have sG_Ta := Kept.mk (gTa.sep gG)
        have sG_Tb := Kept.mk (gTb.sep gG)
        obtain ⟨⟨q90, q91, -⟩, -⟩ := id gG
        obtain ⟨pG0, mG0, hu9, -, -⟩ := id q90.ints
        try simp only at hu9
        subst hu9
        clear q90
        obtain ⟨pG1, mG1, hu9, -, -⟩ := id q91.ints
        try simp only at hu9
        subst hu9
        clear q91
        replace gG := gG.mono X.out.size
        replace X := Kept.mk (X.out.trans x9)
        replace ka := ka.keep x9
        replace kb := kb.keep x9
        replace kW := kW.keep x9
        replace kTa := kTa.keep x9
        replace kTb := kTb.keep x9
        replace gW := gW.keep x9
        replace gTa := gTa.keep x9
        replace gTb := gTb.keep x9
        clear x9
        have kG := Blk.new u5 #[.int .i64 gr0, .int .i64 gc0, .slice pG0 gs0.length mG0, .int .i64 gr1, .int .i64 gc1, .slice pG1 gs1.length mG1] 59
        replace ka := ka.old (.cells #[.int .i64 gr0, .int .i64 gc0, .slice pG0 gs0.length mG0, .int .i64 gr1, .int .i64 gc1, .slice pG1 gs1.length mG1] 59)
        replace kb := kb.old (.cells #[.int .i64 gr0, .int .i64 gc0, .slice pG0 gs0.length mG0, .int .i64 gr1, .int .i64 gc1, .slice pG1 gs1.length mG1] 59)
        replace kW := kW.old (.cells #[.int .i64 gr0, .int .i64 gc0, .slice pG0 gs0.length mG0, .int .i64 gr1, .int .i64 gc1, .slice pG1 gs1.length mG1] 59)
        replace kTa := kTa.old (.cells #[.int .i64 gr0, .int .i64 gc0, .slice pG0 gs0.length mG0, .int .i64 gr1, .int .i64 gc1, .slice pG1 gs1.length mG1] 59)
        replace kTb := kTb.old (.cells #[.int .i64 gr0, .int .i64 gc0, .slice pG0 gs0.length mG0, .int .i64 gr1, .int .i64 gc1, .slice pG1 gs1.length mG1] 59)
        replace gW := gW.keep ((Ext.refl u5).alloc (.cells #[.int .i64 gr0, .int .i64 gc0, .slice pG0 gs0.length mG0, .int .i64 gr1, .int .i64 gc1, .slice pG1 gs1.length mG1] 59))
        replace gTa := gTa.keep ((Ext.refl u5).alloc (.cells #[.int .i64 gr0, .int .i64 gc0, .slice pG0 gs0.length mG0, .int .i64 gr1, .int .i64 gc1, .slice pG1 gs1.length mG1] 59))
        replace gTb := gTb.keep ((Ext.refl u5).alloc (.cells #[.int .i64 gr0, .int .i64 gc0, .slice pG0 gs0.length mG0, .int .i64 gr1, .int .i64 gc1, .slice pG1 gs1.length mG1] 59))
        replace gG := gG.keep ((Ext.refl u5).alloc (.cells #[.int .i64 gr0, .int .i64 gc0, .slice pG0 gs0.length mG0, .int .i64 gr1, .int .i64 gc1, .slice pG1 gs1.length mG1] 59))
        replace X := Kept.mk (X.out.alloc (.cells #[.int .i64 gr0, .int .i64 gc0, .slice pG0 gs0.length mG0, .int .i64 gr1, .int .i64 gc1, .slice pG1 gs1.length mG1] 59))
        obtain ⟨akG0, akG1, akG2, akG3, akG4, akG5⟩ := kG.sixC
        obtain ⟨akW0, akW1, akW2, akW3, akW4, akW5⟩ := kW.sixC
        go_wp2_with (fail)
        clear akG0 akG1 akG2 akG3 akG4 akG5
        clear akW0 akW1 akW2 akW3 akW4 akW5
        (with_reducible refine (laws_eqSharedMatrix gr0 gc0 gr1 gc1 _ _ _ _ gs0 gs1 _ gG.o0.ints gG.o1.ints gW.o0.ints gW.o1.ints).mono ?_)
        rintro e u6 ⟨rfl, x9⟩
        replace X := Kept.mk (X.out.trans x9)
        replace ka := ka.keep x9
        replace kb := kb.keep x9
        replace kW := kW.keep x9
        replace kTa := kTa.keep x9
        replace kTb := kTb.keep x9
        replace kG := kG.keep x9
        replace gW := gW.keep x9
        replace gTa := gTa.keep x9
        replace gTb := gTb.keep x9
        replace gG := gG.keep x9
        clear x9
        obtain ⟨aka0, aka1, aka2, aka3, aka4, aka5⟩ := ka.sixC
        obtain ⟨akb0, akb1, akb2, akb3, akb4, akb5⟩ := kb.sixC
        obtain ⟨akTa0, akTa1, akTa2, akTa3, akTa4, akTa5⟩ := kTa.sixC
        obtain ⟨akTb0, akTb1, akTb2, akTb3, akTb4, akTb5⟩ := kTb.sixC
        go_wp2_with (fail)
        clear aka0 aka1 aka2 aka3 aka4 aka5
        clear akb0 akb1 akb2 akb3 akb4 akb5
        clear akTa0 akTa1 akTa2 akTa3 akTa4 akTa5
        clear akTb0 akTb1 akTb2 akTb3 akTb4 akTb5
        apply wp_region_zip [isv _, isv _, grpR2 ra0 ca0 ra1 ca1 xa0 xa1, isv _, isv _] _ (by kernel_rfl)
        case hA => intro V; simp [putAll, dstOf, Act.put]; exact rfl
        case hsl => intro V; exact rfl
        case step =>
          intro V lo up w' hr
          obtain ⟨hcr, hzr⟩ := hr.cells
          have hsr := hr.size
          have ka := ka.keep hr
          have kb := kb.keep hr
          have kW := kW.keep hr
          have kTa := kTa.keep hr
          have kTb := kTb.keep hr
          have kG := kG.keep hr
          have gW := gW.keep hr
          have gTa := gTa.keep hr
          have gTb := gTb.keep hr
          have gG := gG.keep hr
          have hxr := X.out.trans hr
          obtain ⟨aka0, aka1, aka2, aka3, aka4, aka5⟩ := ka.sixC
          obtain ⟨akb0, akb1, akb2, akb3, akb4, akb5⟩ := kb.sixC
          obtain ⟨akTa0, akTa1, akTa2, akTa3, akTa4, akTa5⟩ := kTa.sixC
          simp only [zipOk, depsImp, isv, grpR2, modeNg, newb, waits, Region.binds, List.map_nil, List.map_cons, List.headD_cons, List.nil_append, List.cons_append, List.filterMap_cons, List.filterMap_nil, ↓reduceIte, modeNe, Bool.false_eq_true, true_implies, List.getD_cons_zero, List.getD_cons_succ, and_true]
          refine ⟨?_, ?_, ?_, ?_, ?_⟩
          · intros
            go_wp2
            refine stepQ_mk rfl (by simp only [List.getElem?_toArray, List.getElem?_cons_succ, List.getElem?_cons_zero]; exact rfl) ?_
            exact ⟨Ext.refl _, rfl⟩
          · intros
            go_wp2
            refine stepQ_mk rfl (by simp only [List.getElem?_toArray, List.getElem?_cons_succ, List.getElem?_cons_zero]; exact rfl) ?_
            exact ⟨Ext.refl _, rfl⟩
          · intros
            go_wp2_with (fail)
            (with_reducible refine (TOa.out _ hxr).mono ?_)
            rintro e w9 ⟨v90, v91, rfl, g9, x9⟩
            go_wp2
            refine stepQ_mk rfl (by simp only [List.getElem?_toArray, List.getElem?_cons_succ, List.getElem?_cons_zero]; exact rfl) ?_
            exact ⟨x9, v90, v91, rfl, g9⟩
          · intro _ _ _ e0 _ _ _ ⟨v90, v91, e9, g9⟩
            intros
            go_wp2_with (fail)
            (with_reducible refine (laws_eqSharedMatrix ra0 ca0 ra1 ca1 _ _ _ _ xa0 xa1 _ gTa.o0.ints gTa.o1.ints g9.o0.ints g9.o1.ints).mono ?_)
            rintro e w9 ⟨rfl, x9⟩
            go_wp2
            refine stepQ_mk rfl (by simp only [List.getElem?_toArray, List.getElem?_cons_succ, List.getElem?_cons_zero]; exact rfl) ?_
            exact ⟨x9, rfl⟩
          · intros
            go_wp2
            refine stepQ_mk rfl (by simp only [List.getElem?_toArray, List.getElem?_cons_succ, List.getElem?_cons_zero]; exact rfl) ?_
            exact ⟨Ext.refl _, rfl⟩
        case hB => kernel_rfl
        case fin =>
          intro V lo up w' hr hf ha
          simp only [factsOk, isv, grpR2, modeNg, newb, List.map_nil, List.map_cons, List.headD_cons, and_true, Nat.zero_add, Nat.reduceAdd] at hf
          simp only [List.length_cons, List.length_nil, Nat.zero_add, Nat.reduceAdd, List.drop_succ_cons, List.drop_zero]
          obtain ⟨-, -, -, -, ⟨-, -, -, e4⟩⟩ := hf
          have tgW := gW
          have tgTa := gTa
          have tgTb := gTb
          have tgG := gG
          have zka := ka.lt
          have zkb := kb.lt
          have zkW := kW.lt
          have zkTa := kTa.lt
          have zkTb := kTb.lt
          have zkG := kG.lt
          clear ha
          replace ka := ka.keep hr
          replace kb := kb.keep hr
          replace kW := kW.keep hr
          replace kTa := kTa.keep hr
          replace kTb := kTb.keep hr
          replace kG := kG.keep hr
          replace gW := gW.keep hr
          replace gTa := gTa.keep hr
          replace gTb := gTb.keep hr
          replace gG := gG.keep hr
          replace X := Kept.mk (X.out.trans hr)
          rw [e4]
          clear e4 hr
          try clear hc hz
          obtain ⟨aka0, aka1, aka2, aka3, aka4, aka5⟩ := ka.sixC
          obtain ⟨akb0, akb1, akb2, akb3, akb4, akb5⟩ := kb.sixC
          obtain ⟨akTa0, akTa1, akTa2, akTa3, akTa4, akTa5⟩ := kTa.sixC
          obtain ⟨akTb0, akTb1, akTb2, akTb3, akTb4, akTb5⟩ := kTb.sixC
          go_wp2_with (fail)
          clear aka0 aka1 aka2 aka3 aka4 aka5
          clear akb0 akb1 akb2 akb3 akb4 akb5
          clear akTa0 akTa1 akTa2 akTa3 akTa4 akTa5
          clear akTb0 akTb1 akTb2 akTb3 akTb4 akTb5
          apply wp_region_zip [isv _, isv _, grpR2 rb0 cb0 rb1 cb1 xb0 xb1, isv _, isv _] _ (by kernel_rfl)
          case hA => intro V; simp [putAll, dstOf, Act.put]; exact rfl
          case hsl => intro V; exact rfl
          case step =>
            intro V lo up w' hr
            obtain ⟨hcr, hzr⟩ := hr.cells
            have hsr := hr.size
            have ka := ka.keep hr
            have kb := kb.keep hr
            have kW := kW.keep hr
            have kTa := kTa.keep hr
            have kTb := kTb.keep hr
            have kG := kG.keep hr
            have gW := gW.keep hr
            have gTa := gTa.keep hr
            have gTb := gTb.keep hr
            have gG := gG.keep hr
            have hxr := X.out.trans hr
            obtain ⟨aka0, aka1, aka2, aka3, aka4, aka5⟩ := ka.sixC
            obtain ⟨akb0, akb1, akb2, akb3, akb4, akb5⟩ := kb.sixC
            obtain ⟨akTb0, akTb1, akTb2, akTb3, akTb4, akTb5⟩ := kTb.sixC
            simp only [zipOk, depsImp, isv, grpR2, modeNg, newb, waits, Region.binds, List.map_nil, List.map_cons, List.headD_cons, List.nil_append, List.cons_append, List.filterMap_cons, List.filterMap_nil, ↓reduceIte, modeNe, Bool.false_eq_true, true_implies, List.getD_cons_zero, List.getD_cons_succ, and_true]
            refine ⟨?_, ?_, ?_, ?_, ?_⟩
            · intros
              go_wp2
              refine stepQ_mk rfl (by simp only [List.getElem?_toArray, List.getElem?_cons_succ, List.getElem?_cons_zero]; exact rfl) ?_
              exact ⟨Ext.refl _, rfl⟩
            · intros
              go_wp2
              refine stepQ_mk rfl (by simp only [List.getElem?_toArray, List.getElem?_cons_succ, List.getElem?_cons_zero]; exact rfl) ?_
              exact ⟨Ext.refl _, rfl⟩
            · intros
              go_wp2_with (fail)
              (with_reducible refine (TOb.out _ hxr).mono ?_)
              rintro e w9 ⟨v90, v91, rfl, g9, x9⟩
              go_wp2
              refine stepQ_mk rfl (by simp only [List.getElem?_toArray, List.getElem?_cons_succ, List.getElem?_cons_zero]; exact rfl) ?_
              exact ⟨x9, v90, v91, rfl, g9⟩
            · intro _ _ _ e0 _ _ _ ⟨v90, v91, e9, g9⟩
              intros
              go_wp2_with (fail)
              (with_reducible refine (laws_eqSharedMatrix rb0 cb0 rb1 cb1 _ _ _ _ xb0 xb1 _ gTb.o0.ints gTb.o1.ints g9.o0.ints g9.o1.ints).mono ?_)
              rintro e w9 ⟨rfl, x9⟩
              go_wp2
              refine stepQ_mk rfl (by simp only [List.getElem?_toArray, List.getElem?_cons_succ, List.getElem?_cons_zero]; exact rfl) ?_
              exact ⟨x9, rfl⟩
            · intros
              go_wp2
              refine stepQ_mk rfl (by simp only [List.getElem?_toArray, List.getElem?_cons_succ, List.getElem?_cons_zero]; exact rfl) ?_
              exact ⟨Ext.refl _, rfl⟩
          case hB => kernel_rfl
          case fin =>
            intro V lo up w' hr hf ha
            simp only [factsOk, isv, grpR2, modeNg, newb, List.map_nil, List.map_cons, List.headD_cons, and_true, Nat.zero_add, Nat.reduceAdd] at hf
            simp only [List.length_cons, List.length_nil, Nat.zero_add, Nat.reduceAdd, List.drop_succ_cons, List.drop_zero]
            obtain ⟨-, -, -, -, ⟨-, -, -, e4⟩⟩ := hf
            have tgW := gW
            have tgTa := gTa
            have tgTb := gTb
            have tgG := gG
            have zka := ka.lt
            have zkb := kb.lt
            have zkW := kW.lt
            have zkTa := kTa.lt
            have zkTb := kTb.lt
            have zkG := kG.lt
            clear ha
            replace ka := ka.keep hr
            replace kb := kb.keep hr
            replace kW := kW.keep hr
            replace kTa := kTa.keep hr
            replace kTb := kTb.keep hr
            replace kG := kG.keep hr
            replace gW := gW.keep hr
            replace gTa := gTa.keep hr
            replace gTb := gTb.keep hr
            replace gG := gG.keep hr
            replace X := Kept.mk (X.out.trans hr)
            rw [e4]
            clear e4 hr
            try clear hc hz
            obtain ⟨Ka, hKa⟩ : ∃ K : Int, K = 1 + (totL [xa0.length, xa1.length] : Nat) := ⟨_, rfl⟩
            have hka : 0 ≤ Ka ∧ Ka ≤ 7000000 := by rw [hKa]; simp only [totL]; have := Lxa0.out; have := Lxa1.out; omega
            obtain ⟨akTa0, akTa1, akTa2, akTa3, akTa4, akTa5⟩ := kTa.sixC
            obtain ⟨akTb0, akTb1, akTb2, akTb3, akTb4, akTb5⟩ := kTb.sixC
            go_wp2_with (fail)
            clear akTa0 akTa1 akTa2 akTa3 akTa4 akTa5
            clear akTb0 akTb1 akTb2 akTb3 akTb4 akTb5
            (with_reducible refine (laws_markSharedMatrix _ ra0 ca0 ra1 ca1 _ _ xa0 xa1 1 _ _ rfl rfl _ gTa (by omega) (by have := Lxa0.out; have := Lxa1.out; omega)).mono ?_)
            rintro e u7 ⟨e9, mk9, t9⟩
            rw [← hKa] at e9
            subst e9
            clear hKa
            replace ka := gTa.blk t9 ka (by decide)
            replace kb := gTa.blk t9 kb (by decide)
            replace kW := gTa.blk t9 kW (by decide)
            replace kTa := gTa.blk t9 kTa (by decide)
            replace kTb := gTa.blk t9 kTb (by decide)
            replace kG := gTa.blk t9 kG (by decide)
            replace gW := gW.turned t9 sTa_W.out.symm
            replace gTb := gTb.turned t9 sTb_Ta.out
            replace gG := gG.turned t9 sG_Ta.out
            replace X := Kept.mk (t9.ext0 X.out (fun v hv q hq => (gTa.own.block v hv q hq).1))
            clear t9 gTa
            have gTa := mk9
            clear mk9
            obtain ⟨Kb, hKb⟩ : ∃ K : Int, K = Ka + (totL [xb0.length, xb1.length] : Nat) := ⟨_, rfl⟩
            have hkb : 0 ≤ Kb ∧ Kb ≤ 14000000 := by rw [hKb]; simp only [totL]; have := Lxb0.out; have := Lxb1.out; omega
            obtain ⟨akTa0, akTa1, akTa2, akTa3, akTa4, akTa5⟩ := kTa.sixC
            obtain ⟨akTb0, akTb1, akTb2, akTb3, akTb4, akTb5⟩ := kTb.sixC
            go_wp2_with (fail)
            clear akTa0 akTa1 akTa2 akTa3 akTa4 akTa5
            clear akTb0 akTb1 akTb2 akTb3 akTb4 akTb5
            (with_reducible refine (laws_markSharedMatrix _ rb0 cb0 rb1 cb1 _ _ xb0 xb1 Ka _ _ rfl rfl _ gTb (by omega) (by have := Lxb0.out; have := Lxb1.out; omega)).mono ?_)
            rintro e u8 ⟨e9, mk9, t9⟩
            rw [← hKb] at e9
            subst e9
            clear hKb
            replace ka := gTb.blk t9 ka (by decide)
            replace kb := gTb.blk t9 kb (by decide)
            replace kW := gTb.blk t9 kW (by decide)
            replace kTa := gTb.blk t9 kTa (by decide)
            replace kTb := gTb.blk t9 kTb (by decide)
            replace kG := gTb.blk t9 kG (by decide)
            replace gW := gW.turned t9 sTb_W.out.symm
            replace gTa := gTa.turned t9 sTb_Ta.out.symm
            replace gG := gG.turned t9 sG_Tb.out
            replace X := Kept.mk (t9.ext0 X.out (fun v hv q hq => (gTb.own.block v hv q hq).1))
            clear t9 gTb
            have gTb := mk9
            clear mk9
            have hkn : decide (Kb < 0) = false := by simp; omega
            obtain ⟨akG0, akG1, akG2, akG3, akG4, akG5⟩ := kG.sixC
            obtain ⟨akW0, akW1, akW2, akW3, akW4, akW5⟩ := kW.sixC
            go_wp2_with (fail)
            clear akG0 akG1 akG2 akG3 akG4 akG5
            clear akW0 akW1 akW2 akW3 akW4 akW5
            (with_reducible refine (laws_eqSharedMatrix gr0 gc0 gr1 gc1 _ _ _ _ gs0 gs1 _ gG.o0.ints gG.o1.ints gW.o0.ints gW.o1.ints).mono ?_)
            rintro e u9 ⟨rfl, x9⟩
            replace X := Kept.mk (X.out.trans x9)
            replace ka := ka.keep x9
            replace kb := kb.keep x9
            replace kW := kW.keep x9
            replace kTa := kTa.keep x9
            replace kTb := kTb.keep x9
            replace kG := kG.keep x9
            replace gW := gW.keep x9
            replace gTa := gTa.keep x9
            replace gTb := gTb.keep x9
            replace gG := gG.keep x9
            clear x9
            clear gTa gTb kTa kTb
            obtain ⟨KG, hKG⟩ : ∃ K : Int, K = 1 + (totL [gs0.length, gs1.length] : Nat) := ⟨_, rfl⟩
            have hkG : decide (KG < 0) = false := by rw [hKG]; simp; omega
            obtain ⟨akG0, akG1, akG2, akG3, akG4, akG5⟩ := kG.sixC
            go_wp2_with (fail)
            clear akG0 akG1 akG2 akG3 akG4 akG5
            (with_reducible refine (laws_markSharedMatrix _ gr0 gc0 gr1 gc1 _ _ gs0 gs1 1 _ _ rfl rfl _ gG (by omega) (by have := NL.out; omega)).mono ?_)
            rintro e u10 ⟨e9, mk9, t9⟩
            rw [← hKG] at e9
            subst e9
            replace ka := gG.blk t9 ka (by decide)
            replace kb := gG.blk t9 kb (by decide)
            replace kW := gG.blk t9 kW (by decide)
            replace kG := gG.blk t9 kG (by decide)
            replace gW := gW.turned t9 sG_W.out.symm
            replace X := Kept.mk (t9.ext0 X.out (fun v hv q hq => (gG.own.block v hv q hq).1))
            clear t9 gG
            have gG := mk9
            clear mk9
            obtain ⟨akG0, akG1, akG2, akG3, akG4, akG5⟩ := kG.sixC
            go_wp2_with (fail)
            clear akG0 akG1 akG2 akG3 akG4 akG5
            (with_reducible refine (laws_heldSharedMatrix gr0 gc0 gr1 gc1 _ _ 1 gs0.length gs1.length _ gG.own.ints (by omega) (by have := NL.out; omega)).mono ?_)
            rintro e u11 ⟨e9, x9⟩
            rw [← hKG] at e9
            subst e9
            replace X := Kept.mk (X.out.trans x9)
            replace ka := ka.keep x9
            replace kb := kb.keep x9
            replace kW := kW.keep x9
            replace kG := kG.keep x9
            replace gW := gW.keep x9
            replace gG := gG.keep x9
            clear x9
            obtain ⟨aka0, aka1, aka2, aka3, aka4, aka5⟩ := ka.sixC
            obtain ⟨akb0, akb1, akb2, akb3, akb4, akb5⟩ := kb.sixC
            go_wp2_with (fail)
            clear aka0 aka1 aka2 aka3 aka4 aka5
            clear akb0 akb1 akb2 akb3 akb4 akb5
            apply wp_region_zip [isv _, grpR2 ra0 ca0 ra1 ca1 xa0 xa1, isv _, grpR2 rb0 cb0 rb1 cb1 xb0 xb1, grpR2 gr0 gc0 gr1 gc1 gs0 gs1, newb _ 59] _ (by kernel_rfl)
            case hA => intro V; simp [putAll, dstOf, Act.put]; exact rfl
            case hsl => intro V; exact rfl
            case step =>
              intro V lo up w' hr
              obtain ⟨hcr, hzr⟩ := hr.cells
              have hsr := hr.size
              have ka := ka.keep hr
              have kb := kb.keep hr
              have kW := kW.keep hr
              have kG := kG.keep hr
              have gW := gW.keep hr
              have gG := gG.keep hr
              have hxr := X.out.trans hr
              obtain ⟨aka0, aka1, aka2, aka3, aka4, aka5⟩ := ka.sixC
              obtain ⟨akb0, akb1, akb2, akb3, akb4, akb5⟩ := kb.sixC
              simp only [zipOk, depsImp, isv, grpR2, modeNg, newb, waits, Region.binds, List.map_nil, List.map_cons, List.headD_cons, List.nil_append, List.cons_append, List.filterMap_cons, List.filterMap_nil, ↓reduceIte, modeNe, Bool.false_eq_true, true_implies, List.getD_cons_zero, List.getD_cons_succ, and_true]
              refine ⟨?_, ?_, ?_, ?_, ?_, ?_⟩
              · intros
                go_wp2
                refine stepQ_mk rfl (by simp only [List.getElem?_toArray, List.getElem?_cons_succ, List.getElem?_cons_zero]; exact rfl) ?_
                exact ⟨Ext.refl _, rfl⟩
              · intros
                go_wp2_with (fail)
                (with_reducible refine (TOa.out _ hxr).mono ?_)
                rintro e w9 ⟨v90, v91, rfl, g9, x9⟩
                go_wp2
                refine stepQ_mk rfl (by simp only [List.getElem?_toArray, List.getElem?_cons_succ, List.getElem?_cons_zero]; exact rfl) ?_
                exact ⟨x9, v90, v91, rfl, g9⟩
              · intros
                go_wp2
                refine stepQ_mk rfl (by simp only [List.getElem?_toArray, List.getElem?_cons_succ, List.getElem?_cons_zero]; exact rfl) ?_
                exact ⟨Ext.refl _, rfl⟩
              · intros
                go_wp2_with (fail)
                (with_reducible refine (TOb.out _ hxr).mono ?_)
                rintro e w9 ⟨v90, v91, rfl, g9, x9⟩
                go_wp2
                refine stepQ_mk rfl (by simp only [List.getElem?_toArray, List.getElem?_cons_succ, List.getElem?_cons_zero]; exact rfl) ?_
                exact ⟨x9, v90, v91, rfl, g9⟩
              · intro _ _ _ ⟨va90, va91, ea9, ga9⟩ _ _ _ ⟨vb90, vb91, eb9, gb9⟩
                intros
                go_wp2_with (fail)
                (with_reducible refine (IP.out _ _ _ _ _ (ga9.o0.ints) (ga9.o1.ints) (gb9.o0.ints) (gb9.o1.ints)).mono ?_)
                rintro e w9 ⟨v90, v91, rfl, g9, x9⟩
                go_wp2
                refine stepQ_mk rfl (by simp only [List.getElem?_toArray, List.getElem?_cons_succ, List.getElem?_cons_zero]; exact rfl) ?_
                exact ⟨x9, v90, v91, rfl, g9⟩
              · intros
                go_wp2
                refine stepQ_mk rfl (by simp only [List.getElem?_toArray, List.getElem?_cons_succ, List.getElem?_cons_zero]; exact rfl) ?_
                exact ⟨(Ext.refl _).alloc _, rfl, by simp, Blk.new _ _ _⟩
            case hB => kernel_rfl
            case fin =>
              intro V lo up w' hr hf ha
              simp only [factsOk, isv, grpR2, modeNg, newb, List.map_nil, List.map_cons, List.headD_cons, and_true, Nat.zero_add, Nat.reduceAdd] at hf
              simp only [List.length_cons, List.length_nil, Nat.zero_add, Nat.reduceAdd, List.drop_succ_cons, List.drop_zero]
              obtain ⟨-, -, -, -, ⟨l4, -, -, v40, v41, e4, g4⟩, ⟨l5, -, -, e5, -, kH⟩⟩ := hf
              have tgW := gW
              have tgG := gG
              have zka := ka.lt
              have zkb := kb.lt
              have zkW := kW.lt
              have zkG := kG.lt
              clear ha
              replace ka := ka.keep hr
              replace kb := kb.keep hr
              replace kW := kW.keep hr
              replace kG := kG.keep hr
              replace gW := gW.keep hr
              replace gG := gG.keep hr
              rw [e4, e5]
              clear e4 e5
              have gH := g4.mono l4
              clear g4 l4
              have sH_W := Kept.mk (tgW.sep gH)
              have sH_G := Kept.mk (tgG.sep gH)
              clear tgW tgG
              obtain ⟨⟨q90, q91, -⟩, -⟩ := id gH
              obtain ⟨pH0, mH0, hu9, -, -⟩ := id q90.ints
              try simp only at hu9
              subst hu9
              clear q90
              obtain ⟨pH1, mH1, hu9, -, -⟩ := id q91.ints
              try simp only at hu9
              subst hu9
              clear q91
              replace gH := gH.mono X.out.size
              replace X := Kept.mk (X.out.trans hr)
              clear hr
              try clear hc hz
              generalize lo 5 = bkH at *
              have X0 := X.out.size
              obtain ⟨akH0, akH1, akH2, akH3, akH4, akH5⟩ := kH.sixC
              obtain ⟨akW0, akW1, akW2, akW3, akW4, akW5⟩ := kW.sixC
              have fkH := kH.free
              go_wp2_with (fail)
              clear akH0 akH1 akH2 akH3 akH4 akH5
              clear akW0 akW1 akW2 akW3 akW4 akW5
              clear fkH
              replace gW := gW.oth (gW.ne kH (by decide)) 0 1 2 (.int .i64 gr0) (.int .i64 gc0) (.slice pH0 gs0.length mH0)
              replace gG := gG.oth (gG.ne kH (by decide)) 0 1 2 (.int .i64 gr0) (.int .i64 gc0) (.slice pH0 gs0.length mH0)
              replace gH := gH.oth (gH.ne kH (by decide)) 0 1 2 (.int .i64 gr0) (.int .i64 gc0) (.slice pH0 gs0.length mH0)
              replace ka := ka.oth (g := bkH) (by omega) 0 1 2 (.int .i64 gr0) (.int .i64 gc0) (.slice pH0 gs0.length mH0)
              replace kb := kb.oth (g := bkH) (by omega) 0 1 2 (.int .i64 gr0) (.int .i64 gc0) (.slice pH0 gs0.length mH0)
              replace kW := kW.oth (g := bkH) (by omega) 0 1 2 (.int .i64 gr0) (.int .i64 gc0) (.slice pH0 gs0.length mH0)
              replace kG := kG.oth (g := bkH) (by omega) 0 1 2 (.int .i64 gr0) (.int .i64 gc0) (.slice pH0 gs0.length mH0)
              replace kH := kH.sub 0 1 2 (.int .i64 gr0) (.int .i64 gc0) (.slice pH0 gs0.length mH0) (cs' := #[.int .i64 gr0, .int .i64 gc0, .slice pH0 gs0.length mH0, .int .i64 0, .int .i64 0, .slice none 0 0]) rfl
              replace X := Kept.mk (X.out.oth (g := bkH) (by omega) 0 1 2 (.int .i64 gr0) (.int .i64 gc0) (.slice pH0 gs0.length mH0))
              replace gW := gW.oth (gW.ne kH (by decide)) 3 4 5 (.int .i64 gr1) (.int .i64 gc1) (.slice pH1 gs1.length mH1)
              replace gG := gG.oth (gG.ne kH (by decide)) 3 4 5 (.int .i64 gr1) (.int .i64 gc1) (.slice pH1 gs1.length mH1)
              replace gH := gH.oth (gH.ne kH (by decide)) 3 4 5 (.int .i64 gr1) (.int .i64 gc1) (.slice pH1 gs1.length mH1)
              replace ka := ka.oth (g := bkH) (by omega) 3 4 5 (.int .i64 gr1) (.int .i64 gc1) (.slice pH1 gs1.length mH1)
              replace kb := kb.oth (g := bkH) (by omega) 3 4 5 (.int .i64 gr1) (.int .i64 gc1) (.slice pH1 gs1.length mH1)
              replace kW := kW.oth (g := bkH) (by omega) 3 4 5 (.int .i64 gr1) (.int .i64 gc1) (.slice pH1 gs1.length mH1)
              replace kG := kG.oth (g := bkH) (by omega) 3 4 5 (.int .i64 gr1) (.int .i64 gc1) (.slice pH1 gs1.length mH1)
              replace kH := kH.sub 3 4 5 (.int .i64 gr1) (.int .i64 gc1) (.slice pH1 gs1.length mH1) (cs' := #[.int .i64 gr0, .int .i64 gc0, .slice pH0 gs0.length mH0, .int .i64 gr1, .int .i64 gc1, .slice pH1 gs1.length mH1]) rfl
              replace X := Kept.mk (X.out.oth (g := bkH) (by omega) 3 4 5 (.int .i64 gr1) (.int .i64 gc1) (.slice pH1 gs1.length mH1))
              (with_reducible refine (laws_eqSharedMatrix gr0 gc0 gr1 gc1 _ _ _ _ gs0 gs1 _ gH.o0.ints gH.o1.ints gW.o0.ints gW.o1.ints).mono ?_)
              rintro e u12 ⟨rfl, x9⟩
              replace X := Kept.mk (X.out.trans x9)
              replace ka := ka.keep x9
              replace kb := kb.keep x9
              replace kW := kW.keep x9
              replace kG := kG.keep x9
              replace kH := kH.keep x9
              replace gW := gW.keep x9
              replace gG := gG.keep x9
              replace gH := gH.keep x9
              clear x9
              obtain ⟨akG0, akG1, akG2, akG3, akG4, akG5⟩ := kG.sixC
              go_wp2_with (fail)
              clear akG0 akG1 akG2 akG3 akG4 akG5
              (with_reducible refine (laws_heldSharedMatrix gr0 gc0 gr1 gc1 _ _ 1 gs0.length gs1.length _ gG.own.ints (by omega) (by have := NL.out; omega)).mono ?_)
              rintro e u13 ⟨e9, x9⟩
              rw [← hKG] at e9
              subst e9
              replace X := Kept.mk (X.out.trans x9)
              replace ka := ka.keep x9
              replace kb := kb.keep x9
              replace kW := kW.keep x9
              replace kG := kG.keep x9
              replace kH := kH.keep x9
              replace gW := gW.keep x9
              replace gG := gG.keep x9
              replace gH := gH.keep x9
              clear x9
              clear ka kb kW kG kH gW gG gH
              go_wp2
              go_ret
              exact ⟨rfl, X.out⟩
end Go.Proofs.Ytdljakpkhheepaa
