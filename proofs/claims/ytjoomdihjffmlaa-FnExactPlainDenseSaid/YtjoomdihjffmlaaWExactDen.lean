/- The walk through the law FnExactPlainDense. -/
import Derived.Test.YtjoomdihjffmlaaSDen
import Derived.Test.YtjoomdihjffmlaaExL
namespace Go.Proofs.Ytjoomdihjffmlaa
set_option linter.unusedSimpArgs false
set_option linter.unusedVariables false
open Go.RowKit
theorem pairM_len25 (op : Int → Int → Int) (a b : Mat) : (pairM op a b).xs.length ≤ 25 := by
  unfold pairM
  split
  · rename_i h
    simp only [Bool.and_eq_true] at h
    obtain ⟨R, C, f, rfl, hR, hC, _⟩ := Mat.ok_form h.1.1
    simp only [mapTo_len, Fm_len]
    exact Nat.le_trans (Nat.mul_le_mul hR.hi hC.hi) (by decide)
  · exact Nat.zero_le _
theorem denseM_len (w b x : Mat) : (denseM w b x).xs.length ≤ 25 := by
  unfold denseM
  split
  · exact pairM_len25 _ _ _
  · exact Nat.zero_le _

set_option maxHeartbeats 8000000 in
set_option maxRecDepth 4000 in
theorem walk_FnExactPlainDense (ra0 ca0 : Int) (vxa0 : Value) (xa0 : List Int) (rb0 cb0 : Int) (vxb0 : Value) (xb0 : List Int) (rd0 cd0 : Int) (vxd0 : Value) (xd0 : List Int) (w : World) (hxa0 : Ints w vxa0 xa0) (hxb0 : Ints w vxb0 xb0) (hxd0 : Ints w vxd0 xd0) : Calls Try.prog 8 #[.agg #[.int .i64 ra0, .int .i64 ca0, vxa0], .agg #[.int .i64 rb0, .int .i64 cb0, vxb0], .agg #[.int .i64 rd0, .int .i64 cd0, vxd0]] w fun e w' => e = .returned (.bool true) ∧ Ext w w' := by
  obtain ⟨sa0, na0, rfl, hm9, hc9⟩ := id hxa0
  clear hm9 hc9
  have Hxa0 := Kept.mk hxa0
  clear hxa0
  obtain ⟨sb0, nb0, rfl, hm9, hc9⟩ := id hxb0
  clear hm9 hc9
  have Hxb0 := Kept.mk hxb0
  clear hxb0
  obtain ⟨sd0, nd0, rfl, hm9, hc9⟩ := id hxd0
  clear hm9 hc9
  have Hxd0 := Kept.mk hxd0
  clear hxd0
  obtain ⟨Ta, hTa⟩ : ∃ T : Nat, T = xa0.length := ⟨_, rfl⟩
  obtain ⟨Tb, hTb⟩ : ∃ T : Nat, T = xb0.length := ⟨_, rfl⟩
  obtain ⟨Td, hTd⟩ : ∃ T : Nat, T = xd0.length := ⟨_, rfl⟩
  by_cases da : (1048576 : Int) - (Ta : Int) < 0
  · have Za : Kept (∀ w', Ext w w' → Calls Try.prog 34 #[.agg #[.int .i64 ra0, .int .i64 ca0, .slice sa0 xa0.length na0], .int .i64 1048576] w' fun e w'' => e = .returned (.int .i64 (-1)) ∧ Ext w' w'') := by
      refine ⟨fun w' hx => ?_⟩
      have h := laws_szMatrix ra0 ca0 _ xa0 1048576 w' (Hxa0.out.keep hx) (by omega) (by omega)
      rw [show (if (1048576 : Int) - (xa0.length : Int) < 0 then (-1 : Int) else 1048576 - (xa0.length : Int)) = if 1048576 - (Ta : Int) < 0 then -1 else 1048576 - (Ta : Int) by rw [hTa]] at h
      rw [if_pos da] at h
      exact h
    clear da hTa hTb hTd
    have X := Kept.mk ((((Ext.refl w).alloc (.cells #[.int .i64 ra0, .int .i64 ca0, .slice sa0 xa0.length na0] 56)).alloc (.cells #[.int .i64 rb0, .int .i64 cb0, .slice sb0 xb0.length nb0] 56)).alloc (.cells #[.int .i64 rd0, .int .i64 cd0, .slice sd0 xd0.length nd0] 56))
    have ka := ((Blk.new w #[.int .i64 ra0, .int .i64 ca0, .slice sa0 xa0.length na0] 56).old (.cells #[.int .i64 rb0, .int .i64 cb0, .slice sb0 xb0.length nb0] 56)).old (.cells #[.int .i64 rd0, .int .i64 cd0, .slice sd0 xd0.length nd0] 56)
    have kb := (Blk.new (w.alloc (.cells #[.int .i64 ra0, .int .i64 ca0, .slice sa0 xa0.length na0] 56)) #[.int .i64 rb0, .int .i64 cb0, .slice sb0 xb0.length nb0] 56).old (.cells #[.int .i64 rd0, .int .i64 cd0, .slice sd0 xd0.length nd0] 56)
    have kd := Blk.new ((w.alloc (.cells #[.int .i64 ra0, .int .i64 ca0, .slice sa0 xa0.length na0] 56)).alloc (.cells #[.int .i64 rb0, .int .i64 cb0, .slice sb0 xb0.length nb0] 56)) #[.int .i64 rd0, .int .i64 cd0, .slice sd0 xd0.length nd0] 56
    simp only [World.size_alloc] at kb kd
    go_enter Try.func8, Try.ntmps8
    obtain ⟨aka0, aka1, aka2⟩ := ka.three
    go_wp2_with (fail)
    clear aka0 aka1 aka2
    (with_reducible refine (Za.out _ X.out).mono ?_)
    rintro e u1 ⟨rfl, x9⟩
    replace X := Kept.mk (X.out.trans x9)
    replace ka := ka.keep x9
    replace kb := kb.keep x9
    replace kd := kd.keep x9
    clear x9
    clear ka kb kd
    go_wp2
    go_ret
    exact ⟨rfl, X.out⟩
  · by_cases db : (1048576 - (Ta : Int)) - (Tb : Int) < 0
    · have Za : Kept (∀ w', Ext w w' → Calls Try.prog 34 #[.agg #[.int .i64 ra0, .int .i64 ca0, .slice sa0 xa0.length na0], .int .i64 1048576] w' fun e w'' => e = .returned (.int .i64 (1048576 - (Ta : Int))) ∧ Ext w' w'') := by
        refine ⟨fun w' hx => ?_⟩
        have h := laws_szMatrix ra0 ca0 _ xa0 1048576 w' (Hxa0.out.keep hx) (by omega) (by omega)
        rw [show (if (1048576 : Int) - (xa0.length : Int) < 0 then (-1 : Int) else 1048576 - (xa0.length : Int)) = if 1048576 - (Ta : Int) < 0 then -1 else 1048576 - (Ta : Int) by rw [hTa]] at h
        rw [if_neg da] at h
        exact h
      have Zb : Kept (∀ w', Ext w w' → Calls Try.prog 34 #[.agg #[.int .i64 rb0, .int .i64 cb0, .slice sb0 xb0.length nb0], .int .i64 (1048576 - (Ta : Int))] w' fun e w'' => e = .returned (.int .i64 (-1)) ∧ Ext w' w'') := by
        refine ⟨fun w' hx => ?_⟩
        have h := laws_szMatrix rb0 cb0 _ xb0 (1048576 - (Ta : Int)) w' (Hxb0.out.keep hx) (by omega) (by omega)
        rw [show (if (1048576 - (Ta : Int)) - (xb0.length : Int) < 0 then (-1 : Int) else (1048576 - (Ta : Int)) - (xb0.length : Int)) = if (1048576 - (Ta : Int)) - (Tb : Int) < 0 then -1 else (1048576 - (Ta : Int)) - (Tb : Int) by rw [hTb]] at h
        rw [if_pos db] at h
        exact h
      have ga : decide (1048576 - (Ta : Int) < 0) = false := by simp; omega
      clear da db hTa hTb hTd
      have X := Kept.mk ((((Ext.refl w).alloc (.cells #[.int .i64 ra0, .int .i64 ca0, .slice sa0 xa0.length na0] 56)).alloc (.cells #[.int .i64 rb0, .int .i64 cb0, .slice sb0 xb0.length nb0] 56)).alloc (.cells #[.int .i64 rd0, .int .i64 cd0, .slice sd0 xd0.length nd0] 56))
      have ka := ((Blk.new w #[.int .i64 ra0, .int .i64 ca0, .slice sa0 xa0.length na0] 56).old (.cells #[.int .i64 rb0, .int .i64 cb0, .slice sb0 xb0.length nb0] 56)).old (.cells #[.int .i64 rd0, .int .i64 cd0, .slice sd0 xd0.length nd0] 56)
      have kb := (Blk.new (w.alloc (.cells #[.int .i64 ra0, .int .i64 ca0, .slice sa0 xa0.length na0] 56)) #[.int .i64 rb0, .int .i64 cb0, .slice sb0 xb0.length nb0] 56).old (.cells #[.int .i64 rd0, .int .i64 cd0, .slice sd0 xd0.length nd0] 56)
      have kd := Blk.new ((w.alloc (.cells #[.int .i64 ra0, .int .i64 ca0, .slice sa0 xa0.length na0] 56)).alloc (.cells #[.int .i64 rb0, .int .i64 cb0, .slice sb0 xb0.length nb0] 56)) #[.int .i64 rd0, .int .i64 cd0, .slice sd0 xd0.length nd0] 56
      simp only [World.size_alloc] at kb kd
      go_enter Try.func8, Try.ntmps8
      obtain ⟨aka0, aka1, aka2⟩ := ka.three
      go_wp2_with (fail)
      clear aka0 aka1 aka2
      (with_reducible refine (Za.out _ X.out).mono ?_)
      rintro e u1 ⟨rfl, x9⟩
      replace X := Kept.mk (X.out.trans x9)
      replace ka := ka.keep x9
      replace kb := kb.keep x9
      replace kd := kd.keep x9
      clear x9
      obtain ⟨akb0, akb1, akb2⟩ := kb.three
      go_wp2_with (fail)
      clear akb0 akb1 akb2
      (with_reducible refine (Zb.out _ X.out).mono ?_)
      rintro e u2 ⟨rfl, x9⟩
      replace X := Kept.mk (X.out.trans x9)
      replace ka := ka.keep x9
      replace kb := kb.keep x9
      replace kd := kd.keep x9
      clear x9
      clear ka kb kd
      go_wp2
      go_ret
      exact ⟨rfl, X.out⟩
    · by_cases dd : ((1048576 - (Ta : Int)) - (Tb : Int)) - (Td : Int) < 0
      · have Za : Kept (∀ w', Ext w w' → Calls Try.prog 34 #[.agg #[.int .i64 ra0, .int .i64 ca0, .slice sa0 xa0.length na0], .int .i64 1048576] w' fun e w'' => e = .returned (.int .i64 (1048576 - (Ta : Int))) ∧ Ext w' w'') := by
          refine ⟨fun w' hx => ?_⟩
          have h := laws_szMatrix ra0 ca0 _ xa0 1048576 w' (Hxa0.out.keep hx) (by omega) (by omega)
          rw [show (if (1048576 : Int) - (xa0.length : Int) < 0 then (-1 : Int) else 1048576 - (xa0.length : Int)) = if 1048576 - (Ta : Int) < 0 then -1 else 1048576 - (Ta : Int) by rw [hTa]] at h
          rw [if_neg da] at h
          exact h
        have Zb : Kept (∀ w', Ext w w' → Calls Try.prog 34 #[.agg #[.int .i64 rb0, .int .i64 cb0, .slice sb0 xb0.length nb0], .int .i64 (1048576 - (Ta : Int))] w' fun e w'' => e = .returned (.int .i64 ((1048576 - (Ta : Int)) - (Tb : Int))) ∧ Ext w' w'') := by
          refine ⟨fun w' hx => ?_⟩
          have h := laws_szMatrix rb0 cb0 _ xb0 (1048576 - (Ta : Int)) w' (Hxb0.out.keep hx) (by omega) (by omega)
          rw [show (if (1048576 - (Ta : Int)) - (xb0.length : Int) < 0 then (-1 : Int) else (1048576 - (Ta : Int)) - (xb0.length : Int)) = if (1048576 - (Ta : Int)) - (Tb : Int) < 0 then -1 else (1048576 - (Ta : Int)) - (Tb : Int) by rw [hTb]] at h
          rw [if_neg db] at h
          exact h
        have Zd : Kept (∀ w', Ext w w' → Calls Try.prog 34 #[.agg #[.int .i64 rd0, .int .i64 cd0, .slice sd0 xd0.length nd0], .int .i64 ((1048576 - (Ta : Int)) - (Tb : Int))] w' fun e w'' => e = .returned (.int .i64 (-1)) ∧ Ext w' w'') := by
          refine ⟨fun w' hx => ?_⟩
          have h := laws_szMatrix rd0 cd0 _ xd0 ((1048576 - (Ta : Int)) - (Tb : Int)) w' (Hxd0.out.keep hx) (by omega) (by omega)
          rw [show (if ((1048576 - (Ta : Int)) - (Tb : Int)) - (xd0.length : Int) < 0 then (-1 : Int) else ((1048576 - (Ta : Int)) - (Tb : Int)) - (xd0.length : Int)) = if ((1048576 - (Ta : Int)) - (Tb : Int)) - (Td : Int) < 0 then -1 else ((1048576 - (Ta : Int)) - (Tb : Int)) - (Td : Int) by rw [hTd]] at h
          rw [if_pos dd] at h
          exact h
        have ga : decide (1048576 - (Ta : Int) < 0) = false := by simp; omega
        have gb : decide ((1048576 - (Ta : Int)) - (Tb : Int) < 0) = false := by simp; omega
        clear da db dd hTa hTb hTd
        have X := Kept.mk ((((Ext.refl w).alloc (.cells #[.int .i64 ra0, .int .i64 ca0, .slice sa0 xa0.length na0] 56)).alloc (.cells #[.int .i64 rb0, .int .i64 cb0, .slice sb0 xb0.length nb0] 56)).alloc (.cells #[.int .i64 rd0, .int .i64 cd0, .slice sd0 xd0.length nd0] 56))
        have ka := ((Blk.new w #[.int .i64 ra0, .int .i64 ca0, .slice sa0 xa0.length na0] 56).old (.cells #[.int .i64 rb0, .int .i64 cb0, .slice sb0 xb0.length nb0] 56)).old (.cells #[.int .i64 rd0, .int .i64 cd0, .slice sd0 xd0.length nd0] 56)
        have kb := (Blk.new (w.alloc (.cells #[.int .i64 ra0, .int .i64 ca0, .slice sa0 xa0.length na0] 56)) #[.int .i64 rb0, .int .i64 cb0, .slice sb0 xb0.length nb0] 56).old (.cells #[.int .i64 rd0, .int .i64 cd0, .slice sd0 xd0.length nd0] 56)
        have kd := Blk.new ((w.alloc (.cells #[.int .i64 ra0, .int .i64 ca0, .slice sa0 xa0.length na0] 56)).alloc (.cells #[.int .i64 rb0, .int .i64 cb0, .slice sb0 xb0.length nb0] 56)) #[.int .i64 rd0, .int .i64 cd0, .slice sd0 xd0.length nd0] 56
        simp only [World.size_alloc] at kb kd
        go_enter Try.func8, Try.ntmps8
        obtain ⟨aka0, aka1, aka2⟩ := ka.three
        go_wp2_with (fail)
        clear aka0 aka1 aka2
        (with_reducible refine (Za.out _ X.out).mono ?_)
        rintro e u1 ⟨rfl, x9⟩
        replace X := Kept.mk (X.out.trans x9)
        replace ka := ka.keep x9
        replace kb := kb.keep x9
        replace kd := kd.keep x9
        clear x9
        obtain ⟨akb0, akb1, akb2⟩ := kb.three
        go_wp2_with (fail)
        clear akb0 akb1 akb2
        (with_reducible refine (Zb.out _ X.out).mono ?_)
        rintro e u2 ⟨rfl, x9⟩
        replace X := Kept.mk (X.out.trans x9)
        replace ka := ka.keep x9
        replace kb := kb.keep x9
        replace kd := kd.keep x9
        clear x9
        obtain ⟨akd0, akd1, akd2⟩ := kd.three
        go_wp2_with (fail)
        clear akd0 akd1 akd2
        (with_reducible refine (Zd.out _ X.out).mono ?_)
        rintro e u3 ⟨rfl, x9⟩
        replace X := Kept.mk (X.out.trans x9)
        replace ka := ka.keep x9
        replace kb := kb.keep x9
        replace kd := kd.keep x9
        clear x9
        clear ka kb kd
        go_wp2
        go_ret
        exact ⟨rfl, X.out⟩
      · have Za : Kept (∀ w', Ext w w' → Calls Try.prog 34 #[.agg #[.int .i64 ra0, .int .i64 ca0, .slice sa0 xa0.length na0], .int .i64 1048576] w' fun e w'' => e = .returned (.int .i64 (1048576 - (Ta : Int))) ∧ Ext w' w'') := by
          refine ⟨fun w' hx => ?_⟩
          have h := laws_szMatrix ra0 ca0 _ xa0 1048576 w' (Hxa0.out.keep hx) (by omega) (by omega)
          rw [show (if (1048576 : Int) - (xa0.length : Int) < 0 then (-1 : Int) else 1048576 - (xa0.length : Int)) = if 1048576 - (Ta : Int) < 0 then -1 else 1048576 - (Ta : Int) by rw [hTa]] at h
          rw [if_neg da] at h
          exact h
        have Zb : Kept (∀ w', Ext w w' → Calls Try.prog 34 #[.agg #[.int .i64 rb0, .int .i64 cb0, .slice sb0 xb0.length nb0], .int .i64 (1048576 - (Ta : Int))] w' fun e w'' => e = .returned (.int .i64 ((1048576 - (Ta : Int)) - (Tb : Int))) ∧ Ext w' w'') := by
          refine ⟨fun w' hx => ?_⟩
          have h := laws_szMatrix rb0 cb0 _ xb0 (1048576 - (Ta : Int)) w' (Hxb0.out.keep hx) (by omega) (by omega)
          rw [show (if (1048576 - (Ta : Int)) - (xb0.length : Int) < 0 then (-1 : Int) else (1048576 - (Ta : Int)) - (xb0.length : Int)) = if (1048576 - (Ta : Int)) - (Tb : Int) < 0 then -1 else (1048576 - (Ta : Int)) - (Tb : Int) by rw [hTb]] at h
          rw [if_neg db] at h
          exact h
        have Zd : Kept (∀ w', Ext w w' → Calls Try.prog 34 #[.agg #[.int .i64 rd0, .int .i64 cd0, .slice sd0 xd0.length nd0], .int .i64 ((1048576 - (Ta : Int)) - (Tb : Int))] w' fun e w'' => e = .returned (.int .i64 (((1048576 - (Ta : Int)) - (Tb : Int)) - (Td : Int))) ∧ Ext w' w'') := by
          refine ⟨fun w' hx => ?_⟩
          have h := laws_szMatrix rd0 cd0 _ xd0 ((1048576 - (Ta : Int)) - (Tb : Int)) w' (Hxd0.out.keep hx) (by omega) (by omega)
          rw [show (if ((1048576 - (Ta : Int)) - (Tb : Int)) - (xd0.length : Int) < 0 then (-1 : Int) else ((1048576 - (Ta : Int)) - (Tb : Int)) - (xd0.length : Int)) = if ((1048576 - (Ta : Int)) - (Tb : Int)) - (Td : Int) < 0 then -1 else ((1048576 - (Ta : Int)) - (Tb : Int)) - (Td : Int) by rw [hTd]] at h
          rw [if_neg dd] at h
          exact h
        have ga : decide (1048576 - (Ta : Int) < 0) = false := by simp; omega
        have Lxa0 : Kept (xa0.length ≤ 1048576) := ⟨by omega⟩
        have gb : decide ((1048576 - (Ta : Int)) - (Tb : Int) < 0) = false := by simp; omega
        have Lxb0 : Kept (xb0.length ≤ 1048576) := ⟨by omega⟩
        have gd : decide (((1048576 - (Ta : Int)) - (Tb : Int)) - (Td : Int) < 0) = false := by simp; omega
        have Lxd0 : Kept (xd0.length ≤ 1048576) := ⟨by omega⟩
        have TOa : Kept (∀ w', Ext w w' → Calls Try.prog 36 #[.agg #[.int .i64 ra0, .int .i64 ca0, .slice sa0 xa0.length na0]] w' fun e w'' => ∃ v0, e = .returned (.agg #[.int .i64 ra0, .int .i64 ca0, v0]) ∧ Grp w'.heap.size w'' [v0] [xa0] ∧ Ext w' w'') := ⟨fun w' hx => (laws_toMatrix ra0 ca0 _ xa0 w' (Hxa0.out.keep hx) Lxa0.out).mono fun e w'' h => h.grp⟩
        have TOb : Kept (∀ w', Ext w w' → Calls Try.prog 36 #[.agg #[.int .i64 rb0, .int .i64 cb0, .slice sb0 xb0.length nb0]] w' fun e w'' => ∃ v0, e = .returned (.agg #[.int .i64 rb0, .int .i64 cb0, v0]) ∧ Grp w'.heap.size w'' [v0] [xb0] ∧ Ext w' w'') := ⟨fun w' hx => (laws_toMatrix rb0 cb0 _ xb0 w' (Hxb0.out.keep hx) Lxb0.out).mono fun e w'' h => h.grp⟩
        have TOd : Kept (∀ w', Ext w w' → Calls Try.prog 36 #[.agg #[.int .i64 rd0, .int .i64 cd0, .slice sd0 xd0.length nd0]] w' fun e w'' => ∃ v0, e = .returned (.agg #[.int .i64 rd0, .int .i64 cd0, v0]) ∧ Grp w'.heap.size w'' [v0] [xd0] ∧ Ext w' w'') := ⟨fun w' hx => (laws_toMatrix rd0 cd0 _ xd0 w' (Hxd0.out.keep hx) Lxd0.out).mono fun e w'' h => h.grp⟩
        obtain ⟨DR, hDR⟩ : ∃ D, D = denseM ⟨ra0, ca0, xa0⟩ ⟨rb0, cb0, xb0⟩ ⟨rd0, cd0, xd0⟩ := ⟨_, rfl⟩
        have NL := denseM_len ⟨ra0, ca0, xa0⟩ ⟨rb0, cb0, xb0⟩ ⟨rd0, cd0, xd0⟩
        rw [← hDR] at NL
        obtain ⟨gr0, gc0, gs0⟩ := DR
        simp only at NL
        have NL := Kept.mk NL
        have SP : Kept (∀ (ua0 ub0 ud0 : Value) (w' : World), Arg w' ua0 xa0 → Arg w' ub0 xb0 → Arg w' ud0 xd0 → Calls Try.prog 35 #[.agg #[.int .i64 ra0, .int .i64 ca0, ua0], .agg #[.int .i64 rb0, .int .i64 cb0, ub0], .agg #[.int .i64 rd0, .int .i64 cd0, ud0]] w' fun e w'' => ∃ y0, e = .returned (.agg #[.int .i64 gr0, .int .i64 gc0, y0]) ∧ Grp w'.heap.size w'' [y0] [gs0] ∧ Ext w' w'') := by
          refine ⟨fun ua0 ub0 ud0 w' fa0 fb0 fd0 => ?_⟩
          have h := (spec_PlainDense ra0 ca0 rb0 cb0 rd0 cd0 ua0 ub0 ud0 xa0 xb0 xd0 w' fa0 fb0 fd0).mono fun e w'' h => h.grp
          rw [← hDR] at h
          exact h
        have IP : Kept (∀ (ua0 ub0 ud0 : Value) (w' : World), Arg w' ua0 xa0 → Arg w' ub0 xb0 → Arg w' ud0 xd0 → Calls Try.prog 37 #[.agg #[.int .i64 ra0, .int .i64 ca0, ua0], .agg #[.int .i64 rb0, .int .i64 cb0, ub0], .agg #[.int .i64 rd0, .int .i64 cd0, ud0]] w' fun e w'' => ∃ y0, e = .returned (.agg #[.int .i64 gr0, .int .i64 gc0, y0]) ∧ Grp w'.heap.size w'' [y0] [gs0] ∧ Ext w' w'') := by
          refine ⟨fun ua0 ub0 ud0 w' fa0 fb0 fd0 => ?_⟩
          have h := (impl_PlainDense ra0 ca0 rb0 cb0 rd0 cd0 ua0 ub0 ud0 xa0 xb0 xd0 w' fa0.ints fb0.ints fd0.ints fa0.fit).mono fun e w'' h => h.grp
          rw [← hDR] at h
          exact h
        clear hDR hTa hTb hTd da db dd
        have X := Kept.mk ((((Ext.refl w).alloc (.cells #[.int .i64 ra0, .int .i64 ca0, .slice sa0 xa0.length na0] 56)).alloc (.cells #[.int .i64 rb0, .int .i64 cb0, .slice sb0 xb0.length nb0] 56)).alloc (.cells #[.int .i64 rd0, .int .i64 cd0, .slice sd0 xd0.length nd0] 56))
        have ka := ((Blk.new w #[.int .i64 ra0, .int .i64 ca0, .slice sa0 xa0.length na0] 56).old (.cells #[.int .i64 rb0, .int .i64 cb0, .slice sb0 xb0.length nb0] 56)).old (.cells #[.int .i64 rd0, .int .i64 cd0, .slice sd0 xd0.length nd0] 56)
        have kb := (Blk.new (w.alloc (.cells #[.int .i64 ra0, .int .i64 ca0, .slice sa0 xa0.length na0] 56)) #[.int .i64 rb0, .int .i64 cb0, .slice sb0 xb0.length nb0] 56).old (.cells #[.int .i64 rd0, .int .i64 cd0, .slice sd0 xd0.length nd0] 56)
        have kd := Blk.new ((w.alloc (.cells #[.int .i64 ra0, .int .i64 ca0, .slice sa0 xa0.length na0] 56)).alloc (.cells #[.int .i64 rb0, .int .i64 cb0, .slice sb0 xb0.length nb0] 56)) #[.int .i64 rd0, .int .i64 cd0, .slice sd0 xd0.length nd0] 56
        simp only [World.size_alloc] at kb kd
        go_enter Try.func8, Try.ntmps8
        obtain ⟨aka0, aka1, aka2⟩ := ka.three
        go_wp2_with (fail)
        clear aka0 aka1 aka2
        (with_reducible refine (Za.out _ X.out).mono ?_)
        rintro e u1 ⟨rfl, x9⟩
        replace X := Kept.mk (X.out.trans x9)
        replace ka := ka.keep x9
        replace kb := kb.keep x9
        replace kd := kd.keep x9
        clear x9
        obtain ⟨akb0, akb1, akb2⟩ := kb.three
        go_wp2_with (fail)
        clear akb0 akb1 akb2
        (with_reducible refine (Zb.out _ X.out).mono ?_)
        rintro e u2 ⟨rfl, x9⟩
        replace X := Kept.mk (X.out.trans x9)
        replace ka := ka.keep x9
        replace kb := kb.keep x9
        replace kd := kd.keep x9
        clear x9
        obtain ⟨akd0, akd1, akd2⟩ := kd.three
        go_wp2_with (fail)
        clear akd0 akd1 akd2
        (with_reducible refine (Zd.out _ X.out).mono ?_)
        rintro e u3 ⟨rfl, x9⟩
        replace X := Kept.mk (X.out.trans x9)
        replace ka := ka.keep x9
        replace kb := kb.keep x9
        replace kd := kd.keep x9
        clear x9
        clear Za Zb Zd
        obtain ⟨aka0, aka1, aka2⟩ := ka.three
        obtain ⟨akb0, akb1, akb2⟩ := kb.three
        obtain ⟨akd0, akd1, akd2⟩ := kd.three
        go_wp2_with (fail)
        clear aka0 aka1 aka2
        clear akb0 akb1 akb2
        clear akd0 akd1 akd2
        apply wp_region_zip [isv _, grpR1 ra0 ca0 xa0, isv _, grpR1 rb0 cb0 xb0, isv _, grpR1 rd0 cd0 xd0, grpR1 gr0 gc0 gs0, newb _ 25] _ (by kernel_rfl)
        case hA => intro V; simp [putAll, dstOf, Act.put]; exact rfl
        case hsl => intro V; exact rfl
        case step =>
          intro V lo up w' hr
          obtain ⟨hcr, hzr⟩ := hr.cells
          have hsr := hr.size
          have ka := ka.keep hr
          have kb := kb.keep hr
          have kd := kd.keep hr
          have hxr := X.out.trans hr
          obtain ⟨aka0, aka1, aka2⟩ := ka.three
          obtain ⟨akb0, akb1, akb2⟩ := kb.three
          obtain ⟨akd0, akd1, akd2⟩ := kd.three
          simp only [zipOk, depsImp, isv, grpR1, modeNg, newb, waits, Region.binds, List.map_nil, List.map_cons, List.headD_cons, List.nil_append, List.cons_append, List.filterMap_cons, List.filterMap_nil, ↓reduceIte, modeNe, Bool.false_eq_true, true_implies, List.getD_cons_zero, List.getD_cons_succ, and_true]
          refine ⟨?_, ?_, ?_, ?_, ?_, ?_, ?_, ?_⟩
          · intros
            go_wp2
            refine stepQ_mk rfl (by simp only [List.getElem?_toArray, List.getElem?_cons_succ, List.getElem?_cons_zero]; exact rfl) ?_
            exact ⟨Ext.refl _, rfl⟩
          · intros
            go_wp2_with (fail)
            (with_reducible refine (TOa.out _ hxr).mono ?_)
            rintro e w9 ⟨v90, rfl, g9, x9⟩
            go_wp2
            refine stepQ_mk rfl (by simp only [List.getElem?_toArray, List.getElem?_cons_succ, List.getElem?_cons_zero]; exact rfl) ?_
            exact ⟨x9, v90, rfl, g9⟩
          · intros
            go_wp2
            refine stepQ_mk rfl (by simp only [List.getElem?_toArray, List.getElem?_cons_succ, List.getElem?_cons_zero]; exact rfl) ?_
            exact ⟨Ext.refl _, rfl⟩
          · intros
            go_wp2_with (fail)
            (with_reducible refine (TOb.out _ hxr).mono ?_)
            rintro e w9 ⟨v90, rfl, g9, x9⟩
            go_wp2
            refine stepQ_mk rfl (by simp only [List.getElem?_toArray, List.getElem?_cons_succ, List.getElem?_cons_zero]; exact rfl) ?_
            exact ⟨x9, v90, rfl, g9⟩
          · intros
            go_wp2
            refine stepQ_mk rfl (by simp only [List.getElem?_toArray, List.getElem?_cons_succ, List.getElem?_cons_zero]; exact rfl) ?_
            exact ⟨Ext.refl _, rfl⟩
          · intros
            go_wp2_with (fail)
            (with_reducible refine (TOd.out _ hxr).mono ?_)
            rintro e w9 ⟨v90, rfl, g9, x9⟩
            go_wp2
            refine stepQ_mk rfl (by simp only [List.getElem?_toArray, List.getElem?_cons_succ, List.getElem?_cons_zero]; exact rfl) ?_
            exact ⟨x9, v90, rfl, g9⟩
          · intro _ _ _ ⟨va90, ea9, ga9⟩ _ _ _ ⟨vb90, eb9, gb9⟩ _ _ _ ⟨vd90, ed9, gd9⟩
            intros
            go_wp2_with (fail)
            (with_reducible refine (SP.out _ _ _ _ (ga9.o0.arg Lxa0.out) (gb9.o0.arg Lxb0.out) (gd9.o0.arg Lxd0.out)).mono ?_)
            rintro e w9 ⟨v90, rfl, g9, x9⟩
            go_wp2
            refine stepQ_mk rfl (by simp only [List.getElem?_toArray, List.getElem?_cons_succ, List.getElem?_cons_zero]; exact rfl) ?_
            exact ⟨x9, v90, rfl, g9⟩
          · intros
            go_wp2
            refine stepQ_mk rfl (by simp only [List.getElem?_toArray, List.getElem?_cons_succ, List.getElem?_cons_zero]; exact rfl) ?_
            exact ⟨(Ext.refl _).alloc _, rfl, by simp, Blk.new _ _ _⟩
        case hB => kernel_rfl
        case fin =>
          intro V lo up w' hr hf ha
          simp only [factsOk, isv, grpR1, modeNg, newb, List.map_nil, List.map_cons, List.headD_cons, and_true, Nat.zero_add, Nat.reduceAdd] at hf
          simp only [List.length_cons, List.length_nil, Nat.zero_add, Nat.reduceAdd, List.drop_succ_cons, List.drop_zero]
          obtain ⟨-, -, -, -, -, -, ⟨l6, -, -, v60, e6, g6⟩, ⟨l7, -, -, e7, -, kW⟩⟩ := hf
          have zka := ka.lt
          have zkb := kb.lt
          have zkd := kd.lt
          clear ha
          replace ka := ka.keep hr
          replace kb := kb.keep hr
          replace kd := kd.keep hr
          rw [e6, e7]
          clear e6 e7
          have gW := g6.mono l6
          clear g6 l6
          obtain ⟨⟨q90, -⟩, -⟩ := id gW
          obtain ⟨pW0, mW0, hu9, -, -⟩ := id q90.ints
          try simp only at hu9
          subst hu9
          clear q90
          replace gW := gW.mono X.out.size
          replace X := Kept.mk (X.out.trans hr)
          clear hr
          try clear hc hz
          generalize lo 7 = bkW at *
          have X0 := X.out.size
          obtain ⟨aka0, aka1, aka2⟩ := ka.three
          obtain ⟨akb0, akb1, akb2⟩ := kb.three
          obtain ⟨akd0, akd1, akd2⟩ := kd.three
          obtain ⟨akW0, akW1, akW2⟩ := kW.three
          have fkW := kW.free
          go_wp2_with (fail)
          clear aka0 aka1 aka2
          clear akb0 akb1 akb2
          clear akd0 akd1 akd2
          clear akW0 akW1 akW2
          clear fkW
          replace gW := gW.oth (gW.ne kW (by decide)) 0 1 2 (.int .i64 gr0) (.int .i64 gc0) (.slice pW0 gs0.length mW0)
          replace ka := ka.oth (g := bkW) (by omega) 0 1 2 (.int .i64 gr0) (.int .i64 gc0) (.slice pW0 gs0.length mW0)
          replace kb := kb.oth (g := bkW) (by omega) 0 1 2 (.int .i64 gr0) (.int .i64 gc0) (.slice pW0 gs0.length mW0)
          replace kd := kd.oth (g := bkW) (by omega) 0 1 2 (.int .i64 gr0) (.int .i64 gc0) (.slice pW0 gs0.length mW0)
          replace kW := kW.sub 0 1 2 (.int .i64 gr0) (.int .i64 gc0) (.slice pW0 gs0.length mW0) (cs' := #[.int .i64 gr0, .int .i64 gc0, .slice pW0 gs0.length mW0]) rfl
          replace X := Kept.mk (X.out.oth (g := bkW) (by omega) 0 1 2 (.int .i64 gr0) (.int .i64 gc0) (.slice pW0 gs0.length mW0))
          (with_reducible refine (TOa.out _ X.out).mono ?_)
          rintro e u4 ⟨vTa0, rfl, gTa, x9⟩
          have sTa_W := Kept.mk (gW.sep gTa)
          obtain ⟨⟨q90, -⟩, -⟩ := id gTa
          obtain ⟨pTa0, mTa0, hu9, -, -⟩ := id q90.ints
          try simp only at hu9
          subst hu9
          clear q90
          replace gTa := gTa.mono X.out.size
          replace X := Kept.mk (X.out.trans x9)
          replace ka := ka.keep x9
          replace kb := kb.keep x9
          replace kd := kd.keep x9
          replace kW := kW.keep x9
          replace gW := gW.keep x9
          clear x9
          have kTa := Blk.new u4 #[.int .i64 ra0, .int .i64 ca0, .slice pTa0 xa0.length mTa0] 25
          replace ka := ka.old (.cells #[.int .i64 ra0, .int .i64 ca0, .slice pTa0 xa0.length mTa0] 25)
          replace kb := kb.old (.cells #[.int .i64 ra0, .int .i64 ca0, .slice pTa0 xa0.length mTa0] 25)
          replace kd := kd.old (.cells #[.int .i64 ra0, .int .i64 ca0, .slice pTa0 xa0.length mTa0] 25)
          replace kW := kW.old (.cells #[.int .i64 ra0, .int .i64 ca0, .slice pTa0 xa0.length mTa0] 25)
          replace gW := gW.keep ((Ext.refl u4).alloc (.cells #[.int .i64 ra0, .int .i64 ca0, .slice pTa0 xa0.length mTa0] 25))
          replace gTa := gTa.keep ((Ext.refl u4).alloc (.cells #[.int .i64 ra0, .int .i64 ca0, .slice pTa0 xa0.length mTa0] 25))
          replace X := Kept.mk (X.out.alloc (.cells #[.int .i64 ra0, .int .i64 ca0, .slice pTa0 xa0.length mTa0] 25))
          obtain ⟨aka0, aka1, aka2⟩ := ka.three
          obtain ⟨akb0, akb1, akb2⟩ := kb.three
          obtain ⟨akd0, akd1, akd2⟩ := kd.three
          go_wp2_with (fail)
          clear aka0 aka1 aka2
          clear akb0 akb1 akb2
          clear akd0 akd1 akd2
          (with_reducible refine (TOb.out _ X.out).mono ?_)
          rintro e u5 ⟨vTb0, rfl, gTb, x9⟩
          have sTb_W := Kept.mk (gW.sep gTb)
          have sTb_Ta := Kept.mk (gTa.sep gTb)
          obtain ⟨⟨q90, -⟩, -⟩ := id gTb
          obtain ⟨pTb0, mTb0, hu9, -, -⟩ := id q90.ints
          try simp only at hu9
          subst hu9
          clear q90
          replace gTb := gTb.mono X.out.size
          replace X := Kept.mk (X.out.trans x9)
          replace ka := ka.keep x9
          replace kb := kb.keep x9
          replace kd := kd.keep x9
          replace kW := kW.keep x9
          replace kTa := kTa.keep x9
          replace gW := gW.keep x9
          replace gTa := gTa.keep x9
          clear x9
          have kTb := Blk.new u5 #[.int .i64 rb0, .int .i64 cb0, .slice pTb0 xb0.length mTb0] 25
          replace ka := ka.old (.cells #[.int .i64 rb0, .int .i64 cb0, .slice pTb0 xb0.length mTb0] 25)
          replace kb := kb.old (.cells #[.int .i64 rb0, .int .i64 cb0, .slice pTb0 xb0.length mTb0] 25)
          replace kd := kd.old (.cells #[.int .i64 rb0, .int .i64 cb0, .slice pTb0 xb0.length mTb0] 25)
          replace kW := kW.old (.cells #[.int .i64 rb0, .int .i64 cb0, .slice pTb0 xb0.length mTb0] 25)
          replace kTa := kTa.old (.cells #[.int .i64 rb0, .int .i64 cb0, .slice pTb0 xb0.length mTb0] 25)
          replace gW := gW.keep ((Ext.refl u5).alloc (.cells #[.int .i64 rb0, .int .i64 cb0, .slice pTb0 xb0.length mTb0] 25))
          replace gTa := gTa.keep ((Ext.refl u5).alloc (.cells #[.int .i64 rb0, .int .i64 cb0, .slice pTb0 xb0.length mTb0] 25))
          replace gTb := gTb.keep ((Ext.refl u5).alloc (.cells #[.int .i64 rb0, .int .i64 cb0, .slice pTb0 xb0.length mTb0] 25))
          replace X := Kept.mk (X.out.alloc (.cells #[.int .i64 rb0, .int .i64 cb0, .slice pTb0 xb0.length mTb0] 25))
          obtain ⟨aka0, aka1, aka2⟩ := ka.three
          obtain ⟨akb0, akb1, akb2⟩ := kb.three
          obtain ⟨akd0, akd1, akd2⟩ := kd.three
          go_wp2_with (fail)
          clear aka0 aka1 aka2
          clear akb0 akb1 akb2
          clear akd0 akd1 akd2
          (with_reducible refine (TOd.out _ X.out).mono ?_)
          rintro e u6 ⟨vTd0, rfl, gTd, x9⟩
          have sTd_W := Kept.mk (gW.sep gTd)
          have sTd_Ta := Kept.mk (gTa.sep gTd)
          have sTd_Tb := Kept.mk (gTb.sep gTd)
          obtain ⟨⟨q90, -⟩, -⟩ := id gTd
          obtain ⟨pTd0, mTd0, hu9, -, -⟩ := id q90.ints
          try simp only at hu9
          subst hu9
          clear q90
          replace gTd := gTd.mono X.out.size
          replace X := Kept.mk (X.out.trans x9)
          replace ka := ka.keep x9
          replace kb := kb.keep x9
          replace kd := kd.keep x9
          replace kW := kW.keep x9
          replace kTa := kTa.keep x9
          replace kTb := kTb.keep x9
          replace gW := gW.keep x9
          replace gTa := gTa.keep x9
          replace gTb := gTb.keep x9
          clear x9
          have kTd := Blk.new u6 #[.int .i64 rd0, .int .i64 cd0, .slice pTd0 xd0.length mTd0] 25
          replace ka := ka.old (.cells #[.int .i64 rd0, .int .i64 cd0, .slice pTd0 xd0.length mTd0] 25)
          replace kb := kb.old (.cells #[.int .i64 rd0, .int .i64 cd0, .slice pTd0 xd0.length mTd0] 25)
          replace kd := kd.old (.cells #[.int .i64 rd0, .int .i64 cd0, .slice pTd0 xd0.length mTd0] 25)
          replace kW := kW.old (.cells #[.int .i64 rd0, .int .i64 cd0, .slice pTd0 xd0.length mTd0] 25)
          replace kTa := kTa.old (.cells #[.int .i64 rd0, .int .i64 cd0, .slice pTd0 xd0.length mTd0] 25)
          replace kTb := kTb.old (.cells #[.int .i64 rd0, .int .i64 cd0, .slice pTd0 xd0.length mTd0] 25)
          replace gW := gW.keep ((Ext.refl u6).alloc (.cells #[.int .i64 rd0, .int .i64 cd0, .slice pTd0 xd0.length mTd0] 25))
          replace gTa := gTa.keep ((Ext.refl u6).alloc (.cells #[.int .i64 rd0, .int .i64 cd0, .slice pTd0 xd0.length mTd0] 25))
          replace gTb := gTb.keep ((Ext.refl u6).alloc (.cells #[.int .i64 rd0, .int .i64 cd0, .slice pTd0 xd0.length mTd0] 25))
          replace gTd := gTd.keep ((Ext.refl u6).alloc (.cells #[.int .i64 rd0, .int .i64 cd0, .slice pTd0 xd0.length mTd0] 25))
          replace X := Kept.mk (X.out.alloc (.cells #[.int .i64 rd0, .int .i64 cd0, .slice pTd0 xd0.length mTd0] 25))
          obtain ⟨akTa0, akTa1, akTa2⟩ := kTa.three
          obtain ⟨akTb0, akTb1, akTb2⟩ := kTb.three
          obtain ⟨akTd0, akTd1, akTd2⟩ := kTd.three
          go_wp2_with (fail)
          clear akTa0 akTa1 akTa2
          clear akTb0 akTb1 akTb2
          clear akTd0 akTd1 akTd2
          (with_reducible refine (IP.out _ _ _ _ (gTa.o0.arg Lxa0.out) (gTb.o0.arg Lxb0.out) (gTd.o0.arg Lxd0.out)).mono ?_)
          rintro e u7 ⟨vG0, rfl, gG, x9⟩
          have sG_W := Kept.mk (gW.sep gG)
          have sG_Ta := Kept.mk (gTa.sep gG)
          have sG_Tb := Kept.mk (gTb.sep gG)
          have sG_Td := Kept.mk (gTd.sep gG)
          obtain ⟨⟨q90, -⟩, -⟩ := id gG
          obtain ⟨pG0, mG0, hu9, -, -⟩ := id q90.ints
          try simp only at hu9
          subst hu9
          clear q90
          replace gG := gG.mono X.out.size
          replace X := Kept.mk (X.out.trans x9)
          replace ka := ka.keep x9
          replace kb := kb.keep x9
          replace kd := kd.keep x9
          replace kW := kW.keep x9
          replace kTa := kTa.keep x9
          replace kTb := kTb.keep x9
          replace kTd := kTd.keep x9
          replace gW := gW.keep x9
          replace gTa := gTa.keep x9
          replace gTb := gTb.keep x9
          replace gTd := gTd.keep x9
          clear x9
          have kG := Blk.new u7 #[.int .i64 gr0, .int .i64 gc0, .slice pG0 gs0.length mG0] 25
          replace ka := ka.old (.cells #[.int .i64 gr0, .int .i64 gc0, .slice pG0 gs0.length mG0] 25)
          replace kb := kb.old (.cells #[.int .i64 gr0, .int .i64 gc0, .slice pG0 gs0.length mG0] 25)
          replace kd := kd.old (.cells #[.int .i64 gr0, .int .i64 gc0, .slice pG0 gs0.length mG0] 25)
          replace kW := kW.old (.cells #[.int .i64 gr0, .int .i64 gc0, .slice pG0 gs0.length mG0] 25)
          replace kTa := kTa.old (.cells #[.int .i64 gr0, .int .i64 gc0, .slice pG0 gs0.length mG0] 25)
          replace kTb := kTb.old (.cells #[.int .i64 gr0, .int .i64 gc0, .slice pG0 gs0.length mG0] 25)
          replace kTd := kTd.old (.cells #[.int .i64 gr0, .int .i64 gc0, .slice pG0 gs0.length mG0] 25)
          replace gW := gW.keep ((Ext.refl u7).alloc (.cells #[.int .i64 gr0, .int .i64 gc0, .slice pG0 gs0.length mG0] 25))
          replace gTa := gTa.keep ((Ext.refl u7).alloc (.cells #[.int .i64 gr0, .int .i64 gc0, .slice pG0 gs0.length mG0] 25))
          replace gTb := gTb.keep ((Ext.refl u7).alloc (.cells #[.int .i64 gr0, .int .i64 gc0, .slice pG0 gs0.length mG0] 25))
          replace gTd := gTd.keep ((Ext.refl u7).alloc (.cells #[.int .i64 gr0, .int .i64 gc0, .slice pG0 gs0.length mG0] 25))
          replace gG := gG.keep ((Ext.refl u7).alloc (.cells #[.int .i64 gr0, .int .i64 gc0, .slice pG0 gs0.length mG0] 25))
          replace X := Kept.mk (X.out.alloc (.cells #[.int .i64 gr0, .int .i64 gc0, .slice pG0 gs0.length mG0] 25))
          obtain ⟨akG0, akG1, akG2⟩ := kG.three
          obtain ⟨akW0, akW1, akW2⟩ := kW.three
          go_wp2_with (fail)
          clear akG0 akG1 akG2
          clear akW0 akW1 akW2
          (with_reducible refine (laws_eqMatrix gr0 gc0 _ _ gs0 _ gG.o0.ints gW.o0.ints).mono ?_)
          rintro e u8 ⟨rfl, x9⟩
          replace X := Kept.mk (X.out.trans x9)
          replace ka := ka.keep x9
          replace kb := kb.keep x9
          replace kd := kd.keep x9
          replace kW := kW.keep x9
          replace kTa := kTa.keep x9
          replace kTb := kTb.keep x9
          replace kTd := kTd.keep x9
          replace kG := kG.keep x9
          replace gW := gW.keep x9
          replace gTa := gTa.keep x9
          replace gTb := gTb.keep x9
          replace gTd := gTd.keep x9
          replace gG := gG.keep x9
          clear x9
          obtain ⟨aka0, aka1, aka2⟩ := ka.three
          obtain ⟨akb0, akb1, akb2⟩ := kb.three
          obtain ⟨akd0, akd1, akd2⟩ := kd.three
          obtain ⟨akTa0, akTa1, akTa2⟩ := kTa.three
          obtain ⟨akTb0, akTb1, akTb2⟩ := kTb.three
          obtain ⟨akTd0, akTd1, akTd2⟩ := kTd.three
          go_wp2_with (fail)
          clear aka0 aka1 aka2
          clear akb0 akb1 akb2
          clear akd0 akd1 akd2
          clear akTa0 akTa1 akTa2
          clear akTb0 akTb1 akTb2
          clear akTd0 akTd1 akTd2
          apply wp_region_zip [isv _, isv _, grpR1 ra0 ca0 xa0, isv _, isv _] _ (by kernel_rfl)
          case hA => intro V; simp [putAll, dstOf, Act.put]; exact rfl
          case hsl => intro V; exact rfl
          case step =>
            intro V lo up w' hr
            obtain ⟨hcr, hzr⟩ := hr.cells
            have hsr := hr.size
            have ka := ka.keep hr
            have kb := kb.keep hr
            have kd := kd.keep hr
            have kW := kW.keep hr
            have kTa := kTa.keep hr
            have kTb := kTb.keep hr
            have kTd := kTd.keep hr
            have kG := kG.keep hr
            have gW := gW.keep hr
            have gTa := gTa.keep hr
            have gTb := gTb.keep hr
            have gTd := gTd.keep hr
            have gG := gG.keep hr
            have hxr := X.out.trans hr
            obtain ⟨aka0, aka1, aka2⟩ := ka.three
            obtain ⟨akb0, akb1, akb2⟩ := kb.three
            obtain ⟨akd0, akd1, akd2⟩ := kd.three
            obtain ⟨akTa0, akTa1, akTa2⟩ := kTa.three
            simp only [zipOk, depsImp, isv, grpR1, modeNg, newb, waits, Region.binds, List.map_nil, List.map_cons, List.headD_cons, List.nil_append, List.cons_append, List.filterMap_cons, List.filterMap_nil, ↓reduceIte, modeNe, Bool.false_eq_true, true_implies, List.getD_cons_zero, List.getD_cons_succ, and_true]
            refine ⟨?_, ?_, ?_, ?_, ?_⟩
            · intros
              go_wp2
              refine stepQ_mk rfl (by simp only [List.getElem?_toArray, List.getElem?_cons_succ, List.getElem?_cons_zero]; exact rfl) ?_
              exact ⟨Ext.refl _, rfl⟩
            · intros
              go_wp2
              refine stepQ_mk rfl (by simp only [List.getElem?_toArray, List.getElem?_cons_succ, List.getElem?_cons_zero]; exact rfl) ?_
              exact ⟨Ext.refl _, rfl⟩
            · intros
              go_wp2_with (fail)
              (with_reducible refine (TOa.out _ hxr).mono ?_)
              rintro e w9 ⟨v90, rfl, g9, x9⟩
              go_wp2
              refine stepQ_mk rfl (by simp only [List.getElem?_toArray, List.getElem?_cons_succ, List.getElem?_cons_zero]; exact rfl) ?_
              exact ⟨x9, v90, rfl, g9⟩
            · intro _ _ _ e0 _ _ _ ⟨v90, e9, g9⟩
              intros
              go_wp2_with (fail)
              (with_reducible refine (laws_eqMatrix ra0 ca0 _ _ xa0 _ gTa.o0.ints g9.o0.ints).mono ?_)
              rintro e w9 ⟨rfl, x9⟩
              go_wp2
              refine stepQ_mk rfl (by simp only [List.getElem?_toArray, List.getElem?_cons_succ, List.getElem?_cons_zero]; exact rfl) ?_
              exact ⟨x9, rfl⟩
            · intros
              go_wp2
              refine stepQ_mk rfl (by simp only [List.getElem?_toArray, List.getElem?_cons_succ, List.getElem?_cons_zero]; exact rfl) ?_
              exact ⟨Ext.refl _, rfl⟩
          case hB => kernel_rfl
          case fin =>
            intro V lo up w' hr hf ha
            simp only [factsOk, isv, grpR1, modeNg, newb, List.map_nil, List.map_cons, List.headD_cons, and_true, Nat.zero_add, Nat.reduceAdd] at hf
            simp only [List.length_cons, List.length_nil, Nat.zero_add, Nat.reduceAdd, List.drop_succ_cons, List.drop_zero]
            obtain ⟨-, -, -, -, ⟨-, -, -, e4⟩⟩ := hf
            have tgW := gW
            have tgTa := gTa
            have tgTb := gTb
            have tgTd := gTd
            have tgG := gG
            have zka := ka.lt
            have zkb := kb.lt
            have zkd := kd.lt
            have zkW := kW.lt
            have zkTa := kTa.lt
            have zkTb := kTb.lt
            have zkTd := kTd.lt
            have zkG := kG.lt
            clear ha
            replace ka := ka.keep hr
            replace kb := kb.keep hr
            replace kd := kd.keep hr
            replace kW := kW.keep hr
            replace kTa := kTa.keep hr
            replace kTb := kTb.keep hr
            replace kTd := kTd.keep hr
            replace kG := kG.keep hr
            replace gW := gW.keep hr
            replace gTa := gTa.keep hr
            replace gTb := gTb.keep hr
            replace gTd := gTd.keep hr
            replace gG := gG.keep hr
            replace X := Kept.mk (X.out.trans hr)
            rw [e4]
            clear e4 hr
            try clear hc hz
            obtain ⟨aka0, aka1, aka2⟩ := ka.three
            obtain ⟨akb0, akb1, akb2⟩ := kb.three
            obtain ⟨akd0, akd1, akd2⟩ := kd.three
            obtain ⟨akTa0, akTa1, akTa2⟩ := kTa.three
            obtain ⟨akTb0, akTb1, akTb2⟩ := kTb.three
            obtain ⟨akTd0, akTd1, akTd2⟩ := kTd.three
            go_wp2_with (fail)
            clear aka0 aka1 aka2
            clear akb0 akb1 akb2
            clear akd0 akd1 akd2
            clear akTa0 akTa1 akTa2
            clear akTb0 akTb1 akTb2
            clear akTd0 akTd1 akTd2
            apply wp_region_zip [isv _, isv _, grpR1 rb0 cb0 xb0, isv _, isv _] _ (by kernel_rfl)
            case hA => intro V; simp [putAll, dstOf, Act.put]; exact rfl
            case hsl => intro V; exact rfl
            case step =>
              intro V lo up w' hr
              obtain ⟨hcr, hzr⟩ := hr.cells
              have hsr := hr.size
              have ka := ka.keep hr
              have kb := kb.keep hr
              have kd := kd.keep hr
              have kW := kW.keep hr
              have kTa := kTa.keep hr
              have kTb := kTb.keep hr
              have kTd := kTd.keep hr
              have kG := kG.keep hr
              have gW := gW.keep hr
              have gTa := gTa.keep hr
              have gTb := gTb.keep hr
              have gTd := gTd.keep hr
              have gG := gG.keep hr
              have hxr := X.out.trans hr
              obtain ⟨aka0, aka1, aka2⟩ := ka.three
              obtain ⟨akb0, akb1, akb2⟩ := kb.three
              obtain ⟨akd0, akd1, akd2⟩ := kd.three
              obtain ⟨akTb0, akTb1, akTb2⟩ := kTb.three
              simp only [zipOk, depsImp, isv, grpR1, modeNg, newb, waits, Region.binds, List.map_nil, List.map_cons, List.headD_cons, List.nil_append, List.cons_append, List.filterMap_cons, List.filterMap_nil, ↓reduceIte, modeNe, Bool.false_eq_true, true_implies, List.getD_cons_zero, List.getD_cons_succ, and_true]
              refine ⟨?_, ?_, ?_, ?_, ?_⟩
              · intros
                go_wp2
                refine stepQ_mk rfl (by simp only [List.getElem?_toArray, List.getElem?_cons_succ, List.getElem?_cons_zero]; exact rfl) ?_
                exact ⟨Ext.refl _, rfl⟩
              · intros
                go_wp2
                refine stepQ_mk rfl (by simp only [List.getElem?_toArray, List.getElem?_cons_succ, List.getElem?_cons_zero]; exact rfl) ?_
                exact ⟨Ext.refl _, rfl⟩
              · intros
                go_wp2_with (fail)
                (with_reducible refine (TOb.out _ hxr).mono ?_)
                rintro e w9 ⟨v90, rfl, g9, x9⟩
                go_wp2
                refine stepQ_mk rfl (by simp only [List.getElem?_toArray, List.getElem?_cons_succ, List.getElem?_cons_zero]; exact rfl) ?_
                exact ⟨x9, v90, rfl, g9⟩
              · intro _ _ _ e0 _ _ _ ⟨v90, e9, g9⟩
                intros
                go_wp2_with (fail)
                (with_reducible refine (laws_eqMatrix rb0 cb0 _ _ xb0 _ gTb.o0.ints g9.o0.ints).mono ?_)
                rintro e w9 ⟨rfl, x9⟩
                go_wp2
                refine stepQ_mk rfl (by simp only [List.getElem?_toArray, List.getElem?_cons_succ, List.getElem?_cons_zero]; exact rfl) ?_
                exact ⟨x9, rfl⟩
              · intros
                go_wp2
                refine stepQ_mk rfl (by simp only [List.getElem?_toArray, List.getElem?_cons_succ, List.getElem?_cons_zero]; exact rfl) ?_
                exact ⟨Ext.refl _, rfl⟩
            case hB => kernel_rfl
            case fin =>
              intro V lo up w' hr hf ha
              simp only [factsOk, isv, grpR1, modeNg, newb, List.map_nil, List.map_cons, List.headD_cons, and_true, Nat.zero_add, Nat.reduceAdd] at hf
              simp only [List.length_cons, List.length_nil, Nat.zero_add, Nat.reduceAdd, List.drop_succ_cons, List.drop_zero]
              obtain ⟨-, -, -, -, ⟨-, -, -, e4⟩⟩ := hf
              have tgW := gW
              have tgTa := gTa
              have tgTb := gTb
              have tgTd := gTd
              have tgG := gG
              have zka := ka.lt
              have zkb := kb.lt
              have zkd := kd.lt
              have zkW := kW.lt
              have zkTa := kTa.lt
              have zkTb := kTb.lt
              have zkTd := kTd.lt
              have zkG := kG.lt
              clear ha
              replace ka := ka.keep hr
              replace kb := kb.keep hr
              replace kd := kd.keep hr
              replace kW := kW.keep hr
              replace kTa := kTa.keep hr
              replace kTb := kTb.keep hr
              replace kTd := kTd.keep hr
              replace kG := kG.keep hr
              replace gW := gW.keep hr
              replace gTa := gTa.keep hr
              replace gTb := gTb.keep hr
              replace gTd := gTd.keep hr
              replace gG := gG.keep hr
              replace X := Kept.mk (X.out.trans hr)
              rw [e4]
              clear e4 hr
              try clear hc hz
              obtain ⟨aka0, aka1, aka2⟩ := ka.three
              obtain ⟨akb0, akb1, akb2⟩ := kb.three
              obtain ⟨akd0, akd1, akd2⟩ := kd.three
              obtain ⟨akTa0, akTa1, akTa2⟩ := kTa.three
              obtain ⟨akTb0, akTb1, akTb2⟩ := kTb.three
              obtain ⟨akTd0, akTd1, akTd2⟩ := kTd.three
              go_wp2_with (fail)
              clear aka0 aka1 aka2
              clear akb0 akb1 akb2
              clear akd0 akd1 akd2
              clear akTa0 akTa1 akTa2
              clear akTb0 akTb1 akTb2
              clear akTd0 akTd1 akTd2
              apply wp_region_zip [isv _, isv _, grpR1 rd0 cd0 xd0, isv _, isv _] _ (by kernel_rfl)
              case hA => intro V; simp [putAll, dstOf, Act.put]; exact rfl
              case hsl => intro V; exact rfl
              case step =>
                intro V lo up w' hr
                obtain ⟨hcr, hzr⟩ := hr.cells
                have hsr := hr.size
                have ka := ka.keep hr
                have kb := kb.keep hr
                have kd := kd.keep hr
                have kW := kW.keep hr
                have kTa := kTa.keep hr
                have kTb := kTb.keep hr
                have kTd := kTd.keep hr
                have kG := kG.keep hr
                have gW := gW.keep hr
                have gTa := gTa.keep hr
                have gTb := gTb.keep hr
                have gTd := gTd.keep hr
                have gG := gG.keep hr
                have hxr := X.out.trans hr
                obtain ⟨aka0, aka1, aka2⟩ := ka.three
                obtain ⟨akb0, akb1, akb2⟩ := kb.three
                obtain ⟨akd0, akd1, akd2⟩ := kd.three
                obtain ⟨akTd0, akTd1, akTd2⟩ := kTd.three
                simp only [zipOk, depsImp, isv, grpR1, modeNg, newb, waits, Region.binds, List.map_nil, List.map_cons, List.headD_cons, List.nil_append, List.cons_append, List.filterMap_cons, List.filterMap_nil, ↓reduceIte, modeNe, Bool.false_eq_true, true_implies, List.getD_cons_zero, List.getD_cons_succ, and_true]
                refine ⟨?_, ?_, ?_, ?_, ?_⟩
                · intros
                  go_wp2
                  refine stepQ_mk rfl (by simp only [List.getElem?_toArray, List.getElem?_cons_succ, List.getElem?_cons_zero]; exact rfl) ?_
                  exact ⟨Ext.refl _, rfl⟩
                · intros
                  go_wp2
                  refine stepQ_mk rfl (by simp only [List.getElem?_toArray, List.getElem?_cons_succ, List.getElem?_cons_zero]; exact rfl) ?_
                  exact ⟨Ext.refl _, rfl⟩
                · intros
                  go_wp2_with (fail)
                  (with_reducible refine (TOd.out _ hxr).mono ?_)
                  rintro e w9 ⟨v90, rfl, g9, x9⟩
                  go_wp2
                  refine stepQ_mk rfl (by simp only [List.getElem?_toArray, List.getElem?_cons_succ, List.getElem?_cons_zero]; exact rfl) ?_
                  exact ⟨x9, v90, rfl, g9⟩
                · intro _ _ _ e0 _ _ _ ⟨v90, e9, g9⟩
                  intros
                  go_wp2_with (fail)
                  (with_reducible refine (laws_eqMatrix rd0 cd0 _ _ xd0 _ gTd.o0.ints g9.o0.ints).mono ?_)
                  rintro e w9 ⟨rfl, x9⟩
                  go_wp2
                  refine stepQ_mk rfl (by simp only [List.getElem?_toArray, List.getElem?_cons_succ, List.getElem?_cons_zero]; exact rfl) ?_
                  exact ⟨x9, rfl⟩
                · intros
                  go_wp2
                  refine stepQ_mk rfl (by simp only [List.getElem?_toArray, List.getElem?_cons_succ, List.getElem?_cons_zero]; exact rfl) ?_
                  exact ⟨Ext.refl _, rfl⟩
              case hB => kernel_rfl
              case fin =>
                intro V lo up w' hr hf ha
                simp only [factsOk, isv, grpR1, modeNg, newb, List.map_nil, List.map_cons, List.headD_cons, and_true, Nat.zero_add, Nat.reduceAdd] at hf
                simp only [List.length_cons, List.length_nil, Nat.zero_add, Nat.reduceAdd, List.drop_succ_cons, List.drop_zero]
                obtain ⟨-, -, -, -, ⟨-, -, -, e4⟩⟩ := hf
                have tgW := gW
                have tgTa := gTa
                have tgTb := gTb
                have tgTd := gTd
                have tgG := gG
                have zka := ka.lt
                have zkb := kb.lt
                have zkd := kd.lt
                have zkW := kW.lt
                have zkTa := kTa.lt
                have zkTb := kTb.lt
                have zkTd := kTd.lt
                have zkG := kG.lt
                clear ha
                replace ka := ka.keep hr
                replace kb := kb.keep hr
                replace kd := kd.keep hr
                replace kW := kW.keep hr
                replace kTa := kTa.keep hr
                replace kTb := kTb.keep hr
                replace kTd := kTd.keep hr
                replace kG := kG.keep hr
                replace gW := gW.keep hr
                replace gTa := gTa.keep hr
                replace gTb := gTb.keep hr
                replace gTd := gTd.keep hr
                replace gG := gG.keep hr
                replace X := Kept.mk (X.out.trans hr)
                rw [e4]
                clear e4 hr
                try clear hc hz
                obtain ⟨Ka, hKa⟩ : ∃ K : Int, K = 1 + (totL [xa0.length] : Nat) := ⟨_, rfl⟩
                have hka : 0 ≤ Ka ∧ Ka ≤ 7000000 := by rw [hKa]; simp only [totL]; have := Lxa0.out; omega
                obtain ⟨akTa0, akTa1, akTa2⟩ := kTa.three
                obtain ⟨akTb0, akTb1, akTb2⟩ := kTb.three
                obtain ⟨akTd0, akTd1, akTd2⟩ := kTd.three
                go_wp2_with (fail)
                clear akTa0 akTa1 akTa2
                clear akTb0 akTb1 akTb2
                clear akTd0 akTd1 akTd2
                (with_reducible refine (laws_markMatrixG _ ra0 ca0 _ xa0 1 _ rfl _ gTa (by omega) (by have := Lxa0.out; omega)).mono ?_)
                rintro e u9 ⟨e9, mk9, t9⟩
                rw [← hKa] at e9
                subst e9
                clear hKa
                replace ka := gTa.blk t9 ka (by decide)
                replace kb := gTa.blk t9 kb (by decide)
                replace kd := gTa.blk t9 kd (by decide)
                replace kW := gTa.blk t9 kW (by decide)
                replace kTa := gTa.blk t9 kTa (by decide)
                replace kTb := gTa.blk t9 kTb (by decide)
                replace kTd := gTa.blk t9 kTd (by decide)
                replace kG := gTa.blk t9 kG (by decide)
                replace gW := gW.turned t9 sTa_W.out.symm
                replace gTb := gTb.turned t9 sTb_Ta.out
                replace gTd := gTd.turned t9 sTd_Ta.out
                replace gG := gG.turned t9 sG_Ta.out
                replace X := Kept.mk (t9.ext0 X.out (fun v hv q hq => (gTa.own.block v hv q hq).1))
                clear t9 gTa
                have gTa := mk9
                clear mk9
                obtain ⟨Kb, hKb⟩ : ∃ K : Int, K = Ka + (totL [xb0.length] : Nat) := ⟨_, rfl⟩
                have hkb : 0 ≤ Kb ∧ Kb ≤ 14000000 := by rw [hKb]; simp only [totL]; have := Lxb0.out; omega
                obtain ⟨akTa0, akTa1, akTa2⟩ := kTa.three
                obtain ⟨akTb0, akTb1, akTb2⟩ := kTb.three
                obtain ⟨akTd0, akTd1, akTd2⟩ := kTd.three
                go_wp2_with (fail)
                clear akTa0 akTa1 akTa2
                clear akTb0 akTb1 akTb2
                clear akTd0 akTd1 akTd2
                (with_reducible refine (laws_markMatrixG _ rb0 cb0 _ xb0 Ka _ rfl _ gTb (by omega) (by have := Lxb0.out; omega)).mono ?_)
                rintro e u10 ⟨e9, mk9, t9⟩
                rw [← hKb] at e9
                subst e9
                clear hKb
                replace ka := gTb.blk t9 ka (by decide)
                replace kb := gTb.blk t9 kb (by decide)
                replace kd := gTb.blk t9 kd (by decide)
                replace kW := gTb.blk t9 kW (by decide)
                replace kTa := gTb.blk t9 kTa (by decide)
                replace kTb := gTb.blk t9 kTb (by decide)
                replace kTd := gTb.blk t9 kTd (by decide)
                replace kG := gTb.blk t9 kG (by decide)
                replace gW := gW.turned t9 sTb_W.out.symm
                replace gTa := gTa.turned t9 sTb_Ta.out.symm
                replace gTd := gTd.turned t9 sTd_Tb.out
                replace gG := gG.turned t9 sG_Tb.out
                replace X := Kept.mk (t9.ext0 X.out (fun v hv q hq => (gTb.own.block v hv q hq).1))
                clear t9 gTb
                have gTb := mk9
                clear mk9
                obtain ⟨Kd, hKd⟩ : ∃ K : Int, K = Kb + (totL [xd0.length] : Nat) := ⟨_, rfl⟩
                have hkd : 0 ≤ Kd ∧ Kd ≤ 21000000 := by rw [hKd]; simp only [totL]; have := Lxd0.out; omega
                obtain ⟨akTa0, akTa1, akTa2⟩ := kTa.three
                obtain ⟨akTb0, akTb1, akTb2⟩ := kTb.three
                obtain ⟨akTd0, akTd1, akTd2⟩ := kTd.three
                go_wp2_with (fail)
                clear akTa0 akTa1 akTa2
                clear akTb0 akTb1 akTb2
                clear akTd0 akTd1 akTd2
                (with_reducible refine (laws_markMatrixG _ rd0 cd0 _ xd0 Kb _ rfl _ gTd (by omega) (by have := Lxd0.out; omega)).mono ?_)
                rintro e u11 ⟨e9, mk9, t9⟩
                rw [← hKd] at e9
                subst e9
                clear hKd
                replace ka := gTd.blk t9 ka (by decide)
                replace kb := gTd.blk t9 kb (by decide)
                replace kd := gTd.blk t9 kd (by decide)
                replace kW := gTd.blk t9 kW (by decide)
                replace kTa := gTd.blk t9 kTa (by decide)
                replace kTb := gTd.blk t9 kTb (by decide)
                replace kTd := gTd.blk t9 kTd (by decide)
                replace kG := gTd.blk t9 kG (by decide)
                replace gW := gW.turned t9 sTd_W.out.symm
                replace gTa := gTa.turned t9 sTd_Ta.out.symm
                replace gTb := gTb.turned t9 sTd_Tb.out.symm
                replace gG := gG.turned t9 sG_Td.out
                replace X := Kept.mk (t9.ext0 X.out (fun v hv q hq => (gTd.own.block v hv q hq).1))
                clear t9 gTd
                have gTd := mk9
                clear mk9
                have hkn : decide (Kd < 0) = false := by simp; omega
                obtain ⟨akG0, akG1, akG2⟩ := kG.three
                obtain ⟨akW0, akW1, akW2⟩ := kW.three
                go_wp2_with (fail)
                clear akG0 akG1 akG2
                clear akW0 akW1 akW2
                (with_reducible refine (laws_eqMatrix gr0 gc0 _ _ gs0 _ gG.o0.ints gW.o0.ints).mono ?_)
                rintro e u12 ⟨rfl, x9⟩
                replace X := Kept.mk (X.out.trans x9)
                replace ka := ka.keep x9
                replace kb := kb.keep x9
                replace kd := kd.keep x9
                replace kW := kW.keep x9
                replace kTa := kTa.keep x9
                replace kTb := kTb.keep x9
                replace kTd := kTd.keep x9
                replace kG := kG.keep x9
                replace gW := gW.keep x9
                replace gTa := gTa.keep x9
                replace gTb := gTb.keep x9
                replace gTd := gTd.keep x9
                replace gG := gG.keep x9
                clear x9
                clear gTa gTb gTd kTa kTb kTd
                obtain ⟨KG, hKG⟩ : ∃ K : Int, K = 1 + (totL [gs0.length] : Nat) := ⟨_, rfl⟩
                have hkG : decide (KG < 0) = false := by rw [hKG]; simp; omega
                obtain ⟨akG0, akG1, akG2⟩ := kG.three
                go_wp2_with (fail)
                clear akG0 akG1 akG2
                (with_reducible refine (laws_markMatrixG _ gr0 gc0 _ gs0 1 _ rfl _ gG (by omega) (by have := NL.out; omega)).mono ?_)
                rintro e u13 ⟨e9, mk9, t9⟩
                rw [← hKG] at e9
                subst e9
                replace ka := gG.blk t9 ka (by decide)
                replace kb := gG.blk t9 kb (by decide)
                replace kd := gG.blk t9 kd (by decide)
                replace kW := gG.blk t9 kW (by decide)
                replace kG := gG.blk t9 kG (by decide)
                replace gW := gW.turned t9 sG_W.out.symm
                replace X := Kept.mk (t9.ext0 X.out (fun v hv q hq => (gG.own.block v hv q hq).1))
                clear t9 gG
                have gG := mk9
                clear mk9
                obtain ⟨akG0, akG1, akG2⟩ := kG.three
                go_wp2_with (fail)
                clear akG0 akG1 akG2
                (with_reducible refine (laws_heldMatrixG gr0 gc0 _ 1 gs0.length _ gG.own.ints (by omega) (by have := NL.out; omega)).mono ?_)
                rintro e u14 ⟨e9, x9⟩
                rw [← hKG] at e9
                subst e9
                replace X := Kept.mk (X.out.trans x9)
                replace ka := ka.keep x9
                replace kb := kb.keep x9
                replace kd := kd.keep x9
                replace kW := kW.keep x9
                replace kG := kG.keep x9
                replace gW := gW.keep x9
                replace gG := gG.keep x9
                clear x9
                obtain ⟨aka0, aka1, aka2⟩ := ka.three
                obtain ⟨akb0, akb1, akb2⟩ := kb.three
                obtain ⟨akd0, akd1, akd2⟩ := kd.three
                go_wp2_with (fail)
                clear aka0 aka1 aka2
                clear akb0 akb1 akb2
                clear akd0 akd1 akd2
                apply wp_region_zip [isv _, grpR1 ra0 ca0 xa0, isv _, grpR1 rb0 cb0 xb0, isv _, grpR1 rd0 cd0 xd0, grpR1 gr0 gc0 gs0, newb _ 25] _ (by kernel_rfl)
                case hA => intro V; simp [putAll, dstOf, Act.put]; exact rfl
                case hsl => intro V; exact rfl
                case step =>
                  intro V lo up w' hr
                  obtain ⟨hcr, hzr⟩ := hr.cells
                  have hsr := hr.size
                  have ka := ka.keep hr
                  have kb := kb.keep hr
                  have kd := kd.keep hr
                  have kW := kW.keep hr
                  have kG := kG.keep hr
                  have gW := gW.keep hr
                  have gG := gG.keep hr
                  have hxr := X.out.trans hr
                  obtain ⟨aka0, aka1, aka2⟩ := ka.three
                  obtain ⟨akb0, akb1, akb2⟩ := kb.three
                  obtain ⟨akd0, akd1, akd2⟩ := kd.three
                  simp only [zipOk, depsImp, isv, grpR1, modeNg, newb, waits, Region.binds, List.map_nil, List.map_cons, List.headD_cons, List.nil_append, List.cons_append, List.filterMap_cons, List.filterMap_nil, ↓reduceIte, modeNe, Bool.false_eq_true, true_implies, List.getD_cons_zero, List.getD_cons_succ, and_true]
                  refine ⟨?_, ?_, ?_, ?_, ?_, ?_, ?_, ?_⟩
                  · intros
                    go_wp2
                    refine stepQ_mk rfl (by simp only [List.getElem?_toArray, List.getElem?_cons_succ, List.getElem?_cons_zero]; exact rfl) ?_
                    exact ⟨Ext.refl _, rfl⟩
                  · intros
                    go_wp2_with (fail)
                    (with_reducible refine (TOa.out _ hxr).mono ?_)
                    rintro e w9 ⟨v90, rfl, g9, x9⟩
                    go_wp2
                    refine stepQ_mk rfl (by simp only [List.getElem?_toArray, List.getElem?_cons_succ, List.getElem?_cons_zero]; exact rfl) ?_
                    exact ⟨x9, v90, rfl, g9⟩
                  · intros
                    go_wp2
                    refine stepQ_mk rfl (by simp only [List.getElem?_toArray, List.getElem?_cons_succ, List.getElem?_cons_zero]; exact rfl) ?_
                    exact ⟨Ext.refl _, rfl⟩
                  · intros
                    go_wp2_with (fail)
                    (with_reducible refine (TOb.out _ hxr).mono ?_)
                    rintro e w9 ⟨v90, rfl, g9, x9⟩
                    go_wp2
                    refine stepQ_mk rfl (by simp only [List.getElem?_toArray, List.getElem?_cons_succ, List.getElem?_cons_zero]; exact rfl) ?_
                    exact ⟨x9, v90, rfl, g9⟩
                  · intros
                    go_wp2
                    refine stepQ_mk rfl (by simp only [List.getElem?_toArray, List.getElem?_cons_succ, List.getElem?_cons_zero]; exact rfl) ?_
                    exact ⟨Ext.refl _, rfl⟩
                  · intros
                    go_wp2_with (fail)
                    (with_reducible refine (TOd.out _ hxr).mono ?_)
                    rintro e w9 ⟨v90, rfl, g9, x9⟩
                    go_wp2
                    refine stepQ_mk rfl (by simp only [List.getElem?_toArray, List.getElem?_cons_succ, List.getElem?_cons_zero]; exact rfl) ?_
                    exact ⟨x9, v90, rfl, g9⟩
                  · intro _ _ _ ⟨va90, ea9, ga9⟩ _ _ _ ⟨vb90, eb9, gb9⟩ _ _ _ ⟨vd90, ed9, gd9⟩
                    intros
                    go_wp2_with (fail)
                    (with_reducible refine (IP.out _ _ _ _ (ga9.o0.arg Lxa0.out) (gb9.o0.arg Lxb0.out) (gd9.o0.arg Lxd0.out)).mono ?_)
                    rintro e w9 ⟨v90, rfl, g9, x9⟩
                    go_wp2
                    refine stepQ_mk rfl (by simp only [List.getElem?_toArray, List.getElem?_cons_succ, List.getElem?_cons_zero]; exact rfl) ?_
                    exact ⟨x9, v90, rfl, g9⟩
                  · intros
                    go_wp2
                    refine stepQ_mk rfl (by simp only [List.getElem?_toArray, List.getElem?_cons_succ, List.getElem?_cons_zero]; exact rfl) ?_
                    exact ⟨(Ext.refl _).alloc _, rfl, by simp, Blk.new _ _ _⟩
                case hB => kernel_rfl
                case fin =>
                  intro V lo up w' hr hf ha
                  simp only [factsOk, isv, grpR1, modeNg, newb, List.map_nil, List.map_cons, List.headD_cons, and_true, Nat.zero_add, Nat.reduceAdd] at hf
                  simp only [List.length_cons, List.length_nil, Nat.zero_add, Nat.reduceAdd, List.drop_succ_cons, List.drop_zero]
                  obtain ⟨-, -, -, -, -, -, ⟨l6, -, -, v60, e6, g6⟩, ⟨l7, -, -, e7, -, kH⟩⟩ := hf
                  have tgW := gW
                  have tgG := gG
                  have zka := ka.lt
                  have zkb := kb.lt
                  have zkd := kd.lt
                  have zkW := kW.lt
                  have zkG := kG.lt
                  clear ha
                  replace ka := ka.keep hr
                  replace kb := kb.keep hr
                  replace kd := kd.keep hr
                  replace kW := kW.keep hr
                  replace kG := kG.keep hr
                  replace gW := gW.keep hr
                  replace gG := gG.keep hr
                  rw [e6, e7]
                  clear e6 e7
                  have gH := g6.mono l6
                  clear g6 l6
                  have sH_W := Kept.mk (tgW.sep gH)
                  have sH_G := Kept.mk (tgG.sep gH)
                  clear tgW tgG
                  obtain ⟨⟨q90, -⟩, -⟩ := id gH
                  obtain ⟨pH0, mH0, hu9, -, -⟩ := id q90.ints
                  try simp only at hu9
                  subst hu9
                  clear q90
                  replace gH := gH.mono X.out.size
                  replace X := Kept.mk (X.out.trans hr)
                  clear hr
                  try clear hc hz
                  generalize lo 7 = bkH at *
                  have X0 := X.out.size
                  obtain ⟨akH0, akH1, akH2⟩ := kH.three
                  obtain ⟨akW0, akW1, akW2⟩ := kW.three
                  have fkH := kH.free
                  go_wp2_with (fail)
                  clear akH0 akH1 akH2
                  clear akW0 akW1 akW2
                  clear fkH
                  replace gW := gW.oth (gW.ne kH (by decide)) 0 1 2 (.int .i64 gr0) (.int .i64 gc0) (.slice pH0 gs0.length mH0)
                  replace gG := gG.oth (gG.ne kH (by decide)) 0 1 2 (.int .i64 gr0) (.int .i64 gc0) (.slice pH0 gs0.length mH0)
                  replace gH := gH.oth (gH.ne kH (by decide)) 0 1 2 (.int .i64 gr0) (.int .i64 gc0) (.slice pH0 gs0.length mH0)
                  replace ka := ka.oth (g := bkH) (by omega) 0 1 2 (.int .i64 gr0) (.int .i64 gc0) (.slice pH0 gs0.length mH0)
                  replace kb := kb.oth (g := bkH) (by omega) 0 1 2 (.int .i64 gr0) (.int .i64 gc0) (.slice pH0 gs0.length mH0)
                  replace kd := kd.oth (g := bkH) (by omega) 0 1 2 (.int .i64 gr0) (.int .i64 gc0) (.slice pH0 gs0.length mH0)
                  replace kW := kW.oth (g := bkH) (by omega) 0 1 2 (.int .i64 gr0) (.int .i64 gc0) (.slice pH0 gs0.length mH0)
                  replace kG := kG.oth (g := bkH) (by omega) 0 1 2 (.int .i64 gr0) (.int .i64 gc0) (.slice pH0 gs0.length mH0)
                  replace kH := kH.sub 0 1 2 (.int .i64 gr0) (.int .i64 gc0) (.slice pH0 gs0.length mH0) (cs' := #[.int .i64 gr0, .int .i64 gc0, .slice pH0 gs0.length mH0]) rfl
                  replace X := Kept.mk (X.out.oth (g := bkH) (by omega) 0 1 2 (.int .i64 gr0) (.int .i64 gc0) (.slice pH0 gs0.length mH0))
                  (with_reducible refine (laws_eqMatrix gr0 gc0 _ _ gs0 _ gH.o0.ints gW.o0.ints).mono ?_)
                  rintro e u15 ⟨rfl, x9⟩
                  replace X := Kept.mk (X.out.trans x9)
                  replace ka := ka.keep x9
                  replace kb := kb.keep x9
                  replace kd := kd.keep x9
                  replace kW := kW.keep x9
                  replace kG := kG.keep x9
                  replace kH := kH.keep x9
                  replace gW := gW.keep x9
                  replace gG := gG.keep x9
                  replace gH := gH.keep x9
                  clear x9
                  obtain ⟨akG0, akG1, akG2⟩ := kG.three
                  go_wp2_with (fail)
                  clear akG0 akG1 akG2
                  (with_reducible refine (laws_heldMatrixG gr0 gc0 _ 1 gs0.length _ gG.own.ints (by omega) (by have := NL.out; omega)).mono ?_)
                  rintro e u16 ⟨e9, x9⟩
                  rw [← hKG] at e9
                  subst e9
                  replace X := Kept.mk (X.out.trans x9)
                  replace ka := ka.keep x9
                  replace kb := kb.keep x9
                  replace kd := kd.keep x9
                  replace kW := kW.keep x9
                  replace kG := kG.keep x9
                  replace kH := kH.keep x9
                  replace gW := gW.keep x9
                  replace gG := gG.keep x9
                  replace gH := gH.keep x9
                  clear x9
                  clear ka kb kd kW kG kH gW gG gH
                  go_wp2
                  go_ret
                  exact ⟨rfl, X.out⟩
end Go.Proofs.Ytjoomdihjffmlaa
