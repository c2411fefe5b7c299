/- Proved: the law FnExactTableValid answers true for every input and leaves its argument as it was. No condition. -/
import Derived.Test.YtnblocljjljebaaRows
import Derived.Test.YtnblocljjljebaaTab
import Derived.Test.YtnblocljjljebaaRgnM
import Derived.ChangeSlices
import Derived.Test.YtnblocljjljebaaOpen
import Derived.ChangeOld
import Derived.Carry
namespace Go.Proofs.Ytnblocljjljebaa
open Go.ChangeShapes Go.WideShapes Go.ChangeAt Go.RowKit Go.Joins
set_option linter.unusedVariables false
theorem own : ownKnob Try.prog.godebug = none := by kernel_rfl
theorem laidOut : laidOutB Try.prog = true := by kernel_rfl

/-- A table of these lists. -/
def TabIs (a b : Int) (xs ys : List Int) (u : Value) (w : World) : Prop := ∃ v1 v2, u = .agg #[.int .i64 a, .int .i64 b, v1, v2] ∧ Ints w v1 xs ∧ Ints w v2 ys
def tabS {n0 : Nat} (a b : Int) (xs ys : List Int) : OpSpec Ext n0 :=
  ⟨[], fun _ u _ _ w => TabIs a b xs ys u w, fun _ _ _ _ _ _ _ _ _ hx ⟨v1, v2, h1, h2, h3⟩ => ⟨v1, v2, h1, h2.keep hx, h3.keep hx⟩⟩
set_option maxHeartbeats 2000000 in
theorem walk_FnExactTableValid (a b : Int) (v1 v2 : Value) (xs ys : List Int) (w : World) (h1 : Ints w v1 xs) (h2 : Ints w v2 ys) : Calls Try.prog 5 #[.agg #[.int .i64 a, .int .i64 b, v1, v2]] w fun e w' => e = .returned (.bool true) ∧ Ext w w' := by
  obtain ⟨s1, n1, rfl, hm1, hc1⟩ := id h1
  obtain ⟨s2, n2, rfl, hm2, hc2⟩ := id h2
  clear hm1 hm2 hc1 hc2
  have A := Blk.new w #[.int .i64 a, .int .i64 b, .slice s1 xs.length n1, .slice s2 ys.length n2] 34
  have X := (Ext.refl w).alloc (.cells #[.int .i64 a, .int .i64 b, .slice s1 xs.length n1, .slice s2 ys.length n2] 34)
  have SZ := Kept.mk (laws_szTable a b _ _ xs ys 1048576 _ (h1.keep X) (h2.keep X) (by omega) (by omega))
  have H1 := Kept.mk h1
  have H2 := Kept.mk h2
  clear h1 h2
  by_cases hb : (1048576 : Int) - xs.length - ys.length < 0
  · rw [if_pos hb] at SZ
    clear hb
    go_enter Try.func5, Try.ntmps5
    go_wp2_with (fail)
    (with_reducible refine (SZ.out).mono ?_)
    rintro e w1 ⟨rfl, x1⟩
    go_wp2
    go_ret
    exact ⟨rfl, X.trans x1⟩
  · rw [if_neg hb] at SZ
    have L1 : Kept (xs.length ≤ 1048576) := ⟨by omega⟩
    have L2 : Kept (ys.length ≤ 1048576) := ⟨by omega⟩
    have hd : decide ((1048576 : Int) - xs.length - ys.length < 0) = false := by simpa using hb
    clear hb
    go_enter Try.func5, Try.ntmps5
    go_wp2_with (fail)
    (with_reducible refine (SZ.out).mono ?_)
    rintro e w1 ⟨rfl, x1⟩
    replace A := A.keep x1
    have X1 := Kept.mk (X.trans x1)
    clear x1 SZ X
    obtain ⟨a0, a1, a2, a3⟩ := A.four
    go_wp2_with (fail)
    (with_reducible refine (laws_toTable a b _ _ xs ys _ (H1.out.keep X1.out) (H2.out.keep X1.out) L1.out L2.out).mono ?_)
    rintro e w2 ⟨t1, t2, rfl, o1, o2, x2⟩
    replace A := A.keep x2
    have X2 := Kept.mk (X1.out.trans x2)
    clear x2 X1 a0 a1 a2 a3 hd
    obtain ⟨a0, a1, a2, a3⟩ := A.four
    go_wp2_with (fail)
    (with_reducible refine (spec_TableValid a b _ _ xs ys _ o1.ints o2.ints).mono ?_)
    rintro e w3 ⟨rfl, x3⟩
    replace A := A.keep x3
    have X3 := Kept.mk (X2.out.trans x3)
    clear x3 X2 a0 a1 a2 a3 o1 o2
    obtain ⟨a0, a1, a2, a3⟩ := A.four
    go_wp2_with (fail)
    (with_reducible refine (laws_toTable a b _ _ xs ys _ (H1.out.keep X3.out) (H2.out.keep X3.out) L1.out L2.out).mono ?_)
    rintro e w4 ⟨u1, u2, rfl, o1, o2, x4⟩
    replace A := A.keep x4
    have X4 := Kept.mk (X3.out.trans x4)
    clear x4 X3 a0 a1 a2 a3
    obtain ⟨a0, a1, a2, a3⟩ := A.four
    obtain ⟨p1, m1, hu1, -, -⟩ := id o1.ints
    subst hu1
    obtain ⟨p2, m2, hu2, -, -⟩ := id o2.ints
    subst hu2
    go_wp2_with (fail)
    have B := Blk.new w4 #[.int .i64 a, .int .i64 b, .slice p1 xs.length m1, .slice p2 ys.length m2] 39
    have x5 := (Ext.refl w4).alloc (.cells #[.int .i64 a, .int .i64 b, .slice p1 xs.length m1, .slice p2 ys.length m2] 39)
    (with_reducible refine (impl_TableValid a b _ _ xs ys _ (o1.ints.keep x5) (o2.ints.keep x5)).mono ?_)
    rintro e w5 ⟨rfl, x6⟩
    replace A := A.keep (x5.trans x6)
    replace B := B.keep x6
    have I1 := Kept.mk (o1.ints.keep (x5.trans x6))
    have I2 := Kept.mk (o2.ints.keep (x5.trans x6))
    have X5 := Kept.mk (X4.out.trans (x5.trans x6))
    clear x5 x6 X4 a0 a1 a2 a3 o1 o2
    obtain ⟨a0, a1, a2, a3⟩ := A.four
    obtain ⟨b0, b1, b2, b3⟩ := B.four
    go_wp2_with (fail)
    clear a0 a1 a2 a3 b0 b1 b2 b3
    apply wp_region_zip [isv _, isv _, tabS a b xs ys, isv _, isv _] _ (by kernel_rfl)
    case hA => intro V; simp [putAll, dstOf, Act.put]; exact rfl
    case hsl => intro V; exact rfl
    case step =>
      intro V lo up w' hr
      replace A := A.keep hr
      replace B := B.keep hr
      have XR := Kept.mk (X5.out.trans hr)
      have J1 := Kept.mk (I1.out.keep hr)
      have J2 := Kept.mk (I2.out.keep hr)
      obtain ⟨a0, a1, a2, a3⟩ := A.four
      obtain ⟨b0, b1, b2, b3⟩ := B.four
      simp only [zipOk, depsImp, isv, tabS, waits, Region.binds, List.map_nil, List.nil_append, List.filterMap_cons, List.filterMap_nil, ↓reduceIte, modeNe, Bool.false_eq_true, true_implies, List.getD_cons_zero, List.getD_cons_succ, and_true]
      refine ⟨?_, ?_, ?_, ?_, ?_⟩
      · go_wp2
        refine stepQ_mk rfl (by simp only [List.getElem?_toArray, List.getElem?_cons_succ, List.getElem?_cons_zero]; exact rfl) ?_
        exact ⟨Ext.refl _, rfl⟩
      · go_wp2
        refine stepQ_mk rfl (by simp only [List.getElem?_toArray, List.getElem?_cons_succ, List.getElem?_cons_zero]; exact rfl) ?_
        exact ⟨Ext.refl _, rfl⟩
      · intro _ _ _ e1
        go_wp2_with (fail)
        (with_reducible refine (laws_toTable a b _ _ xs ys _ (H1.out.keep XR.out) (H2.out.keep XR.out) L1.out L2.out).mono ?_)
        rintro e w6 ⟨q1, q2, rfl, o1, o2, x6⟩
        go_wp2
        refine stepQ_mk rfl (by simp only [List.getElem?_toArray, List.getElem?_cons_succ, List.getElem?_cons_zero]; exact rfl) ?_
        exact ⟨x6, q1, q2, rfl, o1.ints, o2.ints⟩
      · intro _ _ _ e0 _ _ _ ⟨q1, q2, e2, j1, j2⟩
        intros
        go_wp2_with (fail)
        (with_reducible refine (laws_eqTable a b _ _ _ _ xs ys _ J1.out J2.out j1 j2).mono ?_)
        rintro e w6 ⟨rfl, x6⟩
        go_wp2
        refine stepQ_mk rfl (by simp only [List.getElem?_toArray, List.getElem?_cons_succ, List.getElem?_cons_zero]; exact rfl) ?_
        exact ⟨x6, rfl⟩
      · intros
        go_wp2
        refine stepQ_mk rfl (by simp only [List.getElem?_toArray, List.getElem?_cons_succ, List.getElem?_cons_zero]; exact rfl) ?_
        exact ⟨Ext.refl _, rfl⟩
    case hB => kernel_rfl
    case fin =>
      intro V lo up w' hr hf ha
      simp only [factsOk, isv, tabS, List.map_nil, and_true, Nat.zero_add, Nat.reduceAdd] at hf
      simp only [List.length_cons, List.length_nil, Nat.zero_add, Nat.reduceAdd, List.drop_succ_cons, List.drop_zero]
      obtain ⟨⟨-, -, -, e0⟩, ⟨-, -, -, e1⟩, -, ⟨-, -, -, e3⟩, ⟨-, -, -, e4⟩⟩ := hf
      rw [e0, e1, e3, e4]
      go_wp2
      go_ret
      exact ⟨rfl, X5.out.trans hr⟩

theorem iadd_at (b o i : Nat) : (⟨b, o, none⟩ : Addr).add i = ⟨b, o + i, none⟩ := by
  unfold Addr.add; by_cases h : i = 0
  · subst h; rfl
  · rw [if_neg h]
theorem icell_lt {w : World} {b o : Nat} {v : Value} (h : w.cell? ⟨b, o, none⟩ = some v) : b < w.heap.size := by
  apply Classical.byContradiction
  intro hn
  have : w.heap[b]? = none := by simp; omega
  simp [World.cell?, this] at h
theorem ints_of {H : Type} {enc : TypeId × Value → H} {w : World} {base : Nat} {spare : Nat → Bool} {held : Bool} {fuel : Nat} {c : Value} {x : DataW H × List MemPlace}
    (h : DataW.trod enc Try.prog w base spare held fuel 32 [c] = some x) : ∃ xs, Ints w c xs := by
  rcases open_ints Try.underlying32 Try.underlying3 (by kernel_rfl) h with ⟨hcs, _⟩ | ⟨y, l, cp, zs, hcs, _, hl, hm, hz, _, hcell, hwz⟩
  · simp at hcs
    subst hcs
    exact ⟨[], none, 0, rfl, Nat.zero_le _, fun i hi => absurd hi (Nat.not_lt_zero _)⟩
  · simp at hcs
    subst hcs
    have hz' : l ≤ zs.length := by rw [hz]; split <;> omega
    have hlen : (zs.take l).length = l := by rw [List.length_take]; omega
    refine ⟨zs.take l, some y, cp, by rw [hlen], by rw [hlen]; omega, fun i hi => ?_⟩
    rw [hlen] at hi
    have hci := hcell i (by omega)
    obtain ⟨b, off, spot⟩ := y
    have hspot : spot = none := by
      have h0 := hcell 0 (by omega)
      simpa [Addr.add] using World.cell?_spot h0
    subst hspot
    rw [iadd_at] at hci
    refine ⟨b, off, rfl, icell_lt hci, ?_⟩
    rw [hci]
    have h1 : i < zs.length := by omega
    simp [hi, h1]
theorem cells_int' : Try.prog.cellsOf 3 = 1 := by kernel_rfl
theorem cells_ints : Try.prog.cellsOf 32 = 1 := by kernel_rfl
theorem cells_sh' : Try.prog.cellsOf 31 = 2 := by kernel_rfl
theorem cells_table : Try.prog.cellsOf 34 = 4 := by kernel_rfl
theorem trod_sh' {H : Type} {enc : TypeId × Value → H} {w : World} {base : Nat} {spare : Nat → Bool} {held : Bool} {n : Nat} {c0 c1 : Value} {x : DataW H × List MemPlace} (h : DataW.trod enc Try.prog w base spare held n 31 [c0, c1] = some x) :
    ∃ a b : Int, c0 = .int .i64 a ∧ c1 = .int .i64 b := by
  obtain ⟨_, hf⟩ := struct_field Try.underlying31 h
  obtain ⟨_, _, t0⟩ := hf 0 _ rfl
  obtain ⟨_, _, t1⟩ := hf 1 _ rfl
  simp [cells_int'] at t0 t1
  obtain ⟨a, e0, b0⟩ := leaf_int Try.underlying3 t0
  obtain ⟨b, e1, b1⟩ := leaf_int Try.underlying3 t1
  simp at e0 e1
  exact ⟨a, b, e0, e1⟩
theorem trod_table {H : Type} {enc : TypeId × Value → H} {w : World} {base : Nat} {spare : Nat → Bool} {held : Bool} {n : Nat} {c0 c1 c2 c3 : Value} {x : DataW H × List MemPlace} (h : DataW.trod enc Try.prog w base spare held n 34 [c0, c1, c2, c3] = some x) :
    ∃ (a b : Int) (xs ys : List Int), c0 = .int .i64 a ∧ c1 = .int .i64 b ∧ Ints w c2 xs ∧ Ints w c3 ys := by
  obtain ⟨_, hf⟩ := struct_field Try.underlying34 h
  obtain ⟨_, _, t0⟩ := hf 0 _ rfl
  obtain ⟨_, _, t1⟩ := hf 1 _ rfl
  obtain ⟨_, _, t2⟩ := hf 2 _ rfl
  simp [cells_sh', cells_ints] at t0 t1 t2
  obtain ⟨a, b, e0, e1⟩ := trod_sh' t0
  obtain ⟨xs, hx⟩ := ints_of t1
  obtain ⟨ys, hy⟩ := ints_of t2
  exact ⟨a, b, xs, ys, e0, e1, hx, hy⟩

set_option maxRecDepth 100000 in
theorem lifted_FnExactTableValid (os : Os) (started : os.Started) (H : Type) (enc : TypeId × Value → H) :
    ReturnsInHanded {} Try.checked os 5 .any (Rows.fnExactTableValidSpec.pre6 enc Try.prog Try.f5 Rows.fnExactTableValidRow.domain false) (Rows.fnExactTableValidSpec.post enc Try.prog Try.f5 false true false false) := by
  refine returnsInHanded_of_change (C := Try.checked) own started (by kernel_rfl) Try.func5
    (ChangeSpec.witness6 (enc := enc) (C := Try.checked) false ⟨#[], #[.agg #[.int .i64 0, .int .i64 0, .slice none 0 0, .slice none 0 0]], []⟩ 8 (by kernel_rfl) (by kernel_rfl) (by kernel_rfl) (by kernel_rfl)) ?_
  intro W base args ds gs before hval0 hW hcnd _
  have hval : ∀ (j : Nat) t v, Try.f5.params[j]? = some t → args[j]? = some v → Value.okWide Try.prog W .any base t v := hval0
  have hW' := hW
  obtain ⟨p, q, hA0, hV, rfl, hfz, hnd⟩ := hW
  have hA : DataW.TrodAll enc Try.prog W 0 (fun _ => true) true Try.f5.params.toList args.toList ds p := hA0
  rw [Try.params5] at hA hval
  obtain ⟨v0, vs0, d0, ds0, p0, q0, hargs, rfl, rfl, h0, r0⟩ := trodAll_cons hA
  obtain ⟨rfl, rfl, rfl⟩ := trodAll_nil r0
  obtain rfl : args = #[v0] := by cases args; simp_all
  obtain ⟨rfl, rfl⟩ := trodVars_none hV
  have k0 := h0
  have lt0 : ∀ x ∈ p0, x.block < W.heap.size := by obtain ⟨m, hm⟩ := k0; exact DataW.trod_lt m _ _ _ hm
  obtain ⟨cs0, rfl, hs0⟩ := okWide_struct Try.underlying34 (hval 0 34 v0 rfl rfl)
  rw [cells_table] at hs0
  obtain ⟨cs0⟩ := cs0
  obtain ⟨c00, c01, c02, c03, rfl⟩ := list4 (l := cs0) (by simpa using hs0)
  obtain ⟨fu0, hf0⟩ := h0
  obtain ⟨a00, a01, xs0, ys0, rfl, rfl, ix0, iy0⟩ := trod_table (by simpa [Value.cells] using hf0)
  clear hA0 hval0
  refine (walk_FnExactTableValid a00 a01 c02 c03 xs0 ys0 W ix0 iy0).mono fun e W' ⟨he, bel⟩ => ?_
  subst he
  exact ⟨_, rfl, _, _, _, [], _, [], hW', trodAll_mk1 (shut_bool Try.underlying4 _), (trodAll_cons_mk (Below.trod laidOut (by kernel_rfl) (of_decide_eq_true (by kernel_rfl)) k0 bel lt0) trodAll_mk0), rfl, Below.frame bel _, fun h => by cases h⟩
theorem proved_FnExactTableValid : Rows.FnExactTableValidSaid :=
  OpenClaim.holds_of_wide 5 Try.f5 rfl rfl rfl rfl rfl rfl rfl ⟨rfl, rfl, rfl, rfl, rfl⟩ rfl rfl rfl rfl rfl (by kernel_rfl) Try.func5 (by kernel_rfl)
    (of_decide_eq_true (by kernel_rfl)) (by unfold Func.isWrapper; rw [if_neg (of_decide_eq_false (by kernel_rfl))]; exact ⟨rfl, rfl⟩)
    (fun os started H enc _ => lifted_FnExactTableValid os started H enc)
#print axioms proved_FnExactTableValid

end Go.Proofs.Ytnblocljjljebaa
