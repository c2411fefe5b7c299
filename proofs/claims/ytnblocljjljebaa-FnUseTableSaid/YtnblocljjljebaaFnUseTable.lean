/- Proved: the law FnUseTable answers true for every input. No condition. -/
import Derived.Test.YtnblocljjljebaaRows
import Derived.Test.YtnblocljjljebaaTabD
import Derived.Test.YtnblocljjljebaaOpen
import Derived.ChangeSlices
import Derived.Test.YtnblocljjljebaaOpen
import Derived.ChangeOld
import Derived.Carry
namespace Go.Proofs.Ytnblocljjljebaa
set_option linter.unusedSimpArgs false
set_option linter.unusedVariables false
open Go.ChangeShapes Go.WideShapes Go.ChangeAt Go.RowKit Go.Joins
set_option linter.unusedVariables false
theorem own : ownKnob Try.prog.godebug = none := by kernel_rfl
theorem laidOut : laidOutB Try.prog = true := by kernel_rfl

theorem laws_alive (w : World) : Calls Try.prog 18 #[] w fun e w' => e = .returned (.bool true) ∧ w = w' := by
  go_enter Try.func18, Try.ntmps18
  go_wp2_with (go_at_call 33; (with_reducible refine (impl_RingValid 5 true (by decide) _).mono ?_); rintro e w1 ⟨rfl, rfl⟩)
  go_ret
  exact ⟨rfl, rfl⟩
set_option maxHeartbeats 8000000 in
set_option maxRecDepth 4000 in
theorem walk_FnUseTable (v : Value) (w : World) (hb : Bytes w v) : Calls Try.prog 10 #[v] w fun e w' => e = .returned (.bool true) ∧ Ext w w' := by
  obtain ⟨ac, n', cap, rfl, hn, hm, hc⟩ := id hb
  clear hc
  have HB := Kept.mk hb; clear hb
  by_cases hl : (n' : Int) ≤ 1048576
  · go_enter Try.func10, Try.ntmps10
    go_wp2_with (fail)
    (with_reducible refine (spec_DrawUseTable _ _ HB.out).mono ?_)
    rintro e w1 ⟨x, y, a, b, xs, ys, v1, v2, rfl, i1, i2, hx1⟩
    clear hl
    obtain ⟨s1, n1, h1, -, -⟩ := id i1.ints
    subst h1
    obtain ⟨s2, n2, h2, -, -⟩ := id i2.ints
    subst h2
    cases hk : useOk x y a b xs ys
    · have e1 : useF x y a b xs ys = -1 := by simp [useF, hk]
      have e2 : useL x y a b xs ys = -1 := by simp [useL, hk]
      have e3 : useC x y a b xs ys = -1 := by simp [useC, hk]
      have I1 := Kept.mk i1.ints
      have I2 := Kept.mk i2.ints
      clear i1 i2
      have Timpl : Kept (∀ w', Ext w1 w' → Calls Try.prog 36 #[.agg #[.int .i64 x, .int .i64 y], .agg #[.int .i64 a, .int .i64 b, .slice s1 xs.length n1, .slice s2 ys.length n2]] w' fun e w'' => e = .returned (.tuple #[.agg #[.int .i64 (-1), .int .i64 (-1)], .int .i64 (-1), .bool false]) ∧ Ext w' w'') := ⟨fun w' hx => by
        have := impl_UseTable x y a b _ _ xs ys w' (I1.out.keep hx) (I2.out.keep hx)
        rw [e1, e2, e3, hk] at this; exact this⟩
      have Tspec : Kept (∀ w', Ext w1 w' → Calls Try.prog 34 #[.agg #[.int .i64 x, .int .i64 y], .agg #[.int .i64 a, .int .i64 b, .slice s1 xs.length n1, .slice s2 ys.length n2]] w' fun e w'' => e = .returned (.tuple #[.agg #[.int .i64 (-1), .int .i64 (-1)], .int .i64 (-1), .bool false]) ∧ Ext w' w'') := ⟨fun w' hx => by
        have := spec_UseTable x y a b _ _ xs ys w' (I1.out.keep hx) (I2.out.keep hx)
        rw [e1, e2, e3, hk] at this; exact this⟩
      clear hk e1 e2 e3
      have kX := (Blk.new w1 #[.int .i64 x, .int .i64 y] 37).old (.cells #[.int .i64 a, .int .i64 b, .slice s1 xs.length n1, .slice s2 ys.length n2] 39)
      have kT := Blk.new (w1.alloc (.cells #[.int .i64 x, .int .i64 y] 37)) #[.int .i64 a, .int .i64 b, .slice s1 xs.length n1, .slice s2 ys.length n2] 39
      simp only [World.size_alloc] at kT
      have xa := ((Ext.refl w1).alloc (.cells #[.int .i64 x, .int .i64 y] 37)).alloc (.cells #[.int .i64 a, .int .i64 b, .slice s1 xs.length n1, .slice s2 ys.length n2] 39)
      have X := Kept.mk xa
      go_wp2_with (fail)
      (with_reducible refine (Timpl.out _ xa).mono ?_)
      rintro e w2 ⟨rfl, x2⟩
      clear xa
      replace kX := kX.keep x2
      replace kT := kT.keep x2
      replace X := Kept.mk (X.out.trans x2)
      clear x2
      have kS := Blk.new w2 #[.int .i64 (-1), .int .i64 (-1)] 37
      have xb := (Ext.refl w2).alloc (.cells #[.int .i64 (-1), .int .i64 (-1)] 37)
      replace kX := kX.keep xb
      replace kT := kT.keep xb
      replace X := Kept.mk (X.out.trans xb)
      clear xb
      obtain ⟨x0, x1⟩ := kX.two
      obtain ⟨t0, t1, t2, t3⟩ := kT.four
      go_wp2_with (fail)
      (with_reducible refine (Tspec.out _ X.out).mono ?_)
      rintro e w3 ⟨rfl, x3⟩
      clear x0 x1 t0 t1 t2 t3
      have lS := kS.lt
      replace kX := kX.keep x3
      replace kT := kT.keep x3
      replace kS := kS.keep x3
      replace X := Kept.mk (X.out.trans x3)
      clear x3
      have kZ := Blk.new w3 #[.int .i64 (-1), .int .i64 (-1)] 37
      have xb := (Ext.refl w3).alloc (.cells #[.int .i64 (-1), .int .i64 (-1)] 37)
      replace kX := kX.keep xb
      replace kT := kT.keep xb
      replace kS := kS.keep xb
      replace X := Kept.mk (X.out.trans xb)
      clear xb
      obtain ⟨s0, s1'⟩ := kS.two
      obtain ⟨z0, z1⟩ := kZ.two
      have HX := Kept.mk (hx1.trans X.out)
      clear hx1
      go_wp2_with (go_at_call 18; (with_reducible refine (laws_alive _).mono ?_); rintro e w1 ⟨rfl, rfl⟩)
      go_ret
      exact ⟨rfl, HX.out⟩
    · obtain ⟨n, en, ln1, ln2⟩ := useC_nat hk
      obtain ⟨b1, o1, rfl, lb1, cb1⟩ := i1.ints.at ln1
      obtain ⟨b2, o2, rfl, lb2, cb2⟩ := i2.ints.at ln2
      have e1 : useF x y a b xs ys = xs.getD n 0 := by simp only [useF, hk, if_true, en]; rfl
      have e2 : useL x y a b xs ys = ys.getD n 0 := by simp only [useL, hk, if_true, en]; rfl
      have e3 : useC x y a b xs ys = (n : Int) := by simp only [useC, hk, if_true, en]
      have I1 := Kept.mk i1.ints
      have I2 := Kept.mk i2.ints
      clear i1 i2
      have Timpl : Kept (∀ w', Ext w1 w' → Calls Try.prog 36 #[.agg #[.int .i64 x, .int .i64 y], .agg #[.int .i64 a, .int .i64 b, .slice (some ⟨b1, o1, none⟩) xs.length n1, .slice (some ⟨b2, o2, none⟩) ys.length n2]] w' fun e w'' => e = .returned (.tuple #[.agg #[.int .i64 (xs.getD n 0), .int .i64 (ys.getD n 0)], .int .i64 (n : Int), .bool true]) ∧ Ext w' w'') := ⟨fun w' hx => by
        have := impl_UseTable x y a b _ _ xs ys w' (I1.out.keep hx) (I2.out.keep hx)
        rw [e1, e2, e3, hk] at this; exact this⟩
      have Tspec : Kept (∀ w', Ext w1 w' → Calls Try.prog 34 #[.agg #[.int .i64 x, .int .i64 y], .agg #[.int .i64 a, .int .i64 b, .slice (some ⟨b1, o1, none⟩) xs.length n1, .slice (some ⟨b2, o2, none⟩) ys.length n2]] w' fun e w'' => e = .returned (.tuple #[.agg #[.int .i64 (xs.getD n 0), .int .i64 (ys.getD n 0)], .int .i64 (n : Int), .bool true]) ∧ Ext w' w'') := ⟨fun w' hx => by
        have := spec_UseTable x y a b _ _ xs ys w' (I1.out.keep hx) (I2.out.keep hx)
        rw [e1, e2, e3, hk] at this; exact this⟩
      clear hk e1 e2 e3
      generalize xs.getD n 0 = p at *
      generalize ys.getD n 0 = q at *
      have kX := (Blk.new w1 #[.int .i64 x, .int .i64 y] 37).old (.cells #[.int .i64 a, .int .i64 b, .slice (some ⟨b1, o1, none⟩) xs.length n1, .slice (some ⟨b2, o2, none⟩) ys.length n2] 39)
      have kT := Blk.new (w1.alloc (.cells #[.int .i64 x, .int .i64 y] 37)) #[.int .i64 a, .int .i64 b, .slice (some ⟨b1, o1, none⟩) xs.length n1, .slice (some ⟨b2, o2, none⟩) ys.length n2] 39
      simp only [World.size_alloc] at kT
      have xa := ((Ext.refl w1).alloc (.cells #[.int .i64 x, .int .i64 y] 37)).alloc (.cells #[.int .i64 a, .int .i64 b, .slice (some ⟨b1, o1, none⟩) xs.length n1, .slice (some ⟨b2, o2, none⟩) ys.length n2] 39)
      have X := Kept.mk xa
      go_wp2_with (fail)
      (with_reducible refine (Timpl.out _ xa).mono ?_)
      rintro e w2 ⟨rfl, x2⟩
      clear xa
      replace kX := kX.keep x2
      replace kT := kT.keep x2
      replace X := Kept.mk (X.out.trans x2)
      clear x2
      have kS := Blk.new w2 #[.int .i64 p, .int .i64 q] 37
      have xb := (Ext.refl w2).alloc (.cells #[.int .i64 p, .int .i64 q] 37)
      replace kX := kX.keep xb
      replace kT := kT.keep xb
      replace X := Kept.mk (X.out.trans xb)
      clear xb
      obtain ⟨x0, x1⟩ := kX.two
      obtain ⟨t0, t1, t2, t3⟩ := kT.four
      go_wp2_with (fail)
      (with_reducible refine (Tspec.out _ X.out).mono ?_)
      rintro e w3 ⟨rfl, x3⟩
      clear x0 x1 t0 t1 t2 t3
      have lS := kS.lt
      replace kX := kX.keep x3
      replace kT := kT.keep x3
      replace kS := kS.keep x3
      replace X := Kept.mk (X.out.trans x3)
      clear x3
      have kZ := Blk.new w3 #[.int .i64 p, .int .i64 q] 37
      have xb := (Ext.refl w3).alloc (.cells #[.int .i64 p, .int .i64 q] 37)
      replace kX := kX.keep xb
      replace kT := kT.keep xb
      replace kS := kS.keep xb
      replace X := Kept.mk (X.out.trans xb)
      clear xb
      obtain ⟨s0, s1'⟩ := kS.two
      obtain ⟨z0, z1⟩ := kZ.two
      have HX := Kept.mk (hx1.trans X.out)
      have HZ := Kept.mk hx1
      clear hx1
      have n0 : (0 : Int) ≤ (n : Int) := by omega
      have n1' : (n : Int) < (xs.length : Int) := by omega
      have n2' : (n : Int) < (ys.length : Int) := by omega
      go_wp2_with (fail)
      clear s0 s1' z0 z1
      have lb1' := X.out.size
      have hx := X.out
      apply wp_region_zip [isv _, isv _, isv _, isv _, isv _, isv _, isv _, isv _, isv _, isv _, isv _, isv _, isv _, isv _, isv _, isv _, isv _, isv _, isv _, isv _, isv _, isv _, isv _, isv _, isv _, isv _, isv _, isv _, isv _, isv _, isv _, isv _, isv _, isv _, isv _, isv _] _ (by kernel_rfl)
      case hA => intro V; simp [putAll, dstOf, Act.put]; exact rfl
      case hsl => intro V; exact rfl
      case step =>
        intro V lo up w' hr
        have hxr := hx.trans hr
        obtain ⟨hcr, hzr⟩ := hxr.cells
        have kT := kT.keep hr
        have kS := kS.keep hr
        obtain ⟨t0, t1, t2, t3⟩ := kT.four
        obtain ⟨s0, s1'⟩ := kS.two
        have c1 := (hxr.cells.1 b1 (o1 + n) lb1).trans cb1
        have c2 := (hxr.cells.1 b2 (o2 + n) lb2).trans cb2
        simp only [zipOk, depsImp, isv, waits, Region.binds, List.map_nil, List.nil_append, List.filterMap_cons, List.filterMap_nil, ↓reduceIte, true_implies, List.getD_cons_zero, List.getD_cons_succ, and_true]
        refine ⟨?_, ?_, ?_, ?_, ?_, ?_, ?_, ?_, ?_, ?_, ?_, ?_, ?_, ?_, ?_, ?_, ?_, ?_, ?_, ?_, ?_, ?_, ?_, ?_, ?_, ?_, ?_, ?_, ?_, ?_, ?_, ?_, ?_, ?_, ?_, ?_⟩
        all_goals
          intros
          go_wp2
          refine stepQ_mk rfl (by simp only [List.getElem?_toArray, List.getElem?_cons_succ, List.getElem?_cons_zero]; exact rfl) ?_
          first | exact ⟨hy, rfl⟩ | exact ⟨Ext.refl _, rfl⟩ | exact ⟨Ext.refl _, by assumption⟩ | exact ⟨(Ext.refl _).alloc _, rfl, by simp, Blk.new _ _ _⟩
      case hB => kernel_rfl
      case fin =>
        intro V lo up w' hr hf ha
        simp only [factsOk, isv, List.map_nil, and_true, Nat.zero_add, Nat.reduceAdd] at hf
        simp only [List.length_cons, List.length_nil, Nat.zero_add, Nat.reduceAdd, List.drop_succ_cons, List.drop_zero]
        obtain ⟨⟨-, -, -, e0⟩, ⟨-, -, -, e1⟩, ⟨-, -, -, e2⟩, ⟨-, -, -, e3⟩, ⟨-, -, -, e4⟩, ⟨-, -, -, e5⟩, ⟨-, -, -, e6⟩, ⟨-, -, -, e7⟩, ⟨-, -, -, e8⟩, ⟨-, -, -, e9⟩, ⟨-, -, -, e10⟩, ⟨-, -, -, e11⟩, ⟨-, -, -, e12⟩, ⟨-, -, -, e13⟩, ⟨-, -, -, e14⟩, ⟨-, -, -, e15⟩, ⟨-, -, -, e16⟩, ⟨-, -, -, e17⟩, ⟨-, -, -, e18⟩, ⟨-, -, -, e19⟩, ⟨-, -, -, e20⟩, ⟨-, -, -, e21⟩, ⟨-, -, -, e22⟩, ⟨-, -, -, e23⟩, ⟨-, -, -, e24⟩, ⟨-, -, -, e25⟩, ⟨-, -, -, e26⟩, ⟨-, -, -, e27⟩, ⟨-, -, -, e28⟩, ⟨-, -, -, e29⟩, ⟨-, -, -, e30⟩, ⟨-, -, -, e31⟩, ⟨-, -, -, e32⟩, ⟨-, -, -, e33⟩, ⟨-, -, -, e34⟩, ⟨-, -, -, e35⟩⟩ := hf
        rw [e0, e1, e2, e3, e4, e5, e6, e7, e8, e9, e10, e11, e12, e13, e14, e15, e16, e17, e18, e19, e20, e21, e22, e23, e24, e25, e26, e27, e28, e29, e30, e31, e32, e33, e34, e35]
        clear e0 e1 e2 e3 e4 e5 e6 e7 e8 e9 e10 e11 e12 e13 e14 e15 e16 e17 e18 e19 e20 e21 e22 e23 e24 e25 e26 e27 e28 e29 e30 e31 e32 e33 e34 e35
        clear ha V lo up
        have hs0 := hx.size
        replace hx := hx.trans hr
        have tkT := kT.lt
        replace kT := kT.keep hr
        have tkS := kS.lt
        replace kS := kS.keep hr
        clear hr
        try clear hc hz
        obtain ⟨hc, hz⟩ := hx.cells
        go_wp2
        go_ret
        exact ⟨rfl, HZ.out.trans hx⟩
  · have hl' : ¬ (n' : Int) ≤ 1048576 := hl
    have hg : (1048576 : Int) < n' := by omega
    clear hl
    go_enter Try.func10, Try.ntmps10
    go_wp2_with (fail)
    go_ret
    exact ⟨rfl, Ext.refl _⟩
theorem add_at (b o i : Nat) : (⟨b, o, none⟩ : Addr).add i = ⟨b, o + i, none⟩ := by
  unfold Addr.add; by_cases h : i = 0
  · subst h; rfl
  · rw [if_neg h]
theorem cell_lt {w : World} {b o : Nat} {v : Value} (h : w.cell? ⟨b, o, none⟩ = some v) : b < w.heap.size := by
  apply Classical.byContradiction
  intro hn
  have : w.heap[b]? = none := by simp; omega
  simp [World.cell?, this] at h
theorem bytes_of {H : Type} {enc : TypeId × Value → H} {w : World} {base : Nat} {held : Bool} {t e : TypeId} {fuel : Nat} {a : Option Addr} {len cap : Nat} {x : DataW H × List MemPlace} (ht : Try.prog.underlying t = some (.slice e)) (he : Try.prog.underlying e = some (.int .u8)) (hc : Try.prog.cellsOf e = 1)
    (h : DataW.trod enc Try.prog w base (fun _ => true) held fuel t (Value.slice a len cap).cells.toList = some x) : Bytes w (.slice a len cap) := by
  rcases open_ints ht he hc h with ⟨hcs, _⟩ | ⟨x, l, c, zs, hcs, _, hl, hm, hz, _, hcell, hwz⟩
  · simp [Value.cells] at hcs
    obtain ⟨rfl, rfl, rfl⟩ := hcs
    exact ⟨none, 0, 0, rfl, Nat.le_refl _, by omega, fun i hi => absurd hi (Nat.not_lt_zero _)⟩
  · simp [Value.cells] at hcs
    obtain ⟨rfl, rfl, rfl⟩ := hcs
    have hz' : zs.length = cap := by simpa using hz
    refine ⟨some x, len, cap, rfl, hl, by unfold maxLen at hm; omega, fun i hi => ?_⟩
    have hci := hcell i (by omega)
    obtain ⟨b, off, spot⟩ := x
    have hspot : spot = none := by
      have h0 := hcell 0 (by omega)
      simpa [Addr.add] using World.cell?_spot h0
    subst hspot
    rw [add_at] at hci
    have hwf := hwz (zs.getD i 0) (by
      have : i < zs.length := by omega
      simp [this])
    refine ⟨b, off, rfl, cell_lt hci, _, hci, ?_⟩
    have := bounds_u8 hwf
    omega

set_option maxRecDepth 100000 in
theorem lifted_FnUseTable (os : Os) (started : os.Started) (H : Type) (enc : TypeId × Value → H) :
    ReturnsInHanded {} Try.checked os 10 .any (Rows.fnUseTableSpec.pre6 enc Try.prog Try.f10 Rows.fnUseTableRow.domain false) (Rows.fnUseTableSpec.post enc Try.prog Try.f10 false true false false) := by
  refine returnsInHanded_of_change (C := Try.checked) own started (by kernel_rfl) Try.func10
    (ChangeSpec.witness6 (enc := enc) (C := Try.checked) false ⟨#[], #[.slice none 0 0], []⟩ 8 (by kernel_rfl) (by kernel_rfl) (by kernel_rfl) (by kernel_rfl)) ?_
  intro W base args ds gs before hval0 hW hcnd _
  have hval : ∀ (j : Nat) t v, Try.f10.params[j]? = some t → args[j]? = some v → Value.okWide Try.prog W .any base t v := hval0
  have hW' := hW
  obtain ⟨p, q, hA0, hV, rfl, hfz, hnd⟩ := hW
  have hA : DataW.TrodAll enc Try.prog W 0 (fun _ => true) true Try.f10.params.toList args.toList ds p := hA0
  rw [Try.params10] at hA hval
  obtain ⟨v0, vs0, d0, ds0, p0, q0, hargs, rfl, rfl, h0, r0⟩ := trodAll_cons hA
  obtain ⟨rfl, rfl, rfl⟩ := trodAll_nil r0
  obtain rfl : args = #[v0] := by cases args; simp_all
  obtain ⟨rfl, rfl⟩ := trodVars_none hV
  have k0 := h0
  have lt0 : ∀ x ∈ p0, x.block < W.heap.size := by obtain ⟨m, hm⟩ := k0; exact DataW.trod_lt m _ _ _ hm
  obtain ⟨sa0, sl0, sc0, rfl⟩ := okWide_slice Try.underlying24 (hval 0 24 v0 rfl rfl)
  have by0 : Bytes W (.slice sa0 sl0 sc0) := by
    obtain ⟨fu, hf⟩ := h0
    exact bytes_of Try.underlying24 Try.underlying5 (by kernel_rfl) hf
  clear hA0 hval0
  refine (walk_FnUseTable (.slice sa0 sl0 sc0) W by0).mono fun e W' ⟨he, bel⟩ => ?_
  subst he
  exact ⟨_, rfl, _, _, _, [], _, [], hW', trodAll_mk1 (shut_bool Try.underlying4 _), (trodAll_cons_mk (Below.trod laidOut (by kernel_rfl) (of_decide_eq_true (by kernel_rfl)) k0 bel lt0) trodAll_mk0), rfl, Below.frame bel _, fun h => by cases h⟩
theorem proved_FnUseTable : Rows.FnUseTableSaid :=
  OpenClaim.holds_of_wide 10 Try.f10 rfl rfl rfl rfl rfl rfl rfl ⟨rfl, rfl, rfl, rfl, rfl⟩ rfl rfl rfl rfl rfl (by kernel_rfl) Try.func10 (by kernel_rfl)
    (of_decide_eq_true (by kernel_rfl)) (by unfold Func.isWrapper; rw [if_neg (of_decide_eq_false (by kernel_rfl))]; exact ⟨rfl, rfl⟩)
    (fun os started H enc _ => lifted_FnUseTable os started H enc)
#print axioms proved_FnUseTable

end Go.Proofs.Ytnblocljjljebaa
