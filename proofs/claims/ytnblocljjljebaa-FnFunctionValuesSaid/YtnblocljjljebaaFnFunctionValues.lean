/- Proved: the law FnFunctionValues answers true for every input. No condition. -/
import Derived.Test.YtnblocljjljebaaRows
import Derived.Test.YtnblocljjljebaaDraw
import Derived.Test.YtnblocljjljebaaFnVals
import Derived.ChangeSlices
import Derived.Test.YtnblocljjljebaaOpen
import Derived.ChangeOld
import Derived.Carry
namespace Go.Proofs.Ytnblocljjljebaa
open Go.ChangeShapes Go.WideShapes Go.ChangeAt Go.RowKit Go.Joins
set_option linter.unusedVariables false
theorem own : ownKnob Try.prog.godebug = none := by kernel_rfl
theorem laidOut : laidOutB Try.prog = true := by kernel_rfl

theorem laws_alive (w : World) : Calls Try.prog 18 #[] w fun e w' => e = .returned (.bool true) ∧ w = w' := by
  go_enter Try.func18, Try.ntmps18
  go_wp2_with (go_at_call 33; (with_reducible refine (impl_RingValid 5 true (by decide) _).mono ?_); rintro e w1 ⟨rfl, rfl⟩)
  go_ret
  exact ⟨rfl, rfl⟩

theorem rv_fAt {k x : Int} (hk : fKnown k = true) (hx : rv x = true) : rv (fAt k x) = true := by
  have hs := sgn_bd hx
  unfold fAt
  rw [if_pos ⟨hx, hk⟩]
  split
  · exact rv_ring _
  · rw [rv_iff]
    split
    · omega
    · split
      · split <;> omega
      · split
        · unfold grow; repeat' split
          all_goals omega
        · split
          · omega
          · have h1 : 0 < sgn x := by omega
            have h2 : 0 ≤ 256 / sgn x := Int.ediv_nonneg (by omega) (by omega)
            have h3 : 256 / sgn x ≤ 256 := Int.ediv_le_self _ (by omega)
            omega
theorem meas97 (L j : Nat) (h : j < L) : L + 97 - (intOf (.int .i64 ((j : Int) + 97))).toNat < L + 97 - (intOf (.int .i64 (j : Int))).toNat := by
  have e1 : (intOf (.int .i64 ((j : Int) + 97))).toNat = j + 97 := by show ((j : Int) + 97).toNat = _; omega
  have e2 : (intOf (.int .i64 (j : Int))).toNat = j := by show ((j : Int)).toNat = _; omega
  rw [e1, e2]; omega
set_option maxHeartbeats 2000000 in
theorem spec_DrawFunctionValues (v : Value) (w : World) (hb : Bytes w v) : Calls Try.prog 31 #[v] w fun e w' => ∃ x : Nat, e = .returned (.int .i64 x) ∧ (x : Int) < 7 ∧ Ext w w' := by
  go_enter Try.func31, Try.ntmps31
  go_wp2_with (fail)
  (with_reducible refine (open' _ _ hb).mono ?_)
  rintro e w1 ⟨g, rfl, hg, hr1, hx1⟩
  have HP : Room 100 := ⟨by omega⟩
  go_wp2_with (fail)
  (with_reducible refine (pick g _ _ (HP.le (by omega)) _ hr1).mono ?_)
  rintro e w2 ⟨v, rfl, ⟨x, rfl, h2, z2⟩, hr2, hm2⟩

  have l2 := h2 (by omega)
  go_wp2
  go_ret
  exact ⟨x, rfl, l2, Mod.ext hx1 hm2 hg⟩

set_option maxHeartbeats 2000000 in
theorem walk_FnFunctionValues (v : Value) (w : World) (hb : Bytes w v) : Calls Try.prog 7 #[v] w fun e w' => e = .returned (.bool true) ∧ Ext w w' := by
  obtain ⟨a, n, cap, rfl, hn, hm, hc⟩ := id hb
  clear hc
  have HB := Kept.mk hb; clear hb
  by_cases hl : (n : Int) ≤ 1048576
  · go_enter Try.func7, Try.ntmps7
    go_wp2_with (fail)
    (with_reducible refine (spec_DrawFunctionValues _ _ HB.out).mono ?_)
    rintro e w1 ⟨k, rfl, hk, hx1⟩
    clear hl hn hm
    go_wp2_with fail
    (with_reducible refine (impl_FunctionValues _ _).mono ?_)
    rintro e w2 ⟨v2, rfl, o2, x2⟩
    go_wp2_with fail
    (with_reducible refine (spec_FunctionValues _ _).mono ?_)
    rintro e w3 ⟨v3, rfl, o3, x3⟩
    replace o2 := o2.keep x3
    go_wp2_with fail
    (with_reducible refine (laws_sameInts _ _ _ _ o2.ints o3.ints).mono ?_)
    rintro e w4 ⟨rfl, x4⟩
    have HI := Kept.mk (o2.ints.keep x4)
    have hx := ((hx1.trans x2).trans x3).trans x4
    clear o2 o3 x2 x3 x4 hx1
    cases hkn : fKnown (k : Int)
    · rw [show fVals (k : Int) = [] by simp [fVals, hkn]] at HI
      have hk' : (k : Int) < 1 ∨ 5 < (k : Int) := by
        unfold fKnown at hkn
        simp at hkn
        omega
      obtain ⟨⟨a2, cap2, rfl, -, -⟩⟩ := HI
      clear hkn
      rcases hk' with hk' | hk'
      · have e1 : decide ((k : Int) < 1) = true := by simpa using hk'
        go_wp2_with (first | (go_at_call 18; (with_reducible refine (laws_alive _).mono ?_); rintro e w1 ⟨rfl, rfl⟩))
        go_ret
        exact ⟨rfl, hx⟩
      · have e1 : decide ((k : Int) < 1) = false := by simp; omega
        have e2 : decide (5 < (k : Int)) = true := by simpa using hk'
        go_wp2_with (first | (go_at_call 18; (with_reducible refine (laws_alive _).mono ?_); rintro e w1 ⟨rfl, rfl⟩))
        go_ret
        exact ⟨rfl, hx⟩
    · have HF : Kept (fVals (k : Int) = valsTo (k : Int) 4096) := ⟨by rw [fVals, if_pos hkn]⟩
      have HK := Kept.mk hkn; clear hkn
      have HG : Kept (∀ i, i < (fVals (k : Int)).length → (fVals (k : Int)).getD i 0 = fAt k (i : Int) ∧ rv (i : Int) = true) := ⟨fun i hi => by
        rw [HF.out] at hi ⊢
        rw [valsTo_len] at hi
        exact ⟨valsTo_get _ _ _ hi, rv_iff.2 ⟨by omega, by omega⟩⟩⟩
      have HL : Kept ((fVals (k : Int)).length = 4096) := ⟨by rw [HF.out, valsTo_len]⟩
      clear HF
      generalize fVals (k : Int) = xs at *
      obtain ⟨⟨a2, cap2, rfl, hm2, hc2⟩⟩ := HI
      have HC := Kept.mk hc2; clear hc2
      have hne : ((xs.length : Int) == 0) = false := by rw [HL.out]; rfl
      have hle : Kept ((xs.length : Int) ≤ 4096) := ⟨by rw [HL.out]; omega⟩
      clear hm2
      go_wp2
      go_loopw [5] (fun i wr => ∃ j : Nat, j ≤ xs.length + 97 ∧ i = .int .i64 j ∧ Ext w4 wr) (fun i _ => xs.length + 97 - (intOf i).toNat)
      case atStart => exact ⟨0, by omega, rfl, Ext.refl _⟩
      case round =>
        obtain ⟨j, hj, rfl, hxr⟩ := hrel
        have hle' := hle.out
        by_cases hlt : j < xs.length
        · obtain ⟨b, off, rfl, hb, hcell⟩ := HC.out j hlt
          obtain ⟨g1, g2⟩ := HG.out j hlt
          rw [g1] at hcell
          have G2 := Kept.mk (rv_fAt HK.out g2)
          clear g1 g2 hle'
          have hcellr := hxr.cells.1 b (off + j) hb
          rw [hcell] at hcellr
          have hbr := hxr.lt hb
          go_wp2_with (fail)
          apply wp_region_zip [isv _, isv _, isv _, isv _, isv _, isv _, isv _, isv _, isv _, isv _, isv _, isv _, isv _, isv _, isv _, isv _] _ (by kernel_rfl)
          case hA => intro V; simp [putAll, dstOf, Act.put]; exact rfl
          case hsl => intro V; exact rfl
          case step =>
            intro V lo up w' hr
            have hxr := hxr.trans hr
            obtain ⟨hcr, hzr⟩ := hxr.cells
            have hcw := (hr.cells.1 b (off + j) hbr).trans hcellr
            simp only [zipOk, depsImp, isv, waits, Region.binds, List.map_nil, List.nil_append, List.filterMap_cons, List.filterMap_nil, ↓reduceIte, true_implies, List.getD_cons_zero, List.getD_cons_succ, and_true]
            refine ⟨?_, ?_, ?_, ?_, ?_, ?_, ?_, ?_, ?_, ?_, ?_, ?_, ?_, ?_, ?_, ?_⟩
            all_goals
              intros
              go_wp2_with (first | (go_at_call 16; (with_reducible refine (impl_FunctionAt _ _ _).mono ?_); rintro e w1 ⟨rfl, rfl⟩) | (go_at_call 33; (with_reducible refine (impl_RingValid _ true G2.out _).mono ?_); rintro e w1 ⟨rfl, rfl⟩))
              refine stepQ_mk rfl (by simp only [List.getElem?_toArray, List.getElem?_cons_succ, List.getElem?_cons_zero]; exact rfl) ?_
              first | exact ⟨hy, rfl⟩ | exact ⟨Ext.refl _, rfl⟩ | exact ⟨Ext.refl _, by assumption⟩ | exact ⟨(Ext.refl _).alloc _, rfl, by simp, Blk.new _ _ _⟩
          case hB => kernel_rfl
          case fin =>
            intro V lo up w' hr hf ha
            simp only [factsOk, isv, List.map_nil, and_true, Nat.zero_add, Nat.reduceAdd] at hf
            simp only [List.length_cons, List.length_nil, Nat.zero_add, Nat.reduceAdd, List.drop_succ_cons, List.drop_zero]
            obtain ⟨⟨-, -, -, e0⟩, ⟨-, -, -, e1⟩, ⟨-, -, -, e2⟩, ⟨-, -, -, e3⟩, ⟨-, -, -, e4⟩, ⟨-, -, -, e5⟩, ⟨-, -, -, e6⟩, ⟨-, -, -, e7⟩, ⟨-, -, -, e8⟩, ⟨-, -, -, e9⟩, ⟨-, -, -, e10⟩, ⟨-, -, -, e11⟩, ⟨-, -, -, e12⟩, ⟨-, -, -, e13⟩, ⟨-, -, -, e14⟩, ⟨-, -, -, e15⟩⟩ := hf
            rw [e0, e1, e2, e3, e4, e5, e6, e7, e8, e9, e10, e11, e12, e13, e14, e15]
            clear e0 e1 e2 e3 e4 e5 e6 e7 e8 e9 e10 e11 e12 e13 e14 e15
            clear ha V lo up
            have hs0 := hxr.size
            replace hx := hxr.trans hr
            clear hr
            try clear hc hz
            obtain ⟨hc, hz⟩ := hx.cells
            have ew : wrap64 ((j : Int) + 97) = (j : Int) + 97 := by have := hle.out; unfold wrap64; omega
            go_wp2
            go_roundw
            case rel => exact ⟨j + 97, by omega, by go_num, hx⟩
            case measure => first | exact meas97 _ _ hlt | (rw [ew]; exact meas97 _ _ hlt)

        · go_wp2
          go_ret
          exact ⟨by rw [HL.out]; rfl, hx.trans hxr⟩

  · go_enter Try.func7, Try.ntmps7
    go_wp2
    go_ret
    exact ⟨rfl, (by (repeat (first | refine Ext.setCell ?_ (by first | (simp; done) | (simp; omega) | omega) _ | refine Ext.alloc ?_ _ | refine Ext.drew ?_ | refine Ext.setRow ?_ (by omega) _)); first | exact Ext.refl _ | exact hx | (refine Ext.trans ?_ hx; (repeat (refine Ext.alloc ?_ _)); exact Ext.refl _))⟩
theorem add_at (b o i : Nat) : (⟨b, o, none⟩ : Addr).add i = ⟨b, o + i, none⟩ := by
  unfold Addr.add; by_cases h : i = 0
  · subst h; rfl
  · rw [if_neg h]
theorem cell_lt {w : World} {b o : Nat} {v : Value} (h : w.cell? ⟨b, o, none⟩ = some v) : b < w.heap.size := by
  apply Classical.byContradiction
  intro hn
  have : w.heap[b]? = none := by simp; omega
  simp [World.cell?, this] at h
theorem bytes_of {H : Type} {enc : TypeId × Value → H} {w : World} {base : Nat} {held : Bool} {t e : TypeId} {fuel : Nat} {a : Option Addr} {len cap : Nat} {x : DataW H × List MemPlace} (ht : Try.prog.underlying t = some (.slice e)) (he : Try.prog.underlying e = some (.int .u8)) (hc : Try.prog.cellsOf e = 1)
    (h : DataW.trod enc Try.prog w base (fun _ => true) held fuel t (Value.slice a len cap).cells.toList = some x) : Bytes w (.slice a len cap) := by
  rcases open_ints ht he hc h with ⟨hcs, _⟩ | ⟨x, l, c, zs, hcs, _, hl, hm, hz, _, hcell, hwz⟩
  · simp [Value.cells] at hcs
    obtain ⟨rfl, rfl, rfl⟩ := hcs
    exact ⟨none, 0, 0, rfl, Nat.le_refl _, by omega, fun i hi => absurd hi (Nat.not_lt_zero _)⟩
  · simp [Value.cells] at hcs
    obtain ⟨rfl, rfl, rfl⟩ := hcs
    have hz' : zs.length = cap := by simpa using hz
    refine ⟨some x, len, cap, rfl, hl, by unfold maxLen at hm; omega, fun i hi => ?_⟩
    have hci := hcell i (by omega)
    obtain ⟨b, off, spot⟩ := x
    have hspot : spot = none := by
      have h0 := hcell 0 (by omega)
      simpa [Addr.add] using World.cell?_spot h0
    subst hspot
    rw [add_at] at hci
    have hwf := hwz (zs.getD i 0) (by
      have : i < zs.length := by omega
      simp [this])
    refine ⟨b, off, rfl, cell_lt hci, _, hci, ?_⟩
    have := bounds_u8 hwf
    omega

set_option maxRecDepth 100000 in
theorem lifted_FnFunctionValues (os : Os) (started : os.Started) (H : Type) (enc : TypeId × Value → H) :
    ReturnsInHanded {} Try.checked os 7 .any (Rows.fnFunctionValuesSpec.pre6 enc Try.prog Try.f7 Rows.fnFunctionValuesRow.domain false) (Rows.fnFunctionValuesSpec.post enc Try.prog Try.f7 false true false false) := by
  refine returnsInHanded_of_change (C := Try.checked) own started (by kernel_rfl) Try.func7
    (ChangeSpec.witness6 (enc := enc) (C := Try.checked) false ⟨#[], #[.slice none 0 0], []⟩ 8 (by kernel_rfl) (by kernel_rfl) (by kernel_rfl) (by kernel_rfl)) ?_
  intro W base args ds gs before hval0 hW hcnd _
  have hval : ∀ (j : Nat) t v, Try.f7.params[j]? = some t → args[j]? = some v → Value.okWide Try.prog W .any base t v := hval0
  have hW' := hW
  obtain ⟨p, q, hA0, hV, rfl, hfz, hnd⟩ := hW
  have hA : DataW.TrodAll enc Try.prog W 0 (fun _ => true) true Try.f7.params.toList args.toList ds p := hA0
  rw [Try.params7] at hA hval
  obtain ⟨v0, vs0, d0, ds0, p0, q0, hargs, rfl, rfl, h0, r0⟩ := trodAll_cons hA
  obtain ⟨rfl, rfl, rfl⟩ := trodAll_nil r0
  obtain rfl : args = #[v0] := by cases args; simp_all
  obtain ⟨rfl, rfl⟩ := trodVars_none hV
  have k0 := h0
  have lt0 : ∀ x ∈ p0, x.block < W.heap.size := by obtain ⟨m, hm⟩ := k0; exact DataW.trod_lt m _ _ _ hm
  obtain ⟨sa0, sl0, sc0, rfl⟩ := okWide_slice Try.underlying24 (hval 0 24 v0 rfl rfl)
  have by0 : Bytes W (.slice sa0 sl0 sc0) := by
    obtain ⟨fu, hf⟩ := h0
    exact bytes_of Try.underlying24 Try.underlying5 (by kernel_rfl) hf
  clear hA0 hval0
  refine (walk_FnFunctionValues (.slice sa0 sl0 sc0) W by0).mono fun e W' ⟨he, bel⟩ => ?_
  subst he
  exact ⟨_, rfl, _, _, _, [], _, [], hW', trodAll_mk1 (shut_bool Try.underlying4 _), (trodAll_cons_mk (Below.trod laidOut (by kernel_rfl) (of_decide_eq_true (by kernel_rfl)) k0 bel lt0) trodAll_mk0), rfl, Below.frame bel _, fun h => by cases h⟩
theorem proved_FnFunctionValues : Rows.FnFunctionValuesSaid :=
  OpenClaim.holds_of_wide 7 Try.f7 rfl rfl rfl rfl rfl rfl rfl ⟨rfl, rfl, rfl, rfl, rfl⟩ rfl rfl rfl rfl rfl (by kernel_rfl) Try.func7 (by kernel_rfl)
    (of_decide_eq_true (by kernel_rfl)) (by unfold Func.isWrapper; rw [if_neg (of_decide_eq_false (by kernel_rfl))]; exact ⟨rfl, rfl⟩)
    (fun os started H enc _ => lifted_FnFunctionValues os started H enc)
#print axioms proved_FnFunctionValues

end Go.Proofs.Ytnblocljjljebaa
