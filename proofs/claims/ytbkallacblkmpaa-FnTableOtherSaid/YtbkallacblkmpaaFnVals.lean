/- The contracts of FunctionValues: the values at all ring numbers, in new memory. -/
import Derived.Test.YtbkallacblkmpaaFnAt
import Derived.Test.YtbkallacblkmpaaInts
namespace Go.Proofs.Ytbkallacblkmpaa
set_option linter.unusedSimpArgs false
set_option linter.unusedVariables false
open Go.RowKit
def valsTo (k : Int) (j : Nat) : List Int := (List.range j).map fun (i : Nat) => fAt k (i : Int)
def fVals (k : Int) : List Int := if fKnown k = true then valsTo k 4096 else []
theorem valsTo_len (k : Int) (j : Nat) : (valsTo k j).length = j := by simp [valsTo]
theorem valsTo_succ (k : Int) (j : Nat) : valsTo k (j + 1) = valsTo k j ++ [fAt k (j : Int)] := by simp [valsTo, List.range_succ]
theorem rangeMap_get (f : Nat → Int) (n i : Nat) (h : i < n) : ((List.range n).map f).getD i 0 = f i := by simp [h]
theorem valsTo_get (k : Int) (n i : Nat) (h : i < n) : (valsTo k n).getD i 0 = fAt k (i : Int) := rangeMap_get _ n i h
/-- A list that is known place by place. -/
theorem list_ext {xs ys : List Int} (hl : xs.length = ys.length) (h : ∀ i, i < xs.length → xs.getD i 0 = ys.getD i 0) : xs = ys := by
  apply List.ext_getElem hl
  intro i h1 h2
  have := h i h1
  simpa [h1, h2] using this
theorem getD_set (xs : List Int) (j i : Nat) (y : Int) (hj : j < xs.length) : (xs.set j y).getD i 0 = if i = j then y else xs.getD i 0 := by
  by_cases h : i = j
  · subst h; simp [hj]
  · simp [List.getElem?_set, Ne.symm h, h]
set_option maxHeartbeats 2000000 in
theorem impl_FunctionValues (k : Int) (w : World) : Calls Try.prog 13 #[.int .i64 k] w (OwnPost (fVals k) w) := by
  cases hk : fKnown k
  · rw [show fVals k = [] by simp [fVals, hk]]
    have HK := Lib.hid hk; clear hk
    go_enter Try.func13, Try.ntmps13
    go_wp2_with (go_at_call 42; (with_reducible refine (impl_functionKnown k _ HK.out _).mono ?_); rintro e w1 ⟨rfl, rfl⟩)
    go_ret
    exact ⟨_, rfl, Own.nil _ _, Ext.refl _⟩
  · have HF := Lib.hid (show fVals k = valsTo k 4096 by rw [fVals, if_pos hk])
    have HK := Lib.hid hk; clear hk
    go_enter Try.func13, Try.ntmps13
    go_wp2_with (first | (go_at_call 42; (with_reducible refine (impl_functionKnown k _ HK.out _).mono ?_); rintro e w1 ⟨rfl, rfl⟩) | (at_make; refine wpList_make_ints _ rfl _ _ rfl w.heap.size 4096 4096 rfl rfl rfl (by omega) (Nat.le_refl _) ?_; intro w1 hown hx hlt; have HOWN := Lib.hid hown; clear hown))
    generalize hg : w.heap.size = g at *
    have HG := Lib.hid hg; clear hg
    go_loopw [4, 11] (fun _ i wr => ∃ (j : Nat) (xs : List Int), (j : Int) ≤ 4096 ∧ i = .int .i64 j ∧ xs.length = 4096 ∧ Own g wr (.slice (some ⟨g, 0, none⟩) 4096 4096) xs ∧ (∀ i, i < j → xs.getD i 0 = fAt k (i : Int)) ∧ Ext w wr) (fun _ i _ => 4096 - (intOf i).toNat)
    case atStart => exact ⟨0, List.replicate 4096 0, by omega, rfl, List.length_replicate, HOWN.out, fun i hi => absurd hi (Nat.not_lt_zero i), hx⟩
    case round =>
      obtain ⟨j, xs, hj, rfl, hlen, ho, hval, hxw⟩ := hrel
      clear HOWN
      by_cases hlt' : (j : Int) < 4096
      · have hcell := ho.cell hlen j (by omega)
        obtain ⟨hc1, hc2⟩ := hcell
        have hst := Lib.hid (ho.store hlen j (fAt k (j : Int)))
        have HV := Lib.hid hval; have HL := Lib.hid hlen; clear hval hlen ho
        go_wp2_with (go_at_call 43; (with_reducible refine (impl_FunctionAt _ _ _).mono ?_); rintro e w1 ⟨rfl, rfl⟩)
        go_roundw
        case rel =>
          refine ⟨j + 1, xs.set j (fAt k (j : Int)), by omega, by go_num, by rw [List.length_set]; exact HL.out, hst.out.1, fun i hi => ?_, ?_⟩
          · rw [getD_set xs j i _ (by rw [HL.out]; omega)]
            split
            · rename_i e; rw [e]
            · exact HV.out i (by omega)
          · exact hst.out.2.ext hxw (fun q hq => by simp [Value.ownBlock] at hq; rw [HG.out]; omega)
        case measure => simp [intOf]; omega
      · have e : xs = fVals k := by
          rw [HF.out]
          exact list_ext (by rw [hlen, valsTo_len]) fun i hi => by rw [valsTo_get k 4096 i (by omega)]; exact hval i (by omega)
        subst e
        have HO := Lib.hid ho; clear ho hval hlen
        go_wp2
        go_ret
        exact ⟨_, rfl, by rw [HG.out]; exact HO.out, hxw⟩
set_option maxHeartbeats 2000000 in
theorem spec_FunctionValues (k : Int) (w : World) : Calls Try.prog 46 #[.int .i64 k] w (OwnPost (fVals k) w) := by
  cases hk : fKnown k
  · rw [show fVals k = [] by simp [fVals, hk]]
    have HK := Lib.hid hk; clear hk
    go_enter Try.func46, Try.ntmps46
    go_wp2
    go_loopw [3, 4] (fun v i wr => i = .int .i64 0 ∧ Own w.heap.size wr v [] ∧ Ext w wr) (fun _ _ _ => 0)
    case atStart => exact ⟨rfl, Own.empty (Nat.le_refl _) (Blk.new _ _ _) (by unfold maxLen; omega) rfl, (Ext.refl _).alloc _⟩
    case round =>
      obtain ⟨rfl, ho, hxw⟩ := hrel
      have HO := Lib.hid ho; clear ho
      go_wp2_with (go_at_call 37; (with_reducible refine (spec_l1In k 1 5 false (fk HK.out) _).mono ?_); rintro e w1 ⟨rfl, rfl⟩)
      go_ret
      exact ⟨_, rfl, HO.out, hxw⟩
  · have HF := Lib.hid (show fVals k = valsTo k 4096 by rw [fVals, if_pos hk])
    have HK := Lib.hid hk; clear hk
    go_enter Try.func46, Try.ntmps46
    go_wp2
    go_loopw [3, 4] (fun v i wr => ∃ j : Nat, (j : Int) ≤ 4096 ∧ i = .int .i64 j ∧ Own w.heap.size wr v (valsTo k j) ∧ Ext w wr) (fun _ i _ => 4096 - (intOf i).toNat)
    case atStart => exact ⟨0, by omega, rfl, Own.empty (Nat.le_refl _) (Blk.new _ _ _) (by unfold maxLen; omega) rfl, (Ext.refl _).alloc _⟩
    case round =>
      obtain ⟨j, hj, rfl, ho, hxw⟩ := hrel
      by_cases hlt : (j : Int) < 4096
      · have HO := Lib.hid ho; clear ho
        go_wp2_with (first | (go_at_call 37; (with_reducible refine (spec_l1In k 1 5 true (fk HK.out) _).mono ?_); rintro e w1 ⟨rfl, rfl⟩) | (go_at_call 70; (with_reducible refine (spec_FunctionAt _ _ _).mono ?_); rintro e w1 ⟨rfl, rfl⟩) | (at_builtin; refine wpList_append_one rfl _ _ rfl w.heap.size _ (valsTo k j) rfl (HO.out.keep ((Ext.refl wr).alloc _)) wr.heap.size _ rfl (Blk.new _ _ _) (by rw [valsTo_len]; omega) (by have := hxw.size; simp; omega) ?_; intro v' w1 hown1 htu))
        have hB := HO.out.block
        have e : Own w.heap.size w1 v' (valsTo k (j + 1)) := by rw [valsTo_succ]; exact hown1
        have hx1 : Ext w w1 := htu.ext (hxw.alloc _) (fun q hq => (hB q hq).1)
        have HE := Lib.hid e; clear e hown1 htu hB HO
        go_wp2
        go_roundw
        case rel => exact ⟨j + 1, by omega, by go_num, HE.out, hx1⟩
        case measure => simp [intOf]; omega
      · have e : valsTo k j = fVals k := by rw [HF.out, show j = 4096 by omega]
        rw [e] at ho
        have HO := Lib.hid ho; clear ho e
        go_wp2_with (go_at_call 37; (with_reducible refine (spec_l1In k 1 5 true (fk HK.out) _).mono ?_); rintro e w1 ⟨rfl, rfl⟩)
        go_ret
        exact ⟨_, rfl, HO.out, hxw⟩
end Go.Proofs.Ytbkallacblkmpaa
