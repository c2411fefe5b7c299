/- A column as often as there are columns: the program. -/
import Derived.Test.YtpbnbhiffnnliaaPairT
import Derived.Test.YtpbnbhiffnnliaaSPair
namespace Go.Proofs.Ytpbnbhiffnnliaa
set_option linter.unusedSimpArgs false
set_option linter.unusedVariables false
open Go.RowKit
/-- A column spread. -/
def wideM (R C : Nat) (xs : List Int) : Mat := ⟨R, C, mapTo (fun p => xs.getD (p / C) 0) (R * C)⟩
theorem quo_nat {j C : Nat} (hj : j < 25) : wrap64 ((j : Int) / (C : Int)) = ((j / C : Nat) : Int) := by
  have e : (j : Int) / (C : Int) = ((j / C : Nat) : Int) := (Int.natCast_ediv j C).symm
  rw [e]
  have h : j / C ≤ j := Nat.div_le_self _ _
  generalize j / C = q at *
  unfold wrap64; omega

set_option maxHeartbeats 4000000 in
set_option maxRecDepth 2000 in
theorem impl_spreadColumn (R C : Nat) (k : Int) (hR : Side R) (hC : Side C) (v : Value) (xs : List Int) (hl : xs.length = R) (w : World) (h1 : Ints w v xs) : Calls Try.prog 28 #[.agg #[.int .i64 R, .int .i64 k, v], .int .i64 C] w (MatPost (wideM R C xs) w) := by
  obtain ⟨s1, n1, rfl, hm1, hc1⟩ := id h1
  clear hm1 hc1
  have HV := Kept.mk h1
  clear h1
  unfold MatPost wideM
  simp only
  have EM : Kept (∀ w, Calls Try.prog 38 #[.int .i64 R, .int .i64 C] w (ZeroPost R C w)) := ⟨fun w => impl_emptyMatrix R C hR.hi hC.hi w⟩
  unfold ZeroPost at EM
  have L25 : R * C ≤ 25 := by have := Nat.mul_le_mul hR.hi hC.hi; omega
  have DV : Kept (∀ j, j < R * C → j / C < xs.length) := ⟨fun j hj => by rw [hl]; exact (Nat.div_lt_iff_lt_mul hC.lo).2 hj⟩
  obtain ⟨L, hLL⟩ : ∃ L, L = R * C := ⟨_, rfl⟩
  rw [← hLL] at EM DV L25 ⊢
  have C1 := hC.lo
  have cz : ((C : Int) == 0) = false := by simp; omega
  have cz' : ¬ (C : Int) = 0 := by omega
  clear hLL hl hR hC
  have X := Kept.mk (((Ext.refl w).alloc (.cells #[.int .i64 R, .int .i64 k, .slice s1 xs.length n1] 25)).alloc (.cells #[.int .i64 0, .int .i64 0, .slice none 0 0] 25))
  have kA := (Blk.new w #[.int .i64 R, .int .i64 k, .slice s1 xs.length n1] 25).old (.cells #[.int .i64 0, .int .i64 0, .slice none 0 0] 25)
  have kR := Blk.new (w.alloc (.cells #[.int .i64 R, .int .i64 k, .slice s1 xs.length n1] 25)) #[.int .i64 0, .int .i64 0, .slice none 0 0] 25
  simp only [World.size_alloc] at kR
  go_enter Try.func28, Try.ntmps28
  obtain ⟨akA0, akA1, akA2⟩ := kA.three
  go_wp2_with (fail)
  clear akA0 akA1 akA2
  (with_reducible refine (EM.out _).mono ?_)
  rintro e u1 ⟨g, rfl, oZ, x9⟩
  replace oZ := oZ.mono X.out.size
  replace X := Kept.mk (X.out.trans x9)
  replace kA := kA.keep x9
  replace kR := kR.keep x9
  clear x9
  have kM := Blk.new u1 #[.int .i64 R, .int .i64 C, .slice (some ⟨g, 0, none⟩) L L] 25
  replace kA := kA.old (.cells #[.int .i64 R, .int .i64 C, .slice (some ⟨g, 0, none⟩) L L] 25)
  replace kR := kR.old (.cells #[.int .i64 R, .int .i64 C, .slice (some ⟨g, 0, none⟩) L L] 25)
  replace oZ := oZ.keep ((Ext.refl u1).alloc (.cells #[.int .i64 R, .int .i64 C, .slice (some ⟨g, 0, none⟩) L L] 25))
  replace X := Kept.mk (X.out.alloc (.cells #[.int .i64 R, .int .i64 C, .slice (some ⟨g, 0, none⟩) L L] 25))
  go_wp2_with (fail)
  have lM := X.out.size
  generalize hgM : u1.heap.size = gM at *
  clear EM lM hgM
  go_loopw [6, 14] (fun _ i wr => ∃ (j : Nat) (zs : List Int), j ≤ L ∧ i = .int .i64 j ∧ zs.length = L ∧ Own w.heap.size wr (.slice (some ⟨g, 0, none⟩) L L) zs ∧ (∀ i, i < j → zs.getD i 0 = xs.getD (i / C) 0) ∧ Blk wr (gM) #[.int .i64 R, .int .i64 C, .slice (some ⟨g, 0, none⟩) L L] 25 ∧ Blk wr (w.heap.size) #[.int .i64 R, .int .i64 k, .slice s1 xs.length n1] 25 ∧ Blk wr (w.heap.size + 1) #[.int .i64 0, .int .i64 0, .slice none 0 0] 25 ∧ Ext w wr) (fun _ i _ => L - (intOf i).toNat)
  case atStart => exact ⟨0, zer L, Nat.zero_le _, rfl, zer_len L, oZ, fun i hi => absurd hi (Nat.not_lt_zero i), kM, kA, kR, X.out⟩
  case round =>
    clear X kM kA kR oZ
    obtain ⟨j, zs, hj, rfl, hlen, ho, hval, kM, kA, kR, hx⟩ := hrel
    have neM := Kept.mk (ho.ne kM (by decide))
    have neA := Kept.mk (ho.ne kA (by decide))
    have neR := Kept.mk (ho.ne kR (by decide))
    by_cases hlt : j < L
    · have X := Kept.mk hx
      clear hx
      have hltZ : (j : Int) < (L : Int) := by omega
      have QN : wrap64 ((j : Int) / (C : Int)) = ((j / C : Nat) : Int) := quo_nat (by omega)
      have hd : j / C < xs.length := DV.out j hlt
      have HE := Kept.mk (rfl : xs.getD (j / C) 0 = xs.getD (j / C) 0)
      obtain ⟨d, hdd⟩ : ∃ d, d = j / C := ⟨_, rfl⟩
      rw [← hdd] at QN hd HE
      have z1 : (d : Int) < (xs.length : Int) := Int.ofNat_lt.2 hd
      obtain ⟨b, off, es, lb, cb⟩ := at_len HV.out rfl hd
      subst es
      have HD := Kept.mk hdd
      clear hdd
      generalize hp : xs.getD d 0 = p at cb HE
      have HP := Kept.mk hp
      clear hp HE
      have KM := Kept.mk kM
      clear kM
      have KA := Kept.mk kA
      clear kA
      have KR := Kept.mk kR
      clear kR
      have HO := Kept.mk ho
      have HW := Kept.mk hval
      have HN := Kept.mk hlen
      clear ho hval hlen
      have cbr := (X.out.cells.1 b (off + d) lb).trans cb
      go_wp2_with (fail)
      apply wp_region_zip [isv _, isv _, isv _, isv _, isv _, isv _, isv _, isv _, isv _, isv _] _ (by kernel_rfl)
      case hA => intro V; simp [putAll, dstOf, Act.put]; exact rfl
      case hsl => intro V; exact rfl
      case step =>
        intro V lo up w' hr
        obtain ⟨hcr, hzr⟩ := hr.cells
        have hsr := hr.size
        obtain ⟨m0, m1, m2⟩ := (KM.out.keep hr).three
        obtain ⟨c0, c1, c2⟩ := (KA.out.keep hr).three
        have cbs := ((X.out.trans hr).cells.1 b (off + d) lb).trans cb
        simp only [zipOk, depsImp, isv, newb, waits, Region.binds, List.map_nil, List.map_cons, List.headD_cons, List.nil_append, List.cons_append, List.filterMap_cons, List.filterMap_nil, ↓reduceIte, modeNe, Bool.false_eq_true, true_implies, List.getD_cons_zero, List.getD_cons_succ, and_true]
        refine ⟨?_, ?_, ?_, ?_, ?_, ?_, ?_, ?_, ?_, ?_⟩
        · intros
          go_wp2
          refine stepQ_mk rfl (by simp only [List.getElem?_toArray, List.getElem?_cons_succ, List.getElem?_cons_zero]; exact rfl) ?_
          exact ⟨Ext.refl _, rfl⟩
        · intros
          go_wp2
          refine stepQ_mk rfl (by simp only [List.getElem?_toArray, List.getElem?_cons_succ, List.getElem?_cons_zero]; exact rfl) ?_
          exact ⟨Ext.refl _, rfl⟩
        · intros
          go_wp2
          refine stepQ_mk rfl (by simp only [List.getElem?_toArray, List.getElem?_cons_succ, List.getElem?_cons_zero]; exact rfl) ?_
          exact ⟨Ext.refl _, rfl⟩
        · intros
          go_wp2
          refine stepQ_mk rfl (by simp only [List.getElem?_toArray, List.getElem?_cons_succ, List.getElem?_cons_zero]; exact rfl) ?_
          exact ⟨Ext.refl _, rfl⟩
        · intros
          go_wp2
          refine stepQ_mk rfl (by simp only [List.getElem?_toArray, List.getElem?_cons_succ, List.getElem?_cons_zero]; exact rfl) ?_
          exact ⟨Ext.refl _, rfl⟩
        · intros
          go_wp2
          refine stepQ_mk rfl (by simp only [List.getElem?_toArray, List.getElem?_cons_succ, List.getElem?_cons_zero]; exact rfl) ?_
          exact ⟨Ext.refl _, rfl⟩
        · intros
          go_wp2
          refine stepQ_mk rfl (by simp only [List.getElem?_toArray, List.getElem?_cons_succ, List.getElem?_cons_zero]; exact rfl) ?_
          exact ⟨Ext.refl _, rfl⟩
        · intros
          go_wp2
          refine stepQ_mk rfl (by simp only [List.getElem?_toArray, List.getElem?_cons_succ, List.getElem?_cons_zero]; exact rfl) ?_
          exact ⟨Ext.refl _, rfl⟩
        · intros
          go_wp2
          refine stepQ_mk rfl (by simp only [List.getElem?_toArray, List.getElem?_cons_succ, List.getElem?_cons_zero]; exact rfl) ?_
          exact ⟨Ext.refl _, rfl⟩
        · intros
          go_wp2
          refine stepQ_mk rfl (by simp only [List.getElem?_toArray, List.getElem?_cons_succ, List.getElem?_cons_zero]; exact rfl) ?_
          exact ⟨Ext.refl _, rfl⟩
      case hB => kernel_rfl
      case fin =>
        intro V lo up w' hr hf ha
        simp only [factsOk, isv, newb, List.map_nil, List.map_cons, List.headD_cons, and_true, Nat.zero_add, Nat.reduceAdd] at hf
        simp only [List.length_cons, List.length_nil, Nat.zero_add, Nat.reduceAdd, List.drop_succ_cons, List.drop_zero]
        obtain ⟨-, ⟨-, -, -, e1⟩, ⟨-, -, -, e2⟩, -, -, -, -, -, -, ⟨-, -, -, e9⟩⟩ := hf
        clear ha
        rw [e1, e2, e9]
        clear e1 e2 e9
        obtain ⟨hc1, hc2⟩ := (HO.out.keep hr).cell HN.out j (by omega)
        have hst := Kept.mk ((HO.out.keep hr).store HN.out j p)
        go_wp2
        go_roundw
        case rel =>
          refine ⟨j + 1, zs.set j p, by omega, by go_num, by rw [List.length_set]; exact HN.out, hst.out.1, fun i hi => ?_, ?_, ?_, ?_, ?_⟩
          · rw [getD_set' zs j i _ (by rw [HN.out]; omega)]
            split
            · rename_i e; rw [e, ← HD.out, HP.out]
            · exact HW.out i (by omega)
          · exact (KM.out.keep hr).setO (fun e => neM.out (by simp [Value.ownBlock, e])) _ _
          · exact (KA.out.keep hr).setO (fun e => neA.out (by simp [Value.ownBlock, e])) _ _
          · exact (KR.out.keep hr).setO (fun e => neR.out (by simp [Value.ownBlock, e])) _ _
          · exact (X.out.trans hr).setCell (HO.out.block g rfl).1 _
        case measure => simp [intOf]; omega

    · have e : j = L := by omega
      subst e
      have e : zs = mapTo (fun i => xs.getD (i / C) 0) j := by
        apply list_ext'
        · rw [hlen, mapTo_len]
        · intro i hi
          rw [mapTo_get _ _ _ (by omega)]
          exact hval i (by omega)
      obtain ⟨m0, m1, m2⟩ := kM.three
      obtain ⟨r0, r1, r2⟩ := kR.three
      have rf := kR.free
      have HO := Kept.mk (e ▸ ho)
      have HX := Kept.mk hx
      clear ho hx kM kA kR hlen hval e HV DV
      go_wp2
      exact bodyPost_ret (v := .agg #[.int .i64 R, .int .i64 C, .slice (some ⟨g, 0, none⟩) j j]) (by simp [results, Try.results28, go_sem, *]) rfl ⟨_, rfl, HO.out.other3 neR.out _ _ _, HX.out.other3 (by show w.heap.size ≤ w.heap.size + 1; omega) _ _ _⟩
end Go.Proofs.Ytpbnbhiffnnliaa
namespace Go.Proofs.Ytpbnbhiffnnliaa
set_option linter.unusedSimpArgs false
set_option linter.unusedVariables false
open Go.RowKit

set_option maxHeartbeats 8000000 in
set_option maxRecDepth 2000 in
theorem spec_l12Wide (R C : Nat) (k : Int) (hR : Side R) (hC : Side C) (v : Value) (xs : List Int) (hl : xs.length = R) (w : World) (h1 : Ints w v xs) : Calls Try.prog 35 #[.agg #[.int .i64 R, .int .i64 k, v], .int .i64 C] w (MatPost (wideM R C xs) w) := by
  obtain ⟨s1, n1, rfl, hm1, hc1⟩ := id h1
  clear hm1 hc1
  have HV := Kept.mk h1
  clear h1
  unfold MatPost wideM
  simp only
  have L26 : Kept (R * C ≤ 25) := ⟨by have := Nat.mul_le_mul hR.hi hC.hi; omega⟩
  have R5 := hR.hi
  have C5 := hC.hi
  obtain ⟨L, hLL⟩ : ∃ L, L = R * C := ⟨_, rfl⟩
  rw [← hLL]
  have HLL := Kept.mk hLL
  have HR := Kept.mk hl
  clear hLL hl hR hC
  have X := Kept.mk ((((Ext.refl w).alloc (.cells #[.int .i64 R, .int .i64 k, .slice s1 xs.length n1] 25)).alloc (.cells #[.int .i64 0, .int .i64 0, .slice none 0 0] 25)).alloc (.cells #[.int .i64 R, .int .i64 C, .slice none 0 0] 25))
  have kA := ((Blk.new w #[.int .i64 R, .int .i64 k, .slice s1 xs.length n1] 25).old (.cells #[.int .i64 0, .int .i64 0, .slice none 0 0] 25)).old (.cells #[.int .i64 R, .int .i64 C, .slice none 0 0] 25)
  have kR := (Blk.new (w.alloc (.cells #[.int .i64 R, .int .i64 k, .slice s1 xs.length n1] 25)) #[.int .i64 0, .int .i64 0, .slice none 0 0] 25).old (.cells #[.int .i64 R, .int .i64 C, .slice none 0 0] 25)
  have kM := Blk.new ((w.alloc (.cells #[.int .i64 R, .int .i64 k, .slice s1 xs.length n1] 25)).alloc (.cells #[.int .i64 0, .int .i64 0, .slice none 0 0] 25)) #[.int .i64 R, .int .i64 C, .slice none 0 0] 25
  simp only [World.size_alloc] at kR kM
  go_enter Try.func35, Try.ntmps35
  have gR := kR.lt
  have lX := X.out.size
  obtain ⟨gM, hgM⟩ : ∃ gM, gM = w.heap.size + 1 + 1 := ⟨_, rfl⟩
  have hB0 : ∃ B0, B0 = (((w.alloc (.cells #[.int .i64 R, .int .i64 k, .slice s1 xs.length n1] 25)).alloc (.cells #[.int .i64 0, .int .i64 0, .slice none 0 0] 25)).alloc (.cells #[.int .i64 R, .int .i64 C, .slice none 0 0] 25)).heap.size := ⟨_, rfl⟩
  obtain ⟨B0, hB0⟩ := hB0
  rw [← hB0] at lX
  have LX := Kept.mk lX
  clear lX
  have hB1 : B0 ≤ (((w.alloc (.cells #[.int .i64 R, .int .i64 k, .slice s1 xs.length n1] 25)).alloc (.cells #[.int .i64 0, .int .i64 0, .slice none 0 0] 25)).alloc (.cells #[.int .i64 R, .int .i64 C, .slice none 0 0] 25)).heap.size := by rw [hB0]; exact Nat.le_refl _
  clear hB0 gR
  obtain ⟨a0, a1, a2⟩ := kA.three
  go_wp2_with (fail)
  clear a0 a1 a2
  clear hgM gM
  go_loopw [6] (fun i wr => ∃ (j : Nat) (v : Value), j ≤ R ∧ i = .int .i64 j ∧ Blk wr (w.heap.size + 1 + 1) #[.int .i64 R, .int .i64 C, v] 25 ∧ Own B0 wr v (mapTo (fun p => xs.getD (p / C) 0) (j * C)) ∧ Blk wr w.heap.size #[.int .i64 R, .int .i64 k, .slice s1 xs.length n1] 25 ∧ Blk wr (w.heap.size + 1) #[.int .i64 0, .int .i64 0, .slice none 0 0] 25 ∧ Ext w wr ∧ B0 ≤ wr.heap.size) (fun i _ => R - (intOf i).toNat)
  case atStart => exact ⟨0, _, Nat.zero_le _, rfl, kM, by rw [Nat.zero_mul]; exact Own.nil _ _, kA, kR, X.out, hB1⟩
  case round =>
    clear X kM kA kR hB1
    obtain ⟨i0, v0, hi0, rfl, kM, ho, kA, kR, hx, hB⟩ := hrel
    by_cases hlt : i0 < R
    · have hltZ : (i0 : Int) < (R : Int) := by omega
      have KM := Kept.mk kM
      have HO := Kept.mk ho
      have KA := Kept.mk kA
      have KR := Kept.mk kR
      have HX := Kept.mk hx
      have HBB := Kept.mk hB
      clear kM ho kA kR hx hB
      obtain ⟨a0, a1, a2⟩ := KA.out.three
      go_wp2_with (fail)
      clear a0 a1 a2
      go_loopw [7] (fun i wr => ∃ (j : Nat) (v : Value), j ≤ C ∧ i = .int .i64 j ∧ Blk wr (w.heap.size + 1 + 1) #[.int .i64 R, .int .i64 C, v] 25 ∧ Own B0 wr v (mapTo (fun p => xs.getD (p / C) 0) (i0 * C + j)) ∧ Blk wr w.heap.size #[.int .i64 R, .int .i64 k, .slice s1 xs.length n1] 25 ∧ Blk wr (w.heap.size + 1) #[.int .i64 0, .int .i64 0, .slice none 0 0] 25 ∧ Ext w wr ∧ B0 ≤ wr.heap.size) (fun i _ => C - (intOf i).toNat)
      case atStart => exact ⟨0, v0, Nat.zero_le _, rfl, KM.out, HO.out, KA.out, KR.out, HX.out, HBB.out⟩
      case round =>
        clear KM HO KA KR HX HBB
        obtain ⟨j0, v1, hj0, rfl, kM, ho, kA, kR, hx, hB⟩ := hrel
        by_cases hlj : j0 < C
        · have hljZ : (j0 : Int) < (C : Int) := by omega
          have hix : i0 < xs.length := by rw [HR.out]; exact hlt
          have hixZ : (i0 : Int) < (xs.length : Int) := Int.ofNat_lt.2 hix
          obtain ⟨b, off, es, lb, cb⟩ := at_len HV.out rfl hix
          subst es
          generalize hp : xs.getD i0 0 = p at cb
          have HP := Kept.mk hp
          clear hp
          have cbr := (hx.cells.1 b (off + i0) lb).trans cb
          have KM := Kept.mk kM
          have HO := Kept.mk ho
          have KA := Kept.mk kA
          have KR := Kept.mk kR
          have HX := Kept.mk hx
          have HBB := Kept.mk hB
          clear kM ho kA kR hx hB
          have neM := Kept.mk (HO.out.ne KM.out (by decide))
          have neA := Kept.mk (HO.out.ne KA.out (by decide))
          have neR := Kept.mk (HO.out.ne KR.out (by decide))
          obtain ⟨d, hd⟩ : ∃ d, d = i0 * C + j0 := ⟨_, rfl⟩
          have hdL : d < R * C := by rw [hd]; exact place_lt hlt hlj
          have d25 : d < 25 := Nat.lt_of_lt_of_le hdL L26.out
          have hq : xs.getD (d / C) 0 = p := by rw [hd, place_div hlj, HP.out]
          have HQ := Kept.mk hq
          rw [← hd] at HO
          have HD := Kept.mk hd
          clear hd hdL hq
          go_wp2_with (fail)
          apply wp_region_zip [isv _, isv _, isv _, isv _, isv _, isv _, isv _, oneS p] _ (by kernel_rfl)
          case hA => intro V; simp [putAll, dstOf, Act.put]; exact rfl
          case hsl => intro V; exact rfl
          case step =>
            intro V lo up w' hr
            obtain ⟨hcr, hzr⟩ := hr.cells
            have hsr := hr.size
            obtain ⟨m0, m1', m2⟩ := (KM.out.keep hr).three
            obtain ⟨a0, a1, a2⟩ := (KA.out.keep hr).three
            have cbs := (hr.cells.1 b (off + i0) (HX.out.lt lb)).trans cbr
            simp only [zipOk, depsImp, isv, oneS, modeNg, newb, waits, Region.binds, List.map_nil, List.map_cons, List.headD_cons, List.nil_append, List.cons_append, List.filterMap_cons, List.filterMap_nil, ↓reduceIte, modeNe, Bool.false_eq_true, true_implies, List.getD_cons_zero, List.getD_cons_succ, and_true]
            refine ⟨?_, ?_, ?_, ?_, ?_, ?_, ?_, ?_⟩
            · intros
              go_wp2
              refine stepQ_mk rfl (by simp only [List.getElem?_toArray, List.getElem?_cons_succ, List.getElem?_cons_zero]; exact rfl) ?_
              exact ⟨Ext.refl _, rfl⟩
            · intros
              go_wp2
              refine stepQ_mk rfl (by simp only [List.getElem?_toArray, List.getElem?_cons_succ, List.getElem?_cons_zero]; exact rfl) ?_
              exact ⟨Ext.refl _, rfl⟩
            · intros
              go_wp2
              refine stepQ_mk rfl (by simp only [List.getElem?_toArray, List.getElem?_cons_succ, List.getElem?_cons_zero]; exact rfl) ?_
              exact ⟨Ext.refl _, rfl⟩
            · intros
              go_wp2
              refine stepQ_mk rfl (by simp only [List.getElem?_toArray, List.getElem?_cons_succ, List.getElem?_cons_zero]; exact rfl) ?_
              exact ⟨Ext.refl _, rfl⟩
            · intros
              go_wp2
              refine stepQ_mk rfl (by simp only [List.getElem?_toArray, List.getElem?_cons_succ, List.getElem?_cons_zero]; exact rfl) ?_
              exact ⟨Ext.refl _, rfl⟩
            · intros
              go_wp2
              refine stepQ_mk rfl (by simp only [List.getElem?_toArray, List.getElem?_cons_succ, List.getElem?_cons_zero]; exact rfl) ?_
              exact ⟨Ext.refl _, rfl⟩
            · intros
              go_wp2
              refine stepQ_mk rfl (by simp only [List.getElem?_toArray, List.getElem?_cons_succ, List.getElem?_cons_zero]; exact rfl) ?_
              exact ⟨Ext.refl _, rfl⟩
            · intros
              go_wp2
              refine stepQ_mk rfl (by simp only [List.getElem?_toArray, List.getElem?_cons_succ, List.getElem?_cons_zero]; exact rfl) ?_
              exact ⟨(Ext.refl _).alloc _, rfl, by simp, Blk.new _ _ _⟩
          case hB => kernel_rfl
          case fin =>
            intro V lo up w' hr hf ha
            simp only [factsOk, isv, oneS, modeNg, newb, List.map_nil, List.map_cons, List.headD_cons, and_true, Nat.zero_add, Nat.reduceAdd] at hf
            simp only [List.length_cons, List.length_nil, Nat.zero_add, Nat.reduceAdd, List.drop_succ_cons, List.drop_zero]
            obtain ⟨-, ⟨-, -, -, e1⟩, -, -, -, -, -, ⟨l7, -, -, e7, -, k7⟩⟩ := hf
            clear ha
            rw [e1, e7]
            clear e1 e7
            generalize lo 7 = g1 at *
            have hB' : B0 ≤ w'.heap.size := Nat.le_trans HBB.out hr.size
            go_wp2_with (at_builtin; refine wpList_append_one rfl _ _ rfl B0 _ (mapTo (fun p => xs.getD (p / C) 0) d) rfl (HO.out.keep hr) g1 _ rfl k7 (by rw [mapTo_len]; omega) hB' ?_; intro v' w5 hown htu; have kM1 := Turned.blk (KM.out.keep hr) htu neM.out; obtain ⟨t0, t1, t2⟩ := kM1.three; have tf := kM1.free; have K1 := Kept.mk kM1; have OW := Kept.mk hown; have hv : ∃ a m, v' = .slice a (d + 1) m := (by obtain ⟨a, m, e, _⟩ := hown.ints; exact ⟨a, m, by rw [e]; simp [mapTo_len]⟩); obtain ⟨p2, m2, rfl⟩ := hv; have TU := Kept.mk htu; clear kM1 hown htu)
            have OW' : Own B0 w5 (.slice p2 (d + 1) m2) (mapTo (fun p => xs.getD (p / C) 0) (d + 1)) := by rw [mapTo_succ]; show Own B0 w5 _ (mapTo _ d ++ [xs.getD (d / C) 0]); rw [HQ.out]; exact OW.out
            have NE2 := OW'.ne K1.out (by decide)
            have XE := Kept.mk (Turned.ext (HX.out.trans hr) TU.out (fun q hq => Nat.le_trans LX.out (HO.out.block q hq).1))
            have A2 := Turned.blk (KA.out.keep hr) TU.out neA.out
            have R2 := Turned.blk (KR.out.keep hr) TU.out neR.out
            have sz1 := TU.out.size
            clear t0 t1 t2 tf
            have OW2 : Own B0 w5 (.slice p2 (d + 1) m2) (mapTo (fun p => xs.getD (p / C) 0) (i0 * C + (j0 + 1))) := by rw [← Nat.add_assoc, ← HD.out]; exact OW'
            go_roundw
            case rel =>
              exact ⟨j0 + 1, .slice p2 (d + 1) m2, by omega, by go_num, K1.out.set3 2 _, OW2.setOther _ NE2 _ _, A2.setO (by omega) _ _, R2.setO (by omega) _ _, XE.out.setCell (by show w.heap.size ≤ w.heap.size + 1 + 1; omega) _, by simp [World.setCell]; omega⟩
            case measure => simp [intOf]; omega

        · obtain rfl : j0 = C := by omega
          have ho' : Own B0 wr v1 (mapTo (fun p => xs.getD (p / j0) 0) ((i0 + 1) * j0)) := by rw [Nat.add_mul, Nat.one_mul]; exact ho
          clear ho
          have ho := ho'
          clear ho'
          have KM := Kept.mk kM
          have HO := Kept.mk ho
          have KA := Kept.mk kA
          have KR := Kept.mk kR
          have HX := Kept.mk hx
          have HBB := Kept.mk hB
          clear kM ho kA kR hx hB
          go_wp2
          go_roundw
          case rel => exact ⟨i0 + 1, v1, by omega, by go_num, KM.out, HO.out, KA.out, KR.out, HX.out, HBB.out⟩
          case measure => simp [intOf]; omega
    · obtain rfl : i0 = R := by omega
      rw [← HLL.out] at ho
      have hvv : ∃ a m, v0 = .slice a L m := by obtain ⟨a, m, e, _⟩ := ho.ints; exact ⟨a, m, by rw [e]; simp [mapTo_len]⟩
      obtain ⟨p2, m2, rfl⟩ := hvv
      have NR := Kept.mk (ho.ne kR (by decide))
      obtain ⟨a0, a1, a2⟩ := kA.three
      obtain ⟨t0, t1, t2⟩ := kM.three
      obtain ⟨r0, r1, r2⟩ := kR.three
      have rf := kR.free
      have HO := Kept.mk (ho.mono LX.out)
      have HX := Kept.mk hx
      clear ho hx kM kA kR HV
      go_wp2
      exact bodyPost_ret (v := .agg #[.int .i64 i0, .int .i64 C, .slice p2 L m2]) (by simp [results, Try.results35, go_sem, *]) rfl ⟨_, rfl, HO.out.other3 NR.out _ _ _, HX.out.other3 (by show w.heap.size ≤ w.heap.size + 1; omega) _ _ _⟩
end Go.Proofs.Ytpbnbhiffnnliaa
