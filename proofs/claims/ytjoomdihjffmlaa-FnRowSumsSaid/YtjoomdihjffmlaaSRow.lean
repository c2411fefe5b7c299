/- Sums of rows: the contract of the reference. -/
import Derived.Test.YtjoomdihjffmlaaSPair
import Derived.Test.YtjoomdihjffmlaaRowT
namespace Go.Proofs.Ytjoomdihjffmlaa
set_option linter.unusedSimpArgs false
set_option linter.unusedVariables false
open Go.RowKit
theorem rs_sum {f : Nat → Int} {s x : Int} {k : Nat} (h : ring s = ring (sumTo f k)) (e : x = f k) : ring (wrap64 (s + x)) = ring (sumTo f (k + 1)) := by
  simp only [sumTo]
  rw [ring_wrap64, e]
  exact ring_add_congr h rfl

set_option maxHeartbeats 8000000 in
set_option maxRecDepth 2000 in
theorem spec_RowSums (r c : Int) (v : Value) (xs : List Int) (w : World) (h1 : Arg w v xs) : Calls Try.prog 13 #[.agg #[.int .i64 r, .int .i64 c, v]] w (MatPost (rowSums r c xs) w) := by
  unfold MatPost
  cases g1 : mOk r c xs
  · rw [rowSums_bad g1]
    obtain ⟨s1, n1, rfl, hm1, hc1⟩ := id h1.ints
    clear hm1 hc1
    have HV := Kept.mk h1
    clear h1
    have MA : Kept (∀ v w', Ints w' v xs → Calls Try.prog 14 #[.agg #[.int .i64 r, .int .i64 c, v]] w' fun e w'' => e = .returned (.bool false) ∧ Ext w' w'') := ⟨fun v w' h => g1 ▸ spec_MatrixValid r c v xs w' h⟩
    clear g1
    have OA : Kept (∀ w', Ints w' (.slice s1 xs.length n1) xs → Calls Try.prog 47 #[.agg #[.int .i64 r, .int .i64 c, .slice s1 xs.length n1]] w' (MatPost ⟨r, c, xs⟩ w')) := ⟨fun w' h => spec_l1OwnMatrix r c _ xs w' h HV.out.fit.nil HV.out.len⟩
    unfold MatPost at OA
    have X := Kept.mk (((Ext.refl w).alloc (.cells #[.int .i64 r, .int .i64 c, .slice s1 xs.length n1] 25)).alloc (.cells #[.int .i64 0, .int .i64 0, .slice none 0 0] 25))
    have kA := (Blk.new w #[.int .i64 r, .int .i64 c, .slice s1 xs.length n1] 25).old (.cells #[.int .i64 0, .int .i64 0, .slice none 0 0] 25)
    have kR := Blk.new (w.alloc (.cells #[.int .i64 r, .int .i64 c, .slice s1 xs.length n1] 25)) #[.int .i64 0, .int .i64 0, .slice none 0 0] 25
    simp only [World.size_alloc] at kR
    go_enter Try.func13, Try.ntmps13
    obtain ⟨akA0, akA1, akA2⟩ := kA.three
    go_wp2_with (fail)
    clear akA0 akA1 akA2
    (with_reducible refine (OA.out _ (HV.out.ints.keep X.out)).mono ?_)
    rintro e u1 ⟨vA, rfl, oA, x9⟩
    obtain ⟨pA, mA, huA, -, -⟩ := id oA.ints
    try simp only at huA
    subst huA
    replace oA := oA.mono X.out.size
    replace X := Kept.mk (X.out.trans x9)
    replace kA := kA.keep x9
    replace kR := kR.keep x9
    clear x9
    obtain ⟨akA0, akA1, akA2⟩ := kA.three
    have fkA := kA.free
    go_wp2_with (fail)
    clear akA0 akA1 akA2
    clear fkA
    replace oA := oA.oth (oA.ne kA (by decide)) 0 1 2 (.int .i64 r) (.int .i64 c) (.slice pA xs.length mA)
    replace kR := kR.oth (g := w.heap.size) (by omega) 0 1 2 (.int .i64 r) (.int .i64 c) (.slice pA xs.length mA)
    replace kA := kA.sub 0 1 2 (.int .i64 r) (.int .i64 c) (.slice pA xs.length mA) (cs' := #[.int .i64 r, .int .i64 c, .slice pA xs.length mA]) rfl
    replace X := Kept.mk (X.out.oth (g := w.heap.size) (by omega) 0 1 2 (.int .i64 r) (.int .i64 c) (.slice pA xs.length mA))
    (with_reducible refine (MA.out _ _ oA.ints).mono ?_)
    rintro e u2 ⟨rfl, x9⟩
    replace X := Kept.mk (X.out.trans x9)
    replace kA := kA.keep x9
    replace kR := kR.keep x9
    replace oA := oA.keep x9
    clear x9
    clear kA oA
    have RK := Kept.mk kR
    obtain ⟨r0, r1, r2⟩ := kR.three
    have rf := kR.free
    clear kR
    go_wp2
    exact bodyPost_ret (v := .agg #[.int .i64 0, .int .i64 0, .slice none 0 0]) (by simp [results, Try.results13, go_sem, *]) rfl ⟨_, rfl, Own.nil _ _, by first | exact X.out.other3 (by show w.heap.size ≤ w.heap.size + 1; omega) _ _ _ | exact X.out⟩
  · obtain ⟨s1, n1, rfl, hm1, hc1⟩ := id h1.ints
    clear hm1 hc1
    have HV := Kept.mk h1
    clear h1
    obtain ⟨R, C, rfl, rfl, R1, R5, C1, C5, hL, L25, hrv⟩ := mOk_nat g1
    clear hrv
    rw [rowSums_ok g1]
    have MA : Kept (∀ v w', Ints w' v xs → Calls Try.prog 14 #[.agg #[.int .i64 R, .int .i64 C, v]] w' fun e w'' => e = .returned (.bool true) ∧ Ext w' w'') := ⟨fun v w' h => g1 ▸ spec_MatrixValid R C v xs w' h⟩
    have RG : Kept (∀ n w, Calls Try.prog 48 #[.int .i64 n] w fun e w' => e = .returned (.int .i64 (ring n)) ∧ w = w') := ⟨fun n w => spec_l1Ring n w⟩
    have LX1 := Kept.mk hL
    have B25 := Kept.mk L25
    clear hL L25 R1 C1 g1
    have OA : Kept (∀ w', Ints w' (.slice s1 xs.length n1) xs → Calls Try.prog 47 #[.agg #[.int .i64 R, .int .i64 C, .slice s1 xs.length n1]] w' (MatPost ⟨R, C, xs⟩ w')) := ⟨fun w' h => spec_l1OwnMatrix R C _ xs w' h HV.out.fit.nil HV.out.len⟩
    unfold MatPost at OA
    have X := Kept.mk (((Ext.refl w).alloc (.cells #[.int .i64 R, .int .i64 C, .slice s1 xs.length n1] 25)).alloc (.cells #[.int .i64 0, .int .i64 0, .slice none 0 0] 25))
    have kA := (Blk.new w #[.int .i64 R, .int .i64 C, .slice s1 xs.length n1] 25).old (.cells #[.int .i64 0, .int .i64 0, .slice none 0 0] 25)
    have kR := Blk.new (w.alloc (.cells #[.int .i64 R, .int .i64 C, .slice s1 xs.length n1] 25)) #[.int .i64 0, .int .i64 0, .slice none 0 0] 25
    simp only [World.size_alloc] at kR
    go_enter Try.func13, Try.ntmps13
    obtain ⟨akA0, akA1, akA2⟩ := kA.three
    go_wp2_with (fail)
    clear akA0 akA1 akA2
    (with_reducible refine (OA.out _ (HV.out.ints.keep X.out)).mono ?_)
    rintro e u1 ⟨vA, rfl, oA, x9⟩
    obtain ⟨pA, mA, huA, -, -⟩ := id oA.ints
    try simp only at huA
    subst huA
    replace oA := oA.mono X.out.size
    replace X := Kept.mk (X.out.trans x9)
    replace kA := kA.keep x9
    replace kR := kR.keep x9
    clear x9
    obtain ⟨akA0, akA1, akA2⟩ := kA.three
    have fkA := kA.free
    go_wp2_with (fail)
    clear akA0 akA1 akA2
    clear fkA
    replace oA := oA.oth (oA.ne kA (by decide)) 0 1 2 (.int .i64 R) (.int .i64 C) (.slice pA xs.length mA)
    replace kR := kR.oth (g := w.heap.size) (by omega) 0 1 2 (.int .i64 R) (.int .i64 C) (.slice pA xs.length mA)
    replace kA := kA.sub 0 1 2 (.int .i64 R) (.int .i64 C) (.slice pA xs.length mA) (cs' := #[.int .i64 R, .int .i64 C, .slice pA xs.length mA]) rfl
    replace X := Kept.mk (X.out.oth (g := w.heap.size) (by omega) 0 1 2 (.int .i64 R) (.int .i64 C) (.slice pA xs.length mA))
    (with_reducible refine (MA.out _ _ oA.ints).mono ?_)
    rintro e u2 ⟨rfl, x9⟩
    replace X := Kept.mk (X.out.trans x9)
    replace kA := kA.keep x9
    replace kR := kR.keep x9
    replace oA := oA.keep x9
    clear x9
    obtain ⟨akA0, akA1, akA2⟩ := kA.three
    go_wp2_with (fail)
    clear akA0 akA1 akA2
    clear OA MA
    have gR := kR.lt
    have kM := Blk.new u2 #[.int .i64 R, .int .i64 1, .slice none 0 0] 25
    replace kA := kA.old (.cells #[.int .i64 R, .int .i64 1, .slice none 0 0] 25)
    replace kR := kR.old (.cells #[.int .i64 R, .int .i64 1, .slice none 0 0] 25)
    replace oA := oA.keep ((Ext.refl u2).alloc (.cells #[.int .i64 R, .int .i64 1, .slice none 0 0] 25))
    replace X := Kept.mk (X.out.alloc (.cells #[.int .i64 R, .int .i64 1, .slice none 0 0] 25))
    have lX := X.out.size
    generalize hgM : u2.heap.size = gM at *
    have HQ := Kept.mk (fun q hq => (oA.block q hq).2)
    have hB0 : ∃ B0, B0 = (u2.alloc (.cells #[.int .i64 R, .int .i64 1, .slice none 0 0] 25)).heap.size := ⟨_, rfl⟩
    obtain ⟨B0, hB0⟩ := hB0
    rw [← hB0] at HQ lX
    have LX := Kept.mk lX
    clear lX
    have hB1 : B0 ≤ (u2.alloc (.cells #[.int .i64 R, .int .i64 1, .slice none 0 0] 25)).heap.size := by rw [hB0]; exact Nat.le_refl _
    clear hB0
    go_loopw [4] (fun i wr => ∃ (j : Nat) (v : Value), j ≤ R ∧ i = .int .i64 j ∧ Blk wr gM #[.int .i64 R, .int .i64 1, v] 25 ∧ Own B0 wr v (mapTo (fun i => rsTo xs C i C) j) ∧ Own w.heap.size wr (.slice pA xs.length mA) xs ∧ Blk wr w.heap.size #[.int .i64 R, .int .i64 C, .slice pA xs.length mA] 25 ∧ Blk wr (w.heap.size + 1) #[.int .i64 0, .int .i64 0, .slice none 0 0] 25 ∧ Ext w wr ∧ B0 ≤ wr.heap.size) (fun i _ => R - (intOf i).toNat)
    case atStart => exact ⟨0, _, Nat.zero_le _, rfl, kM, Own.nil _ _, oA, kA, kR, X.out, hB1⟩
    case round =>
      clear X kM kA kR oA hB1
      obtain ⟨i0, v0, hi0, rfl, kM, ho, oA, kA, kR, hx, hB⟩ := hrel
      by_cases hlt : i0 < R
      · have hltZ : (i0 : Int) < (R : Int) := by omega
        have KM := Kept.mk kM
        have HO := Kept.mk ho
        have OA := Kept.mk oA
        have KA := Kept.mk kA
        have KR := Kept.mk kR
        have HX := Kept.mk hx
        have HBB := Kept.mk hB
        clear kM ho oA kA kR hx hB
        obtain ⟨a0, a1, a2⟩ := KA.out.three
        go_wp2_with (fail)
        clear a0 a1 a2
        go_loopw [5, 6] (fun s i wr' => ∃ (k : Nat) (t : Int), k ≤ C ∧ s = .int .i64 t ∧ i = .int .i64 k ∧ ring t = ring (sumTo (fun k => xs.getD (i0 * C + k) 0) k) ∧ Ext wr wr') (fun _ i _ => C - (intOf i).toNat)
        case atStart => exact ⟨0, 0, Nat.zero_le _, rfl, rfl, rfl, Ext.refl _⟩
        case round =>
          obtain ⟨k, t, hk, rfl, rfl, hs, hy⟩ := hrel
          by_cases hlk : k < C
          · have HS := Kept.mk hs
            clear hs
            have hlkZ : (k : Int) < (C : Int) := by omega
            obtain ⟨q1, hq1⟩ : ∃ q, q = i0 * C := ⟨_, rfl⟩
            obtain ⟨d1, hd1⟩ : ∃ d, d = i0 * C + k := ⟨_, rfl⟩
            have l1 : d1 < xs.length := by rw [hd1, LX1.out]; exact place_lt hlt hlk
            have m1 : d1 = q1 + k := by rw [hd1, hq1]
            have c1 : (i0 : Int) * (C : Int) = (q1 : Int) := by rw [hq1, Int.natCast_mul]
            have HD1 := Kept.mk hd1
            clear hd1 hq1
            have n1' : d1 < 26 := Nat.lt_of_lt_of_le l1 (by rw [LX1.out]; exact Nat.le_trans B25.out (by decide))
            have e1 : wrap64 ((i0 : Int) * (C : Int)) = (q1 : Int) := by rw [c1]; clear c1; unfold wrap64; omega
            clear c1
            have E1 := Kept.mk e1
            clear e1
            have e3 : wrap64 ((q1 : Int) + (k : Int)) = (d1 : Int) := by unfold wrap64; omega
            have z1 : (d1 : Int) < (xs.length : Int) := Int.ofNat_lt.2 l1
            obtain ⟨b, off, es, lb, cb⟩ := at_len (OA.out.keep hy).ints rfl l1
            subst es
            generalize hp : xs.getD d1 0 = p at cb
            have HP := Kept.mk hp
            clear hp l1 m1 n1'
            have e1 := E1.out
            clear E1
            obtain ⟨a0, a1, a2⟩ := (KA.out.keep hy).three
            have HY := Kept.mk hy
            clear hy
            go_wp2
            go_roundw
            case rel => exact ⟨k + 1, _, by omega, rfl, by go_num, rs_sum HS.out (by show p = xs.getD (i0 * C + k) 0; rw [← HD1.out, HP.out]), HY.out⟩
            case measure => simp [intOf]; omega

          · obtain rfl : C = k := by omega
            have e9 : ring t = rsTo xs C i0 C := hs
            have HS := Kept.mk e9
            clear e9 hs
            replace KM := Kept.mk (KM.out.keep hy)
            replace HO := Kept.mk (HO.out.keep hy)
            replace OA := Kept.mk (OA.out.keep hy)
            replace KA := Kept.mk (KA.out.keep hy)
            replace KR := Kept.mk (KR.out.keep hy)
            replace HX := Kept.mk (HX.out.trans hy)
            replace HBB := Kept.mk (Nat.le_trans HBB.out hy.size)
            obtain ⟨a0, a1, a2⟩ := KA.out.three
            clear hy hlk hk
            have neM := Kept.mk (HO.out.ne KM.out (by decide))
            have neA := Kept.mk (HO.out.ne KA.out (by decide))
            have neR := Kept.mk (HO.out.ne KR.out (by decide))
            have neP := Kept.mk (OA.out.ne KM.out (by decide))
            go_wp2_with (fail)
            clear a0 a1 a2
            apply wp_region_zip [isv _, isv _, isv _, isv _, oneS (ring t)] _ (by kernel_rfl)
            case hA => intro V; simp [putAll, dstOf, Act.put]; exact rfl
            case hsl => intro V; exact rfl
            case step =>
              intro V lo up w' hr
              obtain ⟨hcr, hzr⟩ := hr.cells
              have hsr := hr.size
              obtain ⟨m0, m1', m2⟩ := (KM.out.keep hr).three
              simp only [zipOk, depsImp, isv, oneS, modeNg, newb, waits, Region.binds, List.map_nil, List.map_cons, List.headD_cons, List.nil_append, List.cons_append, List.filterMap_cons, List.filterMap_nil, ↓reduceIte, modeNe, Bool.false_eq_true, true_implies, List.getD_cons_zero, List.getD_cons_succ, and_true]
              refine ⟨?_, ?_, ?_, ?_, ?_⟩
              · intros
                go_wp2
                refine stepQ_mk rfl (by simp only [List.getElem?_toArray, List.getElem?_cons_succ, List.getElem?_cons_zero]; exact rfl) ?_
                exact ⟨Ext.refl _, rfl⟩
              · intros
                go_wp2
                refine stepQ_mk rfl (by simp only [List.getElem?_toArray, List.getElem?_cons_succ, List.getElem?_cons_zero]; exact rfl) ?_
                exact ⟨Ext.refl _, rfl⟩
              · intros
                go_wp2
                refine stepQ_mk rfl (by simp only [List.getElem?_toArray, List.getElem?_cons_succ, List.getElem?_cons_zero]; exact rfl) ?_
                exact ⟨Ext.refl _, rfl⟩
              · intros
                go_wp2_with (go_at_call 48; (with_reducible refine (RG.out _ _).mono ?_); rintro e w1 ⟨rfl, rfl⟩)
                refine stepQ_mk rfl (by simp only [List.getElem?_toArray, List.getElem?_cons_succ, List.getElem?_cons_zero]; exact rfl) ?_
                first | exact ⟨Ext.refl _, rfl⟩ | exact ⟨hy, rfl⟩
              · intros
                go_wp2
                refine stepQ_mk rfl (by simp only [List.getElem?_toArray, List.getElem?_cons_succ, List.getElem?_cons_zero]; exact rfl) ?_
                exact ⟨(Ext.refl _).alloc _, rfl, by simp, Blk.new _ _ _⟩
            case hB => kernel_rfl
            case fin =>
              intro V lo up w' hr hf ha
              simp only [factsOk, isv, oneS, modeNg, newb, List.map_nil, List.map_cons, List.headD_cons, and_true, Nat.zero_add, Nat.reduceAdd] at hf
              simp only [List.length_cons, List.length_nil, Nat.zero_add, Nat.reduceAdd, List.drop_succ_cons, List.drop_zero]
              obtain ⟨-, ⟨-, -, -, e1⟩, -, -, ⟨l4, -, -, e4, -, k4⟩⟩ := hf
              clear ha
              rw [e1, e4]
              clear e1 e4
              generalize lo 4 = g1 at *
              have hB' : B0 ≤ w'.heap.size := Nat.le_trans HBB.out hr.size
              go_wp2_with (at_builtin; refine wpList_append_one rfl _ _ rfl B0 _ (mapTo (fun i => rsTo xs C i C) i0) rfl (HO.out.keep hr) g1 _ rfl k4 (by rw [mapTo_len]; omega) hB' ?_; intro v' w5 hown htu; have kM1 := Turned.blk (KM.out.keep hr) htu neM.out; obtain ⟨t0, t1, t2⟩ := kM1.three; have tf := kM1.free; have K1 := Kept.mk kM1; have OW := Kept.mk hown; have hv : ∃ a m, v' = .slice a (i0 + 1) m := (by obtain ⟨a, m, e, _⟩ := hown.ints; exact ⟨a, m, by rw [e]; simp [mapTo_len]⟩); obtain ⟨p2, m2, rfl⟩ := hv; have TU := Kept.mk htu; clear kM1 hown htu)
              have OW' : Own B0 w5 (.slice p2 (i0 + 1) m2) (mapTo (fun i => rsTo xs C i C) (i0 + 1)) := by rw [mapTo_succ, ← HS.out]; exact OW.out
              have NE2 := OW'.ne K1.out (by decide)
              have XE := Kept.mk (Turned.ext (HX.out.trans hr) TU.out (fun q hq => Nat.le_trans LX.out (HO.out.block q hq).1))
              have A2 := Turned.blk (KA.out.keep hr) TU.out neA.out
              have R2 := Turned.blk (KR.out.keep hr) TU.out neR.out
              have P2 := TU.out.own (OA.out.keep hr) (fun q hq e => by have h3 := (HO.out.block q hq).1; have h4 := HQ.out q e; omega)
              have sz1 := TU.out.size
              clear t0 t1 t2 tf
              go_roundw
              case rel =>
                exact ⟨i0 + 1, .slice p2 (i0 + 1) m2, by omega, by go_num, K1.out.set3 2 _, OW'.setOther _ NE2 _ _, P2.setOther _ neP.out _ _, A2.setO (by omega) _ _, R2.setO (by omega) _ _, XE.out.setCell (by show w.heap.size ≤ gM; omega) _, by simp [World.setCell]; omega⟩
              case measure => simp [intOf]; omega

      · obtain rfl : i0 = R := by omega
        have hvv : ∃ a m, v0 = .slice a i0 m := by obtain ⟨a, m, e, _⟩ := ho.ints; exact ⟨a, m, by rw [e]; simp [mapTo_len]⟩
        obtain ⟨p2, m2, rfl⟩ := hvv
        have NR := Kept.mk (ho.ne kR (by decide))
        obtain ⟨a0, a1, a2⟩ := kA.three
        obtain ⟨t0, t1, t2⟩ := kM.three
        obtain ⟨r0, r1, r2⟩ := kR.three
        have rf := kR.free
        have HO := Kept.mk (ho.mono LX.out)
        have HX := Kept.mk hx
        clear ho hx kM kA kR oA HV
        go_wp2
        exact bodyPost_ret (v := .agg #[.int .i64 i0, .int .i64 1, .slice p2 i0 m2]) (by simp [results, Try.results13, go_sem, *]) rfl ⟨_, rfl, HO.out.other3 NR.out _ _ _, HX.out.other3 (by show w.heap.size ≤ w.heap.size + 1; omega) _ _ _⟩
end Go.Proofs.Ytjoomdihjffmlaa
