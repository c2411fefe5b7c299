/- The contracts of MapMatrix. -/
import Derived.Test.YtpbnbhiffnnliaaKD
import Derived.Test.YtpbnbhiffnnliaaKN
import Derived.Test.YtpbnbhiffnnliaaKC
import Derived.Test.YtpbnbhiffnnliaaKB
namespace Go.Proofs.Ytpbnbhiffnnliaa
set_option linter.unusedSimpArgs false
set_option linter.unusedVariables false
open Go.RowKit
/-- A new slice of one integer. -/
def oneS {n0 : Nat} (c : Int) : OpSpec Ext n0 := ⟨[], fun _ u lo up w => u = .slice (some ⟨lo, 0, none⟩) 1 1 ∧ up = lo + 1 ∧ Blk w lo #[.int .i64 c] 3, fun _ _ _ _ _ _ _ _ _ hx ⟨h1, h2, h3⟩ => ⟨h1, h2, h3.keep hx⟩⟩
/-- MapMatrix. -/
def mapM (k r c : Int) (xs : List Int) : Mat := if (fKnown k && mOk r c xs) = true then ⟨r, c, mapTo (fun i => fAt k (xs.getD i 0)) xs.length⟩ else matZ
theorem mapM_bad {k r c : Int} {xs : List Int} (h : (fKnown k && mOk r c xs) = false) : mapM k r c xs = matZ := by simp [mapM, h]
theorem mapM_ok {k r c : Int} {xs : List Int} (h1 : fKnown k = true) (h2 : mOk r c xs = true) : mapM k r c xs = ⟨r, c, mapTo (fun i => fAt k (xs.getD i 0)) xs.length⟩ := by simp [mapM, h1, h2]

/-- The place of a list's number, its length known otherwise. -/
theorem at_len {w : World} {s : Option Addr} {k L : Nat} {xs : List Int} (h : Ints w (.slice s L k) xs) (hL : xs.length = L) {n : Nat} (hn : n < L) : ∃ b off, s = some ⟨b, off, none⟩ ∧ b < w.heap.size ∧ w.cell? ⟨b, off + n, none⟩ = some (.int .i64 (xs.getD n 0)) := by
  obtain ⟨a, c, e, _, hc⟩ := h
  simp at e
  obtain ⟨rfl, _, rfl⟩ := e
  exact hc n (by omega)
set_option maxHeartbeats 4000000 in
set_option maxRecDepth 2000 in
theorem impl_MapMatrix (k r c : Int) (v : Value) (xs : List Int) (w : World) (h1 : Ints w v xs) : Calls Try.prog 11 #[.int .i64 k, .agg #[.int .i64 r, .int .i64 c, v]] w (MatPost (mapM k r c xs) w) := by
  unfold MatPost
  cases h1k : fKnown k
  · rw [mapM_bad (by simp [h1k])]
    obtain ⟨s1, n1, rfl, hm1, hc1⟩ := id h1
    clear hm1 hc1
    have HV := Kept.mk h1
    clear h1
    have HK := Kept.mk h1k
    clear h1k
    have X := Kept.mk (((Ext.refl w).alloc (.cells #[.int .i64 r, .int .i64 c, .slice s1 xs.length n1] 25)).alloc (.cells #[.int .i64 0, .int .i64 0, .slice none 0 0] 25))
    have kA := (Blk.new w #[.int .i64 r, .int .i64 c, .slice s1 xs.length n1] 25).old (.cells #[.int .i64 0, .int .i64 0, .slice none 0 0] 25)
    have kR := Blk.new (w.alloc (.cells #[.int .i64 r, .int .i64 c, .slice s1 xs.length n1] 25)) #[.int .i64 0, .int .i64 0, .slice none 0 0] 25
    simp only [World.size_alloc] at kR
    go_enter Try.func11, Try.ntmps11
    go_wp2_with (fail)
    (with_reducible refine (impl_functionKnown k false HK.out _).mono ?_)
    rintro e w1 ⟨rfl, rfl⟩
    have RK := Kept.mk kR
    obtain ⟨r0, r1, r2⟩ := kR.three
    have rf := kR.free
    clear kR
    go_wp2
    exact bodyPost_ret (v := .agg #[.int .i64 0, .int .i64 0, .slice none 0 0]) (by simp [results, Try.results11, go_sem, *]) rfl ⟨_, rfl, Own.nil _ _, by first | exact X.out.other3 (by show w.heap.size ≤ w.heap.size + 1; omega) _ _ _ | exact X.out⟩
  · cases h2 : mOk r c xs
    · rw [mapM_bad (by simp [h1k, h2])]
      obtain ⟨s1, n1, rfl, hm1, hc1⟩ := id h1
      clear hm1 hc1
      have HV := Kept.mk h1
      clear h1
      have MV : Kept (∀ w', Ext w w' → Calls Try.prog 24 #[.agg #[.int .i64 r, .int .i64 c, .slice s1 xs.length n1]] w' fun e w'' => e = .returned (.bool false) ∧ Ext w' w'') := ⟨fun w' hx => h2 ▸ impl_MatrixValid _ _ _ xs w' (HV.out.keep hx)⟩
      clear h2
      have HK := Kept.mk h1k
      clear h1k
      have X := Kept.mk (((Ext.refl w).alloc (.cells #[.int .i64 r, .int .i64 c, .slice s1 xs.length n1] 25)).alloc (.cells #[.int .i64 0, .int .i64 0, .slice none 0 0] 25))
      have kA := (Blk.new w #[.int .i64 r, .int .i64 c, .slice s1 xs.length n1] 25).old (.cells #[.int .i64 0, .int .i64 0, .slice none 0 0] 25)
      have kR := Blk.new (w.alloc (.cells #[.int .i64 r, .int .i64 c, .slice s1 xs.length n1] 25)) #[.int .i64 0, .int .i64 0, .slice none 0 0] 25
      simp only [World.size_alloc] at kR
      go_enter Try.func11, Try.ntmps11
      go_wp2_with (fail)
      (with_reducible refine (impl_functionKnown k true HK.out _).mono ?_)
      rintro e w1 ⟨rfl, rfl⟩
      obtain ⟨a0, a1, a2⟩ := kA.three
      go_wp2_with (fail)
      (with_reducible refine (MV.out _ X.out).mono ?_)
      rintro e w2 ⟨rfl, x2⟩
      replace X := Kept.mk (X.out.trans x2)
      replace kR := kR.keep x2
      clear x2
      clear a0 a1 a2 kA
      have RK := Kept.mk kR
      obtain ⟨r0, r1, r2⟩ := kR.three
      have rf := kR.free
      clear kR
      go_wp2
      exact bodyPost_ret (v := .agg #[.int .i64 0, .int .i64 0, .slice none 0 0]) (by simp [results, Try.results11, go_sem, *]) rfl ⟨_, rfl, Own.nil _ _, by first | exact X.out.other3 (by show w.heap.size ≤ w.heap.size + 1; omega) _ _ _ | exact X.out⟩
    · rw [mapM_ok h1k h2]
      obtain ⟨s1, n1, rfl, hm1, hc1⟩ := id h1
      clear hm1 hc1
      have HV := Kept.mk h1
      clear h1
      have h2' := h2
      obtain ⟨R, C, rfl, rfl, R1, R5, C1, C5, hL, L25, hrv⟩ := mOk_nat h2
      have RV := Kept.mk hrv
      clear hrv
      have MV : Kept (∀ w', Ext w w' → Calls Try.prog 24 #[.agg #[.int .i64 (R : Int), .int .i64 (C : Int), .slice s1 xs.length n1]] w' fun e w'' => e = .returned (.bool true) ∧ Ext w' w'') := ⟨fun w' hx => h2' ▸ impl_MatrixValid _ _ _ xs w' (HV.out.keep hx)⟩
      clear h2 h2'
      have EM : Kept (∀ w, Calls Try.prog 38 #[.int .i64 R, .int .i64 C] w (ZeroPost R C w)) := ⟨fun w => impl_emptyMatrix R C R5 C5 w⟩
      unfold ZeroPost at EM
      rw [hL] at HV MV ⊢
      generalize R * C = L at *
      have FA : Kept (∀ x w, Calls Try.prog 39 #[.int .i64 k, .int .i64 x] w fun e w' => e = .returned (.int .i64 (fAt k x)) ∧ w = w') := ⟨fun x w => impl_FunctionAt k x w⟩
      have HL := Kept.mk hL
      have HK := Kept.mk h1k
      clear h1k hL R1 R5 C1 C5
      have X := Kept.mk (((Ext.refl w).alloc (.cells #[.int .i64 R, .int .i64 C, .slice s1 L n1] 25)).alloc (.cells #[.int .i64 0, .int .i64 0, .slice none 0 0] 25))
      have kA := (Blk.new w #[.int .i64 R, .int .i64 C, .slice s1 L n1] 25).old (.cells #[.int .i64 0, .int .i64 0, .slice none 0 0] 25)
      have kR := Blk.new (w.alloc (.cells #[.int .i64 R, .int .i64 C, .slice s1 L n1] 25)) #[.int .i64 0, .int .i64 0, .slice none 0 0] 25
      simp only [World.size_alloc] at kR
      go_enter Try.func11, Try.ntmps11
      go_wp2_with (fail)
      (with_reducible refine (impl_functionKnown k true HK.out _).mono ?_)
      rintro e w1 ⟨rfl, rfl⟩
      obtain ⟨a0, a1, a2⟩ := kA.three
      go_wp2_with (fail)
      (with_reducible refine (MV.out _ X.out).mono ?_)
      rintro e w2 ⟨rfl, x2⟩
      clear a0 a1 a2
      replace X := Kept.mk (X.out.trans x2)
      replace kA := kA.keep x2
      replace kR := kR.keep x2
      clear x2
      obtain ⟨a0, a1, a2⟩ := kA.three
      go_wp2_with (fail)
      (with_reducible refine (EM.out _).mono ?_)
      rintro e w3 ⟨g, rfl, oZ, x3⟩
      clear a0 a1 a2 MV EM HK
      replace oZ := oZ.mono X.out.size
      replace X := Kept.mk (X.out.trans x3)
      replace kA := kA.keep x3
      replace kR := kR.keep x3
      clear x3
      have kM := Blk.new w3 #[.int .i64 R, .int .i64 C, .slice (some ⟨g, 0, none⟩) L L] 25
      replace kA := kA.old (.cells #[.int .i64 R, .int .i64 C, .slice (some ⟨g, 0, none⟩) L L] 25)
      replace kR := kR.old (.cells #[.int .i64 R, .int .i64 C, .slice (some ⟨g, 0, none⟩) L L] 25)
      replace oZ := oZ.keep ((Ext.refl w3).alloc (.cells #[.int .i64 R, .int .i64 C, .slice (some ⟨g, 0, none⟩) L L] 25))
      replace X := Kept.mk (X.out.alloc (.cells #[.int .i64 R, .int .i64 C, .slice (some ⟨g, 0, none⟩) L L] 25))
      have lM := X.out.size
      obtain ⟨a0, a1, a2⟩ := kA.three
      go_wp2_with (fail)
      clear a0 a1 a2
      generalize hgM : w3.heap.size = gM at *
      go_loopw [6, 7, 25] (fun _ _ i wr => ∃ (j : Nat) (ys : List Int), j ≤ L ∧ i = .int .i64 j ∧ ys.length = L ∧ Own w.heap.size wr (.slice (some ⟨g, 0, none⟩) L L) ys ∧ (∀ i, i < j → ys.getD i 0 = fAt k (xs.getD i 0)) ∧ Blk wr gM #[.int .i64 R, .int .i64 C, .slice (some ⟨g, 0, none⟩) L L] 25 ∧ Blk wr w.heap.size #[.int .i64 R, .int .i64 C, .slice s1 L n1] 25 ∧ Blk wr (w.heap.size + 1) #[.int .i64 0, .int .i64 0, .slice none 0 0] 25 ∧ Ext w wr) (fun _ _ i _ => L - (intOf i).toNat)
      case atStart => exact ⟨0, zer L, Nat.zero_le _, rfl, zer_len L, oZ, fun i hi => absurd hi (Nat.not_lt_zero i), kM, kA, kR, X.out⟩
      case round =>
        clear X kM kA kR oZ
        obtain ⟨j, ys, hj, rfl, hlen, ho, hval, kM, kA, kR, hx⟩ := hrel
        have neM := ho.ne kM (by decide)
        have neA := ho.ne kA (by decide)
        have neR := ho.ne kR (by decide)
        by_cases hlt : j < L
        · have hltZ : (j : Int) < (L : Int) := by omega
          obtain ⟨b, off, es, lb, cb⟩ := at_len HV.out HL.out hlt
          subst es
          have FJ := Kept.mk (rfl : fAt k (xs.getD j 0) = fAt k (xs.getD j 0))
          generalize hp : xs.getD j 0 = p at cb
          rw [hp] at FJ
          have HP := Kept.mk hp
          clear hp FJ
          have KM := Kept.mk kM
          have KA := Kept.mk kA
          have KR := Kept.mk kR
          have HO := Kept.mk ho
          have HX := Kept.mk hx
          have HW := Kept.mk hval
          have HN := Kept.mk hlen
          clear kM kA kR ho hx hval hlen
          have cbr := (HX.out.cells.1 b (off + j) lb).trans cb
          go_wp2_with (fail)
          apply wp_region_zip [isv _, isv _, isv _, isv _, isv _, isv _] _ (by kernel_rfl)
          case hA => intro V; simp [putAll, dstOf, Act.put]; exact rfl
          case hsl => intro V; exact rfl
          case step =>
            intro V lo up w' hr
            obtain ⟨hcr, hzr⟩ := hr.cells
            have hsr := hr.size
            obtain ⟨m0, m1, m2⟩ := (KM.out.keep hr).three
            simp only [zipOk, depsImp, isv, newb, waits, Region.binds, List.map_nil, List.map_cons, List.headD_cons, List.nil_append, List.cons_append, List.filterMap_cons, List.filterMap_nil, ↓reduceIte, modeNe, Bool.false_eq_true, true_implies, List.getD_cons_zero, List.getD_cons_succ, and_true]
            refine ⟨?_, ?_, ?_, ?_, ?_, ?_⟩
            · intros
              go_wp2
              refine stepQ_mk rfl (by simp only [List.getElem?_toArray, List.getElem?_cons_succ, List.getElem?_cons_zero]; exact rfl) ?_
              exact ⟨Ext.refl _, rfl⟩
            · intros
              go_wp2
              refine stepQ_mk rfl (by simp only [List.getElem?_toArray, List.getElem?_cons_succ, List.getElem?_cons_zero]; exact rfl) ?_
              exact ⟨Ext.refl _, rfl⟩
            · intros
              go_wp2
              refine stepQ_mk rfl (by simp only [List.getElem?_toArray, List.getElem?_cons_succ, List.getElem?_cons_zero]; exact rfl) ?_
              exact ⟨Ext.refl _, rfl⟩
            · intros
              go_wp2
              refine stepQ_mk rfl (by simp only [List.getElem?_toArray, List.getElem?_cons_succ, List.getElem?_cons_zero]; exact rfl) ?_
              exact ⟨Ext.refl _, rfl⟩
            · intros
              go_wp2
              refine stepQ_mk rfl (by simp only [List.getElem?_toArray, List.getElem?_cons_succ, List.getElem?_cons_zero]; exact rfl) ?_
              exact ⟨Ext.refl _, rfl⟩
            · intros
              go_wp2_with (go_at_call 39; (with_reducible refine (FA.out _ _).mono ?_); rintro e w1 ⟨rfl, rfl⟩)
              refine stepQ_mk rfl (by simp only [List.getElem?_toArray, List.getElem?_cons_succ, List.getElem?_cons_zero]; exact rfl) ?_
              first | exact ⟨Ext.refl _, rfl⟩ | exact ⟨hy, rfl⟩
          case hB => kernel_rfl
          case fin =>
            intro V lo up w' hr hf ha
            simp only [factsOk, isv, newb, List.map_nil, List.map_cons, List.headD_cons, and_true, Nat.zero_add, Nat.reduceAdd] at hf
            simp only [List.length_cons, List.length_nil, Nat.zero_add, Nat.reduceAdd, List.drop_succ_cons, List.drop_zero]
            obtain ⟨-, ⟨-, -, -, e1⟩, ⟨-, -, -, e2⟩, -, -, ⟨-, -, -, e5⟩⟩ := hf
            clear ha
            rw [e1, e2, e5]
            clear e1 e2 e5
            have hcell := (HO.out.keep hr).cell HN.out j (by omega)
            obtain ⟨hc1, hc2⟩ := hcell
            have hst := Kept.mk ((HO.out.keep hr).store HN.out j (fAt k p))
            go_wp2
            go_roundw
            case rel =>
              refine ⟨j + 1, ys.set j (fAt k p), by omega, by go_num, by rw [List.length_set]; exact HN.out, hst.out.1, fun i hi => ?_, ?_, ?_, ?_, ?_⟩
              · rw [getD_set' ys j i _ (by rw [HN.out]; omega)]
                split
                · rename_i e; rw [e, HP.out]
                · exact HW.out i (by omega)
              · exact (KM.out.keep hr).setO (fun e => neM (by simp [Value.ownBlock, e])) _ _
              · exact (KA.out.keep hr).setO (fun e => neA (by simp [Value.ownBlock, e])) _ _
              · exact (KR.out.keep hr).setO (fun e => neR (by simp [Value.ownBlock, e])) _ _
              · exact (HX.out.trans hr).setCell (HO.out.block g rfl).1 _
            case measure => simp [intOf]; omega

        · have e : j = L := by omega
          subst e
          have e : ys = mapTo (fun i => fAt k (xs.getD i 0)) j := by
            apply list_ext'
            · rw [hlen, mapTo_len]
            · intro i hi
              rw [mapTo_get _ _ _ (by omega)]
              exact hval i (by omega)
          obtain ⟨m0, m1, m2⟩ := kM.three
          obtain ⟨r0, r1, r2⟩ := kR.three
          have rf := kR.free
          have HO := Kept.mk (e ▸ ho)
          have HX := Kept.mk hx
          have NR := Kept.mk neR
          clear ho hx kM kA kR hlen hval e neM neA neR HV
          go_wp2
          exact bodyPost_ret (v := .agg #[.int .i64 R, .int .i64 C, .slice (some ⟨g, 0, none⟩) j j]) (by simp [results, Try.results11, go_sem, *]) rfl ⟨_, rfl, HO.out.other3 NR.out _ _ _, HX.out.other3 (by show w.heap.size ≤ w.heap.size + 1; omega) _ _ _⟩
set_option maxHeartbeats 4000000 in
set_option maxRecDepth 2000 in
theorem spec_MapMatrix (k r c : Int) (v : Value) (xs : List Int) (w : World) (h1 : Ints w v xs) (hn : NilOk v) (hl : xs.length ≤ 1048576) : Calls Try.prog 33 #[.int .i64 k, .agg #[.int .i64 r, .int .i64 c, v]] w (MatPost (mapM k r c xs) w) := by
  unfold MatPost
  cases h2 : mOk r c xs
  · rw [mapM_bad (by simp [h2])]
    obtain ⟨s1, n1, rfl, hm1, hc1⟩ := id h1
    clear hm1 hc1
    have HV := Kept.mk h1
    clear h1
    have OC : Kept (∀ w', Ints w' (.slice s1 xs.length n1) xs → Calls Try.prog 30 #[.agg #[.int .i64 r, .int .i64 c, .slice s1 xs.length n1]] w' (MatPost ⟨r, c, xs⟩ w')) := ⟨fun w' h => spec_l1OwnMatrix r c _ xs w' h hn hl⟩
    unfold MatPost at OC
    have MV : Kept (∀ v2 w', Ints w' v2 xs → Calls Try.prog 31 #[.agg #[.int .i64 r, .int .i64 c, v2]] w' fun e w'' => e = .returned (.bool false) ∧ Ext w' w'') := ⟨fun v2 w' h => h2 ▸ spec_MatrixValid r c v2 xs w' h⟩
    clear h2 hn hl
    have X := Kept.mk (((Ext.refl w).alloc (.cells #[.int .i64 r, .int .i64 c, .slice s1 xs.length n1] 25)).alloc (.cells #[.int .i64 0, .int .i64 0, .slice none 0 0] 25))
    have kA := (Blk.new w #[.int .i64 r, .int .i64 c, .slice s1 xs.length n1] 25).old (.cells #[.int .i64 0, .int .i64 0, .slice none 0 0] 25)
    have kR := Blk.new (w.alloc (.cells #[.int .i64 r, .int .i64 c, .slice s1 xs.length n1] 25)) #[.int .i64 0, .int .i64 0, .slice none 0 0] 25
    simp only [World.size_alloc] at kR
    go_enter Try.func33, Try.ntmps33
    obtain ⟨a0, a1, a2⟩ := kA.three
    go_wp2_with (fail)
    (with_reducible refine (OC.out _ (HV.out.keep X.out)).mono ?_)
    rintro e w1 ⟨u2, rfl, o2, x1⟩
    clear a0 a1 a2 OC
    obtain ⟨p1, m1, hu, -, -⟩ := id o2.ints
    try simp only at hu
    subst hu
    replace o2 := o2.mono X.out.size
    replace X := Kept.mk (X.out.trans x1)
    replace kA := kA.keep x1
    replace kR := kR.keep x1
    clear x1
    obtain ⟨a0, a1, a2⟩ := kA.three
    have af := kA.free
    go_wp2_with (fail)
    clear a0 a1 a2 af
    have nA := o2.ne kA (by decide)
    replace o2 := o2.other3 nA (.int .i64 r) (.int .i64 c) (.slice p1 xs.length m1)
    replace kR := kR.other3 (g := w.heap.size) (by omega) (.int .i64 r) (.int .i64 c) (.slice p1 xs.length m1)
    replace kA := kA.fill3 (.int .i64 r) (.int .i64 c) (.slice p1 xs.length m1)
    replace X := Kept.mk (X.out.other3 (Nat.le_refl _) (.int .i64 r) (.int .i64 c) (.slice p1 xs.length m1))
    clear nA
    (with_reducible refine (MV.out _ _ o2.ints).mono ?_)
    rintro e w2 ⟨rfl, x2⟩
    replace X := Kept.mk (X.out.trans x2)
    replace kA := kA.keep x2
    replace kR := kR.keep x2
    replace o2 := o2.keep x2
    clear x2
    have RK := Kept.mk kR
    obtain ⟨r0, r1, r2⟩ := kR.three
    have rf := kR.free
    clear kR
    go_wp2
    exact bodyPost_ret (v := .agg #[.int .i64 0, .int .i64 0, .slice none 0 0]) (by simp [results, Try.results33, go_sem, *]) rfl ⟨_, rfl, Own.nil _ _, by first | exact X.out.other3 (by show w.heap.size ≤ w.heap.size + 1; omega) _ _ _ | exact X.out⟩
  · cases h1k : fKnown k
    · rw [mapM_bad (by simp [h1k])]
      obtain ⟨s1, n1, rfl, hm1, hc1⟩ := id h1
      clear hm1 hc1
      have HV := Kept.mk h1
      clear h1
      have OC : Kept (∀ w', Ints w' (.slice s1 xs.length n1) xs → Calls Try.prog 30 #[.agg #[.int .i64 r, .int .i64 c, .slice s1 xs.length n1]] w' (MatPost ⟨r, c, xs⟩ w')) := ⟨fun w' h => spec_l1OwnMatrix r c _ xs w' h hn hl⟩
      unfold MatPost at OC
      have MV : Kept (∀ v2 w', Ints w' v2 xs → Calls Try.prog 31 #[.agg #[.int .i64 r, .int .i64 c, v2]] w' fun e w'' => e = .returned (.bool true) ∧ Ext w' w'') := ⟨fun v2 w' h => h2 ▸ spec_MatrixValid r c v2 xs w' h⟩
      clear h2 hn hl
      have HK := Kept.mk (fk h1k)
      clear h1k
      have X := Kept.mk (((Ext.refl w).alloc (.cells #[.int .i64 r, .int .i64 c, .slice s1 xs.length n1] 25)).alloc (.cells #[.int .i64 0, .int .i64 0, .slice none 0 0] 25))
      have kA := (Blk.new w #[.int .i64 r, .int .i64 c, .slice s1 xs.length n1] 25).old (.cells #[.int .i64 0, .int .i64 0, .slice none 0 0] 25)
      have kR := Blk.new (w.alloc (.cells #[.int .i64 r, .int .i64 c, .slice s1 xs.length n1] 25)) #[.int .i64 0, .int .i64 0, .slice none 0 0] 25
      simp only [World.size_alloc] at kR
      go_enter Try.func33, Try.ntmps33
      obtain ⟨a0, a1, a2⟩ := kA.three
      go_wp2_with (fail)
      (with_reducible refine (OC.out _ (HV.out.keep X.out)).mono ?_)
      rintro e w1 ⟨u2, rfl, o2, x1⟩
      clear a0 a1 a2 OC
      obtain ⟨p1, m1, hu, -, -⟩ := id o2.ints
      try simp only at hu
      subst hu
      replace o2 := o2.mono X.out.size
      replace X := Kept.mk (X.out.trans x1)
      replace kA := kA.keep x1
      replace kR := kR.keep x1
      clear x1
      obtain ⟨a0, a1, a2⟩ := kA.three
      have af := kA.free
      go_wp2_with (fail)
      clear a0 a1 a2 af
      have nA := o2.ne kA (by decide)
      replace o2 := o2.other3 nA (.int .i64 r) (.int .i64 c) (.slice p1 xs.length m1)
      replace kR := kR.other3 (g := w.heap.size) (by omega) (.int .i64 r) (.int .i64 c) (.slice p1 xs.length m1)
      replace kA := kA.fill3 (.int .i64 r) (.int .i64 c) (.slice p1 xs.length m1)
      replace X := Kept.mk (X.out.other3 (Nat.le_refl _) (.int .i64 r) (.int .i64 c) (.slice p1 xs.length m1))
      clear nA
      (with_reducible refine (MV.out _ _ o2.ints).mono ?_)
      rintro e w2 ⟨rfl, x2⟩
      replace X := Kept.mk (X.out.trans x2)
      replace kA := kA.keep x2
      replace kR := kR.keep x2
      replace o2 := o2.keep x2
      clear x2
      go_wp2_with (fail)
      (with_reducible refine (spec_l1In k 1 5 false HK.out _).mono ?_)
      rintro e w3 ⟨rfl, rfl⟩
      have RK := Kept.mk kR
      obtain ⟨r0, r1, r2⟩ := kR.three
      have rf := kR.free
      clear kR
      go_wp2
      exact bodyPost_ret (v := .agg #[.int .i64 0, .int .i64 0, .slice none 0 0]) (by simp [results, Try.results33, go_sem, *]) rfl ⟨_, rfl, Own.nil _ _, by first | exact X.out.other3 (by show w.heap.size ≤ w.heap.size + 1; omega) _ _ _ | exact X.out⟩
    · rw [mapM_ok h1k h2]
      obtain ⟨s1, n1, rfl, hm1, hc1⟩ := id h1
      clear hm1 hc1
      have HV := Kept.mk h1
      clear h1
      have OC : Kept (∀ w', Ints w' (.slice s1 xs.length n1) xs → Calls Try.prog 30 #[.agg #[.int .i64 r, .int .i64 c, .slice s1 xs.length n1]] w' (MatPost ⟨r, c, xs⟩ w')) := ⟨fun w' h => spec_l1OwnMatrix r c _ xs w' h hn hl⟩
      unfold MatPost at OC
      have MV : Kept (∀ v2 w', Ints w' v2 xs → Calls Try.prog 31 #[.agg #[.int .i64 r, .int .i64 c, v2]] w' fun e w'' => e = .returned (.bool true) ∧ Ext w' w'') := ⟨fun v2 w' h => h2 ▸ spec_MatrixValid r c v2 xs w' h⟩
      obtain ⟨R, C, rfl, rfl, R1, R5, C1, C5, hL, L25, hrv⟩ := mOk_nat h2
      have RV := Kept.mk hrv
      clear hrv
      clear h2 hn
      have L26 : xs.length ≤ 25 := by omega
      clear hL L25
      have FA : Kept (∀ x w, Calls Try.prog 57 #[.int .i64 k, .int .i64 x] w fun e w' => e = .returned (.int .i64 (fAt k x)) ∧ w = w') := ⟨fun x w => spec_FunctionAt k x w⟩
      have HK := Kept.mk (fk h1k)
      clear h1k R1 R5 C1 C5
      have X := Kept.mk (((Ext.refl w).alloc (.cells #[.int .i64 R, .int .i64 C, .slice s1 xs.length n1] 25)).alloc (.cells #[.int .i64 0, .int .i64 0, .slice none 0 0] 25))
      have kA := (Blk.new w #[.int .i64 R, .int .i64 C, .slice s1 xs.length n1] 25).old (.cells #[.int .i64 0, .int .i64 0, .slice none 0 0] 25)
      have kR := Blk.new (w.alloc (.cells #[.int .i64 R, .int .i64 C, .slice s1 xs.length n1] 25)) #[.int .i64 0, .int .i64 0, .slice none 0 0] 25
      simp only [World.size_alloc] at kR
      go_enter Try.func33, Try.ntmps33
      obtain ⟨a0, a1, a2⟩ := kA.three
      go_wp2_with (fail)
      (with_reducible refine (OC.out _ (HV.out.keep X.out)).mono ?_)
      rintro e w1 ⟨u2, rfl, o2, x1⟩
      clear a0 a1 a2 OC
      obtain ⟨p1, m1, hu, -, -⟩ := id o2.ints
      try simp only at hu
      subst hu
      replace o2 := o2.mono X.out.size
      replace X := Kept.mk (X.out.trans x1)
      replace kA := kA.keep x1
      replace kR := kR.keep x1
      clear x1
      obtain ⟨a0, a1, a2⟩ := kA.three
      have af := kA.free
      go_wp2_with (fail)
      clear a0 a1 a2 af
      have nA := o2.ne kA (by decide)
      replace o2 := o2.other3 nA (.int .i64 R) (.int .i64 C) (.slice p1 xs.length m1)
      replace kR := kR.other3 (g := w.heap.size) (by omega) (.int .i64 R) (.int .i64 C) (.slice p1 xs.length m1)
      replace kA := kA.fill3 (.int .i64 R) (.int .i64 C) (.slice p1 xs.length m1)
      replace X := Kept.mk (X.out.other3 (Nat.le_refl _) (.int .i64 R) (.int .i64 C) (.slice p1 xs.length m1))
      clear nA
      (with_reducible refine (MV.out _ _ o2.ints).mono ?_)
      rintro e w2 ⟨rfl, x2⟩
      replace X := Kept.mk (X.out.trans x2)
      replace kA := kA.keep x2
      replace kR := kR.keep x2
      replace o2 := o2.keep x2
      clear x2
      go_wp2_with (fail)
      (with_reducible refine (spec_l1In k 1 5 true HK.out _).mono ?_)
      rintro e w3 ⟨rfl, rfl⟩
      obtain ⟨a0, a1, a2⟩ := kA.three
      go_wp2_with (fail)
      clear a0 a1 a2 MV HK
      have gR := kR.lt
      have kM := Blk.new w2 #[.int .i64 R, .int .i64 C, .slice none 0 0] 25
      replace kA := kA.old (.cells #[.int .i64 R, .int .i64 C, .slice none 0 0] 25)
      replace kR := kR.old (.cells #[.int .i64 R, .int .i64 C, .slice none 0 0] 25)
      replace o2 := o2.keep ((Ext.refl w2).alloc (.cells #[.int .i64 R, .int .i64 C, .slice none 0 0] 25))
      replace X := Kept.mk (X.out.alloc (.cells #[.int .i64 R, .int .i64 C, .slice none 0 0] 25))
      have lX := X.out.size
      generalize hgM : w2.heap.size = gM at *
      have HQ := Kept.mk (fun q hq => (o2.block q hq).2)
      have hB0 : ∃ B0, B0 = (w2.alloc (.cells #[.int .i64 R, .int .i64 C, .slice none 0 0] 25)).heap.size := ⟨_, rfl⟩
      obtain ⟨B0, hB0⟩ := hB0
      rw [← hB0] at HQ lX
      have LX := Kept.mk lX
      clear lX
      go_loopw [6] (fun i wr => ∃ (j : Nat) (v : Value), j ≤ xs.length ∧ i = .int .i64 j ∧ Blk wr gM #[.int .i64 R, .int .i64 C, v] 25 ∧ Own B0 wr v (mapTo (fun i => fAt k (xs.getD i 0)) j) ∧ Own w.heap.size wr (.slice p1 xs.length m1) xs ∧ Blk wr w.heap.size #[.int .i64 R, .int .i64 C, .slice p1 xs.length m1] 25 ∧ Blk wr (w.heap.size + 1) #[.int .i64 0, .int .i64 0, .slice none 0 0] 25 ∧ Ext w wr ∧ B0 ≤ wr.heap.size) (fun i _ => xs.length - (intOf i).toNat)
      case atStart => exact ⟨0, _, Nat.zero_le _, rfl, kM, Own.nil _ _, o2, kA, kR, X.out, by rw [hB0]; exact Nat.le_refl _⟩
      case round =>
        clear X kM kA kR o2 hB0
        obtain ⟨j, v, hj, rfl, kM, ho, o2, kA, kR, hx, hB⟩ := hrel
        have neM := ho.ne kM (by decide)
        have neA := ho.ne kA (by decide)
        have neR := ho.ne kR (by decide)
        have ne2 := o2.ne kM (by decide)
        by_cases hlt : j < xs.length
        · have hltZ : (j : Int) < (xs.length : Int) := by omega
          obtain ⟨b, off, es, lb, cb⟩ := at_len o2.ints rfl hlt
          subst es
          have HP := Kept.mk (rfl : fAt k (xs.getD j 0) = fAt k (xs.getD j 0))
          generalize hp : xs.getD j 0 = p at cb
          rw [hp] at HP
          replace HP := Kept.mk hp
          clear hp
          have KM := Kept.mk kM
          have KA := Kept.mk kA
          have KR := Kept.mk kR
          have HO := Kept.mk ho
          have O2 := Kept.mk o2
          have HX := Kept.mk hx
          clear kM kA kR ho hx o2
          obtain ⟨a0, a1, a2⟩ := KA.out.three
          go_wp2_with (fail)
          clear a0 a1 a2
          apply wp_region_zip [isv _, isv _, isv _, isv _, isv _, isv _, isv _, isv _, isv _, oneS (fAt k p)] _ (by kernel_rfl)
          case hA => intro V; simp [putAll, dstOf, Act.put]; exact rfl
          case hsl => intro V; exact rfl
          case step =>
            intro V lo up w' hr
            obtain ⟨hcr, hzr⟩ := hr.cells
            have hsr := hr.size
            obtain ⟨m0, m1', m2⟩ := (KM.out.keep hr).three
            obtain ⟨a0, a1, a2⟩ := (KA.out.keep hr).three
            have cbr := (hr.cells.1 b (off + j) lb).trans cb
            simp only [zipOk, depsImp, isv, oneS, modeNg, newb, waits, Region.binds, List.map_nil, List.map_cons, List.headD_cons, List.nil_append, List.cons_append, List.filterMap_cons, List.filterMap_nil, ↓reduceIte, modeNe, Bool.false_eq_true, true_implies, List.getD_cons_zero, List.getD_cons_succ, and_true]
            refine ⟨?_, ?_, ?_, ?_, ?_, ?_, ?_, ?_, ?_, ?_⟩
            · intros
              go_wp2
              refine stepQ_mk rfl (by simp only [List.getElem?_toArray, List.getElem?_cons_succ, List.getElem?_cons_zero]; exact rfl) ?_
              exact ⟨Ext.refl _, rfl⟩
            · intros
              go_wp2
              refine stepQ_mk rfl (by simp only [List.getElem?_toArray, List.getElem?_cons_succ, List.getElem?_cons_zero]; exact rfl) ?_
              exact ⟨Ext.refl _, rfl⟩
            · intros
              go_wp2
              refine stepQ_mk rfl (by simp only [List.getElem?_toArray, List.getElem?_cons_succ, List.getElem?_cons_zero]; exact rfl) ?_
              exact ⟨Ext.refl _, rfl⟩
            · intros
              go_wp2
              refine stepQ_mk rfl (by simp only [List.getElem?_toArray, List.getElem?_cons_succ, List.getElem?_cons_zero]; exact rfl) ?_
              exact ⟨Ext.refl _, rfl⟩
            · intros
              go_wp2
              refine stepQ_mk rfl (by simp only [List.getElem?_toArray, List.getElem?_cons_succ, List.getElem?_cons_zero]; exact rfl) ?_
              exact ⟨Ext.refl _, rfl⟩
            · intros
              go_wp2
              refine stepQ_mk rfl (by simp only [List.getElem?_toArray, List.getElem?_cons_succ, List.getElem?_cons_zero]; exact rfl) ?_
              exact ⟨Ext.refl _, rfl⟩
            · intros
              go_wp2
              refine stepQ_mk rfl (by simp only [List.getElem?_toArray, List.getElem?_cons_succ, List.getElem?_cons_zero]; exact rfl) ?_
              exact ⟨Ext.refl _, rfl⟩
            · intros
              go_wp2
              refine stepQ_mk rfl (by simp only [List.getElem?_toArray, List.getElem?_cons_succ, List.getElem?_cons_zero]; exact rfl) ?_
              exact ⟨Ext.refl _, rfl⟩
            · intros
              go_wp2_with (go_at_call 57; (with_reducible refine (FA.out _ _).mono ?_); rintro e w1 ⟨rfl, rfl⟩)
              refine stepQ_mk rfl (by simp only [List.getElem?_toArray, List.getElem?_cons_succ, List.getElem?_cons_zero]; exact rfl) ?_
              first | exact ⟨Ext.refl _, rfl⟩ | exact ⟨hy, rfl⟩
            · intros
              go_wp2
              refine stepQ_mk rfl (by simp only [List.getElem?_toArray, List.getElem?_cons_succ, List.getElem?_cons_zero]; exact rfl) ?_
              exact ⟨(Ext.refl _).alloc _, rfl, by simp, Blk.new _ _ _⟩
          case hB => kernel_rfl
          case fin =>
            intro V lo up w' hr hf ha
            simp only [factsOk, isv, oneS, modeNg, newb, List.map_nil, List.map_cons, List.headD_cons, and_true, Nat.zero_add, Nat.reduceAdd] at hf
            simp only [List.length_cons, List.length_nil, Nat.zero_add, Nat.reduceAdd, List.drop_succ_cons, List.drop_zero]
            obtain ⟨-, ⟨-, -, -, e1⟩, -, -, -, -, -, -, -, ⟨l9, -, -, e9, -, k9⟩⟩ := hf
            clear ha
            rw [e1, e9]
            clear e1 e9
            generalize lo 9 = g1 at *
            have hB' : B0 ≤ w'.heap.size := Nat.le_trans hB hr.size
            go_wp2_with (at_builtin; refine wpList_append_one rfl _ _ rfl B0 _ (mapTo (fun i => fAt k (xs.getD i 0)) j) rfl (HO.out.keep hr) g1 _ rfl k9 (by rw [mapTo_len]; omega) hB' ?_; intro v' w5 hown htu; have kM1 := Turned.blk (KM.out.keep hr) htu neM; obtain ⟨t0, t1, t2⟩ := kM1.three; have tf := kM1.free; have K1 := Kept.mk kM1; have OW := Kept.mk hown; have hv : ∃ a m, v' = .slice a (j + 1) m := (by obtain ⟨a, m, e, _⟩ := hown.ints; exact ⟨a, m, by rw [e]; simp [mapTo_len]⟩); obtain ⟨p2, m2, rfl⟩ := hv; have TU := Kept.mk htu; clear kM1 hown htu)
            have OW' : Own B0 w5 (.slice p2 (j + 1) m2) (mapTo (fun i => fAt k (xs.getD i 0)) (j + 1)) := by rw [mapTo_succ, HP.out]; exact OW.out
            have NE2 := OW'.ne K1.out (by decide)
            have XE := Kept.mk (Turned.ext (HX.out.trans hr) TU.out (fun q hq => Nat.le_trans LX.out (HO.out.block q hq).1))
            have A2 := Turned.blk (KA.out.keep hr) TU.out neA
            have R2 := Turned.blk (KR.out.keep hr) TU.out neR
            have P2 := TU.out.own (O2.out.keep hr) (fun q hq e => by have h3 := (HO.out.block q hq).1; have h4 := HQ.out q e; omega)
            have sz1 := TU.out.size
            clear t0 t1 t2 tf
            go_roundw
            case rel =>
              exact ⟨j + 1, .slice p2 (j + 1) m2, by omega, by go_num, K1.out.set3 2 _, OW'.setOther _ NE2 _ _, P2.setOther _ ne2 _ _, A2.setO (by omega) _ _, R2.setO (by omega) _ _, XE.out.setCell (by show w.heap.size ≤ gM; omega) _, by simp [World.setCell]; omega⟩
            case measure => simp [intOf]; omega

        · have e : j = xs.length := by omega
          subst e
          have hvv : ∃ a m, v = .slice a xs.length m := by obtain ⟨a, m, e, _⟩ := ho.ints; exact ⟨a, m, by rw [e]; simp [mapTo_len]⟩
          obtain ⟨p2, m2, rfl⟩ := hvv
          obtain ⟨a0, a1, a2⟩ := kA.three
          obtain ⟨t0, t1, t2⟩ := kM.three
          obtain ⟨r0, r1, r2⟩ := kR.three
          have rf := kR.free
          have HO := Kept.mk (ho.mono LX.out)
          have HX := Kept.mk hx
          have NR := Kept.mk neR
          clear ho hx kM kA kR o2 neM neA neR ne2 HV
          go_wp2
          exact bodyPost_ret (v := .agg #[.int .i64 R, .int .i64 C, .slice p2 xs.length m2]) (by simp [results, Try.results33, go_sem, *]) rfl ⟨_, rfl, HO.out.other3 NR.out _ _ _, HX.out.other3 (by show w.heap.size ≤ w.heap.size + 1; omega) _ _ _⟩
end Go.Proofs.Ytpbnbhiffnnliaa
