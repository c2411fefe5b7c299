import Derived.Test.YtkkdikoknegpjaaGreatKD
import Derived.Test.YtkkdikoknegpjaaGreatKN
import Derived.Test.YtkkdikoknegpjaaGreatQA
namespace Go.Proofs.YtkkdikoknegpjaaGreat
set_option linter.unusedSimpArgs false
set_option linter.unusedVariables false
open Go.RowKit
def oneS {n0 : Nat} (c : Int) : OpSpec Ext n0 := ⟨[], fun _ u lo up w => u = .slice (some ⟨lo, 0, none⟩) 1 1 ∧ up = lo + 1 ∧ Blk w lo #[.int .i64 c] 3, fun _ _ _ _ _ _ _ _ _ hx ⟨h1, h2, h3⟩ => ⟨h1, h2, h3.keep hx⟩⟩
def mapM (k r c : Int) (xs : List Int) : Mat := if (fKnown k && mOk r c xs) = true then ⟨r, c, mapTo (fun i => fAt k (xs.getD i 0)) xs.length⟩ else matZ
theorem mapM_bad {k r c : Int} {xs : List Int} (h : (fKnown k && mOk r c xs) = false) : mapM k r c xs = matZ := by simp [mapM, h]
theorem mapM_ok {k r c : Int} {xs : List Int} (h1 : fKnown k = true) (h2 : mOk r c xs = true) : mapM k r c xs = ⟨r, c, mapTo (fun i => fAt k (xs.getD i 0)) xs.length⟩ := by simp [mapM, h1, h2]
theorem at_len {w : World} {s : Option Addr} {k L : Nat} {xs : List Int} (h : Ints w (.slice s L k) xs) (hL : xs.length = L) {n : Nat} (hn : n < L) : ∃ b off, s = some ⟨b, off, none⟩ ∧ b < w.heap.size ∧ w.cell? ⟨b, off + n, none⟩ = some (.int .i64 (xs.getD n 0)) := by
 obtain ⟨a, c, e, _, hc⟩ := h
 simp at e
 obtain ⟨rfl, _, rfl⟩ := e
 exact hc n (by omega)
set_option maxHeartbeats 4000000 in
set_option maxRecDepth 2000 in
theorem impl_MapMatrix (k r c : Int) (v : Value) (xs : List Int) (w : World) (h1 : Ints w v xs) : Calls Tryz.prog 73 #[.int .i64 k, .agg #[.int .i64 r, .int .i64 c, v]] w (MatPost (mapM k r c xs) w) := by
 unfold MatPost
 cases h1k : fKnown k
 ·rw [mapM_bad (by simp [h1k])]
  obtain ⟨s1, n1, rfl, hm1, hc1⟩ := id h1
  clear hm1 hc1
  have HV := kp h1
  clear h1
  have HK := kp h1k
  clear h1k
  have X := kp (((Ext.refl w).alloc (.cells #[.int .i64 r, .int .i64 c, .slice s1 xs.length n1] 28)).alloc (.cells #[.int .i64 0, .int .i64 0, .slice none 0 0] 28))
  have kA := (Blk.new w #[.int .i64 r, .int .i64 c, .slice s1 xs.length n1] 28).old (.cells #[.int .i64 0, .int .i64 0, .slice none 0 0] 28)
  have kR := Blk.new (w.alloc (.cells #[.int .i64 r, .int .i64 c, .slice s1 xs.length n1] 28)) #[.int .i64 0, .int .i64 0, .slice none 0 0] 28
  simp only [World.size_alloc] at kR
  go_enter Tryz.func73, Tryz.ntmps73
  go_wp2_with (fail)
  (with_reducible refine (impl_functionKnown k false HK.out _).mono ?_)
  rintro e w1 ⟨rfl, rfl⟩
  have RK := kp kR
  obtain ⟨r0, r1, r2⟩ := kR.three
  have rf := kR.free
  clear kR
  go_wp2
  exact bodyPost_ret (v := .agg #[.int .i64 0, .int .i64 0, .slice none 0 0]) (by simp [results, Tryz.results73, go_sem, *]) rfl ⟨_, rfl, Own.nil _ _, by first | exact X.out.other3 (by show w.heap.size ≤ w.heap.size + 1; omega) _ _ _ | exact X.out⟩
 cases h2 : mOk r c xs
 ·rw [mapM_bad (by simp [h1k, h2])]
  obtain ⟨s1, n1, rfl, hm1, hc1⟩ := id h1
  clear hm1 hc1
  have HV := kp h1
  clear h1
  have MV : Kept (∀ w', Ext w w' → Calls Tryz.prog 48 #[.agg #[.int .i64 r, .int .i64 c, .slice s1 xs.length n1]] w' fun e w'' => e = .returned (.bool false) ∧ Ext w' w'') := ⟨fun w' hx => h2 ▸ impl_MatrixValid _ _ _ xs w' (HV.out.keep hx)⟩
  clear h2
  have HK := kp h1k
  clear h1k
  have X := kp (((Ext.refl w).alloc (.cells #[.int .i64 r, .int .i64 c, .slice s1 xs.length n1] 28)).alloc (.cells #[.int .i64 0, .int .i64 0, .slice none 0 0] 28))
  have kA := (Blk.new w #[.int .i64 r, .int .i64 c, .slice s1 xs.length n1] 28).old (.cells #[.int .i64 0, .int .i64 0, .slice none 0 0] 28)
  have kR := Blk.new (w.alloc (.cells #[.int .i64 r, .int .i64 c, .slice s1 xs.length n1] 28)) #[.int .i64 0, .int .i64 0, .slice none 0 0] 28
  simp only [World.size_alloc] at kR
  go_enter Tryz.func73, Tryz.ntmps73
  go_wp2_with (fail)
  (with_reducible refine (impl_functionKnown k true HK.out _).mono ?_)
  rintro e w1 ⟨rfl, rfl⟩
  obtain ⟨a0, a1, a2⟩ := kA.three
  go_wp2_with (fail)
  (with_reducible refine (MV.out _ X.out).mono ?_)
  rintro e w2 ⟨rfl, x2⟩
  replace X := kp (X.out.trans x2)
  replace kR := kR.keep x2
  clear x2
  clear a0 a1 a2 kA
  have RK := kp kR
  obtain ⟨r0, r1, r2⟩ := kR.three
  have rf := kR.free
  clear kR
  go_wp2
  exact bodyPost_ret (v := .agg #[.int .i64 0, .int .i64 0, .slice none 0 0]) (by simp [results, Tryz.results73, go_sem, *]) rfl ⟨_, rfl, Own.nil _ _, by first | exact X.out.other3 (by show w.heap.size ≤ w.heap.size + 1; omega) _ _ _ | exact X.out⟩
 rw [mapM_ok h1k h2]
 obtain ⟨s1, n1, rfl, hm1, hc1⟩ := id h1
 clear hm1 hc1
 have HV := kp h1
 clear h1
 have h2' := h2
 obtain ⟨R, C, rfl, rfl, R1, R5, C1, C5, hL, L25, hrv⟩ := mOk_nat h2
 have RV := kp hrv
 clear hrv
 have MV : Kept (∀ w', Ext w w' → Calls Tryz.prog 48 #[.agg #[.int .i64 (R : Int), .int .i64 (C : Int), .slice s1 xs.length n1]] w' fun e w'' => e = .returned (.bool true) ∧ Ext w' w'') := ⟨fun w' hx => h2' ▸ impl_MatrixValid _ _ _ xs w' (HV.out.keep hx)⟩
 clear h2 h2'
 have EM : Kept (∀ w, Calls Tryz.prog 66 #[.int .i64 R, .int .i64 C] w (ZeroPost R C w)) := ⟨fun w => impl_emptyMatrix R C R5 C5 w⟩
 unfold ZeroPost at EM
 rw [hL] at HV MV ⊢
 generalize R * C = L at *
 have FA : Kept (∀ x w, Calls Tryz.prog 99 #[.int .i64 k, .int .i64 x] w fun e w' => e = .returned (.int .i64 (fAt k x)) ∧ w = w') := ⟨fun x w => impl_FunctionAt k x w⟩
 have HL := kp hL
 have HK := kp h1k
 clear h1k hL R1 R5 C1 C5
 have X := kp (((Ext.refl w).alloc (.cells #[.int .i64 R, .int .i64 C, .slice s1 L n1] 28)).alloc (.cells #[.int .i64 0, .int .i64 0, .slice none 0 0] 28))
 have kA := (Blk.new w #[.int .i64 R, .int .i64 C, .slice s1 L n1] 28).old (.cells #[.int .i64 0, .int .i64 0, .slice none 0 0] 28)
 have kR := Blk.new (w.alloc (.cells #[.int .i64 R, .int .i64 C, .slice s1 L n1] 28)) #[.int .i64 0, .int .i64 0, .slice none 0 0] 28
 simp only [World.size_alloc] at kR
 go_enter Tryz.func73, Tryz.ntmps73
 go_wp2_with (fail)
 (with_reducible refine (impl_functionKnown k true HK.out _).mono ?_)
 rintro e w1 ⟨rfl, rfl⟩
 obtain ⟨a0, a1, a2⟩ := kA.three
 go_wp2_with (fail)
 (with_reducible refine (MV.out _ X.out).mono ?_)
 rintro e w2 ⟨rfl, x2⟩
 clear a0 a1 a2
 replace X := kp (X.out.trans x2)
 replace kA := kA.keep x2
 replace kR := kR.keep x2
 clear x2
 obtain ⟨a0, a1, a2⟩ := kA.three
 go_wp2_with (fail)
 (with_reducible refine (EM.out _).mono ?_)
 rintro e w3 ⟨g, rfl, oZ, x3⟩
 clear a0 a1 a2 MV EM HK
 replace oZ := oZ.mono X.out.size
 replace X := kp (X.out.trans x3)
 replace kA := kA.keep x3
 replace kR := kR.keep x3
 clear x3
 have kM := Blk.new w3 #[.int .i64 R, .int .i64 C, .slice (some ⟨g, 0, none⟩) L L] 28
 replace kA := kA.old (.cells #[.int .i64 R, .int .i64 C, .slice (some ⟨g, 0, none⟩) L L] 28)
 replace kR := kR.old (.cells #[.int .i64 R, .int .i64 C, .slice (some ⟨g, 0, none⟩) L L] 28)
 replace oZ := oZ.keep ((Ext.refl w3).alloc (.cells #[.int .i64 R, .int .i64 C, .slice (some ⟨g, 0, none⟩) L L] 28))
 replace X := kp (X.out.alloc (.cells #[.int .i64 R, .int .i64 C, .slice (some ⟨g, 0, none⟩) L L] 28))
 have lM := X.out.size
 obtain ⟨a0, a1, a2⟩ := kA.three
 go_wp2_with (fail)
 clear a0 a1 a2
 generalize hgM : w3.heap.size = gM at *
 go_loopw [6, 7, 25] (fun _ _ i wr => ∃ (j : Nat) (ys : List Int), j ≤ L ∧ i = .int .i64 j ∧ ys.length = L ∧ Own w.heap.size wr (.slice (some ⟨g, 0, none⟩) L L) ys ∧ (∀ i, i < j → ys.getD i 0 = fAt k (xs.getD i 0)) ∧ Blk wr gM #[.int .i64 R, .int .i64 C, .slice (some ⟨g, 0, none⟩) L L] 28 ∧ Blk wr w.heap.size #[.int .i64 R, .int .i64 C, .slice s1 L n1] 28 ∧ Blk wr (w.heap.size + 1) #[.int .i64 0, .int .i64 0, .slice none 0 0] 28 ∧ Ext w wr) (fun _ _ i _ => L - (intOf i).toNat)
 case atStart => exact ⟨0, zer L, Nat.zero_le _, rfl, zer_len L, oZ, fun i hi => absurd hi (Nat.not_lt_zero i), kM, kA, kR, X.out⟩
 clear X kM kA kR oZ
 obtain ⟨j, ys, hj, rfl, hlen, ho, hval, kM, kA, kR, hx⟩ := hrel
 have neM := ho.ne kM (by decide)
 have neA := ho.ne kA (by decide)
 have neR := ho.ne kR (by decide)
 by_cases hlt : j < L
 ·have hltZ : (j : Int) < (L : Int) := by omega
  obtain ⟨b, off, es, lb, cb⟩ := at_len HV.out HL.out hlt
  subst es
  have FJ := kp (rfl : fAt k (xs.getD j 0) = fAt k (xs.getD j 0))
  generalize hp : xs.getD j 0 = p at cb
  rw [hp] at FJ
  have HP := kp hp
  clear hp FJ
  have KM := kp kM
  have KA := kp kA
  have KR := kp kR
  have HO := kp ho
  have HX := kp hx
  have HW := kp hval
  have HN := kp hlen
  clear kM kA kR ho hx hval hlen
  have cbr := (HX.out.cells.1 b (off + j) lb).trans cb
  go_wp2_with (fail)
  apply wp_region_zip [isv _, isv _, isv _, isv _, isv _, isv _] _ (by kernel_rfl)
  case hA => intro V; simp [putAll, dstOf, Act.put]; exact rfl
  case hsl => intro V; exact rfl
  case step =>
   intro V lo up w' hr
   obtain ⟨hcr, hzr⟩ := hr.cells
   have hsr := hr.size
   obtain ⟨m0, m1, m2⟩ := (KM.out.keep hr).three
   simp only [zipOk, depsImp, isv, newb, waits, Region.binds, List.map_nil, List.map_cons, List.headD_cons, List.nil_append, List.cons_append, List.filterMap_cons, List.filterMap_nil, ↓reduceIte, modeNe, Bool.false_eq_true, true_implies, List.getD_cons_zero, List.getD_cons_succ, and_true]
   refine ⟨?_, ?_, ?_, ?_, ?_, ?_⟩
   ·intros
    go_wp2
    refine sQ ?_
    exact eZ
   ·intros
    go_wp2
    refine sQ ?_
    exact eZ
   ·intros
    go_wp2
    refine sQ ?_
    exact eZ
   ·intros
    go_wp2
    refine sQ ?_
    exact eZ
   ·intros
    go_wp2
    refine sQ ?_
    exact eZ
   intros
   go_wp2_with (go_at_call 99; (with_reducible refine (FA.out _ _).mono ?_); rintro e w1 ⟨rfl, rfl⟩)
   refine sQ ?_
   first | exact ⟨Ext.refl _, rfl⟩ | exact ⟨hy, rfl⟩
  case hB => kernel_rfl
  intro V lo up w' hr hf ha
  simp only [factsOk, isv, newb, List.map_nil, List.map_cons, List.headD_cons, and_true, Nat.zero_add, Nat.reduceAdd] at hf
  simp only [List.length_cons, List.length_nil, Nat.zero_add, Nat.reduceAdd, List.drop_succ_cons, List.drop_zero]
  obtain ⟨-, ⟨-, -, -, e1⟩, ⟨-, -, -, e2⟩, -, -, ⟨-, -, -, e5⟩⟩ := hf
  clear ha
  rw [e1, e2, e5]
  clear e1 e2 e5
  have hcell := (HO.out.keep hr).cell HN.out j (by omega)
  obtain ⟨hc1, hc2⟩ := hcell
  have hst := kp ((HO.out.keep hr).store HN.out j (fAt k p))
  go_wp2
  go_roundw
  case rel =>
   refine ⟨j + 1, ys.set j (fAt k p), by omega, by go_num, by rw [List.length_set]; exact HN.out, hst.out.1, fun i hi => ?_, ?_, ?_, ?_, ?_⟩
   ·rw [getD_set' ys j i _ (by rw [HN.out]; omega)]
    split
    ·rename_i e; rw [e, HP.out]
    exact HW.out i (by omega)
   ·exact (KM.out.keep hr).setO (fun e => neM (by simp [Value.ownBlock, e])) _ _
   ·exact (KA.out.keep hr).setO (fun e => neA (by simp [Value.ownBlock, e])) _ _
   ·exact (KR.out.keep hr).setO (fun e => neR (by simp [Value.ownBlock, e])) _ _
   exact (HX.out.trans hr).setCell (HO.out.block g rfl).1 _
  case measure => simp [intOf]; omega
 have e : j = L := by omega
 subst e
 have e : ys = mapTo (fun i => fAt k (xs.getD i 0)) j := by
  apply list_ext'
  ·rw [hlen, mapTo_len]
  intro i hi
  rw [mapTo_get _ _ _ (by omega)]
  exact hval i (by omega)
 obtain ⟨m0, m1, m2⟩ := kM.three
 obtain ⟨r0, r1, r2⟩ := kR.three
 have rf := kR.free
 have HO := kp (e ▸ ho)
 have HX := kp hx
 have NR := kp neR
 clear ho hx kM kA kR hlen hval e neM neA neR HV
 go_wp2
 exact bodyPost_ret (v := .agg #[.int .i64 R, .int .i64 C, .slice (some ⟨g, 0, none⟩) j j]) (by simp [results, Tryz.results73, go_sem, *]) rfl ⟨_, rfl, HO.out.other3 NR.out _ _ _, HX.out.other3 (by show w.heap.size ≤ w.heap.size + 1; omega) _ _ _⟩
end Go.Proofs.YtkkdikoknegpjaaGreat
