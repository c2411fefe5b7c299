/- Made triples of shared matrices: the reference. -/
import Derived.Test.YtkkdikoknegpjaaKR
import Derived.Test.YtkkdikoknegpjaaKF
namespace Go.Proofs.Ytkkdikoknegpjaa
set_option linter.unusedSimpArgs false
set_option linter.unusedVariables false
open Go.RowKit

set_option maxHeartbeats 8000000 in
set_option maxRecDepth 4000 in
theorem spec_MakeTripleN (R K C : Nat) (hR : Side R) (hK : Side K) (hC : Side C) (s : Int) (hs : Seed s) (w : World) : Calls Try.prog 73 #[.int .i64 R, .int .i64 K, .int .i64 C, .int .i64 s] w (TrNPost (tripN R K C s) (sd5 R K C s) w) := by
  have SR := Kept.mk hR.ok
  have SK := Kept.mk hK.ok
  have SC := Kept.mk hC.ok
  have SD : Kept ((decide (1 ≤ s) && decide (s ≤ 2147483646)) = true) := ⟨hs.ok⟩
  unfold TrNPost
  unfold tripN tripA tripB tripC sd5
  simp only
  unfold sd4 sd3 sd2 sd1
  have Q0 := Kept.mk (fun w' => spec_RandomMatrix R K hR hK s hs w')
  unfold RmPost at Q0
  have L0 : Kept ((rlist s (R * K)).length ≤ 1048576) := ⟨by rw [rlist_len]; exact Nat.le_trans (side_mul' hR hK) (by decide)⟩
  replace hs := hs.strm (R * K)
  generalize strm s (R * K) = t1 at *
  generalize rlist s (R * K) = x0 at *
  have Q1 := Kept.mk (fun w' => spec_RandomMatrix R K hR hK t1 hs w')
  unfold RmPost at Q1
  have L1 : Kept ((rlist t1 (R * K)).length ≤ 1048576) := ⟨by rw [rlist_len]; exact Nat.le_trans (side_mul' hR hK) (by decide)⟩
  replace hs := hs.strm (R * K)
  generalize strm t1 (R * K) = t2 at *
  generalize rlist t1 (R * K) = x1 at *
  have Q2 := Kept.mk (fun w' => spec_RandomMatrix K C hK hC t2 hs w')
  unfold RmPost at Q2
  have L2 : Kept ((rlist t2 (K * C)).length ≤ 1048576) := ⟨by rw [rlist_len]; exact Nat.le_trans (side_mul' hK hC) (by decide)⟩
  replace hs := hs.strm (K * C)
  generalize strm t2 (K * C) = t3 at *
  generalize rlist t2 (K * C) = x2 at *
  have Q3 := Kept.mk (fun w' => spec_RandomMatrix K C hK hC t3 hs w')
  unfold RmPost at Q3
  have L3 : Kept ((rlist t3 (K * C)).length ≤ 1048576) := ⟨by rw [rlist_len]; exact Nat.le_trans (side_mul' hK hC) (by decide)⟩
  replace hs := hs.strm (K * C)
  generalize strm t3 (K * C) = t4 at *
  generalize rlist t3 (K * C) = x3 at *
  have Q4 := Kept.mk (fun w' => spec_RandomMatrix R C hR hC t4 hs w')
  unfold RmPost at Q4
  have L4 : Kept ((rlist t4 (R * C)).length ≤ 1048576) := ⟨by rw [rlist_len]; exact Nat.le_trans (side_mul' hR hC) (by decide)⟩
  replace hs := hs.strm (R * C)
  generalize strm t4 (R * C) = t5 at *
  generalize rlist t4 (R * C) = x4 at *
  have JA := Kept.mk (fun (v u : Value) (w' : World) (h1 : Arg w' v x0) (h2 : Arg w' u x1) => spec_JoinMatrix R K R K v u x0 x1 w' h1 h2)
  unfold MatPost at JA
  have NJA := Kept.mk (join_len ⟨⟨R, K, x0⟩, ⟨R, K, x1⟩⟩)
  have JB := Kept.mk (fun (v u : Value) (w' : World) (h1 : Arg w' v x2) (h2 : Arg w' u x3) => spec_JoinMatrix K C K C v u x2 x3 w' h1 h2)
  unfold MatPost at JB
  have NJB := Kept.mk (join_len ⟨⟨K, C, x2⟩, ⟨K, C, x3⟩⟩)
  generalize joinM ⟨⟨R, K, x0⟩, ⟨R, K, x1⟩⟩ = DA at *
  generalize joinM ⟨⟨K, C, x2⟩, ⟨K, C, x3⟩⟩ = DB at *
  obtain ⟨ar, ac, as_⟩ := DA
  obtain ⟨br, bc, bs⟩ := DB
  simp only at JA JB NJA NJB
  have MM := Kept.mk (fun (v u : Value) (w' : World) (h1 : Arg w' v as_) (h2 : Arg w' u bs) => spec_MulMatrices ar ac br bc v u as_ bs w' h1 h2)
  unfold MatPost at MM
  have NMM := Kept.mk (mulM_len ⟨ar, ac, as_⟩ ⟨br, bc, bs⟩)
  generalize mulM ⟨ar, ac, as_⟩ ⟨br, bc, bs⟩ = DP at *
  obtain ⟨dr, dc, ds⟩ := DP
  simp only at MM NMM
  have SB := Kept.mk (fun (v u : Value) (w' : World) (h1 : Arg w' v ds) (h2 : Arg w' u x4) => spec_SubMatrices dr dc R C v u ds x4 w' h1 h2)
  unfold MatPost at SB
  generalize subM ⟨dr, dc, ds⟩ ⟨R, C, x4⟩ = DE at *
  obtain ⟨er, ec, es⟩ := DE
  simp only at SB
  clear hs hR hK hC
  have S := Kept.mk (St.start w)
  go_enter Try.func73, Try.ntmps73
  go_wp2_with (first | (refine ldiM S.out ?_) | (refine ldiS S.out ?_) | (refine ldiT S.out ?_) | (refine stiM S.out ?_; clear S; intro w9 S) | (refine stiS S.out ?_; clear S; intro w9 S) | (refine stiT S.out ?_; clear S; intro w9 S) | (refine aliM S.out ?_; clear S; intro b9 w9 S) | (refine aliT S.out ?_; clear S; intro b9 w9 S) | (refine wpList_want rfl rfl ?_; dsimp only) | fail)
  (with_reducible refine (spec_l1In R 1 5 true (side_dec SR.out) _).mono ?_)
  rintro e u9 ⟨rfl, rfl⟩
  go_wp2_with (first | (refine ldiM S.out ?_) | (refine ldiS S.out ?_) | (refine ldiT S.out ?_) | (refine stiM S.out ?_; clear S; intro w9 S) | (refine stiS S.out ?_; clear S; intro w9 S) | (refine stiT S.out ?_; clear S; intro w9 S) | (refine aliM S.out ?_; clear S; intro b9 w9 S) | (refine aliT S.out ?_; clear S; intro b9 w9 S) | (refine wpList_want rfl rfl ?_; dsimp only) | fail)
  (with_reducible refine (spec_l1In K 1 5 true (side_dec SK.out) _).mono ?_)
  rintro e u9 ⟨rfl, rfl⟩
  go_wp2_with (first | (refine ldiM S.out ?_) | (refine ldiS S.out ?_) | (refine ldiT S.out ?_) | (refine stiM S.out ?_; clear S; intro w9 S) | (refine stiS S.out ?_; clear S; intro w9 S) | (refine stiT S.out ?_; clear S; intro w9 S) | (refine aliM S.out ?_; clear S; intro b9 w9 S) | (refine aliT S.out ?_; clear S; intro b9 w9 S) | (refine wpList_want rfl rfl ?_; dsimp only) | fail)
  (with_reducible refine (spec_l1In C 1 5 true (side_dec SC.out) _).mono ?_)
  rintro e u9 ⟨rfl, rfl⟩
  go_wp2_with (first | (refine ldiM S.out ?_) | (refine ldiS S.out ?_) | (refine ldiT S.out ?_) | (refine stiM S.out ?_; clear S; intro w9 S) | (refine stiS S.out ?_; clear S; intro w9 S) | (refine stiT S.out ?_; clear S; intro w9 S) | (refine aliM S.out ?_; clear S; intro b9 w9 S) | (refine aliT S.out ?_; clear S; intro b9 w9 S) | (refine wpList_want rfl rfl ?_; dsimp only) | fail)
  (with_reducible refine (spec_l1In s 1 2147483646 true SD.out _).mono ?_)
  rintro e u9 ⟨rfl, rfl⟩
  go_wp2_with (first | (refine ldiM S.out ?_) | (refine ldiS S.out ?_) | (refine ldiT S.out ?_) | (refine stiM S.out ?_; clear S; intro w9 S) | (refine stiS S.out ?_; clear S; intro w9 S) | (refine stiT S.out ?_; clear S; intro w9 S) | (refine aliM S.out ?_; clear S; intro b9 w9 S) | (refine aliT S.out ?_; clear S; intro b9 w9 S) | (refine wpList_want rfl rfl ?_; dsimp only) | fail)
  (with_reducible refine (Q0.out _).mono ?_)
  rintro e u9 ⟨v0, rfl, o0, x9⟩
  replace S := Kept.mk (S.out.made o0 x9)
  clear x9
  obtain ⟨p0, m0, hu9, -, -⟩ := id o0.ints
  try simp only at hu9
  subst hu9
  clear o0
  go_wp2_with (first | (refine ldiM S.out ?_) | (refine ldiS S.out ?_) | (refine ldiT S.out ?_) | (refine stiM S.out ?_; clear S; intro w9 S) | (refine stiS S.out ?_; clear S; intro w9 S) | (refine stiT S.out ?_; clear S; intro w9 S) | (refine aliM S.out ?_; clear S; intro b9 w9 S) | (refine aliT S.out ?_; clear S; intro b9 w9 S) | (refine wpList_want rfl rfl ?_; dsimp only) | fail)
  (with_reducible refine (Q1.out _).mono ?_)
  rintro e u9 ⟨v1, rfl, o1, x9⟩
  replace S := Kept.mk (S.out.made o1 x9)
  clear x9
  obtain ⟨p1, m1, hu9, -, -⟩ := id o1.ints
  try simp only at hu9
  subst hu9
  clear o1
  go_wp2_with (first | (refine ldiM S.out ?_) | (refine ldiS S.out ?_) | (refine ldiT S.out ?_) | (refine stiM S.out ?_; clear S; intro w9 S) | (refine stiS S.out ?_; clear S; intro w9 S) | (refine stiT S.out ?_; clear S; intro w9 S) | (refine aliM S.out ?_; clear S; intro b9 w9 S) | (refine aliT S.out ?_; clear S; intro b9 w9 S) | (refine wpList_want rfl rfl ?_; dsimp only) | fail)
  (with_reducible refine (Q2.out _).mono ?_)
  rintro e u9 ⟨v2, rfl, o2, x9⟩
  replace S := Kept.mk (S.out.made o2 x9)
  clear x9
  obtain ⟨p2, m2, hu9, -, -⟩ := id o2.ints
  try simp only at hu9
  subst hu9
  clear o2
  go_wp2_with (first | (refine ldiM S.out ?_) | (refine ldiS S.out ?_) | (refine ldiT S.out ?_) | (refine stiM S.out ?_; clear S; intro w9 S) | (refine stiS S.out ?_; clear S; intro w9 S) | (refine stiT S.out ?_; clear S; intro w9 S) | (refine aliM S.out ?_; clear S; intro b9 w9 S) | (refine aliT S.out ?_; clear S; intro b9 w9 S) | (refine wpList_want rfl rfl ?_; dsimp only) | fail)
  (with_reducible refine (Q3.out _).mono ?_)
  rintro e u9 ⟨v3, rfl, o3, x9⟩
  replace S := Kept.mk (S.out.made o3 x9)
  clear x9
  obtain ⟨p3, m3, hu9, -, -⟩ := id o3.ints
  try simp only at hu9
  subst hu9
  clear o3
  go_wp2_with (first | (refine ldiM S.out ?_) | (refine ldiS S.out ?_) | (refine ldiT S.out ?_) | (refine stiM S.out ?_; clear S; intro w9 S) | (refine stiS S.out ?_; clear S; intro w9 S) | (refine stiT S.out ?_; clear S; intro w9 S) | (refine aliM S.out ?_; clear S; intro b9 w9 S) | (refine aliT S.out ?_; clear S; intro b9 w9 S) | (refine wpList_want rfl rfl ?_; dsimp only) | fail)
  (with_reducible refine (Q4.out _).mono ?_)
  rintro e u9 ⟨v4, rfl, o4, x9⟩
  replace S := Kept.mk (S.out.made o4 x9)
  clear x9
  obtain ⟨p4, m4, hu9, -, -⟩ := id o4.ints
  try simp only at hu9
  subst hu9
  clear o4
  go_wp2_with (first | (refine ldiM S.out ?_) | (refine ldiS S.out ?_) | (refine ldiT S.out ?_) | (refine stiM S.out ?_; clear S; intro w9 S) | (refine stiS S.out ?_; clear S; intro w9 S) | (refine stiT S.out ?_; clear S; intro w9 S) | (refine aliM S.out ?_; clear S; intro b9 w9 S) | (refine aliT S.out ?_; clear S; intro b9 w9 S) | (refine wpList_want rfl rfl ?_; dsimp only) | fail)
  apply wp_region_zip [isv _, isv _, isv _, matR ar ac as_, isv _, isv _, matR br bc bs, matR dr dc ds, isv _, matR er ec es] _ (by kernel_rfl)
  case hA => intro V; simp [putAll, dstOf, Act.put]; exact rfl
  case hsl => intro V; exact rfl
  case step =>
    intro V lo up w' hr
    have S := Kept.mk (S.out.quiet hr)
    simp only [zipOk, depsImp, isv, matR, modeNg, newb, waits, Region.binds, List.map_nil, List.map_cons, List.headD_cons, List.nil_append, List.cons_append, List.filterMap_cons, List.filterMap_nil, ↓reduceIte, modeNe, Bool.false_eq_true, true_implies, List.getD_cons_zero, List.getD_cons_succ, and_true]
    refine ⟨?_, ?_, ?_, ?_, ?_, ?_, ?_, ?_, ?_, ?_⟩
    · intros
      (try simp only [*])
      go_wp2_with (first | (refine ldiM S.out ?_) | (refine ldiS S.out ?_) | (refine ldiT S.out ?_) | (refine stiM S.out ?_; clear S; intro w9 S) | (refine stiS S.out ?_; clear S; intro w9 S) | (refine stiT S.out ?_; clear S; intro w9 S) | (refine aliM S.out ?_; clear S; intro b9 w9 S) | (refine aliT S.out ?_; clear S; intro b9 w9 S) | (refine wpList_want rfl rfl ?_; dsimp only) | fail)
      refine stepQ_mk rfl (by simp only [List.getElem?_toArray, List.getElem?_cons_succ, List.getElem?_cons_zero]; exact rfl) ?_
      exact ⟨Ext.refl _, rfl⟩
    · intros
      (try simp only [*])
      go_wp2_with (first | (refine ldiM S.out ?_) | (refine ldiS S.out ?_) | (refine ldiT S.out ?_) | (refine stiM S.out ?_; clear S; intro w9 S) | (refine stiS S.out ?_; clear S; intro w9 S) | (refine stiT S.out ?_; clear S; intro w9 S) | (refine aliM S.out ?_; clear S; intro b9 w9 S) | (refine aliT S.out ?_; clear S; intro b9 w9 S) | (refine wpList_want rfl rfl ?_; dsimp only) | fail)
      refine stepQ_mk rfl (by simp only [List.getElem?_toArray, List.getElem?_cons_succ, List.getElem?_cons_zero]; exact rfl) ?_
      exact ⟨Ext.refl _, rfl⟩
    · intros
      (try simp only [*])
      go_wp2_with (first | (refine ldiM S.out ?_) | (refine ldiS S.out ?_) | (refine ldiT S.out ?_) | (refine stiM S.out ?_; clear S; intro w9 S) | (refine stiS S.out ?_; clear S; intro w9 S) | (refine stiT S.out ?_; clear S; intro w9 S) | (refine aliM S.out ?_; clear S; intro b9 w9 S) | (refine aliT S.out ?_; clear S; intro b9 w9 S) | (refine wpList_want rfl rfl ?_; dsimp only) | fail)
      refine stepQ_mk rfl (by simp only [List.getElem?_toArray, List.getElem?_cons_succ, List.getElem?_cons_zero]; exact rfl) ?_
      exact ⟨Ext.refl _, rfl⟩
    · intros
      go_wp2_with (first | (refine ldiM S.out ?_) | (refine ldiS S.out ?_) | (refine ldiT S.out ?_) | (refine stiM S.out ?_; clear S; intro w9 S) | (refine stiS S.out ?_; clear S; intro w9 S) | (refine stiT S.out ?_; clear S; intro w9 S) | (refine aliM S.out ?_; clear S; intro b9 w9 S) | (refine aliT S.out ?_; clear S; intro b9 w9 S) | (refine wpList_want rfl rfl ?_; dsimp only) | fail)
      (with_reducible refine (JA.out _ _ _ (S.out.grp.o4.arg L0.out) (S.out.grp.o3.arg L1.out)).mono ?_)
      rintro e w9 ⟨v9, rfl, o9, x9⟩
      go_wp2
      refine stepQ_mk rfl (by simp only [List.getElem?_toArray, List.getElem?_cons_succ, List.getElem?_cons_zero]; exact rfl) ?_
      exact ⟨x9, v9, rfl, o9, fun q hq => (o9.block q hq).2⟩
    · intros
      (try simp only [*])
      go_wp2_with (first | (refine ldiM S.out ?_) | (refine ldiS S.out ?_) | (refine ldiT S.out ?_) | (refine stiM S.out ?_; clear S; intro w9 S) | (refine stiS S.out ?_; clear S; intro w9 S) | (refine stiT S.out ?_; clear S; intro w9 S) | (refine aliM S.out ?_; clear S; intro b9 w9 S) | (refine aliT S.out ?_; clear S; intro b9 w9 S) | (refine wpList_want rfl rfl ?_; dsimp only) | fail)
      refine stepQ_mk rfl (by simp only [List.getElem?_toArray, List.getElem?_cons_succ, List.getElem?_cons_zero]; exact rfl) ?_
      exact ⟨Ext.refl _, rfl⟩
    · intros
      (try simp only [*])
      go_wp2_with (first | (refine ldiM S.out ?_) | (refine ldiS S.out ?_) | (refine ldiT S.out ?_) | (refine stiM S.out ?_; clear S; intro w9 S) | (refine stiS S.out ?_; clear S; intro w9 S) | (refine stiT S.out ?_; clear S; intro w9 S) | (refine aliM S.out ?_; clear S; intro b9 w9 S) | (refine aliT S.out ?_; clear S; intro b9 w9 S) | (refine wpList_want rfl rfl ?_; dsimp only) | fail)
      refine stepQ_mk rfl (by simp only [List.getElem?_toArray, List.getElem?_cons_succ, List.getElem?_cons_zero]; exact rfl) ?_
      exact ⟨Ext.refl _, rfl⟩
    · intros
      go_wp2_with (fail)
      (with_reducible refine (JB.out _ _ _ (S.out.grp.o2.arg L2.out) (S.out.grp.o1.arg L3.out)).mono ?_)
      rintro e w9 ⟨v9, rfl, o9, x9⟩
      go_wp2
      refine stepQ_mk rfl (by simp only [List.getElem?_toArray, List.getElem?_cons_succ, List.getElem?_cons_zero]; exact rfl) ?_
      exact ⟨x9, v9, rfl, o9, fun q hq => (o9.block q hq).2⟩
    · intro _ _ _ ⟨v3, e3, o3, b3⟩ _ _ _ ⟨v6, e6, o6, b6⟩
      intros
      go_wp2_with (fail)
      (with_reducible refine (MM.out _ _ _ (o3.arg NJA.out) (o6.arg NJB.out)).mono ?_)
      rintro e w9 ⟨v9, rfl, o9, x9⟩
      go_wp2
      refine stepQ_mk rfl (by simp only [List.getElem?_toArray, List.getElem?_cons_succ, List.getElem?_cons_zero]; exact rfl) ?_
      exact ⟨x9, v9, rfl, o9, fun q hq => (o9.block q hq).2⟩
    · intros
      (try simp only [*])
      go_wp2_with (first | (refine ldiM S.out ?_) | (refine ldiS S.out ?_) | (refine ldiT S.out ?_) | (refine stiM S.out ?_; clear S; intro w9 S) | (refine stiS S.out ?_; clear S; intro w9 S) | (refine stiT S.out ?_; clear S; intro w9 S) | (refine aliM S.out ?_; clear S; intro b9 w9 S) | (refine aliT S.out ?_; clear S; intro b9 w9 S) | (refine wpList_want rfl rfl ?_; dsimp only) | fail)
      refine stepQ_mk rfl (by simp only [List.getElem?_toArray, List.getElem?_cons_succ, List.getElem?_cons_zero]; exact rfl) ?_
      exact ⟨Ext.refl _, rfl⟩
    · intro _ _ _ ⟨v7, e7, o7, b7⟩
      intros
      go_wp2_with (fail)
      (with_reducible refine (SB.out _ _ _ (o7.arg NMM.out) (S.out.grp.o0.arg L4.out)).mono ?_)
      rintro e w9 ⟨v9, rfl, o9, x9⟩
      go_wp2
      refine stepQ_mk rfl (by simp only [List.getElem?_toArray, List.getElem?_cons_succ, List.getElem?_cons_zero]; exact rfl) ?_
      exact ⟨x9, v9, rfl, o9, fun q hq => (o9.block q hq).2⟩
  case hB => kernel_rfl
  case fin =>
    intro V lo up w' hr hf ha
    simp only [factsOk, isv, matR, modeNg, newb, List.map_nil, List.map_cons, List.headD_cons, and_true, Nat.zero_add, Nat.reduceAdd] at hf
    simp only [List.length_cons, List.length_nil, Nat.zero_add, Nat.reduceAdd, List.drop_succ_cons, List.drop_zero]
    obtain ⟨⟨-, -, -, e0⟩, -, -, -, -, -, -, -, -, ⟨l9, -, -, v9, e9, o9, b9⟩⟩ := hf
    clear ha
    rw [e0, e9]
    clear e0 e9
    replace S := Kept.mk (S.out.made (o9.mono l9) hr)
    clear hr l9 b9
    obtain ⟨p9, m9, hu9, -, -⟩ := id o9.ints
    try simp only at hu9
    subst hu9
    clear o9
    go_wp2_with (first | (refine ldiM S.out ?_) | (refine ldiS S.out ?_) | (refine ldiT S.out ?_) | (refine stiM S.out ?_; clear S; intro w9 S) | (refine stiS S.out ?_; clear S; intro w9 S) | (refine stiT S.out ?_; clear S; intro w9 S) | (refine aliM S.out ?_; clear S; intro b9 w9 S) | (refine aliT S.out ?_; clear S; intro b9 w9 S) | (refine wpList_want rfl rfl ?_; dsimp only) | fail)
    exact bodyPost_ret (v := .tuple #[.agg #[.int .i64 R, .int .i64 K, .slice p0 x0.length m0, .int .i64 R, .int .i64 K, .slice p1 x1.length m1, .int .i64 K, .int .i64 C, .slice p2 x2.length m2, .int .i64 K, .int .i64 C, .slice p3 x3.length m3, .int .i64 R, .int .i64 C, .slice p4 x4.length m4, .int .i64 er, .int .i64 ec, .slice p9 es.length m9], .int .i64 t5]) (by exact res2 rfl (by exact (rsiT S.out)) rfl) rfl ⟨_, _, _, _, _, _, rfl, S.out.grp.rev, S.out.ext⟩

end Go.Proofs.Ytkkdikoknegpjaa
