import Derived.Test.YtkkdikoknegpjaaGreatShA
import Derived.Test.YtkkdikoknegpjaaGreatSMul
import Derived.Test.YtkkdikoknegpjaaGreatKV
namespace Go.Proofs.YtkkdikoknegpjaaGreat
set_option linter.unusedSimpArgs false
set_option linter.unusedVariables false
open Go.RowKit
theorem mat_dec {r c p q : Int} {xs ys : List Int} : (decide (r = p) && decide (c = q) && decide (xs = ys)) = decide ((Mat.mk r c xs) = Mat.mk p q ys) := by
 rw [← Bool.decide_and, ← Bool.decide_and, decide_eq_decide, Mat.mk.injEq, and_assoc]
set_option maxHeartbeats 4000000 in
set_option maxRecDepth 4000 in
theorem impl_product (r0 c0 r1 c1 r2 c2 r3 c3 r4 c4 r5 c5 : Int) (v0 v1 v2 v3 v4 v5 : Value) (x0 x1 x2 x3 x4 x5 : List Int) (w : World) (h0 : Ints w v0 x0) (h1 : Ints w v1 x1) (h2 : Ints w v2 x2) (h3 : Ints w v3 x3) (h4 : Ints w v4 x4) (h5 : Ints w v5 x5) : Calls Tryz.prog 111 #[.agg #[.int .i64 r0, .int .i64 c0, v0, .int .i64 r1, .int .i64 c1, v1, .int .i64 r2, .int .i64 c2, v2, .int .i64 r3, .int .i64 c3, v3, .int .i64 r4, .int .i64 c4, v4, .int .i64 r5, .int .i64 c5, v5]] w (MatPost (prodM ⟨⟨⟨r0, c0, x0⟩, ⟨r1, c1, x1⟩⟩, ⟨⟨r2, c2, x2⟩, ⟨r3, c3, x3⟩⟩, ⟨⟨r4, c4, x4⟩, ⟨r5, c5, x5⟩⟩⟩) w) := by
 unfold MatPost prodM
 simp only
 obtain ⟨s0, n0, rfl, hm9, hc9⟩ := id h0
 clear hm9 hc9
 have H0 := kp h0
 clear h0
 obtain ⟨s1, n1, rfl, hm9, hc9⟩ := id h1
 clear hm9 hc9
 have H1 := kp h1
 clear h1
 obtain ⟨s2, n2, rfl, hm9, hc9⟩ := id h2
 clear hm9 hc9
 have H2 := kp h2
 clear h2
 obtain ⟨s3, n3, rfl, hm9, hc9⟩ := id h3
 clear hm9 hc9
 have H3 := kp h3
 clear h3
 obtain ⟨s4, n4, rfl, hm9, hc9⟩ := id h4
 clear hm9 hc9
 have H4 := kp h4
 clear h4
 obtain ⟨s5, n5, rfl, hm9, hc9⟩ := id h5
 clear hm9 hc9
 have H5 := kp h5
 clear h5
 have JA := kp (fun w' (hx : Ext w w') => impl_JoinMatrix r0 c0 r1 c1 _ _ x0 x1 w' (H0.out.keep hx) (H1.out.keep hx))
 unfold MatPost at JA
 have JB := kp (fun w' (hx : Ext w w') => impl_JoinMatrix r2 c2 r3 c3 _ _ x2 x3 w' (H2.out.keep hx) (H3.out.keep hx))
 unfold MatPost at JB
 generalize joinM ⟨⟨r0, c0, x0⟩, ⟨r1, c1, x1⟩⟩ = DA at *
 obtain ⟨dar, dac, das⟩ := DA
 simp only at JA
 generalize joinM ⟨⟨r2, c2, x2⟩, ⟨r3, c3, x3⟩⟩ = DB at *
 obtain ⟨dbr, dbc, dbs⟩ := DB
 simp only at JB
 have MM := kp (fun v u w' (h1 : Ints w' v das) (h2 : Ints w' u dbs) (hf : Fit v) => impl_MulMatrices dar dac dbr dbc v u das dbs w' h1 h2 hf)
 unfold MatPost at MM
 generalize mulM ⟨dar, dac, das⟩ ⟨dbr, dbc, dbs⟩ = DP at *
 obtain ⟨dpr, dpc, dps⟩ := DP
 simp only at MM
 have X := kp (((Ext.refl w).alloc (.cells #[.int .i64 r0, .int .i64 c0, .slice s0 x0.length n0, .int .i64 r1, .int .i64 c1, .slice s1 x1.length n1, .int .i64 r2, .int .i64 c2, .slice s2 x2.length n2, .int .i64 r3, .int .i64 c3, .slice s3 x3.length n3, .int .i64 r4, .int .i64 c4, .slice s4 x4.length n4, .int .i64 r5, .int .i64 c5, .slice s5 x5.length n5] 71)).alloc (.cells #[.int .i64 0, .int .i64 0, .slice none 0 0] 28))
 have kA := (Blk.new w #[.int .i64 r0, .int .i64 c0, .slice s0 x0.length n0, .int .i64 r1, .int .i64 c1, .slice s1 x1.length n1, .int .i64 r2, .int .i64 c2, .slice s2 x2.length n2, .int .i64 r3, .int .i64 c3, .slice s3 x3.length n3, .int .i64 r4, .int .i64 c4, .slice s4 x4.length n4, .int .i64 r5, .int .i64 c5, .slice s5 x5.length n5] 71).old (.cells #[.int .i64 0, .int .i64 0, .slice none 0 0] 28)
 have kR := Blk.new (w.alloc (.cells #[.int .i64 r0, .int .i64 c0, .slice s0 x0.length n0, .int .i64 r1, .int .i64 c1, .slice s1 x1.length n1, .int .i64 r2, .int .i64 c2, .slice s2 x2.length n2, .int .i64 r3, .int .i64 c3, .slice s3 x3.length n3, .int .i64 r4, .int .i64 c4, .slice s4 x4.length n4, .int .i64 r5, .int .i64 c5, .slice s5 x5.length n5] 71)) #[.int .i64 0, .int .i64 0, .slice none 0 0] 28
 simp only [World.size_alloc] at kR
 go_enter Tryz.func111, Tryz.ntmps111
 obtain ⟨akA0, akA1, akA2, akA3, akA4, akA5, akA6, akA7, akA8, akA9, akA10, akA11, akA12, akA13, akA14, akA15, akA16, akA17⟩ := kA.c18
 go_wp2_with (fail)
 clear akA0 akA1 akA2 akA3 akA4 akA5 akA6 akA7 akA8 akA9 akA10 akA11 akA12 akA13 akA14 akA15 akA16 akA17
 apply wp_region_zip [isv _, isv _, matR dar dac das, isv _, isv _, matR dbr dbc dbs, matR dpr dpc dps] _ (by kernel_rfl)
 case hA => intro V; simp [putAll, dstOf, Act.put]; exact rfl
 case hsl => intro V; exact rfl
 case step =>
  intro V lo up w' hr
  obtain ⟨hcr, hzr⟩ := hr.cells
  have hsr := hr.size
  have kA := kA.keep hr
  have kR := kR.keep hr
  have hxr := X.out.trans hr
  obtain ⟨akA0, akA1, akA2, akA3, akA4, akA5, akA6, akA7, akA8, akA9, akA10, akA11, akA12, akA13, akA14, akA15, akA16, akA17⟩ := kA.c18
  simp only [zipOk, depsImp, isv, matR, modeNg, newb, waits, Region.binds, List.map_nil, List.map_cons, List.headD_cons, List.nil_append, List.cons_append, List.filterMap_cons, List.filterMap_nil, ↓reduceIte, modeNe, Bool.false_eq_true, true_implies, List.getD_cons_zero, List.getD_cons_succ, and_true]
  refine ⟨?_, ?_, ?_, ?_, ?_, ?_, ?_⟩
  ·intros
   go_wp2
   refine sQ ?_
   exact eZ
  ·intros
   go_wp2
   refine sQ ?_
   exact eZ
  ·intros
   go_wp2_with (fail)
   (with_reducible refine (JA.out _ hxr).mono ?_)
   rintro e w9 ⟨v9, rfl, o9, x9⟩
   go_wp2
   refine sQ ?_
   exact ⟨x9, v9, rfl, o9, fun q hq => (o9.block q hq).2⟩
  ·intros
   go_wp2
   refine sQ ?_
   exact eZ
  ·intros
   go_wp2
   refine sQ ?_
   exact eZ
  ·intros
   go_wp2_with (fail)
   (with_reducible refine (JB.out _ hxr).mono ?_)
   rintro e w9 ⟨v9, rfl, o9, x9⟩
   go_wp2
   refine sQ ?_
   exact ⟨x9, v9, rfl, o9, fun q hq => (o9.block q hq).2⟩
  intro _ _ _ ⟨v2, e2, o2, b2⟩ _ _ _ ⟨v5, e5, o5, b5⟩
  intros
  go_wp2_with (fail)
  (with_reducible refine (MM.out _ _ _ o2.ints o5.ints o2.fit).mono ?_)
  rintro e w9 ⟨v9, rfl, o9, x9⟩
  go_wp2
  refine sQ ?_
  exact ⟨x9, v9, rfl, o9, fun q hq => (o9.block q hq).2⟩
 case hB => kernel_rfl
 intro V lo up w' hr hf ha
 simp only [factsOk, isv, matR, modeNg, newb, List.map_nil, List.map_cons, List.headD_cons, and_true, Nat.zero_add, Nat.reduceAdd] at hf
 simp only [List.length_cons, List.length_nil, Nat.zero_add, Nat.reduceAdd, List.drop_succ_cons, List.drop_zero]
 obtain ⟨-, -, ⟨l2, -, -, v2, e2, o2, b2⟩, -, -, ⟨l5, -, -, v5, e5, o5, b5⟩, ⟨l6, -, -, v6, e6, o6, b6⟩⟩ := hf
 clear ha
 replace kA := kA.keep hr
 replace kR := kR.keep hr
 replace o6 := o6.mono (Nat.le_trans X.out.size l6)
 replace X := kp (X.out.trans hr)
 clear hr
 try clear hc hz
 obtain ⟨pP, mP, huP, -, -⟩ := id o6.ints
 try simp only at huP
 subst huP
 rw [e6]
 clear e6 l6 b6
 have oP := o6
 clear o6
 try clear o2 o5 e2 e5 b2 b5
 have ne9 := kp (oP.ne kR (by decide))
 have OO := kp oP
 obtain ⟨r0, r1, r2⟩ := kR.three
 have rf := kR.free
 clear kA kR oP
 go_wp2
 exact bodyPost_ret (v := .agg #[.int .i64 dpr, .int .i64 dpc, .slice pP dps.length mP]) (by simp [results, Tryz.results111, go_sem, *]) rfl ⟨_, rfl, OO.out.other3 ne9.out _ _ _, X.out.other3 (by show w.heap.size ≤ w.heap.size + 1; omega) _ _ _⟩
theorem pairM_len (op : Int → Int → Int) (a b : Mat) : (pairM op a b).xs.length ≤ 1048576 := by
 unfold pairM
 split
 ·rename_i h
  simp only [Bool.and_eq_true] at h
  obtain ⟨R, C, f, rfl, hR, hC, _⟩ := Mat.ok_form h.1.1
  simp only [mapTo_len, Fm_len]
  have := Nat.mul_le_mul hR.hi hC.hi
  omega
 exact Nat.zero_le _
theorem join_len (a : ShM) : (joinM a).xs.length ≤ 1048576 := pairM_len _ _ _
theorem triple_apart {r0 c0 r1 c1 r2 c2 r3 c3 r4 c4 r5 c5 : Int} {x0 x1 x2 x3 x4 x5 : List Int} (g1 : (mOk r0 c0 x0 && mOk r1 c1 x1 && (decide (r0 = r1) && decide (c0 = c1))) = true) (g2 : (mOk r2 c2 x2 && mOk r3 c3 x3 && (decide (r2 = r3) && decide (c2 = c3))) = true) (g3 : (mOk r4 c4 x4 && mOk r5 c5 x5 && (decide (r4 = r5) && decide (c4 = c5))) = true) (g4 : ¬ c0 = r2) : ¬ joinM ⟨⟨r4, c4, x4⟩, ⟨r5, c5, x5⟩⟩ = prodM ⟨⟨⟨r0, c0, x0⟩, ⟨r1, c1, x1⟩⟩, ⟨⟨r2, c2, x2⟩, ⟨r3, c3, x3⟩⟩, ⟨⟨r4, c4, x4⟩, ⟨r5, c5, x5⟩⟩⟩ := by
 have a1 : ShM.ok ⟨⟨r0, c0, x0⟩, ⟨r1, c1, x1⟩⟩ = true := g1
 have a2 : ShM.ok ⟨⟨r2, c2, x2⟩, ⟨r3, c3, x3⟩⟩ = true := g2
 have a3 : ShM.ok ⟨⟨r4, c4, x4⟩, ⟨r5, c5, x5⟩⟩ = true := g3
 obtain ⟨R, C, f, g, e1, hR, hC, hf, hg⟩ := ShM.ok_form a1
 obtain ⟨R', C', f', g', e2, hR', hC', hf', hg'⟩ := ShM.ok_form a2
 obtain ⟨R2, C2, f2, g2', e3, hR2, hC2, hf2, hg2⟩ := ShM.ok_form a3
 unfold prodM
 simp only
 have q1 : c0 = (C : Int) := congrArg (fun s => s.f.c) e1
 have q2 : r2 = (R' : Int) := congrArg (fun s => s.f.r) e2
 rw [e1, e2, e3]
 unfold joinM
 simp only
 rw [addM_Fm hR hC hf hg, addM_Fm hR' hC' hf' hg', addM_Fm hR2 hC2 hf2 hg2]
 intro e
 have hz : mulM (Fm R C fun i => ring (f i + g i)) (Fm R' C' fun i => ring (f' i + g' i)) = matZ := by
  unfold mulM
  rw [if_neg]
  intro h9
  simp only [Bool.and_eq_true, decide_eq_true_eq] at h9
  have h8 : (C : Int) = R' := h9.2
  omega
 rw [hz] at e
 have h1 : (R2 : Int) = 0 := congrArg Mat.r e
 have := hR2.lo
 omega
set_option maxHeartbeats 8000000 in
set_option maxRecDepth 4000 in
theorem impl_MatrixTripleRight (r0 c0 r1 c1 r2 c2 r3 c3 r4 c4 r5 c5 : Int) (v0 v1 v2 v3 v4 v5 : Value) (x0 x1 x2 x3 x4 x5 : List Int) (w : World) (h0 : Ints w v0 x0) (h1 : Ints w v1 x1) (h2 : Ints w v2 x2) (h3 : Ints w v3 x3) (h4 : Ints w v4 x4) (h5 : Ints w v5 x5) (b : Bool) (h : TrM.ok ⟨⟨⟨r0, c0, x0⟩, ⟨r1, c1, x1⟩⟩, ⟨⟨r2, c2, x2⟩, ⟨r3, c3, x3⟩⟩, ⟨⟨r4, c4, x4⟩, ⟨r5, c5, x5⟩⟩⟩ = b) : Calls Tryz.prog 112 #[.agg #[.int .i64 r0, .int .i64 c0, v0, .int .i64 r1, .int .i64 c1, v1, .int .i64 r2, .int .i64 c2, v2, .int .i64 r3, .int .i64 c3, v3, .int .i64 r4, .int .i64 c4, v4, .int .i64 r5, .int .i64 c5, v5]] w fun e w' => e = .returned (.bool b) ∧ Ext w w' := by
 cases g1 : (mOk r0 c0 x0 && mOk r1 c1 x1 && (decide (r0 = r1) && decide (c0 = c1)))
 ·obtain rfl : b = false := by rw [← h]; unfold TrM.ok ShM.ok Mat.ok sameS; simp only; rw [g1]; simp
  clear h
  obtain ⟨s0, n0, rfl, hm9, hc9⟩ := id h0
  clear hm9 hc9
  have H0 := kp h0
  clear h0
  obtain ⟨s1, n1, rfl, hm9, hc9⟩ := id h1
  clear hm9 hc9
  have H1 := kp h1
  clear h1
  obtain ⟨s2, n2, rfl, hm9, hc9⟩ := id h2
  clear hm9 hc9
  have H2 := kp h2
  clear h2
  obtain ⟨s3, n3, rfl, hm9, hc9⟩ := id h3
  clear hm9 hc9
  have H3 := kp h3
  clear h3
  obtain ⟨s4, n4, rfl, hm9, hc9⟩ := id h4
  clear hm9 hc9
  have H4 := kp h4
  clear h4
  obtain ⟨s5, n5, rfl, hm9, hc9⟩ := id h5
  clear hm9 hc9
  have H5 := kp h5
  clear h5
  have VM0 : Kept (∀ w', Ext w w' → Calls Tryz.prog 30 #[.agg #[.int .i64 r0, .int .i64 c0, .slice s0 x0.length n0, .int .i64 r1, .int .i64 c1, .slice s1 x1.length n1]] w' fun e w'' => e = .returned (.bool false) ∧ Ext w' w'') := ⟨fun w' hx => impl_SharedMatrixValid r0 c0 r1 c1 _ _ x0 x1 false g1 w' (H0.out.keep hx) (H1.out.keep hx)⟩
  clear g1
  have X := kp ((Ext.refl w).alloc (.cells #[.int .i64 r0, .int .i64 c0, .slice s0 x0.length n0, .int .i64 r1, .int .i64 c1, .slice s1 x1.length n1, .int .i64 r2, .int .i64 c2, .slice s2 x2.length n2, .int .i64 r3, .int .i64 c3, .slice s3 x3.length n3, .int .i64 r4, .int .i64 c4, .slice s4 x4.length n4, .int .i64 r5, .int .i64 c5, .slice s5 x5.length n5] 71))
  have kA := Blk.new w #[.int .i64 r0, .int .i64 c0, .slice s0 x0.length n0, .int .i64 r1, .int .i64 c1, .slice s1 x1.length n1, .int .i64 r2, .int .i64 c2, .slice s2 x2.length n2, .int .i64 r3, .int .i64 c3, .slice s3 x3.length n3, .int .i64 r4, .int .i64 c4, .slice s4 x4.length n4, .int .i64 r5, .int .i64 c5, .slice s5 x5.length n5] 71
  go_enter Tryz.func112, Tryz.ntmps112
  obtain ⟨akA0, akA1, akA2, akA3, akA4, akA5, akA6, akA7, akA8, akA9, akA10, akA11, akA12, akA13, akA14, akA15, akA16, akA17⟩ := kA.c18
  go_wp2_with (fail)
  clear akA0 akA1 akA2 akA3 akA4 akA5 akA6 akA7 akA8 akA9 akA10 akA11 akA12 akA13 akA14 akA15 akA16 akA17
  (with_reducible refine (VM0.out _ X.out).mono ?_)
  rintro e u1 ⟨rfl, x9⟩
  replace X := kp (X.out.trans x9)
  replace kA := kA.keep x9
  clear x9
  obtain ⟨akA0, akA1, akA2, akA3, akA4, akA5, akA6, akA7, akA8, akA9, akA10, akA11, akA12, akA13, akA14, akA15, akA16, akA17⟩ := kA.c18
  clear kA
  go_wp2
  go_ret
  exact ⟨rfl, X.out⟩
 cases g2 : (mOk r2 c2 x2 && mOk r3 c3 x3 && (decide (r2 = r3) && decide (c2 = c3)))
 ·obtain rfl : b = false := by rw [← h]; unfold TrM.ok ShM.ok Mat.ok sameS; simp only; rw [g1, g2]; simp
  clear h
  obtain ⟨s0, n0, rfl, hm9, hc9⟩ := id h0
  clear hm9 hc9
  have H0 := kp h0
  clear h0
  obtain ⟨s1, n1, rfl, hm9, hc9⟩ := id h1
  clear hm9 hc9
  have H1 := kp h1
  clear h1
  obtain ⟨s2, n2, rfl, hm9, hc9⟩ := id h2
  clear hm9 hc9
  have H2 := kp h2
  clear h2
  obtain ⟨s3, n3, rfl, hm9, hc9⟩ := id h3
  clear hm9 hc9
  have H3 := kp h3
  clear h3
  obtain ⟨s4, n4, rfl, hm9, hc9⟩ := id h4
  clear hm9 hc9
  have H4 := kp h4
  clear h4
  obtain ⟨s5, n5, rfl, hm9, hc9⟩ := id h5
  clear hm9 hc9
  have H5 := kp h5
  clear h5
  have VM0 : Kept (∀ w', Ext w w' → Calls Tryz.prog 30 #[.agg #[.int .i64 r0, .int .i64 c0, .slice s0 x0.length n0, .int .i64 r1, .int .i64 c1, .slice s1 x1.length n1]] w' fun e w'' => e = .returned (.bool true) ∧ Ext w' w'') := ⟨fun w' hx => impl_SharedMatrixValid r0 c0 r1 c1 _ _ x0 x1 true g1 w' (H0.out.keep hx) (H1.out.keep hx)⟩
  have VM1 : Kept (∀ w', Ext w w' → Calls Tryz.prog 30 #[.agg #[.int .i64 r2, .int .i64 c2, .slice s2 x2.length n2, .int .i64 r3, .int .i64 c3, .slice s3 x3.length n3]] w' fun e w'' => e = .returned (.bool false) ∧ Ext w' w'') := ⟨fun w' hx => impl_SharedMatrixValid r2 c2 r3 c3 _ _ x2 x3 false g2 w' (H2.out.keep hx) (H3.out.keep hx)⟩
  clear g1 g2
  have X := kp ((Ext.refl w).alloc (.cells #[.int .i64 r0, .int .i64 c0, .slice s0 x0.length n0, .int .i64 r1, .int .i64 c1, .slice s1 x1.length n1, .int .i64 r2, .int .i64 c2, .slice s2 x2.length n2, .int .i64 r3, .int .i64 c3, .slice s3 x3.length n3, .int .i64 r4, .int .i64 c4, .slice s4 x4.length n4, .int .i64 r5, .int .i64 c5, .slice s5 x5.length n5] 71))
  have kA := Blk.new w #[.int .i64 r0, .int .i64 c0, .slice s0 x0.length n0, .int .i64 r1, .int .i64 c1, .slice s1 x1.length n1, .int .i64 r2, .int .i64 c2, .slice s2 x2.length n2, .int .i64 r3, .int .i64 c3, .slice s3 x3.length n3, .int .i64 r4, .int .i64 c4, .slice s4 x4.length n4, .int .i64 r5, .int .i64 c5, .slice s5 x5.length n5] 71
  go_enter Tryz.func112, Tryz.ntmps112
  obtain ⟨akA0, akA1, akA2, akA3, akA4, akA5, akA6, akA7, akA8, akA9, akA10, akA11, akA12, akA13, akA14, akA15, akA16, akA17⟩ := kA.c18
  go_wp2_with (fail)
  clear akA0 akA1 akA2 akA3 akA4 akA5 akA6 akA7 akA8 akA9 akA10 akA11 akA12 akA13 akA14 akA15 akA16 akA17
  (with_reducible refine (VM0.out _ X.out).mono ?_)
  rintro e u1 ⟨rfl, x9⟩
  replace X := kp (X.out.trans x9)
  replace kA := kA.keep x9
  clear x9
  obtain ⟨akA0, akA1, akA2, akA3, akA4, akA5, akA6, akA7, akA8, akA9, akA10, akA11, akA12, akA13, akA14, akA15, akA16, akA17⟩ := kA.c18
  go_wp2_with (fail)
  clear akA0 akA1 akA2 akA3 akA4 akA5 akA6 akA7 akA8 akA9 akA10 akA11 akA12 akA13 akA14 akA15 akA16 akA17
  (with_reducible refine (VM1.out _ X.out).mono ?_)
  rintro e u2 ⟨rfl, x9⟩
  replace X := kp (X.out.trans x9)
  replace kA := kA.keep x9
  clear x9
  obtain ⟨akA0, akA1, akA2, akA3, akA4, akA5, akA6, akA7, akA8, akA9, akA10, akA11, akA12, akA13, akA14, akA15, akA16, akA17⟩ := kA.c18
  clear kA
  go_wp2
  go_ret
  exact ⟨rfl, X.out⟩
 cases g3 : (mOk r4 c4 x4 && mOk r5 c5 x5 && (decide (r4 = r5) && decide (c4 = c5)))
 ·obtain rfl : b = false := by rw [← h]; unfold TrM.ok ShM.ok Mat.ok sameS; simp only; rw [g1, g2, g3]; simp
  clear h
  obtain ⟨s0, n0, rfl, hm9, hc9⟩ := id h0
  clear hm9 hc9
  have H0 := kp h0
  clear h0
  obtain ⟨s1, n1, rfl, hm9, hc9⟩ := id h1
  clear hm9 hc9
  have H1 := kp h1
  clear h1
  obtain ⟨s2, n2, rfl, hm9, hc9⟩ := id h2
  clear hm9 hc9
  have H2 := kp h2
  clear h2
  obtain ⟨s3, n3, rfl, hm9, hc9⟩ := id h3
  clear hm9 hc9
  have H3 := kp h3
  clear h3
  obtain ⟨s4, n4, rfl, hm9, hc9⟩ := id h4
  clear hm9 hc9
  have H4 := kp h4
  clear h4
  obtain ⟨s5, n5, rfl, hm9, hc9⟩ := id h5
  clear hm9 hc9
  have H5 := kp h5
  clear h5
  have VM0 : Kept (∀ w', Ext w w' → Calls Tryz.prog 30 #[.agg #[.int .i64 r0, .int .i64 c0, .slice s0 x0.length n0, .int .i64 r1, .int .i64 c1, .slice s1 x1.length n1]] w' fun e w'' => e = .returned (.bool true) ∧ Ext w' w'') := ⟨fun w' hx => impl_SharedMatrixValid r0 c0 r1 c1 _ _ x0 x1 true g1 w' (H0.out.keep hx) (H1.out.keep hx)⟩
  have VM1 : Kept (∀ w', Ext w w' → Calls Tryz.prog 30 #[.agg #[.int .i64 r2, .int .i64 c2, .slice s2 x2.length n2, .int .i64 r3, .int .i64 c3, .slice s3 x3.length n3]] w' fun e w'' => e = .returned (.bool true) ∧ Ext w' w'') := ⟨fun w' hx => impl_SharedMatrixValid r2 c2 r3 c3 _ _ x2 x3 true g2 w' (H2.out.keep hx) (H3.out.keep hx)⟩
  have VM2 : Kept (∀ w', Ext w w' → Calls Tryz.prog 30 #[.agg #[.int .i64 r4, .int .i64 c4, .slice s4 x4.length n4, .int .i64 r5, .int .i64 c5, .slice s5 x5.length n5]] w' fun e w'' => e = .returned (.bool false) ∧ Ext w' w'') := ⟨fun w' hx => impl_SharedMatrixValid r4 c4 r5 c5 _ _ x4 x5 false g3 w' (H4.out.keep hx) (H5.out.keep hx)⟩
  clear g1 g2 g3
  have X := kp ((Ext.refl w).alloc (.cells #[.int .i64 r0, .int .i64 c0, .slice s0 x0.length n0, .int .i64 r1, .int .i64 c1, .slice s1 x1.length n1, .int .i64 r2, .int .i64 c2, .slice s2 x2.length n2, .int .i64 r3, .int .i64 c3, .slice s3 x3.length n3, .int .i64 r4, .int .i64 c4, .slice s4 x4.length n4, .int .i64 r5, .int .i64 c5, .slice s5 x5.length n5] 71))
  have kA := Blk.new w #[.int .i64 r0, .int .i64 c0, .slice s0 x0.length n0, .int .i64 r1, .int .i64 c1, .slice s1 x1.length n1, .int .i64 r2, .int .i64 c2, .slice s2 x2.length n2, .int .i64 r3, .int .i64 c3, .slice s3 x3.length n3, .int .i64 r4, .int .i64 c4, .slice s4 x4.length n4, .int .i64 r5, .int .i64 c5, .slice s5 x5.length n5] 71
  go_enter Tryz.func112, Tryz.ntmps112
  obtain ⟨akA0, akA1, akA2, akA3, akA4, akA5, akA6, akA7, akA8, akA9, akA10, akA11, akA12, akA13, akA14, akA15, akA16, akA17⟩ := kA.c18
  go_wp2_with (fail)
  clear akA0 akA1 akA2 akA3 akA4 akA5 akA6 akA7 akA8 akA9 akA10 akA11 akA12 akA13 akA14 akA15 akA16 akA17
  (with_reducible refine (VM0.out _ X.out).mono ?_)
  rintro e u1 ⟨rfl, x9⟩
  replace X := kp (X.out.trans x9)
  replace kA := kA.keep x9
  clear x9
  obtain ⟨akA0, akA1, akA2, akA3, akA4, akA5, akA6, akA7, akA8, akA9, akA10, akA11, akA12, akA13, akA14, akA15, akA16, akA17⟩ := kA.c18
  go_wp2_with (fail)
  clear akA0 akA1 akA2 akA3 akA4 akA5 akA6 akA7 akA8 akA9 akA10 akA11 akA12 akA13 akA14 akA15 akA16 akA17
  (with_reducible refine (VM1.out _ X.out).mono ?_)
  rintro e u2 ⟨rfl, x9⟩
  replace X := kp (X.out.trans x9)
  replace kA := kA.keep x9
  clear x9
  obtain ⟨akA0, akA1, akA2, akA3, akA4, akA5, akA6, akA7, akA8, akA9, akA10, akA11, akA12, akA13, akA14, akA15, akA16, akA17⟩ := kA.c18
  go_wp2_with (fail)
  clear akA0 akA1 akA2 akA3 akA4 akA5 akA6 akA7 akA8 akA9 akA10 akA11 akA12 akA13 akA14 akA15 akA16 akA17
  (with_reducible refine (VM2.out _ X.out).mono ?_)
  rintro e u3 ⟨rfl, x9⟩
  replace X := kp (X.out.trans x9)
  replace kA := kA.keep x9
  clear x9
  obtain ⟨akA0, akA1, akA2, akA3, akA4, akA5, akA6, akA7, akA8, akA9, akA10, akA11, akA12, akA13, akA14, akA15, akA16, akA17⟩ := kA.c18
  clear kA
  go_wp2
  go_ret
  exact ⟨rfl, X.out⟩
 have hb : decide (joinM ⟨⟨r4, c4, x4⟩, ⟨r5, c5, x5⟩⟩ = prodM ⟨⟨⟨r0, c0, x0⟩, ⟨r1, c1, x1⟩⟩, ⟨⟨r2, c2, x2⟩, ⟨r3, c3, x3⟩⟩, ⟨⟨r4, c4, x4⟩, ⟨r5, c5, x5⟩⟩⟩) = b := by rw [← h]; unfold TrM.ok ShM.ok Mat.ok sameS; simp only; rw [g1, g2, g3]; simp
 clear h
 obtain ⟨s0, n0, rfl, hm9, hc9⟩ := id h0
 clear hm9 hc9
 have H0 := kp h0
 clear h0
 obtain ⟨s1, n1, rfl, hm9, hc9⟩ := id h1
 clear hm9 hc9
 have H1 := kp h1
 clear h1
 obtain ⟨s2, n2, rfl, hm9, hc9⟩ := id h2
 clear hm9 hc9
 have H2 := kp h2
 clear h2
 obtain ⟨s3, n3, rfl, hm9, hc9⟩ := id h3
 clear hm9 hc9
 have H3 := kp h3
 clear h3
 obtain ⟨s4, n4, rfl, hm9, hc9⟩ := id h4
 clear hm9 hc9
 have H4 := kp h4
 clear h4
 obtain ⟨s5, n5, rfl, hm9, hc9⟩ := id h5
 clear hm9 hc9
 have H5 := kp h5
 clear h5
 have VM0 : Kept (∀ w', Ext w w' → Calls Tryz.prog 30 #[.agg #[.int .i64 r0, .int .i64 c0, .slice s0 x0.length n0, .int .i64 r1, .int .i64 c1, .slice s1 x1.length n1]] w' fun e w'' => e = .returned (.bool true) ∧ Ext w' w'') := ⟨fun w' hx => impl_SharedMatrixValid r0 c0 r1 c1 _ _ x0 x1 true g1 w' (H0.out.keep hx) (H1.out.keep hx)⟩
 have VM1 : Kept (∀ w', Ext w w' → Calls Tryz.prog 30 #[.agg #[.int .i64 r2, .int .i64 c2, .slice s2 x2.length n2, .int .i64 r3, .int .i64 c3, .slice s3 x3.length n3]] w' fun e w'' => e = .returned (.bool true) ∧ Ext w' w'') := ⟨fun w' hx => impl_SharedMatrixValid r2 c2 r3 c3 _ _ x2 x3 true g2 w' (H2.out.keep hx) (H3.out.keep hx)⟩
 have VM2 : Kept (∀ w', Ext w w' → Calls Tryz.prog 30 #[.agg #[.int .i64 r4, .int .i64 c4, .slice s4 x4.length n4, .int .i64 r5, .int .i64 c5, .slice s5 x5.length n5]] w' fun e w'' => e = .returned (.bool true) ∧ Ext w' w'') := ⟨fun w' hx => impl_SharedMatrixValid r4 c4 r5 c5 _ _ x4 x5 true g3 w' (H4.out.keep hx) (H5.out.keep hx)⟩
 clear g1 g2 g3
 have JC := kp (fun w' (hx : Ext w w') => impl_JoinMatrix r4 c4 r5 c5 _ _ x4 x5 w' (H4.out.keep hx) (H5.out.keep hx))
 unfold MatPost at JC
 have PP := kp (fun w' (hx : Ext w w') => impl_product r0 c0 r1 c1 r2 c2 r3 c3 r4 c4 r5 c5 _ _ _ _ _ _ x0 x1 x2 x3 x4 x5 w' (H0.out.keep hx) (H1.out.keep hx) (H2.out.keep hx) (H3.out.keep hx) (H4.out.keep hx) (H5.out.keep hx))
 unfold MatPost at PP
 generalize prodM ⟨⟨⟨r0, c0, x0⟩, ⟨r1, c1, x1⟩⟩, ⟨⟨r2, c2, x2⟩, ⟨r3, c3, x3⟩⟩, ⟨⟨r4, c4, x4⟩, ⟨r5, c5, x5⟩⟩⟩ = DP at *
 obtain ⟨dpr, dpc, dps⟩ := DP
 simp only at PP
 generalize joinM ⟨⟨r4, c4, x4⟩, ⟨r5, c5, x5⟩⟩ = DC at *
 obtain ⟨dcr, dcc, dcs⟩ := DC
 simp only at JC
 have SM := kp (fun v u w' (h1 : Ints w' v dcs) (h2 : Ints w' u dps) => impl_sameMatrix dcr dcc dpr dpc v u dcs dps b (by rw [← hb]; exact mat_dec) w' h1 h2)
 clear hb
 have X := kp ((Ext.refl w).alloc (.cells #[.int .i64 r0, .int .i64 c0, .slice s0 x0.length n0, .int .i64 r1, .int .i64 c1, .slice s1 x1.length n1, .int .i64 r2, .int .i64 c2, .slice s2 x2.length n2, .int .i64 r3, .int .i64 c3, .slice s3 x3.length n3, .int .i64 r4, .int .i64 c4, .slice s4 x4.length n4, .int .i64 r5, .int .i64 c5, .slice s5 x5.length n5] 71))
 have kA := Blk.new w #[.int .i64 r0, .int .i64 c0, .slice s0 x0.length n0, .int .i64 r1, .int .i64 c1, .slice s1 x1.length n1, .int .i64 r2, .int .i64 c2, .slice s2 x2.length n2, .int .i64 r3, .int .i64 c3, .slice s3 x3.length n3, .int .i64 r4, .int .i64 c4, .slice s4 x4.length n4, .int .i64 r5, .int .i64 c5, .slice s5 x5.length n5] 71
 go_enter Tryz.func112, Tryz.ntmps112
 obtain ⟨akA0, akA1, akA2, akA3, akA4, akA5, akA6, akA7, akA8, akA9, akA10, akA11, akA12, akA13, akA14, akA15, akA16, akA17⟩ := kA.c18
 go_wp2_with (fail)
 clear akA0 akA1 akA2 akA3 akA4 akA5 akA6 akA7 akA8 akA9 akA10 akA11 akA12 akA13 akA14 akA15 akA16 akA17
 (with_reducible refine (VM0.out _ X.out).mono ?_)
 rintro e u1 ⟨rfl, x9⟩
 replace X := kp (X.out.trans x9)
 replace kA := kA.keep x9
 clear x9
 obtain ⟨akA0, akA1, akA2, akA3, akA4, akA5, akA6, akA7, akA8, akA9, akA10, akA11, akA12, akA13, akA14, akA15, akA16, akA17⟩ := kA.c18
 go_wp2_with (fail)
 clear akA0 akA1 akA2 akA3 akA4 akA5 akA6 akA7 akA8 akA9 akA10 akA11 akA12 akA13 akA14 akA15 akA16 akA17
 (with_reducible refine (VM1.out _ X.out).mono ?_)
 rintro e u2 ⟨rfl, x9⟩
 replace X := kp (X.out.trans x9)
 replace kA := kA.keep x9
 clear x9
 obtain ⟨akA0, akA1, akA2, akA3, akA4, akA5, akA6, akA7, akA8, akA9, akA10, akA11, akA12, akA13, akA14, akA15, akA16, akA17⟩ := kA.c18
 go_wp2_with (fail)
 clear akA0 akA1 akA2 akA3 akA4 akA5 akA6 akA7 akA8 akA9 akA10 akA11 akA12 akA13 akA14 akA15 akA16 akA17
 (with_reducible refine (VM2.out _ X.out).mono ?_)
 rintro e u3 ⟨rfl, x9⟩
 replace X := kp (X.out.trans x9)
 replace kA := kA.keep x9
 clear x9
 obtain ⟨akA0, akA1, akA2, akA3, akA4, akA5, akA6, akA7, akA8, akA9, akA10, akA11, akA12, akA13, akA14, akA15, akA16, akA17⟩ := kA.c18
 go_wp2_with (fail)
 clear akA0 akA1 akA2 akA3 akA4 akA5 akA6 akA7 akA8 akA9 akA10 akA11 akA12 akA13 akA14 akA15 akA16 akA17
 apply wp_region_zip [isv _, isv _, matR dcr dcc dcs, isv _, matR dpr dpc dps, isv _] _ (by kernel_rfl)
 case hA => intro V; simp [putAll, dstOf, Act.put]; exact rfl
 case hsl => intro V; exact rfl
 case step =>
  intro V lo up w' hr
  obtain ⟨hcr, hzr⟩ := hr.cells
  have hsr := hr.size
  have kA := kA.keep hr
  have hxr := X.out.trans hr
  obtain ⟨akA0, akA1, akA2, akA3, akA4, akA5, akA6, akA7, akA8, akA9, akA10, akA11, akA12, akA13, akA14, akA15, akA16, akA17⟩ := kA.c18
  simp only [zipOk, depsImp, isv, matR, modeNg, newb, waits, Region.binds, List.map_nil, List.map_cons, List.headD_cons, List.nil_append, List.cons_append, List.filterMap_cons, List.filterMap_nil, ↓reduceIte, modeNe, Bool.false_eq_true, true_implies, List.getD_cons_zero, List.getD_cons_succ, and_true]
  refine ⟨?_, ?_, ?_, ?_, ?_, ?_⟩
  ·intros
   go_wp2
   refine sQ ?_
   exact eZ
  ·intros
   go_wp2
   refine sQ ?_
   exact eZ
  ·intros
   go_wp2_with (fail)
   (with_reducible refine (JC.out _ hxr).mono ?_)
   rintro e w9 ⟨v9, rfl, o9, x9⟩
   go_wp2
   refine sQ ?_
   exact ⟨x9, v9, rfl, o9, fun q hq => (o9.block q hq).2⟩
  ·intros
   go_wp2
   refine sQ ?_
   exact eZ
  ·intros
   go_wp2_with (fail)
   (with_reducible refine (PP.out _ hxr).mono ?_)
   rintro e w9 ⟨v9, rfl, o9, x9⟩
   go_wp2
   refine sQ ?_
   exact ⟨x9, v9, rfl, o9, fun q hq => (o9.block q hq).2⟩
  intro _ _ _ ⟨v2, e2, o2, b2⟩ _ _ _ ⟨v4, e4, o4, b4⟩
  intros
  go_wp2_with (fail)
  (with_reducible refine (SM.out _ _ _ o2.ints o4.ints).mono ?_)
  rintro e w9 ⟨rfl, x9⟩
  go_wp2
  refine sQ ?_
  exact ⟨x9, rfl⟩
 case hB => kernel_rfl
 intro V lo up w' hr hf ha
 simp only [factsOk, isv, matR, modeNg, newb, List.map_nil, List.map_cons, List.headD_cons, and_true, Nat.zero_add, Nat.reduceAdd] at hf
 simp only [List.length_cons, List.length_nil, Nat.zero_add, Nat.reduceAdd, List.drop_succ_cons, List.drop_zero]
 obtain ⟨-, -, -, -, -, ⟨-, -, -, e5⟩⟩ := hf
 clear ha
 replace kA := kA.keep hr
 replace X := kp (X.out.trans hr)
 clear hr
 try clear hc hz
 rw [e5]
 clear e5 kA
 go_wp2
 go_ret
 exact ⟨rfl, X.out⟩
set_option maxHeartbeats 8000000 in
set_option maxRecDepth 4000 in
theorem spec_MatrixTripleRight (r0 c0 r1 c1 r2 c2 r3 c3 r4 c4 r5 c5 : Int) (v0 v1 v2 v3 v4 v5 : Value) (x0 x1 x2 x3 x4 x5 : List Int) (w : World) (h0 : Arg w v0 x0) (h1 : Arg w v1 x1) (h2 : Arg w v2 x2) (h3 : Arg w v3 x3) (h4 : Arg w v4 x4) (h5 : Arg w v5 x5) (b : Bool) (h : TrM.ok ⟨⟨⟨r0, c0, x0⟩, ⟨r1, c1, x1⟩⟩, ⟨⟨r2, c2, x2⟩, ⟨r3, c3, x3⟩⟩, ⟨⟨r4, c4, x4⟩, ⟨r5, c5, x5⟩⟩⟩ = b) : Calls Tryz.prog 81 #[.agg #[.int .i64 r0, .int .i64 c0, v0, .int .i64 r1, .int .i64 c1, v1, .int .i64 r2, .int .i64 c2, v2, .int .i64 r3, .int .i64 c3, v3, .int .i64 r4, .int .i64 c4, v4, .int .i64 r5, .int .i64 c5, v5]] w fun e w' => e = .returned (.bool b) ∧ Ext w w' := by
 cases g1 : (mOk r0 c0 x0 && mOk r1 c1 x1 && (decide (r0 = r1) && decide (c0 = c1)))
 ·obtain rfl : b = false := by rw [← h]; unfold TrM.ok ShM.ok Mat.ok sameS; simp only; rw [g1]; simp
  clear h
  obtain ⟨s0, n0, rfl, hm9, hc9⟩ := id h0.ints
  clear hm9 hc9
  have H0 := kp h0
  clear h0
  obtain ⟨s1, n1, rfl, hm9, hc9⟩ := id h1.ints
  clear hm9 hc9
  have H1 := kp h1
  clear h1
  obtain ⟨s2, n2, rfl, hm9, hc9⟩ := id h2.ints
  clear hm9 hc9
  have H2 := kp h2
  clear h2
  obtain ⟨s3, n3, rfl, hm9, hc9⟩ := id h3.ints
  clear hm9 hc9
  have H3 := kp h3
  clear h3
  obtain ⟨s4, n4, rfl, hm9, hc9⟩ := id h4.ints
  clear hm9 hc9
  have H4 := kp h4
  clear h4
  obtain ⟨s5, n5, rfl, hm9, hc9⟩ := id h5.ints
  clear hm9 hc9
  have H5 := kp h5
  clear h5
  have VM0 : Kept (∀ w', Ext w w' → Calls Tryz.prog 24 #[.agg #[.int .i64 r0, .int .i64 c0, .slice s0 x0.length n0, .int .i64 r1, .int .i64 c1, .slice s1 x1.length n1]] w' fun e w'' => e = .returned (.bool false) ∧ Ext w' w'') := ⟨fun w' hx => spec_SharedMatrixValid r0 c0 r1 c1 _ _ x0 x1 false g1 w' (H0.out.ints.keep hx) (H1.out.ints.keep hx)⟩
  clear g1
  have X := kp ((Ext.refl w).alloc (.cells #[.int .i64 r0, .int .i64 c0, .slice s0 x0.length n0, .int .i64 r1, .int .i64 c1, .slice s1 x1.length n1, .int .i64 r2, .int .i64 c2, .slice s2 x2.length n2, .int .i64 r3, .int .i64 c3, .slice s3 x3.length n3, .int .i64 r4, .int .i64 c4, .slice s4 x4.length n4, .int .i64 r5, .int .i64 c5, .slice s5 x5.length n5] 71))
  have kA := Blk.new w #[.int .i64 r0, .int .i64 c0, .slice s0 x0.length n0, .int .i64 r1, .int .i64 c1, .slice s1 x1.length n1, .int .i64 r2, .int .i64 c2, .slice s2 x2.length n2, .int .i64 r3, .int .i64 c3, .slice s3 x3.length n3, .int .i64 r4, .int .i64 c4, .slice s4 x4.length n4, .int .i64 r5, .int .i64 c5, .slice s5 x5.length n5] 71
  go_enter Tryz.func81, Tryz.ntmps81
  obtain ⟨akA0, akA1, akA2, akA3, akA4, akA5, akA6, akA7, akA8, akA9, akA10, akA11, akA12, akA13, akA14, akA15, akA16, akA17⟩ := kA.c18
  go_wp2_with (fail)
  clear akA0 akA1 akA2 akA3 akA4 akA5 akA6 akA7 akA8 akA9 akA10 akA11 akA12 akA13 akA14 akA15 akA16 akA17
  (with_reducible refine (VM0.out _ X.out).mono ?_)
  rintro e u1 ⟨rfl, x9⟩
  replace X := kp (X.out.trans x9)
  replace kA := kA.keep x9
  clear x9
  obtain ⟨akA0, akA1, akA2, akA3, akA4, akA5, akA6, akA7, akA8, akA9, akA10, akA11, akA12, akA13, akA14, akA15, akA16, akA17⟩ := kA.c18
  clear kA
  go_wp2
  go_ret
  exact ⟨rfl, X.out⟩
 cases g2 : (mOk r2 c2 x2 && mOk r3 c3 x3 && (decide (r2 = r3) && decide (c2 = c3)))
 ·obtain rfl : b = false := by rw [← h]; unfold TrM.ok ShM.ok Mat.ok sameS; simp only; rw [g1, g2]; simp
  clear h
  obtain ⟨s0, n0, rfl, hm9, hc9⟩ := id h0.ints
  clear hm9 hc9
  have H0 := kp h0
  clear h0
  obtain ⟨s1, n1, rfl, hm9, hc9⟩ := id h1.ints
  clear hm9 hc9
  have H1 := kp h1
  clear h1
  obtain ⟨s2, n2, rfl, hm9, hc9⟩ := id h2.ints
  clear hm9 hc9
  have H2 := kp h2
  clear h2
  obtain ⟨s3, n3, rfl, hm9, hc9⟩ := id h3.ints
  clear hm9 hc9
  have H3 := kp h3
  clear h3
  obtain ⟨s4, n4, rfl, hm9, hc9⟩ := id h4.ints
  clear hm9 hc9
  have H4 := kp h4
  clear h4
  obtain ⟨s5, n5, rfl, hm9, hc9⟩ := id h5.ints
  clear hm9 hc9
  have H5 := kp h5
  clear h5
  have VM0 : Kept (∀ w', Ext w w' → Calls Tryz.prog 24 #[.agg #[.int .i64 r0, .int .i64 c0, .slice s0 x0.length n0, .int .i64 r1, .int .i64 c1, .slice s1 x1.length n1]] w' fun e w'' => e = .returned (.bool true) ∧ Ext w' w'') := ⟨fun w' hx => spec_SharedMatrixValid r0 c0 r1 c1 _ _ x0 x1 true g1 w' (H0.out.ints.keep hx) (H1.out.ints.keep hx)⟩
  have VM1 : Kept (∀ w', Ext w w' → Calls Tryz.prog 24 #[.agg #[.int .i64 r2, .int .i64 c2, .slice s2 x2.length n2, .int .i64 r3, .int .i64 c3, .slice s3 x3.length n3]] w' fun e w'' => e = .returned (.bool false) ∧ Ext w' w'') := ⟨fun w' hx => spec_SharedMatrixValid r2 c2 r3 c3 _ _ x2 x3 false g2 w' (H2.out.ints.keep hx) (H3.out.ints.keep hx)⟩
  clear g1 g2
  have X := kp ((Ext.refl w).alloc (.cells #[.int .i64 r0, .int .i64 c0, .slice s0 x0.length n0, .int .i64 r1, .int .i64 c1, .slice s1 x1.length n1, .int .i64 r2, .int .i64 c2, .slice s2 x2.length n2, .int .i64 r3, .int .i64 c3, .slice s3 x3.length n3, .int .i64 r4, .int .i64 c4, .slice s4 x4.length n4, .int .i64 r5, .int .i64 c5, .slice s5 x5.length n5] 71))
  have kA := Blk.new w #[.int .i64 r0, .int .i64 c0, .slice s0 x0.length n0, .int .i64 r1, .int .i64 c1, .slice s1 x1.length n1, .int .i64 r2, .int .i64 c2, .slice s2 x2.length n2, .int .i64 r3, .int .i64 c3, .slice s3 x3.length n3, .int .i64 r4, .int .i64 c4, .slice s4 x4.length n4, .int .i64 r5, .int .i64 c5, .slice s5 x5.length n5] 71
  go_enter Tryz.func81, Tryz.ntmps81
  obtain ⟨akA0, akA1, akA2, akA3, akA4, akA5, akA6, akA7, akA8, akA9, akA10, akA11, akA12, akA13, akA14, akA15, akA16, akA17⟩ := kA.c18
  go_wp2_with (fail)
  clear akA0 akA1 akA2 akA3 akA4 akA5 akA6 akA7 akA8 akA9 akA10 akA11 akA12 akA13 akA14 akA15 akA16 akA17
  (with_reducible refine (VM0.out _ X.out).mono ?_)
  rintro e u1 ⟨rfl, x9⟩
  replace X := kp (X.out.trans x9)
  replace kA := kA.keep x9
  clear x9
  obtain ⟨akA0, akA1, akA2, akA3, akA4, akA5, akA6, akA7, akA8, akA9, akA10, akA11, akA12, akA13, akA14, akA15, akA16, akA17⟩ := kA.c18
  go_wp2_with (fail)
  clear akA0 akA1 akA2 akA3 akA4 akA5 akA6 akA7 akA8 akA9 akA10 akA11 akA12 akA13 akA14 akA15 akA16 akA17
  (with_reducible refine (VM1.out _ X.out).mono ?_)
  rintro e u2 ⟨rfl, x9⟩
  replace X := kp (X.out.trans x9)
  replace kA := kA.keep x9
  clear x9
  obtain ⟨akA0, akA1, akA2, akA3, akA4, akA5, akA6, akA7, akA8, akA9, akA10, akA11, akA12, akA13, akA14, akA15, akA16, akA17⟩ := kA.c18
  clear kA
  go_wp2
  go_ret
  exact ⟨rfl, X.out⟩
 cases g3 : (mOk r4 c4 x4 && mOk r5 c5 x5 && (decide (r4 = r5) && decide (c4 = c5)))
 ·obtain rfl : b = false := by rw [← h]; unfold TrM.ok ShM.ok Mat.ok sameS; simp only; rw [g1, g2, g3]; simp
  clear h
  obtain ⟨s0, n0, rfl, hm9, hc9⟩ := id h0.ints
  clear hm9 hc9
  have H0 := kp h0
  clear h0
  obtain ⟨s1, n1, rfl, hm9, hc9⟩ := id h1.ints
  clear hm9 hc9
  have H1 := kp h1
  clear h1
  obtain ⟨s2, n2, rfl, hm9, hc9⟩ := id h2.ints
  clear hm9 hc9
  have H2 := kp h2
  clear h2
  obtain ⟨s3, n3, rfl, hm9, hc9⟩ := id h3.ints
  clear hm9 hc9
  have H3 := kp h3
  clear h3
  obtain ⟨s4, n4, rfl, hm9, hc9⟩ := id h4.ints
  clear hm9 hc9
  have H4 := kp h4
  clear h4
  obtain ⟨s5, n5, rfl, hm9, hc9⟩ := id h5.ints
  clear hm9 hc9
  have H5 := kp h5
  clear h5
  have VM0 : Kept (∀ w', Ext w w' → Calls Tryz.prog 24 #[.agg #[.int .i64 r0, .int .i64 c0, .slice s0 x0.length n0, .int .i64 r1, .int .i64 c1, .slice s1 x1.length n1]] w' fun e w'' => e = .returned (.bool true) ∧ Ext w' w'') := ⟨fun w' hx => spec_SharedMatrixValid r0 c0 r1 c1 _ _ x0 x1 true g1 w' (H0.out.ints.keep hx) (H1.out.ints.keep hx)⟩
  have VM1 : Kept (∀ w', Ext w w' → Calls Tryz.prog 24 #[.agg #[.int .i64 r2, .int .i64 c2, .slice s2 x2.length n2, .int .i64 r3, .int .i64 c3, .slice s3 x3.length n3]] w' fun e w'' => e = .returned (.bool true) ∧ Ext w' w'') := ⟨fun w' hx => spec_SharedMatrixValid r2 c2 r3 c3 _ _ x2 x3 true g2 w' (H2.out.ints.keep hx) (H3.out.ints.keep hx)⟩
  have VM2 : Kept (∀ w', Ext w w' → Calls Tryz.prog 24 #[.agg #[.int .i64 r4, .int .i64 c4, .slice s4 x4.length n4, .int .i64 r5, .int .i64 c5, .slice s5 x5.length n5]] w' fun e w'' => e = .returned (.bool false) ∧ Ext w' w'') := ⟨fun w' hx => spec_SharedMatrixValid r4 c4 r5 c5 _ _ x4 x5 false g3 w' (H4.out.ints.keep hx) (H5.out.ints.keep hx)⟩
  clear g1 g2 g3
  have X := kp ((Ext.refl w).alloc (.cells #[.int .i64 r0, .int .i64 c0, .slice s0 x0.length n0, .int .i64 r1, .int .i64 c1, .slice s1 x1.length n1, .int .i64 r2, .int .i64 c2, .slice s2 x2.length n2, .int .i64 r3, .int .i64 c3, .slice s3 x3.length n3, .int .i64 r4, .int .i64 c4, .slice s4 x4.length n4, .int .i64 r5, .int .i64 c5, .slice s5 x5.length n5] 71))
  have kA := Blk.new w #[.int .i64 r0, .int .i64 c0, .slice s0 x0.length n0, .int .i64 r1, .int .i64 c1, .slice s1 x1.length n1, .int .i64 r2, .int .i64 c2, .slice s2 x2.length n2, .int .i64 r3, .int .i64 c3, .slice s3 x3.length n3, .int .i64 r4, .int .i64 c4, .slice s4 x4.length n4, .int .i64 r5, .int .i64 c5, .slice s5 x5.length n5] 71
  go_enter Tryz.func81, Tryz.ntmps81
  obtain ⟨akA0, akA1, akA2, akA3, akA4, akA5, akA6, akA7, akA8, akA9, akA10, akA11, akA12, akA13, akA14, akA15, akA16, akA17⟩ := kA.c18
  go_wp2_with (fail)
  clear akA0 akA1 akA2 akA3 akA4 akA5 akA6 akA7 akA8 akA9 akA10 akA11 akA12 akA13 akA14 akA15 akA16 akA17
  (with_reducible refine (VM0.out _ X.out).mono ?_)
  rintro e u1 ⟨rfl, x9⟩
  replace X := kp (X.out.trans x9)
  replace kA := kA.keep x9
  clear x9
  obtain ⟨akA0, akA1, akA2, akA3, akA4, akA5, akA6, akA7, akA8, akA9, akA10, akA11, akA12, akA13, akA14, akA15, akA16, akA17⟩ := kA.c18
  go_wp2_with (fail)
  clear akA0 akA1 akA2 akA3 akA4 akA5 akA6 akA7 akA8 akA9 akA10 akA11 akA12 akA13 akA14 akA15 akA16 akA17
  (with_reducible refine (VM1.out _ X.out).mono ?_)
  rintro e u2 ⟨rfl, x9⟩
  replace X := kp (X.out.trans x9)
  replace kA := kA.keep x9
  clear x9
  obtain ⟨akA0, akA1, akA2, akA3, akA4, akA5, akA6, akA7, akA8, akA9, akA10, akA11, akA12, akA13, akA14, akA15, akA16, akA17⟩ := kA.c18
  go_wp2_with (fail)
  clear akA0 akA1 akA2 akA3 akA4 akA5 akA6 akA7 akA8 akA9 akA10 akA11 akA12 akA13 akA14 akA15 akA16 akA17
  (with_reducible refine (VM2.out _ X.out).mono ?_)
  rintro e u3 ⟨rfl, x9⟩
  replace X := kp (X.out.trans x9)
  replace kA := kA.keep x9
  clear x9
  obtain ⟨akA0, akA1, akA2, akA3, akA4, akA5, akA6, akA7, akA8, akA9, akA10, akA11, akA12, akA13, akA14, akA15, akA16, akA17⟩ := kA.c18
  clear kA
  go_wp2
  go_ret
  exact ⟨rfl, X.out⟩
 have hb : decide (joinM ⟨⟨r4, c4, x4⟩, ⟨r5, c5, x5⟩⟩ = prodM ⟨⟨⟨r0, c0, x0⟩, ⟨r1, c1, x1⟩⟩, ⟨⟨r2, c2, x2⟩, ⟨r3, c3, x3⟩⟩, ⟨⟨r4, c4, x4⟩, ⟨r5, c5, x5⟩⟩⟩) = b := by rw [← h]; unfold TrM.ok ShM.ok Mat.ok sameS; simp only; rw [g1, g2, g3]; simp
 clear h
 obtain ⟨s0, n0, rfl, hm9, hc9⟩ := id h0.ints
 clear hm9 hc9
 have H0 := kp h0
 clear h0
 obtain ⟨s1, n1, rfl, hm9, hc9⟩ := id h1.ints
 clear hm9 hc9
 have H1 := kp h1
 clear h1
 obtain ⟨s2, n2, rfl, hm9, hc9⟩ := id h2.ints
 clear hm9 hc9
 have H2 := kp h2
 clear h2
 obtain ⟨s3, n3, rfl, hm9, hc9⟩ := id h3.ints
 clear hm9 hc9
 have H3 := kp h3
 clear h3
 obtain ⟨s4, n4, rfl, hm9, hc9⟩ := id h4.ints
 clear hm9 hc9
 have H4 := kp h4
 clear h4
 obtain ⟨s5, n5, rfl, hm9, hc9⟩ := id h5.ints
 clear hm9 hc9
 have H5 := kp h5
 clear h5
 have VM0 : Kept (∀ w', Ext w w' → Calls Tryz.prog 24 #[.agg #[.int .i64 r0, .int .i64 c0, .slice s0 x0.length n0, .int .i64 r1, .int .i64 c1, .slice s1 x1.length n1]] w' fun e w'' => e = .returned (.bool true) ∧ Ext w' w'') := ⟨fun w' hx => spec_SharedMatrixValid r0 c0 r1 c1 _ _ x0 x1 true g1 w' (H0.out.ints.keep hx) (H1.out.ints.keep hx)⟩
 have VM1 : Kept (∀ w', Ext w w' → Calls Tryz.prog 24 #[.agg #[.int .i64 r2, .int .i64 c2, .slice s2 x2.length n2, .int .i64 r3, .int .i64 c3, .slice s3 x3.length n3]] w' fun e w'' => e = .returned (.bool true) ∧ Ext w' w'') := ⟨fun w' hx => spec_SharedMatrixValid r2 c2 r3 c3 _ _ x2 x3 true g2 w' (H2.out.ints.keep hx) (H3.out.ints.keep hx)⟩
 have VM2 : Kept (∀ w', Ext w w' → Calls Tryz.prog 24 #[.agg #[.int .i64 r4, .int .i64 c4, .slice s4 x4.length n4, .int .i64 r5, .int .i64 c5, .slice s5 x5.length n5]] w' fun e w'' => e = .returned (.bool true) ∧ Ext w' w'') := ⟨fun w' hx => spec_SharedMatrixValid r4 c4 r5 c5 _ _ x4 x5 true g3 w' (H4.out.ints.keep hx) (H5.out.ints.keep hx)⟩
 by_cases g4 : c0 = r2
 ·have LA := kp (join_len ⟨⟨r0, c0, x0⟩, ⟨r1, c1, x1⟩⟩)
  have LB := kp (join_len ⟨⟨c0, c2, x2⟩, ⟨r3, c3, x3⟩⟩)
  subst g4
  clear g1 g2 g3
  have JC := kp (fun w' (hx : Ext w w') => spec_JoinMatrix r4 c4 r5 c5 _ _ x4 x5 w' (H4.out.keep hx) (H5.out.keep hx))
  unfold MatPost at JC
  have JA := kp (fun w' (hx : Ext w w') => spec_JoinMatrix r0 c0 r1 c1 _ _ x0 x1 w' (H0.out.keep hx) (H1.out.keep hx))
  unfold MatPost at JA
  have JB := kp (fun w' (hx : Ext w w') => spec_JoinMatrix c0 c2 r3 c3 _ _ x2 x3 w' (H2.out.keep hx) (H3.out.keep hx))
  unfold MatPost at JB
  unfold prodM at hb
  simp only at hb
  generalize joinM ⟨⟨r4, c4, x4⟩, ⟨r5, c5, x5⟩⟩ = DC at *
  obtain ⟨dcr, dcc, dcs⟩ := DC
  simp only at JC
  generalize joinM ⟨⟨r0, c0, x0⟩, ⟨r1, c1, x1⟩⟩ = DA at *
  obtain ⟨dar, dac, das⟩ := DA
  simp only at JA LA
  generalize joinM ⟨⟨c0, c2, x2⟩, ⟨r3, c3, x3⟩⟩ = DB at *
  obtain ⟨dbr, dbc, dbs⟩ := DB
  simp only at JB LB
  have NLA : Kept (das.length ≤ 1048576) := ⟨LA.out⟩
  have NLB : Kept (dbs.length ≤ 1048576) := ⟨LB.out⟩
  have MM := kp (fun v u w' (h1 : Arg w' v das) (h2 : Arg w' u dbs) => spec_MulMatrices dar dac dbr dbc v u das dbs w' h1 h2)
  unfold MatPost at MM
  generalize mulM ⟨dar, dac, das⟩ ⟨dbr, dbc, dbs⟩ = DP at *
  obtain ⟨dpr, dpc, dps⟩ := DP
  simp only at MM
  have SM := kp (fun v u w' (h1 : Ints w' v dcs) (h2 : Ints w' u dps) => spec_l8Same dcr dcc dpr dpc v u dcs dps b (by rw [← hb]; exact mat_dec) w' h1 h2)
  clear hb
  have X := kp ((Ext.refl w).alloc (.cells #[.int .i64 r0, .int .i64 c0, .slice s0 x0.length n0, .int .i64 r1, .int .i64 c1, .slice s1 x1.length n1, .int .i64 c0, .int .i64 c2, .slice s2 x2.length n2, .int .i64 r3, .int .i64 c3, .slice s3 x3.length n3, .int .i64 r4, .int .i64 c4, .slice s4 x4.length n4, .int .i64 r5, .int .i64 c5, .slice s5 x5.length n5] 71))
  have kA := Blk.new w #[.int .i64 r0, .int .i64 c0, .slice s0 x0.length n0, .int .i64 r1, .int .i64 c1, .slice s1 x1.length n1, .int .i64 c0, .int .i64 c2, .slice s2 x2.length n2, .int .i64 r3, .int .i64 c3, .slice s3 x3.length n3, .int .i64 r4, .int .i64 c4, .slice s4 x4.length n4, .int .i64 r5, .int .i64 c5, .slice s5 x5.length n5] 71
  go_enter Tryz.func81, Tryz.ntmps81
  obtain ⟨akA0, akA1, akA2, akA3, akA4, akA5, akA6, akA7, akA8, akA9, akA10, akA11, akA12, akA13, akA14, akA15, akA16, akA17⟩ := kA.c18
  go_wp2_with (fail)
  clear akA0 akA1 akA2 akA3 akA4 akA5 akA6 akA7 akA8 akA9 akA10 akA11 akA12 akA13 akA14 akA15 akA16 akA17
  (with_reducible refine (VM0.out _ X.out).mono ?_)
  rintro e u1 ⟨rfl, x9⟩
  replace X := kp (X.out.trans x9)
  replace kA := kA.keep x9
  clear x9
  obtain ⟨akA0, akA1, akA2, akA3, akA4, akA5, akA6, akA7, akA8, akA9, akA10, akA11, akA12, akA13, akA14, akA15, akA16, akA17⟩ := kA.c18
  go_wp2_with (fail)
  clear akA0 akA1 akA2 akA3 akA4 akA5 akA6 akA7 akA8 akA9 akA10 akA11 akA12 akA13 akA14 akA15 akA16 akA17
  (with_reducible refine (VM1.out _ X.out).mono ?_)
  rintro e u2 ⟨rfl, x9⟩
  replace X := kp (X.out.trans x9)
  replace kA := kA.keep x9
  clear x9
  obtain ⟨akA0, akA1, akA2, akA3, akA4, akA5, akA6, akA7, akA8, akA9, akA10, akA11, akA12, akA13, akA14, akA15, akA16, akA17⟩ := kA.c18
  go_wp2_with (fail)
  clear akA0 akA1 akA2 akA3 akA4 akA5 akA6 akA7 akA8 akA9 akA10 akA11 akA12 akA13 akA14 akA15 akA16 akA17
  (with_reducible refine (VM2.out _ X.out).mono ?_)
  rintro e u3 ⟨rfl, x9⟩
  replace X := kp (X.out.trans x9)
  replace kA := kA.keep x9
  clear x9
  obtain ⟨akA0, akA1, akA2, akA3, akA4, akA5, akA6, akA7, akA8, akA9, akA10, akA11, akA12, akA13, akA14, akA15, akA16, akA17⟩ := kA.c18
  go_wp2_with (fail)
  clear akA0 akA1 akA2 akA3 akA4 akA5 akA6 akA7 akA8 akA9 akA10 akA11 akA12 akA13 akA14 akA15 akA16 akA17
  apply wp_region_zip [isv _, isv _, matR dcr dcc dcs, isv _, isv _, matR dar dac das, isv _, isv _, matR dbr dbc dbs, matR dpr dpc dps, isv _] _ (by kernel_rfl)
  case hA => intro V; simp [putAll, dstOf, Act.put]; exact rfl
  case hsl => intro V; exact rfl
  case step =>
   intro V lo up w' hr
   obtain ⟨hcr, hzr⟩ := hr.cells
   have hsr := hr.size
   have kA := kA.keep hr
   have hxr := X.out.trans hr
   obtain ⟨akA0, akA1, akA2, akA3, akA4, akA5, akA6, akA7, akA8, akA9, akA10, akA11, akA12, akA13, akA14, akA15, akA16, akA17⟩ := kA.c18
   simp only [zipOk, depsImp, isv, matR, modeNg, newb, waits, Region.binds, List.map_nil, List.map_cons, List.headD_cons, List.nil_append, List.cons_append, List.filterMap_cons, List.filterMap_nil, ↓reduceIte, modeNe, Bool.false_eq_true, true_implies, List.getD_cons_zero, List.getD_cons_succ, and_true]
   refine ⟨?_, ?_, ?_, ?_, ?_, ?_, ?_, ?_, ?_, ?_, ?_⟩
   ·intros
    go_wp2
    refine sQ ?_
    exact eZ
   ·intros
    go_wp2
    refine sQ ?_
    exact eZ
   ·intros
    go_wp2_with (fail)
    (with_reducible refine (JC.out _ hxr).mono ?_)
    rintro e w9 ⟨v9, rfl, o9, x9⟩
    go_wp2
    refine sQ ?_
    exact ⟨x9, v9, rfl, o9, fun q hq => (o9.block q hq).2⟩
   ·intros
    go_wp2
    refine sQ ?_
    exact eZ
   ·intros
    go_wp2
    refine sQ ?_
    exact eZ
   ·intros
    go_wp2_with (fail)
    (with_reducible refine (JA.out _ hxr).mono ?_)
    rintro e w9 ⟨v9, rfl, o9, x9⟩
    go_wp2
    refine sQ ?_
    exact ⟨x9, v9, rfl, o9, fun q hq => (o9.block q hq).2⟩
   ·intros
    go_wp2
    refine sQ ?_
    exact eZ
   ·intros
    go_wp2
    refine sQ ?_
    exact eZ
   ·intros
    go_wp2_with (fail)
    (with_reducible refine (JB.out _ hxr).mono ?_)
    rintro e w9 ⟨v9, rfl, o9, x9⟩
    go_wp2
    refine sQ ?_
    exact ⟨x9, v9, rfl, o9, fun q hq => (o9.block q hq).2⟩
   ·intro _ _ _ ⟨v5, e5, o5, b5⟩ _ _ _ ⟨v8, e8, o8, b8⟩
    intros
    go_wp2_with (fail)
    (with_reducible refine (MM.out _ _ _ (o5.arg NLA.out) (o8.arg NLB.out)).mono ?_)
    rintro e w9 ⟨v9, rfl, o9, x9⟩
    go_wp2
    refine sQ ?_
    exact ⟨x9, v9, rfl, o9, fun q hq => (o9.block q hq).2⟩
   intro _ _ _ ⟨v2, e2, o2, b2⟩ _ _ _ ⟨v9, e9, o9, b9⟩
   intros
   go_wp2_with (fail)
   (with_reducible refine (SM.out _ _ _ o2.ints o9.ints).mono ?_)
   rintro e w9 ⟨rfl, x9⟩
   go_wp2
   refine sQ ?_
   exact ⟨x9, rfl⟩
  case hB => kernel_rfl
  intro V lo up w' hr hf ha
  simp only [factsOk, isv, matR, modeNg, newb, List.map_nil, List.map_cons, List.headD_cons, and_true, Nat.zero_add, Nat.reduceAdd] at hf
  simp only [List.length_cons, List.length_nil, Nat.zero_add, Nat.reduceAdd, List.drop_succ_cons, List.drop_zero]
  obtain ⟨-, -, -, -, -, -, -, -, -, -, ⟨-, -, -, e10⟩⟩ := hf
  clear ha
  replace kA := kA.keep hr
  replace X := kp (X.out.trans hr)
  clear hr
  try clear hc hz
  rw [e10]
  clear e10 kA
  go_wp2
  go_ret
  exact ⟨rfl, X.out⟩
 have hz : decide (joinM ⟨⟨r4, c4, x4⟩, ⟨r5, c5, x5⟩⟩ = prodM ⟨⟨⟨r0, c0, x0⟩, ⟨r1, c1, x1⟩⟩, ⟨⟨r2, c2, x2⟩, ⟨r3, c3, x3⟩⟩, ⟨⟨r4, c4, x4⟩, ⟨r5, c5, x5⟩⟩⟩) = false := by
  rw [decide_eq_false_iff_not]
  exact triple_apart g1 g2 g3 g4
 obtain rfl : b = false := by rw [← hb]; exact hz
 clear hz hb
 have g5 : (c0 == r2) = false := by simpa using g4
 clear g1 g2 g3
 have X := kp ((Ext.refl w).alloc (.cells #[.int .i64 r0, .int .i64 c0, .slice s0 x0.length n0, .int .i64 r1, .int .i64 c1, .slice s1 x1.length n1, .int .i64 r2, .int .i64 c2, .slice s2 x2.length n2, .int .i64 r3, .int .i64 c3, .slice s3 x3.length n3, .int .i64 r4, .int .i64 c4, .slice s4 x4.length n4, .int .i64 r5, .int .i64 c5, .slice s5 x5.length n5] 71))
 have kA := Blk.new w #[.int .i64 r0, .int .i64 c0, .slice s0 x0.length n0, .int .i64 r1, .int .i64 c1, .slice s1 x1.length n1, .int .i64 r2, .int .i64 c2, .slice s2 x2.length n2, .int .i64 r3, .int .i64 c3, .slice s3 x3.length n3, .int .i64 r4, .int .i64 c4, .slice s4 x4.length n4, .int .i64 r5, .int .i64 c5, .slice s5 x5.length n5] 71
 go_enter Tryz.func81, Tryz.ntmps81
 obtain ⟨akA0, akA1, akA2, akA3, akA4, akA5, akA6, akA7, akA8, akA9, akA10, akA11, akA12, akA13, akA14, akA15, akA16, akA17⟩ := kA.c18
 go_wp2_with (fail)
 clear akA0 akA1 akA2 akA3 akA4 akA5 akA6 akA7 akA8 akA9 akA10 akA11 akA12 akA13 akA14 akA15 akA16 akA17
 (with_reducible refine (VM0.out _ X.out).mono ?_)
 rintro e u1 ⟨rfl, x9⟩
 replace X := kp (X.out.trans x9)
 replace kA := kA.keep x9
 clear x9
 obtain ⟨akA0, akA1, akA2, akA3, akA4, akA5, akA6, akA7, akA8, akA9, akA10, akA11, akA12, akA13, akA14, akA15, akA16, akA17⟩ := kA.c18
 go_wp2_with (fail)
 clear akA0 akA1 akA2 akA3 akA4 akA5 akA6 akA7 akA8 akA9 akA10 akA11 akA12 akA13 akA14 akA15 akA16 akA17
 (with_reducible refine (VM1.out _ X.out).mono ?_)
 rintro e u2 ⟨rfl, x9⟩
 replace X := kp (X.out.trans x9)
 replace kA := kA.keep x9
 clear x9
 obtain ⟨akA0, akA1, akA2, akA3, akA4, akA5, akA6, akA7, akA8, akA9, akA10, akA11, akA12, akA13, akA14, akA15, akA16, akA17⟩ := kA.c18
 go_wp2_with (fail)
 clear akA0 akA1 akA2 akA3 akA4 akA5 akA6 akA7 akA8 akA9 akA10 akA11 akA12 akA13 akA14 akA15 akA16 akA17
 (with_reducible refine (VM2.out _ X.out).mono ?_)
 rintro e u3 ⟨rfl, x9⟩
 replace X := kp (X.out.trans x9)
 replace kA := kA.keep x9
 clear x9
 obtain ⟨akA0, akA1, akA2, akA3, akA4, akA5, akA6, akA7, akA8, akA9, akA10, akA11, akA12, akA13, akA14, akA15, akA16, akA17⟩ := kA.c18
 clear kA
 go_wp2
 go_ret
 exact ⟨rfl, X.out⟩
end Go.Proofs.YtkkdikoknegpjaaGreat
