import Derived.Test.YtkkdikoknegpjaaGreatTab
import Derived.Test.YtkkdikoknegpjaaGreatQA
namespace Go.Proofs.YtkkdikoknegpjaaGreat
set_option linter.unusedSimpArgs false
set_option linter.unusedVariables false
open Go.RowKit
def useOk (x y a b : Int) (xs ys : List Int) : Bool := rv x && rv y && tabV a b xs ys
def useC (x y a b : Int) (xs ys : List Int) : Int := if useOk x y a b xs ys = true then addR (addR x y) (addR a b) else -1
def useF (x y a b : Int) (xs ys : List Int) : Int := if useOk x y a b xs ys = true then xs.getD (addR (addR x y) (addR a b)).toNat 0 else -1
def useL (x y a b : Int) (xs ys : List Int) : Int := if useOk x y a b xs ys = true then ys.getD (addR (addR x y) (addR a b)).toNat 0 else -1
theorem useC_nat {x y a b : Int} {xs ys : List Int} (h : useOk x y a b xs ys = true) : ∃ n : Nat, addR (addR x y) (addR a b) = (n : Int) ∧ n < xs.length ∧ n < ys.length := by
 simp only [useOk, tabV, goodL, Bool.and_eq_true, decide_eq_true_eq] at h
 obtain ⟨⟨hx, hy⟩, ⟨ha, hb⟩, ⟨_, l1⟩, ⟨_, l2⟩⟩ := h
 have e : addR (addR x y) (addR a b) = ring (ring (x + y) + ring (a + b)) := by simp only [hx, hy, ha, hb, addR_ok, rv_ring]
 have h0 := ring_lo (ring (x + y) + ring (a + b))
 have h1 := ring_hi (ring (x + y) + ring (a + b))
 exact ⟨(ring (ring (x + y) + ring (a + b))).toNat, by rw [e]; omega, by omega, by omega⟩
theorem join_add' {a b c d : Int} (h1 : (rv a && rv b) = true) (h2 : (rv c && rv d) = true) : addR (addF a b c d) (addL a b c d) = addR (addR a b) (addR c d) := by
 have h : okS a b c d = true := by simp [okS, h1, h2]
 simp only [Bool.and_eq_true] at h1 h2
 simp only [addF, addL, h, if_true, h1.1, h1.2, h2.1, h2.2, addR_ok, rv_ring]
 unfold ring; omega
theorem tabV_sh {a b : Int} {xs ys : List Int} (h : tabV a b xs ys = true) : (rv a && rv b) = true := by
 simp only [tabV, Bool.and_eq_true] at h ⊢
 exact h.1
theorem Ints.at {w : World} {s : Option Addr} {k : Nat} {xs : List Int} (h : Ints w (.slice s xs.length k) xs) {n : Nat} (hn : n < xs.length) : ∃ b off, s = some ⟨b, off, none⟩ ∧ b < w.heap.size ∧ w.cell? ⟨b, off + n, none⟩ = some (.int .i64 (xs.getD n 0)) := by
 obtain ⟨a, c, e, _, hc⟩ := h
 simp at e
 obtain ⟨rfl, rfl⟩ := e
 exact hc n hn
set_option maxHeartbeats 4000000 in
set_option maxRecDepth 4000 in
theorem impl_UseTable (x y a b : Int) (v1 v2 : Value) (xs ys : List Int) (w : World) (h1 : Ints w v1 xs) (h2 : Ints w v2 ys) : Calls Tryz.prog 117 #[.agg #[.int .i64 x, .int .i64 y], .agg #[.int .i64 a, .int .i64 b, v1, v2]] w fun e w' =>
 e = .returned (.tuple #[.agg #[.int .i64 (useF x y a b xs ys), .int .i64 (useL x y a b xs ys)], .int .i64 (useC x y a b xs ys), .bool (useOk x y a b xs ys)]) ∧ Ext w w' := by
 obtain ⟨s1, n1, rfl, hm1, hc1⟩ := id h1
 obtain ⟨s2, n2, rfl, hm2, hc2⟩ := id h2
 clear hm1 hm2 hc1 hc2
 have H1 := kp h1
 have H2 := kp h2
 clear h1 h2
 cases h1 : (rv x && rv y)
 ·have hk : useOk x y a b xs ys = false := by simp [useOk, h1]
  rw [show useF x y a b xs ys = -1 by simp [useF, hk], show useL x y a b xs ys = -1 by simp [useL, hk], show useC x y a b xs ys = -1 by simp [useC, hk], hk]
  clear hk
  have S1 := kp h1; clear h1
  go_enter Tryz.func117, Tryz.ntmps117
  have X := kp ((((Ext.refl w).alloc (.cells #[.int .i64 x, .int .i64 y] 78)).alloc (.cells #[.int .i64 a, .int .i64 b, .slice s1 xs.length n1, .slice s2 ys.length n2] 80)).alloc (.cells #[.int .i64 0, .int .i64 0] 78))
  have kX := ((Blk.new w #[.int .i64 x, .int .i64 y] 78).old (.cells #[.int .i64 a, .int .i64 b, .slice s1 xs.length n1, .slice s2 ys.length n2] 80)).old (.cells #[.int .i64 0, .int .i64 0] 78)
  have kT := (Blk.new (w.alloc (.cells #[.int .i64 x, .int .i64 y] 78)) #[.int .i64 a, .int .i64 b, .slice s1 xs.length n1, .slice s2 ys.length n2] 80).old (.cells #[.int .i64 0, .int .i64 0] 78)
  have kR := Blk.new ((w.alloc (.cells #[.int .i64 x, .int .i64 y] 78)).alloc (.cells #[.int .i64 a, .int .i64 b, .slice s1 xs.length n1, .slice s2 ys.length n2] 80)) #[.int .i64 0, .int .i64 0] 78
  simp only [World.size_alloc] at kT kR
  go_wp2_with (fail)
  (with_reducible refine (impl_SharedValid x y false S1.out _).mono ?_)
  rintro e w1 ⟨rfl, y1⟩
  replace X := kp (X.out.trans y1)
  replace kX := kX.keep y1
  replace kT := kT.keep y1
  replace kR := kR.keep y1
  clear y1
  go_wp2_with (fail)
  (with_reducible refine (impl_noShares _).mono ?_)
  rintro e w1 ⟨rfl, y1⟩
  replace X := kp (X.out.trans y1)
  replace kX := kX.keep y1
  replace kT := kT.keep y1
  replace kR := kR.keep y1
  clear y1
  obtain ⟨r0, r1⟩ := kR.two
  have rf := kR.free
  go_wp2
  exact bodyPost_ret (v := .tuple #[.agg #[.int .i64 (-1), .int .i64 (-1)], .int .i64 (-1), .bool false]) (by simp [results, Tryz.results117, go_sem, *]) rfl ⟨rfl, (X.out.setCell (by show w.heap.size ≤ w.heap.size + 1 + 1; omega) _).setCell (by show w.heap.size ≤ w.heap.size + 1 + 1; omega) _⟩
 cases h2 : tabV a b xs ys
 ·have hk : useOk x y a b xs ys = false := by simp [useOk, h1, h2]
  rw [show useF x y a b xs ys = -1 by simp [useF, hk], show useL x y a b xs ys = -1 by simp [useL, hk], show useC x y a b xs ys = -1 by simp [useC, hk], hk]
  clear hk
  have S1 := kp h1; clear h1
  have S2 := kp h2; clear h2
  go_enter Tryz.func117, Tryz.ntmps117
  have X := kp ((((Ext.refl w).alloc (.cells #[.int .i64 x, .int .i64 y] 78)).alloc (.cells #[.int .i64 a, .int .i64 b, .slice s1 xs.length n1, .slice s2 ys.length n2] 80)).alloc (.cells #[.int .i64 0, .int .i64 0] 78))
  have kX := ((Blk.new w #[.int .i64 x, .int .i64 y] 78).old (.cells #[.int .i64 a, .int .i64 b, .slice s1 xs.length n1, .slice s2 ys.length n2] 80)).old (.cells #[.int .i64 0, .int .i64 0] 78)
  have kT := (Blk.new (w.alloc (.cells #[.int .i64 x, .int .i64 y] 78)) #[.int .i64 a, .int .i64 b, .slice s1 xs.length n1, .slice s2 ys.length n2] 80).old (.cells #[.int .i64 0, .int .i64 0] 78)
  have kR := Blk.new ((w.alloc (.cells #[.int .i64 x, .int .i64 y] 78)).alloc (.cells #[.int .i64 a, .int .i64 b, .slice s1 xs.length n1, .slice s2 ys.length n2] 80)) #[.int .i64 0, .int .i64 0] 78
  simp only [World.size_alloc] at kT kR
  go_wp2_with (fail)
  (with_reducible refine (impl_SharedValid x y true S1.out _).mono ?_)
  rintro e w1 ⟨rfl, y1⟩
  replace X := kp (X.out.trans y1)
  replace kX := kX.keep y1
  replace kT := kT.keep y1
  replace kR := kR.keep y1
  clear y1
  obtain ⟨x0, x1⟩ := kX.two
  obtain ⟨t0, t1, t2, t3⟩ := kT.four
  have TV : Kept (∀ w', Ext w w' → Calls Tryz.prog 127 #[.agg #[.int .i64 a, .int .i64 b, .slice s1 xs.length n1, .slice s2 ys.length n2]] w' fun e w'' => e = .returned (.bool false) ∧ Ext w' w'') := ⟨fun w' hx => S2.out ▸ impl_TableValid a b _ _ xs ys w' (H1.out.keep hx) (H2.out.keep hx)⟩
  go_wp2_with (fail)
  (with_reducible refine (TV.out _ X.out).mono ?_)
  rintro e w1 ⟨rfl, y1⟩
  replace X := kp (X.out.trans y1)
  replace kX := kX.keep y1
  replace kT := kT.keep y1
  replace kR := kR.keep y1
  clear y1
  clear x0 x1 t0 t1 t2 t3
  go_wp2_with (fail)
  (with_reducible refine (impl_noShares _).mono ?_)
  rintro e w1 ⟨rfl, y1⟩
  replace X := kp (X.out.trans y1)
  replace kX := kX.keep y1
  replace kT := kT.keep y1
  replace kR := kR.keep y1
  clear y1
  obtain ⟨r0, r1⟩ := kR.two
  have rf := kR.free
  go_wp2
  exact bodyPost_ret (v := .tuple #[.agg #[.int .i64 (-1), .int .i64 (-1)], .int .i64 (-1), .bool false]) (by simp [results, Tryz.results117, go_sem, *]) rfl ⟨rfl, (X.out.setCell (by show w.heap.size ≤ w.heap.size + 1 + 1; omega) _).setCell (by show w.heap.size ≤ w.heap.size + 1 + 1; omega) _⟩
 have hk : useOk x y a b xs ys = true := by simp [useOk, h1, h2]
 obtain ⟨n, en, ln1, ln2⟩ := useC_nat hk
 rw [show useF x y a b xs ys = xs.getD n 0 by simp only [useF, hk, if_true, en]; rfl, show useL x y a b xs ys = ys.getD n 0 by simp only [useL, hk, if_true, en]; rfl, show useC x y a b xs ys = (n : Int) by simp only [useC, hk, if_true, en], hk]
 clear hk
 obtain ⟨b1, o1, rfl, lb1, cb1⟩ := H1.out.at ln1
 obtain ⟨b2, o2, rfl, lb2, cb2⟩ := H2.out.at ln2
 generalize xs.getD n 0 = p at *
 generalize ys.getD n 0 = q at *
 have EN := kp en; clear en
 have S1 := kp h1; clear h1
 have S2 := kp h2; clear h2
 go_enter Tryz.func117, Tryz.ntmps117
 have X := kp ((((Ext.refl w).alloc (.cells #[.int .i64 x, .int .i64 y] 78)).alloc (.cells #[.int .i64 a, .int .i64 b, .slice (some ⟨b1, o1, none⟩) xs.length n1, .slice (some ⟨b2, o2, none⟩) ys.length n2] 80)).alloc (.cells #[.int .i64 0, .int .i64 0] 78))
 have kX := ((Blk.new w #[.int .i64 x, .int .i64 y] 78).old (.cells #[.int .i64 a, .int .i64 b, .slice (some ⟨b1, o1, none⟩) xs.length n1, .slice (some ⟨b2, o2, none⟩) ys.length n2] 80)).old (.cells #[.int .i64 0, .int .i64 0] 78)
 have kT := (Blk.new (w.alloc (.cells #[.int .i64 x, .int .i64 y] 78)) #[.int .i64 a, .int .i64 b, .slice (some ⟨b1, o1, none⟩) xs.length n1, .slice (some ⟨b2, o2, none⟩) ys.length n2] 80).old (.cells #[.int .i64 0, .int .i64 0] 78)
 have kR := Blk.new ((w.alloc (.cells #[.int .i64 x, .int .i64 y] 78)).alloc (.cells #[.int .i64 a, .int .i64 b, .slice (some ⟨b1, o1, none⟩) xs.length n1, .slice (some ⟨b2, o2, none⟩) ys.length n2] 80)) #[.int .i64 0, .int .i64 0] 78
 simp only [World.size_alloc] at kT kR
 go_wp2_with (fail)
 (with_reducible refine (impl_SharedValid x y true S1.out _).mono ?_)
 rintro e w1 ⟨rfl, y1⟩
 replace X := kp (X.out.trans y1)
 replace kX := kX.keep y1
 replace kT := kT.keep y1
 replace kR := kR.keep y1
 clear y1
 obtain ⟨x0, x1⟩ := kX.two
 obtain ⟨t0, t1, t2, t3⟩ := kT.four
 have TV : Kept (∀ w', Ext w w' → Calls Tryz.prog 127 #[.agg #[.int .i64 a, .int .i64 b, .slice (some ⟨b1, o1, none⟩) xs.length n1, .slice (some ⟨b2, o2, none⟩) ys.length n2]] w' fun e w'' => e = .returned (.bool true) ∧ Ext w' w'') := ⟨fun w' hx => S2.out ▸ impl_TableValid a b _ _ xs ys w' (H1.out.keep hx) (H2.out.keep hx)⟩
 go_wp2_with (fail)
 (with_reducible refine (TV.out _ X.out).mono ?_)
 rintro e w1 ⟨rfl, y1⟩
 replace X := kp (X.out.trans y1)
 replace kX := kX.keep y1
 replace kT := kT.keep y1
 replace kR := kR.keep y1
 clear y1
 clear x0 x1 t0 t1 t2 t3
 obtain ⟨x0, x1⟩ := kX.two
 obtain ⟨t0, t1, t2, t3⟩ := kT.four
 go_wp2_with (fail)
 clear x0 x1 t0 t1 t2 t3
 have hx := X.out
 clear X
 apply wp_region_zip [isv _, isv _, isv _, isv _, isv _, isv _] _ (by kernel_rfl)
 case hA => intro V; simp [putAll, dstOf, Act.put]; exact rfl
 case hsl => intro V; exact rfl
 case step =>
  intro V lo up w' hr
  have hxr := hx.trans hr
  obtain ⟨hcr, hzr⟩ := hxr.cells
  have kX := kX.keep hr
  have kT := kT.keep hr
  have kR := kR.keep hr
  obtain ⟨x0, x1⟩ := kX.two
  obtain ⟨t0, t1, t2, t3⟩ := kT.four
  simp only [zipOk, depsImp, isv, waits, Region.binds, List.map_nil, List.nil_append, List.filterMap_cons, List.filterMap_nil, ↓reduceIte, true_implies, List.getD_cons_zero, List.getD_cons_succ, and_true]
  refine ⟨?_, ?_, ?_, ?_, ?_, ?_⟩
  all_goals
   intros
   go_wp2_with (first | (go_at_call 125; (with_reducible refine (impl_JoinShares _ _ _).mono ?_); rintro e w1 ⟨rfl, hy⟩) | (go_at_call 70; (with_reducible refine (impl_AddRing _ _ _).mono ?_); rintro e w1 ⟨rfl, rfl⟩))
   refine sQ ?_
   first | exact ⟨hy, rfl⟩ | exact ⟨Ext.refl _, rfl⟩ | exact ⟨Ext.refl _, by assumption⟩ | exact ⟨(Ext.refl _).alloc _, rfl, by simp, Blk.new _ _ _⟩
 case hB => kernel_rfl
 intro V lo up w' hr hf ha
 simp only [factsOk, isv, List.map_nil, and_true, Nat.zero_add, Nat.reduceAdd] at hf
 simp only [List.length_cons, List.length_nil, Nat.zero_add, Nat.reduceAdd, List.drop_succ_cons, List.drop_zero]
 obtain ⟨⟨-, -, -, e0⟩, ⟨-, -, -, e1⟩, ⟨-, -, -, e2⟩, ⟨-, -, -, e3⟩, ⟨-, -, -, e4⟩, ⟨-, -, -, e5⟩⟩ := hf
 rw [e0, e1, e2, e3, e4, e5]
 clear e0 e1 e2 e3 e4 e5
 clear ha V lo up
 have hs0 := hx.size
 replace hx := hx.trans hr
 have tkX := kX.lt
 replace kX := kX.keep hr
 have tkT := kT.lt
 replace kT := kT.keep hr
 have tkR := kR.lt
 replace kR := kR.keep hr
 clear hr
 try clear hc hz
 obtain ⟨hc, hz⟩ := hx.cells
 have X := kp hx
 clear hx hc hz hs0 tkX tkT tkR
 rw [EN.out]
 go_wp2_with (fail)
 have lw := X.out.size
 apply wp_region_zipS (FillR.rel (w.heap.size + 1 + 1) 78 #[.int .i64 0, .int .i64 0] #[.int .i64 p, .int .i64 q]) [isv _, isv _, isv _, isv _, isv _, isv _, isv _, isv _, isv _, isv _, isv _, isv _, fillT] _ (by kernel_rfl)
 case hA => intro V; simp [putAll, dstOf, Act.put]; exact rfl
 case hsl => intro V; exact rfl
 case step =>
  intro V lo up w' hr
  have XR := kp (hr.ext X.out (by omega))
  have kT := hr.blk kT (by omega)
  have kR' := hr.put' (.inl kR)
  obtain ⟨t0, t1, t2, t3⟩ := kT.four
  have d1 := (XR.out.cells.1 b1 (o1 + n) lb1).trans cb1
  have d2 := (XR.out.cells.1 b2 (o2 + n) lb2).trans cb2
  simp only [zipOkS, depsImp, isv, fillT, waits, Region.binds, List.map_nil, List.nil_append, List.filterMap_cons, List.filterMap_nil, ↓reduceIte, modeNe, modeNg, Bool.false_eq_true, true_implies, List.getD_cons_zero, List.getD_cons_succ, and_true]
  refine ⟨?_, ?_, ?_, ?_, ?_, ?_, ?_, ?_, ?_, ?_, ?_, ?_, ?_⟩
  ·intros
   go_wp2
   refine sS ?_
   exact ⟨FillR.refl _, rfl⟩
  ·intros
   go_wp2
   refine sS ?_
   exact ⟨FillR.refl _, rfl⟩
  ·intros
   go_wp2
   refine sS ?_
   exact ⟨FillR.refl _, rfl⟩
  ·intros
   go_wp2
   refine sS ?_
   exact ⟨FillR.refl _, rfl⟩
  ·intros
   go_wp2
   refine sS ?_
   exact ⟨FillR.refl _, rfl⟩
  ·intros
   go_wp2
   refine sS ?_
   exact ⟨FillR.refl _, rfl⟩
  ·intros
   go_wp2
   refine sS ?_
   exact ⟨FillR.refl _, rfl⟩
  ·intros
   go_wp2
   refine sS ?_
   exact ⟨FillR.refl _, rfl⟩
  ·intros
   go_wp2
   refine sS ?_
   exact ⟨FillR.refl _, rfl⟩
  ·intros
   go_wp2
   refine sS ?_
   exact ⟨FillR.refl _, rfl⟩
  ·intros
   go_wp2
   refine sS ?_
   exact ⟨FillR.refl _, rfl⟩
  ·intros
   go_wp2
   refine sS ?_
   exact ⟨FillR.refl _, rfl⟩
  intro _ _ _ e10
  intros
  exact wpList_fillR (w.heap.size + 1 + 1) rfl rfl (.tmp 4) (.tmp 33) rfl rfl e10 kR' (by kernel_rfl) rfl (by simp [Value.oneCell']) XR.out (by omega) fun w'' f k hoth u => ⟨f, k⟩
 case hB => kernel_rfl
 intro V lo up w' hr hf ha
 simp only [factsOk, isv, fillT, List.map_nil, and_true, Nat.zero_add, Nat.reduceAdd] at hf
 simp only [List.length_cons, List.length_nil, Nat.zero_add, Nat.reduceAdd, List.drop_succ_cons, List.drop_zero]
 have X' := kp (hr.ext X.out (by omega))
 obtain ⟨-, -, -, -, -, -, -, -, -, -, -, ⟨-, -, -, e11⟩, ⟨-, -, -, kR2⟩⟩ := hf
 rw [e11]
 clear e11
 obtain ⟨r0, r1⟩ := kR2.two
 go_wp2
 exact bodyPost_ret (v := .tuple #[.agg #[.int .i64 p, .int .i64 q], .int .i64 n, .bool true]) (by simp [results, Tryz.results117, go_sem, *]) rfl ⟨rfl, X'.out⟩
set_option maxHeartbeats 4000000 in
set_option maxRecDepth 4000 in
theorem spec_UseTable (x y a b : Int) (v1 v2 : Value) (xs ys : List Int) (w : World) (h1 : Ints w v1 xs) (h2 : Ints w v2 ys) : Calls Tryz.prog 58 #[.agg #[.int .i64 x, .int .i64 y], .agg #[.int .i64 a, .int .i64 b, v1, v2]] w fun e w' =>
 e = .returned (.tuple #[.agg #[.int .i64 (useF x y a b xs ys), .int .i64 (useL x y a b xs ys)], .int .i64 (useC x y a b xs ys), .bool (useOk x y a b xs ys)]) ∧ Ext w w' := by
 obtain ⟨s1, n1, rfl, hm1, hc1⟩ := id h1
 obtain ⟨s2, n2, rfl, hm2, hc2⟩ := id h2
 clear hm1 hm2 hc1 hc2
 have H1 := kp h1
 have H2 := kp h2
 clear h1 h2
 cases h1 : (rv x && rv y)
 ·have hk : useOk x y a b xs ys = false := by simp [useOk, h1]
  rw [show useF x y a b xs ys = -1 by simp [useF, hk], show useL x y a b xs ys = -1 by simp [useL, hk], show useC x y a b xs ys = -1 by simp [useC, hk], hk]
  clear hk
  have S1 := kp h1; clear h1
  go_enter Tryz.func58, Tryz.ntmps58
  have X := kp ((((Ext.refl w).alloc (.cells #[.int .i64 x, .int .i64 y] 78)).alloc (.cells #[.int .i64 a, .int .i64 b, .slice s1 xs.length n1, .slice s2 ys.length n2] 80)).alloc (.cells #[.int .i64 0, .int .i64 0] 78))
  have kX := ((Blk.new w #[.int .i64 x, .int .i64 y] 78).old (.cells #[.int .i64 a, .int .i64 b, .slice s1 xs.length n1, .slice s2 ys.length n2] 80)).old (.cells #[.int .i64 0, .int .i64 0] 78)
  have kT := (Blk.new (w.alloc (.cells #[.int .i64 x, .int .i64 y] 78)) #[.int .i64 a, .int .i64 b, .slice s1 xs.length n1, .slice s2 ys.length n2] 80).old (.cells #[.int .i64 0, .int .i64 0] 78)
  have kR := Blk.new ((w.alloc (.cells #[.int .i64 x, .int .i64 y] 78)).alloc (.cells #[.int .i64 a, .int .i64 b, .slice s1 xs.length n1, .slice s2 ys.length n2] 80)) #[.int .i64 0, .int .i64 0] 78
  simp only [World.size_alloc] at kT kR
  go_wp2_with (fail)
  (with_reducible refine (spec_SharedValid x y false S1.out _).mono ?_)
  rintro e w1 ⟨rfl, y1⟩
  replace X := kp (X.out.trans y1)
  replace kX := kX.keep y1
  replace kT := kT.keep y1
  replace kR := kR.keep y1
  clear y1
  go_wp2_with (fail)
  (with_reducible refine (spec_l6Bad _).mono ?_)
  rintro e w1 ⟨rfl, y1⟩
  replace X := kp (X.out.trans y1)
  replace kX := kX.keep y1
  replace kT := kT.keep y1
  replace kR := kR.keep y1
  clear y1
  obtain ⟨r0, r1⟩ := kR.two
  have rf := kR.free
  go_wp2
  exact bodyPost_ret (v := .tuple #[.agg #[.int .i64 (-1), .int .i64 (-1)], .int .i64 (-1), .bool false]) (by simp [results, Tryz.results58, go_sem, *]) rfl ⟨rfl, (X.out.setCell (by show w.heap.size ≤ w.heap.size + 1 + 1; omega) _).setCell (by show w.heap.size ≤ w.heap.size + 1 + 1; omega) _⟩
 cases h2 : tabV a b xs ys
 ·have hk : useOk x y a b xs ys = false := by simp [useOk, h1, h2]
  rw [show useF x y a b xs ys = -1 by simp [useF, hk], show useL x y a b xs ys = -1 by simp [useL, hk], show useC x y a b xs ys = -1 by simp [useC, hk], hk]
  clear hk
  have S1 := kp h1; clear h1
  have S2 := kp h2; clear h2
  go_enter Tryz.func58, Tryz.ntmps58
  have X := kp ((((Ext.refl w).alloc (.cells #[.int .i64 x, .int .i64 y] 78)).alloc (.cells #[.int .i64 a, .int .i64 b, .slice s1 xs.length n1, .slice s2 ys.length n2] 80)).alloc (.cells #[.int .i64 0, .int .i64 0] 78))
  have kX := ((Blk.new w #[.int .i64 x, .int .i64 y] 78).old (.cells #[.int .i64 a, .int .i64 b, .slice s1 xs.length n1, .slice s2 ys.length n2] 80)).old (.cells #[.int .i64 0, .int .i64 0] 78)
  have kT := (Blk.new (w.alloc (.cells #[.int .i64 x, .int .i64 y] 78)) #[.int .i64 a, .int .i64 b, .slice s1 xs.length n1, .slice s2 ys.length n2] 80).old (.cells #[.int .i64 0, .int .i64 0] 78)
  have kR := Blk.new ((w.alloc (.cells #[.int .i64 x, .int .i64 y] 78)).alloc (.cells #[.int .i64 a, .int .i64 b, .slice s1 xs.length n1, .slice s2 ys.length n2] 80)) #[.int .i64 0, .int .i64 0] 78
  simp only [World.size_alloc] at kT kR
  go_wp2_with (fail)
  (with_reducible refine (spec_SharedValid x y true S1.out _).mono ?_)
  rintro e w1 ⟨rfl, y1⟩
  replace X := kp (X.out.trans y1)
  replace kX := kX.keep y1
  replace kT := kT.keep y1
  replace kR := kR.keep y1
  clear y1
  obtain ⟨x0, x1⟩ := kX.two
  obtain ⟨t0, t1, t2, t3⟩ := kT.four
  have TV : Kept (∀ w', Ext w w' → Calls Tryz.prog 88 #[.agg #[.int .i64 a, .int .i64 b, .slice s1 xs.length n1, .slice s2 ys.length n2]] w' fun e w'' => e = .returned (.bool false) ∧ Ext w' w'') := ⟨fun w' hx => S2.out ▸ spec_TableValid a b _ _ xs ys w' (H1.out.keep hx) (H2.out.keep hx)⟩
  go_wp2_with (fail)
  (with_reducible refine (TV.out _ X.out).mono ?_)
  rintro e w1 ⟨rfl, y1⟩
  replace X := kp (X.out.trans y1)
  replace kX := kX.keep y1
  replace kT := kT.keep y1
  replace kR := kR.keep y1
  clear y1
  clear x0 x1 t0 t1 t2 t3
  go_wp2_with (fail)
  (with_reducible refine (spec_l6Bad _).mono ?_)
  rintro e w1 ⟨rfl, y1⟩
  replace X := kp (X.out.trans y1)
  replace kX := kX.keep y1
  replace kT := kT.keep y1
  replace kR := kR.keep y1
  clear y1
  obtain ⟨r0, r1⟩ := kR.two
  have rf := kR.free
  go_wp2
  exact bodyPost_ret (v := .tuple #[.agg #[.int .i64 (-1), .int .i64 (-1)], .int .i64 (-1), .bool false]) (by simp [results, Tryz.results58, go_sem, *]) rfl ⟨rfl, (X.out.setCell (by show w.heap.size ≤ w.heap.size + 1 + 1; omega) _).setCell (by show w.heap.size ≤ w.heap.size + 1 + 1; omega) _⟩
 have hk : useOk x y a b xs ys = true := by simp [useOk, h1, h2]
 obtain ⟨n, en, ln1, ln2⟩ := useC_nat hk
 rw [show useF x y a b xs ys = xs.getD n 0 by simp only [useF, hk, if_true, en]; rfl, show useL x y a b xs ys = ys.getD n 0 by simp only [useL, hk, if_true, en]; rfl, show useC x y a b xs ys = (n : Int) by simp only [useC, hk, if_true, en], hk]
 clear hk
 obtain ⟨b1, o1, rfl, lb1, cb1⟩ := H1.out.at ln1
 obtain ⟨b2, o2, rfl, lb2, cb2⟩ := H2.out.at ln2
 generalize xs.getD n 0 = p at *
 generalize ys.getD n 0 = q at *
 have JN := kp ((join_add' h1 (tabV_sh h2)).trans en)
 have EN := kp en; clear en
 have S1 := kp h1; clear h1
 have S2 := kp h2; clear h2
 go_enter Tryz.func58, Tryz.ntmps58
 have X := kp ((((Ext.refl w).alloc (.cells #[.int .i64 x, .int .i64 y] 78)).alloc (.cells #[.int .i64 a, .int .i64 b, .slice (some ⟨b1, o1, none⟩) xs.length n1, .slice (some ⟨b2, o2, none⟩) ys.length n2] 80)).alloc (.cells #[.int .i64 0, .int .i64 0] 78))
 have kX := ((Blk.new w #[.int .i64 x, .int .i64 y] 78).old (.cells #[.int .i64 a, .int .i64 b, .slice (some ⟨b1, o1, none⟩) xs.length n1, .slice (some ⟨b2, o2, none⟩) ys.length n2] 80)).old (.cells #[.int .i64 0, .int .i64 0] 78)
 have kT := (Blk.new (w.alloc (.cells #[.int .i64 x, .int .i64 y] 78)) #[.int .i64 a, .int .i64 b, .slice (some ⟨b1, o1, none⟩) xs.length n1, .slice (some ⟨b2, o2, none⟩) ys.length n2] 80).old (.cells #[.int .i64 0, .int .i64 0] 78)
 have kR := Blk.new ((w.alloc (.cells #[.int .i64 x, .int .i64 y] 78)).alloc (.cells #[.int .i64 a, .int .i64 b, .slice (some ⟨b1, o1, none⟩) xs.length n1, .slice (some ⟨b2, o2, none⟩) ys.length n2] 80)) #[.int .i64 0, .int .i64 0] 78
 simp only [World.size_alloc] at kT kR
 go_wp2_with (fail)
 (with_reducible refine (spec_SharedValid x y true S1.out _).mono ?_)
 rintro e w1 ⟨rfl, y1⟩
 replace X := kp (X.out.trans y1)
 replace kX := kX.keep y1
 replace kT := kT.keep y1
 replace kR := kR.keep y1
 clear y1
 obtain ⟨x0, x1⟩ := kX.two
 obtain ⟨t0, t1, t2, t3⟩ := kT.four
 have TV : Kept (∀ w', Ext w w' → Calls Tryz.prog 88 #[.agg #[.int .i64 a, .int .i64 b, .slice (some ⟨b1, o1, none⟩) xs.length n1, .slice (some ⟨b2, o2, none⟩) ys.length n2]] w' fun e w'' => e = .returned (.bool true) ∧ Ext w' w'') := ⟨fun w' hx => S2.out ▸ spec_TableValid a b _ _ xs ys w' (H1.out.keep hx) (H2.out.keep hx)⟩
 go_wp2_with (fail)
 (with_reducible refine (TV.out _ X.out).mono ?_)
 rintro e w1 ⟨rfl, y1⟩
 replace X := kp (X.out.trans y1)
 replace kX := kX.keep y1
 replace kT := kT.keep y1
 replace kR := kR.keep y1
 clear y1
 clear x0 x1 t0 t1 t2 t3
 obtain ⟨x0, x1⟩ := kX.two
 obtain ⟨t0, t1, t2, t3⟩ := kT.four
 go_wp2_with (fail)
 (with_reducible refine (spec_AddShares x y a b _).mono ?_)
 rintro e w1 ⟨rfl, y1⟩
 replace X := kp (X.out.trans y1)
 replace kX := kX.keep y1
 replace kT := kT.keep y1
 replace kR := kR.keep y1
 clear y1
 clear x0 x1 t0 t1 t2 t3
 go_wp2_with (fail)
 (with_reducible refine (spec_JoinShares _ _ _).mono ?_)
 rintro e w1 ⟨rfl, y1⟩
 replace X := kp (X.out.trans y1)
 replace kX := kX.keep y1
 replace kT := kT.keep y1
 replace kR := kR.keep y1
 clear y1
 rw [JN.out]
 go_wp2_with (fail)
 have lw := X.out.size
 apply wp_region_zipS (FillR.rel (w.heap.size + 1 + 1) 78 #[.int .i64 0, .int .i64 0] #[.int .i64 p, .int .i64 q]) [isv _, isv _, isv _, isv _, isv _, isv _, isv _, isv _, isv _, isv _, isv _, isv _, fillT] _ (by kernel_rfl)
 case hA => intro V; simp [putAll, dstOf, Act.put]; exact rfl
 case hsl => intro V; exact rfl
 case step =>
  intro V lo up w' hr
  have XR := kp (hr.ext X.out (by omega))
  have kT := hr.blk kT (by omega)
  have kR' := hr.put' (.inl kR)
  obtain ⟨t0, t1, t2, t3⟩ := kT.four
  have d1 := (XR.out.cells.1 b1 (o1 + n) lb1).trans cb1
  have d2 := (XR.out.cells.1 b2 (o2 + n) lb2).trans cb2
  simp only [zipOkS, depsImp, isv, fillT, waits, Region.binds, List.map_nil, List.nil_append, List.filterMap_cons, List.filterMap_nil, ↓reduceIte, modeNe, modeNg, Bool.false_eq_true, true_implies, List.getD_cons_zero, List.getD_cons_succ, and_true]
  refine ⟨?_, ?_, ?_, ?_, ?_, ?_, ?_, ?_, ?_, ?_, ?_, ?_, ?_⟩
  ·intros
   go_wp2
   refine sS ?_
   exact ⟨FillR.refl _, rfl⟩
  ·intros
   go_wp2
   refine sS ?_
   exact ⟨FillR.refl _, rfl⟩
  ·intros
   go_wp2
   refine sS ?_
   exact ⟨FillR.refl _, rfl⟩
  ·intros
   go_wp2
   refine sS ?_
   exact ⟨FillR.refl _, rfl⟩
  ·intros
   go_wp2
   refine sS ?_
   exact ⟨FillR.refl _, rfl⟩
  ·intros
   go_wp2
   refine sS ?_
   exact ⟨FillR.refl _, rfl⟩
  ·intros
   go_wp2
   refine sS ?_
   exact ⟨FillR.refl _, rfl⟩
  ·intros
   go_wp2
   refine sS ?_
   exact ⟨FillR.refl _, rfl⟩
  ·intros
   go_wp2
   refine sS ?_
   exact ⟨FillR.refl _, rfl⟩
  ·intros
   go_wp2
   refine sS ?_
   exact ⟨FillR.refl _, rfl⟩
  ·intros
   go_wp2
   refine sS ?_
   exact ⟨FillR.refl _, rfl⟩
  ·intros
   go_wp2
   refine sS ?_
   exact ⟨FillR.refl _, rfl⟩
  intro _ _ _ e10
  intros
  exact wpList_fillR (w.heap.size + 1 + 1) rfl rfl (.tmp 4) (.tmp 32) rfl rfl e10 kR' (by kernel_rfl) rfl (by simp [Value.oneCell']) XR.out (by omega) fun w'' f k hoth u => ⟨f, k⟩
 case hB => kernel_rfl
 intro V lo up w' hr hf ha
 simp only [factsOk, isv, fillT, List.map_nil, and_true, Nat.zero_add, Nat.reduceAdd] at hf
 simp only [List.length_cons, List.length_nil, Nat.zero_add, Nat.reduceAdd, List.drop_succ_cons, List.drop_zero]
 have X' := kp (hr.ext X.out (by omega))
 obtain ⟨-, -, -, -, -, -, -, -, -, -, -, ⟨-, -, -, e11⟩, ⟨-, -, -, kR2⟩⟩ := hf
 rw [e11]
 clear e11
 obtain ⟨r0, r1⟩ := kR2.two
 go_wp2
 exact bodyPost_ret (v := .tuple #[.agg #[.int .i64 p, .int .i64 q], .int .i64 n, .bool true]) (by simp [results, Tryz.results58, go_sem, *]) rfl ⟨rfl, X'.out⟩
end Go.Proofs.YtkkdikoknegpjaaGreat
