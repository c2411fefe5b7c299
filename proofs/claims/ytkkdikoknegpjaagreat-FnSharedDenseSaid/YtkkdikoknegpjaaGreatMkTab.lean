import Derived.Test.YtkkdikoknegpjaaGreatQB
import Derived.Test.YtkkdikoknegpjaaGreatUTab
import Derived.Test.YtkkdikoknegpjaaGreatQA
namespace Go.Proofs.YtkkdikoknegpjaaGreat
set_option linter.unusedSimpArgs false
set_option linter.unusedVariables false
open Go.RowKit
def shT (s : Int) : Int := addR (rnd s 0) (rnd s 1)
def sec (vs : List Int) (s : Int) (k : Nat) : Int := ring (vs.getD (ring ((k : Int) - shT s)).toNat 0 - rnd (strm s 2) k)
def secL (vs : List Int) (s : Int) (n : Nat) : List Int := (List.range n).map (sec vs s)
theorem secL_len (vs : List Int) (s : Int) (n : Nat) : (secL vs s n).length = n := by simp [secL]
theorem secL_succ (vs : List Int) (s : Int) (n : Nat) : secL vs s (n + 1) = secL vs s n ++ [sec vs s n] := by simp [secL, List.range_succ]
theorem secL_get (vs : List Int) (s : Int) (n i : Nat) (h : i < n) : (secL vs s n).getD i 0 = sec vs s i := by simp [secL, h]
def mkOk (vs : List Int) (s : Int) : Bool := goodL vs && seedOk s
def mtA (vs : List Int) (s : Int) : Int := if mkOk vs s then rnd s 0 else 0
def mtB (vs : List Int) (s : Int) : Int := if mkOk vs s then rnd s 1 else 0
def mtF (vs : List Int) (s : Int) : List Int := if mkOk vs s then rlist (strm s 2) 4096 else []
def mtS (vs : List Int) (s : Int) : List Int := if mkOk vs s then secL vs s 4096 else []
def mtN (vs : List Int) (s : Int) : Int := if mkOk vs s then strm (strm s 2) 4096 else 0
def MadePost (vs : List Int) (s : Int) (w : World) (e : Ending) (w' : World) : Prop :=
 ∃ v1 v2, e = .returned (.tuple #[.agg #[.int .i64 (mtA vs s), .int .i64 (mtB vs s), v1, v2], .int .i64 (mtN vs s)]) ∧ Own w.heap.size w' v1 (mtF vs s) ∧ Own w.heap.size w' v2 (mtS vs s) ∧ (∀ q, v1.ownBlock = some q → v2.ownBlock ≠ some q) ∧ Ext w w'
theorem good_len {vs : List Int} (h : goodL vs = true) : vs.length = 4096 := by simp [goodL] at h; omega
theorem good_rv {vs : List Int} (h : goodL vs = true) (i : Nat) (hi : i < vs.length) : rv (vs.getD i 0) = true := by
 simp only [goodL, Bool.and_eq_true, List.all_eq_true] at h
 have : vs.getD i 0 = vs[i] := by simp [hi]
 rw [this]
 exact h.1 _ (List.getElem_mem hi)
theorem sh_nat (s : Int) (k : Nat) (hk : (k : Int) < 4096) : ∃ i : Nat, ring ((k : Int) - shT s) = (i : Int) ∧ i < 4096 ∧ wrap64 ((k : Int) - shT s) = (k : Int) - shT s := by
 have h1 := ring_lo ((k : Int) - shT s)
 have h2 := ring_hi ((k : Int) - shT s)
 have h3 : -1 ≤ shT s ∧ shT s ≤ 4095 := by
  have := ring_lo (rnd s 0 + rnd s 1)
  have := ring_hi (rnd s 0 + rnd s 1)
  unfold shT addR
  split <;> omega
 exact ⟨(ring ((k : Int) - shT s)).toNat, by omega, by omega, by unfold wrap64; omega⟩
theorem sec_at {vs : List Int} {s : Int} {k i : Nat} (e : ring ((k : Int) - shT s) = (i : Int)) : sec vs s k = ring (vs.getD i 0 - rnd (strm s 2) k) := by simp [sec, e]
theorem wrap_small {p q : Int} (hp : rv p = true) (hq : rv q = true) : wrap64 (p - q) = p - q := by
 rw [rv_iff] at hp hq
 unfold wrap64; omega
def oneT {n0 : Nat} (c : Int) : OpSpec Ext n0 := ⟨[], fun _ u lo up w => u = .slice (some ⟨lo, 0, none⟩) 1 1 ∧ up = lo + 1 ∧ Blk w lo #[.int .i64 c] 3, fun _ _ _ _ _ _ _ _ _ hx ⟨h1, h2, h3⟩ => ⟨h1, h2, h3.keep hx⟩⟩
set_option maxHeartbeats 8000000 in
set_option maxRecDepth 4000 in
theorem spec_MakeTable (vs : List Int) (s : Int) (v : Value) (w : World) (hv : Ints w v vs) : Calls Tryz.prog 57 #[v, .int .i64 s] w (MadePost vs s w) := by
 obtain ⟨sv, nv, rfl, hmv, hcv⟩ := id hv
 clear hmv hcv
 have HV := kp hv
 clear hv
 cases h1 : goodL vs
 ·unfold MadePost
  have hk : mkOk vs s = false := by simp [mkOk, h1]
  rw [show mtA vs s = 0 by simp [mtA, hk], show mtB vs s = 0 by simp [mtB, hk], show mtF vs s = [] by simp [mtF, hk], show mtS vs s = [] by simp [mtS, hk], show mtN vs s = 0 by simp [mtN, hk]]
  clear hk
  have G : Kept (∀ w', Ext w w' → Calls Tryz.prog 83 #[.slice sv vs.length nv] w' fun e w'' => e = .returned (.bool false) ∧ w' = w'') := ⟨fun w' hx => h1 ▸ spec_l10Good _ vs w' (HV.out.keep hx)⟩
  clear h1
  go_enter Tryz.func57, Tryz.ntmps57
  go_wp2_with (fail)
  (with_reducible refine (G.out _ ((Ext.refl w).alloc _)).mono ?_)
  rintro e w1 ⟨rfl, rfl⟩
  go_wp2
  exact bodyPost_ret (v := .tuple #[.agg #[.int .i64 0, .int .i64 0, .slice none 0 0, .slice none 0 0], .int .i64 0]) (by first | (simp [results, Tryz.results57, go_sem]; done) | (simp [results, Tryz.results57, go_sem, *]; done)) rfl ⟨_, _, rfl, Own.nil _ _, Own.nil _ _, fun q h => by simp [Value.ownBlock] at h, (by (repeat (first | refine Ext.setCell ?_ (by first | (simp; done) | (simp; omega) | omega) _ | refine Ext.alloc ?_ _ | refine Ext.drew ?_ | refine Ext.setRow ?_ (by omega) _)); first | exact Ext.refl _ | exact hx | (refine Ext.trans ?_ hx; (repeat (refine Ext.alloc ?_ _)); exact Ext.refl _))⟩
 cases h2 : seedOk s
 ·unfold MadePost
  have hk : mkOk vs s = false := by simp [mkOk, h1, h2]
  rw [show mtA vs s = 0 by simp [mtA, hk], show mtB vs s = 0 by simp [mtB, hk], show mtF vs s = [] by simp [mtF, hk], show mtS vs s = [] by simp [mtS, hk], show mtN vs s = 0 by simp [mtN, hk]]
  clear hk
  have G : Kept (∀ w', Ext w w' → Calls Tryz.prog 83 #[.slice sv vs.length nv] w' fun e w'' => e = .returned (.bool true) ∧ w' = w'') := ⟨fun w' hx => h1 ▸ spec_l10Good _ vs w' (HV.out.keep hx)⟩
  clear h1
  have HK := kp (show (decide (1 ≤ s) && decide (s ≤ 2147483646)) = false from h2); clear h2
  go_enter Tryz.func57, Tryz.ntmps57
  go_wp2_with (fail)
  (with_reducible refine (G.out _ ((Ext.refl w).alloc _)).mono ?_)
  rintro e w1 ⟨rfl, rfl⟩
  go_wp2_with (fail)
  (with_reducible refine (spec_l1In s 1 2147483646 false HK.out _).mono ?_)
  rintro e w1 ⟨rfl, rfl⟩
  go_wp2
  exact bodyPost_ret (v := .tuple #[.agg #[.int .i64 0, .int .i64 0, .slice none 0 0, .slice none 0 0], .int .i64 0]) (by first | (simp [results, Tryz.results57, go_sem]; done) | (simp [results, Tryz.results57, go_sem, *]; done)) rfl ⟨_, _, rfl, Own.nil _ _, Own.nil _ _, fun q h => by simp [Value.ownBlock] at h, (by (repeat (first | refine Ext.setCell ?_ (by first | (simp; done) | (simp; omega) | omega) _ | refine Ext.alloc ?_ _ | refine Ext.drew ?_ | refine Ext.setRow ?_ (by omega) _)); first | exact Ext.refl _ | exact hx | (refine Ext.trans ?_ hx; (repeat (refine Ext.alloc ?_ _)); exact Ext.refl _))⟩
 unfold MadePost
 have hk : mkOk vs s = true := by simp [mkOk, h1, h2]
 rw [show mtA vs s = rnd s 0 by simp [mtA, hk], show mtB vs s = rnd s 1 by simp [mtB, hk], show mtF vs s = rlist (strm s 2) 4096 by simp [mtF, hk], show mtS vs s = secL vs s 4096 by simp [mtS, hk], show mtN vs s = strm (strm s 2) 4096 by simp [mtN, hk]]
 clear hk
 have LV := kp (good_len h1)
 have RV := kp (good_rv h1)
 have G : Kept (∀ w', Ext w w' → Calls Tryz.prog 83 #[.slice sv vs.length nv] w' fun e w'' => e = .returned (.bool true) ∧ w' = w'') := ⟨fun w' hx => h1 ▸ spec_l10Good _ vs w' (HV.out.keep hx)⟩
 clear h1
 have HS := kp (seed_of h2)
 have HK := kp (show (decide (1 ≤ s) && decide (s ≤ 2147483646)) = true from h2); clear h2
 have L2 : Kept (∀ w, Calls Tryz.prog 84 #[.int .i64 s, .int .i64 2] w (ListPost s 2 w)) := ⟨fun w => spec_l4List s 2 HS.out ⟨by decide⟩ w⟩
 have L4 : Kept (∀ w, Calls Tryz.prog 84 #[.int .i64 (strm s 2), .int .i64 4096] w (ListPost (strm s 2) 4096 w)) := ⟨fun w => spec_l4List (strm s 2) 4096 (HS.out.strm 2) ⟨by decide⟩ w⟩
 go_enter Tryz.func57, Tryz.ntmps57
 go_wp2_with (fail)
 (with_reducible refine (G.out _ ((Ext.refl w).alloc _)).mono ?_)
 rintro e w1 ⟨rfl, rfl⟩
 go_wp2_with (fail)
 (with_reducible refine (spec_l1In s 1 2147483646 true HK.out _).mono ?_)
 rintro e w1 ⟨rfl, rfl⟩
 clear G HK
 have kR := Blk.new w #[.int .i64 0, .int .i64 0, .slice none 0 0, .slice none 0 0] 80
 have hx := (Ext.refl w).alloc (.cells #[.int .i64 0, .int .i64 0, .slice none 0 0, .slice none 0 0] 80)
 go_wp2_with (fail)
 (with_reducible refine (L2.out _).mono ?_)
 rintro e w1 ⟨v2, rfl, o2, x2⟩
 obtain ⟨g2, c2, rfl, hg2, R2⟩ := o2.row (by omega)
 clear o2 hg2
 replace kR := kR.keep x2
 replace hx := hx.trans x2
 clear x2 L2
 go_wp2_with (fail)
 (with_reducible refine (L4.out _).mono ?_)
 rintro e w2 ⟨v4, rfl, OF, x4⟩
 obtain ⟨gF, cF, rfl, hgF, RF⟩ := OF.row (by omega)
 clear RF
 have lgF := (OF.block gF rfl).2
 replace OF := OF.mono hx.size
 replace R2 := R2.keep x4
 replace kR := kR.keep x4
 replace hx := hx.trans x4
 clear x4 L4 hgF
 go_wp2_with (fail)
 apply wp_region_zip [isv _, isv _, isv _, isv _, isv _, isv _, isv _, isv _, isv _, newb _ 80] _ (by kernel_rfl)
 case hA => intro V; simp [putAll, dstOf, Act.put]; exact rfl
 case hsl => intro V; exact rfl
 case step =>
  intro V lo up w' hr
  have hxr := hx.trans hr
  obtain ⟨hcr, hzr⟩ := hxr.cells
  have hsr := hr.size
  have R2 := R2.keep hr
  have kR := kR.keep hr
  have OF := OF.keep hr
  obtain ⟨r0, r1⟩ := R2.two
  simp only [zipOk, depsImp, isv, newb, waits, Region.binds, List.map_nil, List.map_cons, List.headD_cons, List.nil_append, List.cons_append, List.filterMap_cons, List.filterMap_nil, ↓reduceIte, modeNe, Bool.false_eq_true, true_implies, List.getD_cons_zero, List.getD_cons_succ, and_true]
  refine ⟨?_, ?_, ?_, ?_, ?_, ?_, ?_, ?_, ?_, ?_⟩
  ·intros
   go_wp2
   refine sQ ?_
   exact eZ
  ·intros
   go_wp2
   refine sQ ?_
   exact eZ
  ·intros
   go_wp2
   refine sQ ?_
   exact eZ
  ·intros
   go_wp2
   refine sQ ?_
   exact eZ
  ·intros
   go_wp2
   refine sQ ?_
   exact eZ
  ·intros
   go_wp2
   refine sQ ?_
   exact eZ
  ·intros
   go_wp2
   refine sQ ?_
   exact eZ
  ·intros
   go_wp2
   refine sQ ?_
   exact eZ
  ·intros
   go_wp2
   refine sQ ?_
   exact eZ
  intros
  go_wp2
  refine sQ ?_
  exact ⟨(Ext.refl _).alloc _, rfl, by simp, Blk.new _ _ _⟩
 case hB => kernel_rfl
 intro V lo up w' hr hf ha
 simp only [factsOk, isv, newb, List.map_nil, List.map_cons, List.headD_cons, and_true, Nat.zero_add, Nat.reduceAdd] at hf
 simp only [List.length_cons, List.length_nil, Nat.zero_add, Nat.reduceAdd, List.drop_succ_cons, List.drop_zero]
 obtain ⟨-, -, -, -, -, -, -, -, ⟨-, -, -, e8⟩, ⟨l9, -, -, e9, -, kT⟩⟩ := hf
 clear ha
 have hs0 := hx.size
 have hx' := hx.trans hr
 clear hx
 have hx := hx'
 clear hx'
 have tkR := kR.lt
 replace R2 := R2.keep hr
 replace kR := kR.keep hr
 replace OF := OF.keep hr
 rw [e8, e9]
 clear e8 e9
 generalize lo 9 = gT at *
 clear hr
 obtain ⟨hc, hz⟩ := hx.cells
 refine wpList_store_blk rfl rfl 80 (.tmp 10) (.tmp 40) rfl gT _ rfl rfl 80 _ kT (by kernel_rfl) rfl (by simp [Value.oneCell']) hx (by omega) ?_
 rintro W1 hy kT' hoth hsz
 replace kR := kR.keep' hoth (by omega)
 replace OF := OF.keep' hoth (OF.ne kT (by decide))
 clear kT
 have kT := kT'
 clear kT' hoth hx
 have hx := hy
 clear hy
 clear hc hz
 obtain ⟨hc, hz⟩ := hx.cells
 clear hc hz R2
 obtain ⟨t0, t1, t2, t3⟩ := kT.four
 go_wp2_with (fail)
 (with_reducible refine (spec_JoinShares _ _ _).mono ?_)
 rintro e w3 ⟨rfl, x3⟩
 clear t0 t1 t2 t3
 replace kT := kT.keep x3
 replace kR := kR.keep x3
 replace OF := OF.keep x3
 replace hx := hx.trans x3
 clear x3
 have lT := kT.lt
 have lR := kR.lt
 have lF := (OF.block gF rfl).2
 rw [show addR (rnd s 0) (rnd s 1) = shT s from rfl]
 have lw3 := kp hx.size
 go_wp2_with (fail)
 go_loopw [12] (fun i wr => ∃ (j : Nat) (v : Value), j ≤ 4096 ∧ i = .int .i64 j ∧ Blk wr gT #[.int .i64 (rnd s 0), .int .i64 (rnd s 1), .slice (some ⟨gF, 0, none⟩) 4096 cF, v] 80 ∧ Own w3.heap.size wr v (secL vs s j) ∧ Own w.heap.size wr (.slice (some ⟨gF, 0, none⟩) 4096 cF) (rlist (strm s 2) 4096) ∧ Blk wr w.heap.size #[.int .i64 0, .int .i64 0, .slice none 0 0, .slice none 0 0] 80 ∧ Ext w wr ∧ w3.heap.size ≤ wr.heap.size) (fun i _ => 4096 - (intOf i).toNat)
 case atStart => exact ⟨0, _, by omega, rfl, kT, Own.nil _ _, OF, kR, hx, Nat.le_refl _⟩
 obtain ⟨j, v, hj, rfl, kT, ho, OF, kR, hx, hB⟩ := hrel
 have neF : v.ownBlock ≠ some gF := fun e => by have := (ho.block gF e).1; omega
 have neT := ho.ne kT (by decide)
 have neR := ho.ne kR (by decide)
 have nTR : gT ≠ w.heap.size := by omega
 by_cases hlt : (j : Int) < 4096
 ·obtain ⟨i, ei, li, ew⟩ := sh_nat s j hlt
  have FC := OF.cell (rlist_len _ _) j (by omega)
  rw [rlist_get _ _ _ (by omega)] at FC
  have fc := kp FC.1
  clear FC
  obtain ⟨b, off, es, lb, cb⟩ := HV.out.at (n := i) (by have := LV.out; omega)
  subst es
  have wq := wrap_small (RV.out i (by have := LV.out; omega)) (rnd_rv (strm s 2) j)
  have ES := kp (sec_at (vs := vs) ei)
  have hiZ : (i : Int) < (vs.length : Int) := by have := LV.out; omega
  have hiN : i < vs.length := by omega
  clear li
  generalize vs.getD i 0 = p at *
  generalize rnd (strm s 2) j = q at *
  have KT := kp kT
  have KR := kp kR
  have FO := kp OF
  have HO := kp ho
  have HX := kp hx
  clear kT kR OF ho hx
  go_wp2_with (fail)
  apply wp_region_zip [isv _, isv _, isv _, isv _, isv _, isv _, isv _, isv _, isv _, isv _, isv _, isv _, isv _, isv _, isv _, oneT (ring (p - q))] _ (by kernel_rfl)
  case hA => intro V; simp [putAll, dstOf, Act.put]; exact rfl
  case hsl => intro V; exact rfl
  case step =>
   intro V lo up w' hr
   obtain ⟨hcr, hzr⟩ := hr.cells
   have hsr := hr.size
   have XR := kp (HX.out.trans hr)
   have kT := KT.out.keep hr
   obtain ⟨t0, t1, t2, t3⟩ := kT.four
   have c1 := (XR.out.cells.1 b (off + i) lb).trans cb
   have c2 := (hr.cells.1 gF j (FO.out.block gF rfl).2).trans fc.out
   simp only [zipOk, depsImp, isv, oneT, modeNg, newb, waits, Region.binds, List.map_nil, List.map_cons, List.headD_cons, List.nil_append, List.cons_append, List.filterMap_cons, List.filterMap_nil, ↓reduceIte, modeNe, Bool.false_eq_true, true_implies, List.getD_cons_zero, List.getD_cons_succ, and_true]
   refine ⟨?_, ?_, ?_, ?_, ?_, ?_, ?_, ?_, ?_, ?_, ?_, ?_, ?_, ?_, ?_, ?_⟩
   ·intros
    go_wp2
    refine sQ ?_
    exact eZ
   ·intros
    go_wp2
    refine sQ ?_
    exact eZ
   ·intros
    go_wp2
    refine sQ ?_
    exact eZ
   ·intros
    go_wp2
    refine sQ ?_
    exact eZ
   ·intros
    go_wp2
    refine sQ ?_
    exact eZ
   ·intros
    go_wp2
    refine sQ ?_
    exact eZ
   ·intros
    go_wp2_with (go_at_call 86; (with_reducible refine (spec_l1Ring _ _).mono ?_); rintro e w1 ⟨rfl, rfl⟩)
    refine sQ ?_
    exact eZ
   ·intros
    go_wp2
    refine sQ ?_
    exact eZ
   ·intros
    go_wp2
    refine sQ ?_
    exact eZ
   ·intros
    go_wp2
    refine sQ ?_
    exact eZ
   ·intros
    go_wp2
    refine sQ ?_
    exact eZ
   ·intros
    go_wp2
    refine sQ ?_
    exact eZ
   ·intros
    go_wp2
    refine sQ ?_
    exact eZ
   ·intros
    go_wp2
    refine sQ ?_
    exact eZ
   ·intros
    go_wp2_with (go_at_call 86; (with_reducible refine (spec_l1Ring _ _).mono ?_); rintro e w1 ⟨rfl, rfl⟩)
    refine sQ ?_
    exact eZ
   intros
   go_wp2
   refine sQ ?_
   exact ⟨(Ext.refl _).alloc _, rfl, by simp, Blk.new _ _ _⟩
  case hB => kernel_rfl
  intro V lo up w' hr hf ha
  simp only [factsOk, isv, oneT, modeNg, newb, List.map_nil, List.map_cons, List.headD_cons, and_true, Nat.zero_add, Nat.reduceAdd] at hf
  simp only [List.length_cons, List.length_nil, Nat.zero_add, Nat.reduceAdd, List.drop_succ_cons, List.drop_zero]
  obtain ⟨-, ⟨-, -, -, e1⟩, -, -, -, -, -, -, -, -, -, -, -, -, -, ⟨l15, -, -, e15, -, k15⟩⟩ := hf
  clear ha
  rw [e1, e15]
  clear e1 e15
  generalize lo 15 = g1 at *
  have hB' : w3.heap.size ≤ w'.heap.size := Nat.le_trans hB hr.size
  go_wp2_with (at_builtin; refine wpList_append_one rfl _ _ rfl w3.heap.size _ (secL vs s j) rfl (HO.out.keep hr) g1 _ rfl k15 (by rw [secL_len]; omega) hB' ?_; intro v' w1 hown1 htu; have kT1 := Turned.blk (KT.out.keep hr) htu neT; obtain ⟨t0, t1, t2, t3⟩ := kT1.four; have tf := kT1.free; have K1 := kp kT1; have OW := kp hown1; obtain ⟨p1, m1, rfl, -, -⟩ := id hown1.ints; have TU := kp htu; clear kT1 hown1 htu)
  have OW2 : Own w3.heap.size w1 (.slice p1 ((secL vs s j).length + 1) m1) (secL vs s j ++ [ring (p - q)]) := by have := OW.out; rw [List.length_append, List.length_singleton] at this; exact this
  have OW' : Own w3.heap.size w1 (.slice p1 ((secL vs s j).length + 1) m1) (secL vs s (j + 1)) := by rw [secL_succ, ES.out]; exact OW2
  have kT2 : Blk (w1.setCell ⟨gT, 3, none⟩ _) gT _ _ := heap_setCell_same w1 gT 3 _ _ (.slice p1 ((secL vs s j).length + 1) m1) K1.out
  have XE := kp (Turned.ext (HX.out.trans hr) TU.out (fun q hq => by have := (HO.out.block q hq).1; have := lw3.out; omega))
  have R2 := Turned.blk (KR.out.keep hr) TU.out neR
  have F2 := TU.out.own (FO.out.keep hr) (fun q hq e => by simp [Value.ownBlock] at e; subst e; exact neF hq)
  have sz1 := TU.out.size
  clear t0 t1 t2 t3 tf
  go_roundw
  case rel =>
   exact ⟨j + 1, .slice p1 ((secL vs s j).length + 1) m1, by omega, by go_num, by exact kT2, OW'.setOther _ (OW2.ne K1.out (by decide)) _ _, F2.setOther _ (by simp [Value.ownBlock]; omega) _ _, by unfold Blk; rw [Below.heap_setCell _ _ _ _ (by show w.heap.size ≠ gT; omega)]; exact R2, XE.out.setCell (by show w.heap.size ≤ gT; omega) _, by simp [World.setCell]; omega⟩
  case measure => simp [intOf]; omega
 have e : j = 4096 := by omega
 subst e
 obtain ⟨p1, m1, rfl, -, -⟩ := id ho.ints
 obtain ⟨t0, t1, t2, t3⟩ := kT.four
 obtain ⟨r0, r1, r2, r3⟩ := kR.four
 have rf := kR.free
 have nEF := OF.ne kR (by decide)
 have HO := kp ho
 have FO := kp OF
 have HX := kp hx
 clear ho OF hx kT kR
 go_wp2
 exact bodyPost_ret (v := .tuple #[.agg #[.int .i64 (rnd s 0), .int .i64 (rnd s 1), .slice (some ⟨gF, 0, none⟩) 4096 cF, .slice p1 (secL vs s 4096).length m1], .int .i64 (strm (strm s 2) 4096)]) (by simp [results, Tryz.results57, go_sem, *]) rfl ⟨_, _, rfl, (Own.setOther (Own.setOther (Own.setOther (Own.setOther FO.out w.heap.size nEF _ _) w.heap.size nEF _ _) w.heap.size nEF _ _) w.heap.size nEF _ _), (((Own.setOther (Own.setOther (Own.setOther (Own.setOther HO.out w.heap.size neR _ _) w.heap.size neR _ _) w.heap.size neR _ _) w.heap.size neR _ _)).mono lw3.out), fun q e1 e2 => by simp [Value.ownBlock] at e1; subst e1; exact neF e2, ((((HX.out.setCell (Nat.le_refl _) _).setCell (Nat.le_refl _) _).setCell (Nat.le_refl _) _).setCell (Nat.le_refl _) _)⟩
def zeros : List Int := List.replicate 4096 0
theorem zeros_len : zeros.length = 4096 := List.length_replicate
def mkS {n0 : Nat} (B : Nat) : OpSpec Ext n0 := ⟨[], fun _ u lo up w => u = .slice (some ⟨lo, 0, none⟩) 4096 4096 ∧ lo < up ∧ Own B w u zeros, fun _ _ _ _ _ _ _ _ _ hx ⟨h1, h2, h3⟩ => ⟨h1, h2, h3.keep hx⟩⟩
def bldS {n0 : Nat} (i : Nat) (a b c : Value) : OpSpec Ext n0 := ⟨[i], fun vs u _ _ _ => u = .agg #[a, b, c, vs.headD undef], fun _ _ _ _ _ _ _ _ _ _ h => h⟩
set_option maxHeartbeats 8000000 in
set_option maxRecDepth 4000 in
theorem impl_MakeTable (vs : List Int) (s : Int) (v : Value) (w : World) (hv : Ints w v vs) : Calls Tryz.prog 116 #[v, .int .i64 s] w (MadePost vs s w) := by
 obtain ⟨sv, nv, rfl, hmv, hcv⟩ := id hv
 clear hmv hcv
 have HV := kp hv
 clear hv
 by_cases hl : (vs.length : Int) = 4096
 ·have hn : vs.length = 4096 := by omega
  have HV0 := HV
  rw [hn] at HV ⊢
  clear hn
  cases ha : vs.all rv
  ·have h1 : goodL vs = false := by simp [goodL, ha]
   unfold MadePost
   have hk : mkOk vs s = false := by simp [mkOk, h1]
   rw [show mtA vs s = 0 by simp [mtA, hk], show mtB vs s = 0 by simp [mtB, hk], show mtF vs s = [] by simp [mtF, hk], show mtS vs s = [] by simp [mtS, hk], show mtN vs s = 0 by simp [mtN, hk]]
   clear hk
   clear h1
   have AR : Kept (∀ w', Ext w w' → Calls Tryz.prog 72 #[.slice sv 4096 nv] w' fun e w'' => e = .returned (.bool false) ∧ w' = w'') := ⟨fun w' hx => ha ▸ impl_allRing _ vs w' (HV.out.keep hx)⟩
   clear ha
   go_enter Tryz.func116, Tryz.ntmps116
   go_wp2_with (fail)
   (with_reducible refine (AR.out _ ((Ext.refl w).alloc _)).mono ?_)
   rintro e w1 ⟨rfl, rfl⟩
   go_wp2
   exact bodyPost_ret (v := .tuple #[.agg #[.int .i64 0, .int .i64 0, .slice none 0 0, .slice none 0 0], .int .i64 0]) (by first | (simp [results, Tryz.results116, go_sem]; done) | (simp [results, Tryz.results116, go_sem, *]; done)) rfl ⟨_, _, rfl, Own.nil _ _, Own.nil _ _, fun q h => by simp [Value.ownBlock] at h, (by (repeat (first | refine Ext.setCell ?_ (by first | (simp; done) | (simp; omega) | omega) _ | refine Ext.alloc ?_ _ | refine Ext.drew ?_ | refine Ext.setRow ?_ (by omega) _)); first | exact Ext.refl _ | exact hx | (refine Ext.trans ?_ hx; (repeat (refine Ext.alloc ?_ _)); exact Ext.refl _))⟩
  have h1 : goodL vs = true := by simp [goodL, ha, hl]
  cases h2 : seedOk s
  ·unfold MadePost
   have hk : mkOk vs s = false := by simp [mkOk, h1, h2]
   rw [show mtA vs s = 0 by simp [mtA, hk], show mtB vs s = 0 by simp [mtB, hk], show mtF vs s = [] by simp [mtF, hk], show mtS vs s = [] by simp [mtS, hk], show mtN vs s = 0 by simp [mtN, hk]]
   clear hk
   clear h1
   have AR : Kept (∀ w', Ext w w' → Calls Tryz.prog 72 #[.slice sv 4096 nv] w' fun e w'' => e = .returned (.bool true) ∧ w' = w'') := ⟨fun w' hx => ha ▸ impl_allRing _ vs w' (HV.out.keep hx)⟩
   clear ha
   have HK := kp (show (decide (1 ≤ s) && decide (s ≤ 2147483646)) = false from h2); clear h2
   go_enter Tryz.func116, Tryz.ntmps116
   go_wp2_with (fail)
   (with_reducible refine (AR.out _ ((Ext.refl w).alloc _)).mono ?_)
   rintro e w1 ⟨rfl, rfl⟩
   go_wp2_with (fail)
   (with_reducible refine (impl_seedValid s false HK.out _).mono ?_)
   rintro e w1 ⟨rfl, rfl⟩
   go_wp2
   exact bodyPost_ret (v := .tuple #[.agg #[.int .i64 0, .int .i64 0, .slice none 0 0, .slice none 0 0], .int .i64 0]) (by first | (simp [results, Tryz.results116, go_sem]; done) | (simp [results, Tryz.results116, go_sem, *]; done)) rfl ⟨_, _, rfl, Own.nil _ _, Own.nil _ _, fun q h => by simp [Value.ownBlock] at h, (by (repeat (first | refine Ext.setCell ?_ (by first | (simp; done) | (simp; omega) | omega) _ | refine Ext.alloc ?_ _ | refine Ext.drew ?_ | refine Ext.setRow ?_ (by omega) _)); first | exact Ext.refl _ | exact hx | (refine Ext.trans ?_ hx; (repeat (refine Ext.alloc ?_ _)); exact Ext.refl _))⟩
  unfold MadePost
  have hk : mkOk vs s = true := by simp [mkOk, h1, h2]
  rw [show mtA vs s = rnd s 0 by simp [mtA, hk], show mtB vs s = rnd s 1 by simp [mtB, hk], show mtF vs s = rlist (strm s 2) 4096 by simp [mtF, hk], show mtS vs s = secL vs s 4096 by simp [mtS, hk], show mtN vs s = strm (strm s 2) 4096 by simp [mtN, hk]]
  clear hk
  have LV := kp (good_len h1)
  have RV := kp (good_rv h1)
  clear h1
  have AR : Kept (∀ w', Ext w w' → Calls Tryz.prog 72 #[.slice sv 4096 nv] w' fun e w'' => e = .returned (.bool true) ∧ w' = w'') := ⟨fun w' hx => ha ▸ impl_allRing _ vs w' (HV.out.keep hx)⟩
  clear ha
  have HS := kp (seed_of h2)
  have HK := kp (show (decide (1 ≤ s) && decide (s ≤ 2147483646)) = true from h2); clear h2
  have L2 : Kept (∀ w, Calls Tryz.prog 122 #[.int .i64 s, .int .i64 2] w (ListPost s 2 w)) := ⟨fun w => impl_RandomList s 2 HS.out (by decide) w⟩
  have L4 : Kept (∀ w, Calls Tryz.prog 122 #[.int .i64 (strm s 2), .int .i64 4096] w (ListPost (strm s 2) 4096 w)) := ⟨fun w => impl_RandomList (strm s 2) 4096 (HS.out.strm 2) (by decide) w⟩
  go_enter Tryz.func116, Tryz.ntmps116
  go_wp2_with (fail)
  (with_reducible refine (AR.out _ ((Ext.refl w).alloc _)).mono ?_)
  rintro e w1 ⟨rfl, rfl⟩
  go_wp2_with (fail)
  (with_reducible refine (impl_seedValid s true HK.out _).mono ?_)
  rintro e w1 ⟨rfl, rfl⟩
  clear AR HK
  have kR := Blk.new w #[.int .i64 0, .int .i64 0, .slice none 0 0, .slice none 0 0] 80
  have hx := (Ext.refl w).alloc (.cells #[.int .i64 0, .int .i64 0, .slice none 0 0, .slice none 0 0] 80)
  go_wp2_with (fail)
  (with_reducible refine (L2.out _).mono ?_)
  rintro e w1 ⟨v2, rfl, o2, x2⟩
  obtain ⟨g2, c2, rfl, hg2, R2⟩ := o2.row (by omega)
  clear o2 hg2
  replace kR := kR.keep x2
  replace hx := hx.trans x2
  clear x2 L2
  go_wp2_with (fail)
  (with_reducible refine (L4.out _).mono ?_)
  rintro e w2 ⟨v4, rfl, OF, x4⟩
  obtain ⟨gF, cF, rfl, hgF, RF⟩ := OF.row (by omega)
  clear RF
  have lgF := (OF.block gF rfl).2
  replace OF := OF.mono hx.size
  replace R2 := R2.keep x4
  replace kR := kR.keep x4
  replace hx := hx.trans x4
  clear x4 L4 hgF
  go_wp2_with (fail)
  apply wp_region_zip [isv _, isv _, isv _, isv _, isv _, isv _, isv _, isv _, mkS w.heap.size, bldS 8 (.int .i64 (rnd s 0)) (.int .i64 (rnd s 1)) (.slice (some ⟨gF, 0, none⟩) 4096 cF), newb _ 80] _ (by kernel_rfl)
  case hA => intro V; simp [putAll, dstOf, Act.put]; exact rfl
  case hsl => intro V; exact rfl
  case step =>
   intro V lo up w' hr
   have hxr := hx.trans hr
   obtain ⟨hcr, hzr⟩ := hxr.cells
   have hsr := hr.size
   have R2 := R2.keep hr
   have kR := kR.keep hr
   have OF := OF.keep hr
   obtain ⟨r0, r1⟩ := R2.two
   simp only [zipOk, depsImp, isv, mkS, bldS, newb, waits, Region.binds, List.map_nil, List.map_cons, List.headD_cons, List.nil_append, List.cons_append, List.filterMap_cons, List.filterMap_nil, ↓reduceIte, modeNe, Bool.false_eq_true, true_implies, List.getD_cons_zero, List.getD_cons_succ, and_true]
   refine ⟨?_, ?_, ?_, ?_, ?_, ?_, ?_, ?_, ?_, ?_, ?_⟩
   ·intros
    go_wp2
    refine sQ ?_
    exact eZ
   ·intros
    go_wp2
    refine sQ ?_
    exact eZ
   ·intros
    go_wp2
    refine sQ ?_
    exact eZ
   ·intros
    go_wp2
    refine sQ ?_
    exact eZ
   ·intros
    go_wp2
    refine sQ ?_
    exact eZ
   ·intros
    go_wp2
    refine sQ ?_
    exact eZ
   ·intros
    go_wp2
    refine sQ ?_
    exact eZ
   ·intros
    go_wp2
    refine sQ ?_
    exact eZ
   ·intros
    go_wp2_with (at_make; refine wpList_make_ints _ rfl _ _ rfl w'.heap.size 4096 4096 rfl rfl rfl (by omega) (Nat.le_refl _) ?_; intro w5 hown5 hx5 hlt5; have H5 := kp hown5; clear hown5)
    refine sQ ?_
    exact ⟨hx5, rfl, hlt5, H5.out.mono (Nat.le_trans hx.size hsr)⟩
   ·intro _ _ _ e8' _ _ _ e6 _ _ _ e7
    intros
    go_wp2
    refine sQ ?_
    exact ⟨Ext.refl _, by first | rfl | rw [e8'.1] | simp [e8'.1]⟩
   intros
   go_wp2
   refine sQ ?_
   exact ⟨(Ext.refl _).alloc _, rfl, by simp, Blk.new _ _ _⟩
  case hB => kernel_rfl
  intro V lo up w' hr hf ha
  simp only [factsOk, isv, mkS, bldS, newb, List.map_nil, List.map_cons, List.headD_cons, and_true, Nat.zero_add, Nat.reduceAdd] at hf
  simp only [List.length_cons, List.length_nil, Nat.zero_add, Nat.reduceAdd, List.drop_succ_cons, List.drop_zero]
  obtain ⟨-, -, -, -, -, -, -, -, ⟨l8, u8, -, e8, -, oS⟩, ⟨-, -, -, e9⟩, ⟨l10, -, -, e10, -, kT⟩⟩ := hf
  clear ha
  have hs0 := hx.size
  have hx' := hx.trans hr
  clear hx
  have hx := hx'
  clear hx'
  have tkR := kR.lt
  replace R2 := R2.keep hr
  replace kR := kR.keep hr
  replace OF := OF.keep hr
  rw [e8] at e9
  rw [e8, e9]
  rw [e10]
  clear e9 e10
  replace oS := e8 ▸ oS
  clear e8
  generalize lo 8 = gS at *
  generalize lo 10 = gT at *
  clear hr
  obtain ⟨hc, hz⟩ := hx.cells
  refine wpList_store_blk rfl rfl 80 (.tmp 10) (.tmp 46) rfl gT _ rfl rfl 80 _ kT (by kernel_rfl) rfl (by simp [Value.oneCell']) hx (by omega) ?_
  rintro W1 hy kT' hoth hsz
  replace kR := kR.keep' hoth (by omega)
  replace OF := OF.keep' hoth (OF.ne kT (by decide))
  replace oS := oS.keep' hoth (oS.ne kT (by decide))
  clear kT
  have kT := kT'
  clear kT' hoth hx
  have hx := hy
  clear hy
  clear hc hz
  obtain ⟨hc, hz⟩ := hx.cells
  clear hc hz R2
  obtain ⟨t0, t1, t2, t3⟩ := kT.four
  go_wp2_with (fail)
  (with_reducible refine (impl_JoinShares _ _ _).mono ?_)
  rintro e w3 ⟨rfl, x3⟩
  clear t0 t1 t2 t3
  replace kT := kT.keep x3
  replace kR := kR.keep x3
  replace OF := OF.keep x3
  replace oS := oS.keep x3
  replace hx := hx.trans x3
  clear x3
  have lT := kT.lt
  have lR := kR.lt
  have lF := (OF.block gF rfl).2
  have gSF : gS ≠ gF := by omega
  rw [show addR (rnd s 0) (rnd s 1) = shT s from rfl]
  obtain ⟨t0, t1, t2, t3⟩ := kT.four
  have lw3 := kp hx.size
  go_wp2_with (fail)
  clear t0 t1 t2 t3
  go_loopw [53] (fun i wr => ∃ (j : Nat) (xs : List Int), j ≤ 4096 ∧ i = .int .i64 j ∧ Blk wr gT #[.int .i64 (rnd s 0), .int .i64 (rnd s 1), .slice (some ⟨gF, 0, none⟩) 4096 cF, .slice (some ⟨gS, 0, none⟩) 4096 4096] 80 ∧ xs.length = 4096 ∧ Own w.heap.size wr (.slice (some ⟨gS, 0, none⟩) 4096 4096) xs ∧ (∀ i, i < j → xs.getD i 0 = sec vs s i) ∧ Own w.heap.size wr (.slice (some ⟨gF, 0, none⟩) 4096 cF) (rlist (strm s 2) 4096) ∧ Blk wr w.heap.size #[.int .i64 0, .int .i64 0, .slice none 0 0, .slice none 0 0] 80 ∧ Ext w wr) (fun i _ => 4096 - (intOf i).toNat)
  case atStart => exact ⟨0, zeros, by omega, rfl, kT, zeros_len, oS, fun i hi => absurd hi (Nat.not_lt_zero i), OF, kR, hx⟩
  obtain ⟨j, xs, hj, rfl, kT, hlen, ho, hval, OF, kR, hx⟩ := hrel
  have neT := ho.ne kT (by decide)
  have neR := ho.ne kR (by decide)
  by_cases hlt : (j : Int) < 4096
  ·obtain ⟨i, ei, li, ew⟩ := sh_nat s j hlt
   have FC := OF.cell (rlist_len _ _) j (by omega)
   rw [rlist_get _ _ _ (by omega)] at FC
   have fc := kp FC.1
   clear FC
   obtain ⟨b, off, es, lb, cb⟩ := HV0.out.at (n := i) (by have := LV.out; omega)
   subst es
   have SB := subR_ok (RV.out i (by have := LV.out; omega)) (rnd_rv (strm s 2) j)
   have ES := kp (sec_at (vs := vs) ei)
   have hi4 : (i : Int) < 4096 := by omega
   clear li
   generalize vs.getD i 0 = p at *
   generalize rnd (strm s 2) j = q at *
   have KT := kp kT
   have KR := kp kR
   have FO := kp OF
   have HO := kp ho
   have HX := kp hx
   have HV' := kp hval
   have HL := kp hlen
   clear kT kR OF ho hx hval hlen
   go_wp2_with (fail)
   apply wp_region_zip [isv _, isv _, isv _, isv _, isv _, isv _, isv _, isv _, isv _, isv _, isv _, isv _, isv _, isv _, isv _, isv _] _ (by kernel_rfl)
   case hA => intro V; simp [putAll, dstOf, Act.put]; exact rfl
   case hsl => intro V; exact rfl
   case step =>
    intro V lo up w' hr
    obtain ⟨hcr, hzr⟩ := hr.cells
    have hsr := hr.size
    have XR := kp (HX.out.trans hr)
    have kT := KT.out.keep hr
    obtain ⟨t0, t1, t2, t3⟩ := kT.four
    have c1 := (XR.out.cells.1 b (off + i) lb).trans cb
    have c2 := (hr.cells.1 gF j (FO.out.block gF rfl).2).trans fc.out
    simp only [zipOk, depsImp, isv, modeNg, newb, waits, Region.binds, List.map_nil, List.map_cons, List.headD_cons, List.nil_append, List.cons_append, List.filterMap_cons, List.filterMap_nil, ↓reduceIte, modeNe, Bool.false_eq_true, true_implies, List.getD_cons_zero, List.getD_cons_succ, and_true]
    refine ⟨?_, ?_, ?_, ?_, ?_, ?_, ?_, ?_, ?_, ?_, ?_, ?_, ?_, ?_, ?_, ?_⟩
    ·intros
     go_wp2
     refine sQ ?_
     exact eZ
    ·intros
     go_wp2
     refine sQ ?_
     exact eZ
    ·intros
     go_wp2
     refine sQ ?_
     exact eZ
    ·intros
     go_wp2
     refine sQ ?_
     exact eZ
    ·intros
     go_wp2
     refine sQ ?_
     exact eZ
    ·intros
     go_wp2
     refine sQ ?_
     exact eZ
    ·intros
     go_wp2
     refine sQ ?_
     exact eZ
    ·intros
     go_wp2_with (go_at_call 97; (with_reducible refine (impl_RingOf _ _).mono ?_); rintro e w1 ⟨rfl, rfl⟩)
     refine sQ ?_
     exact eZ
    ·intros
     go_wp2
     refine sQ ?_
     exact eZ
    ·intros
     go_wp2
     refine sQ ?_
     exact eZ
    ·intros
     go_wp2
     refine sQ ?_
     exact eZ
    ·intros
     go_wp2
     refine sQ ?_
     exact eZ
    ·intros
     go_wp2
     refine sQ ?_
     exact eZ
    ·intros
     go_wp2
     refine sQ ?_
     exact eZ
    ·intros
     go_wp2
     refine sQ ?_
     exact eZ
    intros
    go_wp2_with (go_at_call 123; (with_reducible refine (impl_SubRing _ _ _).mono ?_); rintro e w1 ⟨rfl, rfl⟩)
    refine sQ ?_
    exact eZ
   case hB => kernel_rfl
   intro V lo up w' hr hf ha
   simp only [factsOk, isv, modeNg, newb, List.map_nil, List.map_cons, List.headD_cons, and_true, Nat.zero_add, Nat.reduceAdd] at hf
   simp only [List.length_cons, List.length_nil, Nat.zero_add, Nat.reduceAdd, List.drop_succ_cons, List.drop_zero]
   obtain ⟨-, ⟨-, -, -, e1⟩, ⟨-, -, -, e2⟩, -, -, -, -, -, -, -, -, -, -, -, -, ⟨-, -, -, e15⟩⟩ := hf
   clear ha
   rw [e1, e2, e15]
   clear e1 e2 e15
   try rw [SB]
   have hcell := (HO.out.keep hr).cell HL.out j (by omega)
   obtain ⟨hc1, hc2⟩ := hcell
   have hst := kp ((HO.out.keep hr).store HL.out j (ring (p - q)))
   go_wp2
   go_roundw
   case rel =>
    refine ⟨j + 1, xs.set j (ring (p - q)), by omega, by go_num, ?_, by rw [List.length_set]; exact HL.out, hst.out.1, fun i hi => ?_, ?_, ?_, ?_⟩
    ·unfold Blk; rw [Below.heap_setCell _ _ _ _ (by show gT ≠ gS; intro e; exact neT (by simp [Value.ownBlock, e]))]; exact KT.out.keep hr
    ·rw [getD_set' xs j i _ (by rw [HL.out]; omega)]
     split
     ·rename_i e; rw [e, ES.out]
     exact HV'.out i (by omega)
    ·exact (FO.out.keep hr).setOther _ (by simp [Value.ownBlock]; omega) _ _
    ·unfold Blk; rw [Below.heap_setCell _ _ _ _ (by show w.heap.size ≠ gS; intro e; exact neR (by simp [Value.ownBlock, e]))]; exact KR.out.keep hr
    exact (HX.out.trans hr).setCell (HO.out.block gS rfl).1 _
   case measure => simp [intOf]; omega
  have e : j = 4096 := by omega
  subst e
  have e : xs = secL vs s 4096 := by
   apply list_ext'
   ·rw [hlen, secL_len]
   intro i hi
   have hi' : i < 4096 := by omega
   rw [secL_get vs s 4096 i hi']
   exact hval i hi'
  obtain ⟨t0, t1, t2, t3⟩ := kT.four
  obtain ⟨r0, r1, r2, r3⟩ := kR.four
  have rf := kR.free
  have nEF := OF.ne kR (by decide)
  have HO := kp (show Own w.heap.size wr (.slice (some ⟨gS, 0, none⟩) 4096 4096) (secL vs s 4096) from e ▸ ho)
  have FO := kp OF
  have HX := kp hx
  clear ho OF hx kT kR hlen hval e
  go_wp2
  exact bodyPost_ret (v := .tuple #[.agg #[.int .i64 (rnd s 0), .int .i64 (rnd s 1), .slice (some ⟨gF, 0, none⟩) 4096 cF, .slice (some ⟨gS, 0, none⟩) 4096 4096], .int .i64 (strm (strm s 2) 4096)]) (by simp [results, Tryz.results116, go_sem, *]) rfl ⟨_, _, rfl, (Own.setOther (Own.setOther (Own.setOther (Own.setOther FO.out w.heap.size nEF _ _) w.heap.size nEF _ _) w.heap.size nEF _ _) w.heap.size nEF _ _), (Own.setOther (Own.setOther (Own.setOther (Own.setOther HO.out w.heap.size neR _ _) w.heap.size neR _ _) w.heap.size neR _ _) w.heap.size neR _ _), fun q e1 e2 => by simp [Value.ownBlock] at e1 e2; omega, ((((HX.out.setCell (Nat.le_refl _) _).setCell (Nat.le_refl _) _).setCell (Nat.le_refl _) _).setCell (Nat.le_refl _) _)⟩
 have h1 : goodL vs = false := by simp [goodL, hl]
 unfold MadePost
 have hk : mkOk vs s = false := by simp [mkOk, h1]
 rw [show mtA vs s = 0 by simp [mtA, hk], show mtB vs s = 0 by simp [mtB, hk], show mtF vs s = [] by simp [mtF, hk], show mtS vs s = [] by simp [mtS, hk], show mtN vs s = 0 by simp [mtN, hk]]
 clear hk
 clear h1
 go_enter Tryz.func116, Tryz.ntmps116
 go_wp2
 exact bodyPost_ret (v := .tuple #[.agg #[.int .i64 0, .int .i64 0, .slice none 0 0, .slice none 0 0], .int .i64 0]) (by first | (simp [results, Tryz.results116, go_sem]; done) | (simp [results, Tryz.results116, go_sem, *]; done)) rfl ⟨_, _, rfl, Own.nil _ _, Own.nil _ _, fun q h => by simp [Value.ownBlock] at h, (by (repeat (first | refine Ext.setCell ?_ (by first | (simp; done) | (simp; omega) | omega) _ | refine Ext.alloc ?_ _ | refine Ext.drew ?_ | refine Ext.setRow ?_ (by omega) _)); first | exact Ext.refl _ | exact hx | (refine Ext.trans ?_ hx; (repeat (refine Ext.alloc ?_ _)); exact Ext.refl _))⟩
end Go.Proofs.YtkkdikoknegpjaaGreat
