/- Tables that are drawn from a code. -/
import Derived.Test.YtnblocljjljebaaMkTab
import Derived.Test.YtnblocljjljebaaFnVals
import Derived.Test.YtnblocljjljebaaDraw5
import Derived.Test.YtnblocljjljebaaRgnL
namespace Go.Proofs.Ytnblocljjljebaa
set_option linter.unusedSimpArgs false
set_option linter.unusedVariables false
open Go.RowKit
theorem rv_fAt' {k x : Int} (hk : fKnown k = true) (hx : rv x = true) : rv (fAt k x) = true := by
  have hs := sgn_bd hx
  unfold fAt
  rw [if_pos ⟨hx, hk⟩]
  split
  · exact rv_ring _
  · rw [rv_iff]
    split
    · omega
    · split
      · split <;> omega
      · split
        · unfold grow; repeat' split
          all_goals omega
        · split
          · omega
          · have h1 : 0 < sgn x := by omega
            have h2 : 0 ≤ 256 / sgn x := Int.ediv_nonneg (by omega) (by omega)
            have h3 : 256 / sgn x ≤ 256 := Int.ediv_le_self _ (by omega)
            omega
theorem good_fVals {k : Int} (hk : fKnown k = true) : goodL (fVals k) = true := by
  have e : fVals k = valsTo k 4096 := by rw [fVals, if_pos hk]
  rw [e]
  simp only [goodL, valsTo_len, Bool.and_eq_true, decide_eq_true_eq, List.all_eq_true]
  refine ⟨fun x hx => ?_, by omega⟩
  simp only [valsTo, List.mem_map, List.mem_range] at hx
  obtain ⟨i, hi, rfl⟩ := hx
  exact rv_fAt' hk (by rw [rv_iff]; omega)
/-- The slice v reads as xs, in a block from B on. -/
structure IntsF (B : Nat) (w : World) (v : Value) (xs : List Int) : Prop where
  ints : Ints w v xs
  from' : ∀ s n c, v = .slice (some s) n c → B ≤ s.block
  room : ∀ s n c, v = .slice s n c → n ≤ c
theorem IntsF.mono {B B' : Nat} {w : World} {v : Value} {xs : List Int} (h : IntsF B w v xs) (hB : B' ≤ B) : IntsF B' w v xs := ⟨h.ints, fun s n c e => Nat.le_trans hB (h.from' s n c e), h.room⟩
theorem IntsF.set {B : Nat} {w : World} {v : Value} {xs : List Int} (h : IntsF B w v xs) {b : Nat} (hb : b < B) (i : Nat) (u : Value) : IntsF B (w.setCell ⟨b, i, none⟩ u) v xs := by
  refine ⟨?_, h.from', h.room⟩
  obtain ⟨a, cap, hv, hm, hc⟩ := h.ints
  refine ⟨a, cap, hv, hm, fun j hj => ?_⟩
  obtain ⟨c, off, ha, hlt, hcell⟩ := hc j hj
  subst ha
  have hB := h.from' _ _ _ hv
  refine ⟨c, off, rfl, by simpa [World.setCell] using hlt, ?_⟩
  rw [World.cell?_of_block (a := ⟨c, off + j, none⟩) (Below.heap_setCell _ _ _ _ (by show c ≠ b; simp at hB; omega))]
  exact hcell
theorem IntsF.keep {B : Nat} {w w' : World} {v : Value} {xs : List Int} (h : IntsF B w v xs) (hx : Ext w w') : IntsF B w' v xs := ⟨h.ints.keep hx, h.from', h.room⟩
theorem IntsF.mod {B g : Nat} {w w' : World} {v : Value} {xs : List Int} (h : IntsF B w v xs) (m : Mod g w w') (hg : g < B) : IntsF B w' v xs := by
  refine ⟨?_, h.from', h.room⟩
  obtain ⟨a, cap, hv, hm, hc⟩ := h.ints
  refine ⟨a, cap, hv, hm, fun j hj => ?_⟩
  obtain ⟨c, off, ha, hlt, hcell⟩ := hc j hj
  subst ha
  have hB := h.from' _ _ _ hv
  refine ⟨c, off, rfl, Nat.lt_of_lt_of_le hlt m.size, ?_⟩
  rw [m.cells.1 c _ hlt (by simp at hB; omega)]
  exact hcell
theorem Own.intsF {B : Nat} {w : World} {v : Value} {xs : List Int} (h : Own B w v xs) : IntsF B w v xs := by
  refine ⟨h.ints, fun s n c e => ?_, fun s n c e => ?_⟩
  · obtain ⟨_, ⟨h2, _⟩ | ⟨g, cap, cur, hv, hg, _⟩⟩ := h
    · rw [h2] at e; cases e
    · rw [hv] at e; cases e; exact hg
  · obtain ⟨_, ⟨h2, _⟩ | ⟨g, cap, cur, hv, hg, _, hn, _⟩⟩ := h
    · rw [h2] at e; cases e; exact Nat.le_refl _
    · rw [hv] at e; cases e; exact hn
/-- A table whose lists lie from B on. -/
def IsTab (B : Nat) (w : World) (v : Value) : Prop := ∃ (a b : Int) (xs ys : List Int) (v1 v2 : Value), v = .agg #[.int .i64 a, .int .i64 b, v1, v2] ∧ IntsF B w v1 xs ∧ IntsF B w v2 ys
theorem Own.modO {B g : Nat} {w w' : World} {v : Value} {xs : List Int} (h : Own B w v xs) (m : Mod g w w') (hne : v.ownBlock ≠ some g) : Own B w' v xs := by
  obtain ⟨h1, h2⟩ := h
  refine ⟨h1, h2.imp id ?_⟩
  rintro ⟨k, cap, cur, rfl, hg, hh, r⟩
  exact ⟨k, cap, cur, rfl, hg, by rw [m.block k (lt_of_block hh) (fun e => hne (by simp [Value.ownBlock, e]))]; exact hh, r⟩
/-- All but the first. -/
theorem Own.tail {B : Nat} {w : World} {g n cap : Nat} {xs : List Int} (h : Own B w (.slice (some ⟨g, 0, none⟩) n cap) xs) (hn : xs.length = n) (h1 : 1 ≤ n) (c : Nat) (hc : n - 1 ≤ c) : IntsF B w (.slice (some ⟨g, 1, none⟩) (n - 1) c) (xs.drop 1) := by
  have hl := h.len
  refine ⟨⟨_, c, by simp [hn], by simp; omega, fun i hi => ⟨g, 1, rfl, (h.block g rfl).2, ?_⟩⟩, ?_, ?_⟩
  · rw [List.length_drop] at hi
    have := (h.cell hn (1 + i) (by omega)).1
    rw [this]
    simp [Nat.add_comm]
  · intro s n c e; cases e; exact (h.block g rfl).1
  · intro s n c e; cases e; exact hc
theorem mk_parts {vs : List Int} {s : Int} (h : mkOk vs s = true) : (mtF vs s).length = 4096 ∧ (mtS vs s).length = 4096 := by simp [mtF, mtS, h, rlist_len, secL_len]

/-- The address of one of the first n cells of block b. -/
def PtrAt (b : Nat) (n : Int) (u : Value) : Prop := ∃ x : Nat, u = .pointer (some ⟨b, x, none⟩) ∧ (x : Int) < n
set_option maxHeartbeats 8000000 in
set_option maxRecDepth 4000 in
theorem tab20 (g P : Nat) (n : Int) (HN : Bnd n) (HP : Room (P + 60)) (w : World) (hr : Rdr g P w) : Calls Try.prog 74 #[.pointer (some ⟨g, 0, none⟩), .int .i64 n] w fun e w' => ∃ v, e = .returned v ∧ IsTab w.heap.size w' v ∧ Rdr g (P + 60) w' ∧ Mod g w w' := by
  have hlt := hr.lt
  go_enter Try.func74, Try.ntmps74
  go_wp2_with (fail)
  (with_reducible refine (pick g _ _ (HP.le (by omega)) _ (hr.keep ((Ext.refl w).alloc _))).mono ?_)
  rintro e w1 ⟨v, rfl, ⟨x1, rfl, h1, z1⟩, hr1, hm1⟩
  have l1 := h1 (by omega)
  clear h1 z1
  have k0 := hm1.blk (Blk.new _ _ _) (by omega)
  replace hm1 := (Mod.of_ext ((Ext.refl w).alloc _)).trans hm1
  have W1 : wrap64 (1 + (x1 : Int)) = 1 + (x1 : Int) := by unfold wrap64; omega
  have FK : fKnown (1 + (x1 : Int)) = true := by simp [fKnown]; omega
  have GV := Kept.mk (good_fVals FK)
  clear FK
  go_wp2_with (fail)
  (with_reducible refine (spec_FunctionValues (1 + (x1 : Int)) _).mono ?_)
  rintro e w2 ⟨vv, rfl, ov, x2⟩
  clear W1 l1
  generalize fVals (1 + (x1 : Int)) = vs at *
  have hr1b := hr1.lt
  replace hr1 := hr1.keep x2
  replace k0 := k0.keep x2
  have bv := ov.block
  have lg1 := hm1.size
  replace hm1 := hm1.trans (Mod.of_ext x2)
  clear x2
  go_wp2_with (fail)
  (with_reducible refine (seed20 g _ 0 ⟨by omega, by omega⟩ (HP.le (by omega)) _ hr1).mono ?_)
  rintro e w3 ⟨v, rfl, ⟨s, rfl, hs⟩, hr3, hm3⟩
  have SD := Kept.mk (hs rfl)
  clear hs
  replace k0 := hm3.blk k0 (by omega)
  replace ov := ov.modO hm3 (fun e => by have := (bv g e).1; have := lg1; have := hr1b; omega)
  replace hm3 := hm1.trans hm3
  clear hm1 bv lg1
  have OK : mkOk vs s = true := by simp [mkOk, GV.out, SD.out.ok]
  have LN := Kept.mk (mk_parts OK)
  clear OK
  go_wp2_with (fail)
  (with_reducible refine (spec_MakeTable vs s _ _ ov.ints).mono ?_)
  rintro e w4 ⟨v1, v2, rfl, o1, o2, hd, x4⟩
  clear ov
  generalize mtA vs s = A at *
  generalize mtB vs s = C at *
  generalize mtF vs s = F at *
  generalize mtS vs s = G at *
  generalize mtN vs s = M at *
  obtain ⟨gF, cF, rfl, bF, lF, -⟩ := o1.form (by have := LN.out.1; omega)
  obtain ⟨gG, cG, rfl, bG, lG, -⟩ := o2.form (by have := LN.out.2; omega)
  have HD := Kept.mk (show gF ≠ gG from fun e => hd gF rfl (by rw [e]; rfl))
  clear hd
  rw [LN.out.1] at o1 ⊢
  rw [LN.out.2] at o2 ⊢
  have lw0 := k0.lt
  have lt3 := hr3.lt
  have lb3 : w.heap.size ≤ w3.heap.size := hm3.size
  replace hr3 := hr3.keep x4
  replace k0 := k0.keep x4
  replace hm3 := hm3.trans (Mod.of_ext x4)
  clear x4
  go_wp2_with (fail)
  (with_reducible refine (odd g _ _ HN (HP.le (by omega)) _ (hr3.keep ((Ext.refl w4).alloc _))).mono ?_)
  rintro e w5 ⟨v, rfl, ⟨b5, rfl⟩, hr5, hm5⟩
  have k1 := hm5.blk (Blk.new w4 #[.int .i64 A, .int .i64 C, .slice (some ⟨gF, 0, none⟩) 4096 cF, .slice (some ⟨gG, 0, none⟩) 4096 cG] 39) (by omega)
  replace k0 := hm5.blk (k0.old (.cells #[.int .i64 A, .int .i64 C, .slice (some ⟨gF, 0, none⟩) 4096 cF, .slice (some ⟨gG, 0, none⟩) 4096 cG] 39)) (by omega)
  replace o1 := Own.modO (o1.keep ((Ext.refl w4).alloc (.cells #[.int .i64 A, .int .i64 C, .slice (some ⟨gF, 0, none⟩) 4096 cF, .slice (some ⟨gG, 0, none⟩) 4096 cG] 39))) hm5 (by simp [Value.ownBlock]; omega)
  replace o2 := Own.modO (o2.keep ((Ext.refl w4).alloc (.cells #[.int .i64 A, .int .i64 C, .slice (some ⟨gF, 0, none⟩) 4096 cF, .slice (some ⟨gG, 0, none⟩) 4096 cG] 39))) hm5 (by simp [Value.ownBlock]; omega)
  replace hm5 := hm3.trans ((Mod.of_ext ((Ext.refl w4).alloc _)).trans hm5)
  clear hm3 hr3 hr1 hr
  have d01 : w.heap.size ≠ w4.heap.size := by omega
  have d10 : w4.heap.size ≠ w.heap.size := by omega
  have lw : w.heap.size ≤ w4.heap.size := by omega
  have lg : g < w4.heap.size := by omega
  have lgG : g < gG := by omega
  have nwG : w.heap.size ≠ gG := by omega
  cases b5
  · obtain ⟨c00, c01, c02, c03⟩ := k0.four
    obtain ⟨c10, c11, c12, c13⟩ := k1.four
    have f0 := k0.free
    have f1 := k1.free
    have O1 := Kept.mk o1
    have O2 := Kept.mk o2
    clear o1 o2
    have HM := Kept.mk (hm5); clear hm5
    clear k0 k1
    go_wp2
    exact bodyPost_ret (v := .agg #[.int .i64 A, .int .i64 C, .slice (some ⟨gF, 0, none⟩) 4096 cF, .slice (some ⟨gG, 0, none⟩) 4096 cG]) (by simp [results, Try.results74, go_sem, *]) rfl ⟨_, rfl, ⟨_, _, _, _, _, _, rfl, (Own.mono (Own.setOther (Own.setOther (Own.setOther (Own.setOther O1.out w.heap.size (by simp [Value.ownBlock]; omega) _ _) w.heap.size (by simp [Value.ownBlock]; omega) _ _) w.heap.size (by simp [Value.ownBlock]; omega) _ _) w.heap.size (by simp [Value.ownBlock]; omega) _ _) lb3).intsF, (Own.mono (Own.setOther (Own.setOther (Own.setOther (Own.setOther O2.out w.heap.size (by simp [Value.ownBlock]; omega) _ _) w.heap.size (by simp [Value.ownBlock]; omega) _ _) w.heap.size (by simp [Value.ownBlock]; omega) _ _) w.heap.size (by simp [Value.ownBlock]; omega) _ _) lb3).intsF⟩, Rdr.mono ((((((((hr5).set (by omega) _ _)).set (by omega) _ _)).set (by omega) _ _)).set (by omega) _ _) (by omega) HP, ((((((((HM.out).setNew (by omega) _ _)).setNew (by omega) _ _)).setNew (by omega) _ _)).setNew (by omega) _ _)⟩

  · go_wp2_with (fail)
    (with_reducible refine (pick g _ _ (HP.le (by omega)) _ hr5).mono ?_)
    rintro e w6 ⟨v, rfl, ⟨x6, rfl, h6, z6⟩, hr6, hm6⟩
    have l6 := h6 (by omega)
    clear h6 z6
    replace k0 := hm6.blk k0 (by omega)
    replace k1 := hm6.blk k1 (by omega)
    replace o1 := o1.modO hm6 (by simp [Value.ownBlock]; omega)
    replace o2 := o2.modO hm6 (by simp [Value.ownBlock]; omega)
    replace hm6 := hm5.trans hm6
    clear hm5 hr5
    by_cases e0 : x6 = 0
    · subst e0
      obtain ⟨c00, c01, c02, c03⟩ := k0.four
      obtain ⟨c10, c11, c12, c13⟩ := k1.four
      have f0 := k0.free
      have f1 := k1.free
      have O1 := Kept.mk o1
      have O2 := Kept.mk o2
      clear o1 o2
      have nc : ¬ cF = 1 := by have := O1.out.intsF.room _ _ _ rfl; omega
      have HM := Kept.mk (hm6); clear hm6
      clear k0 k1
      go_wp2_with (fail)
      go_wp2
      exact bodyPost_ret (v := .agg #[.int .i64 A, .int .i64 C, .slice (some ⟨gF, 1, none⟩) 4095 (cF - 1), .slice (some ⟨gG, 0, none⟩) 4096 cG]) (by simp [results, Try.results74, go_sem, *]) rfl ⟨_, rfl, ⟨_, _, _, _, _, _, rfl, (Own.mono (Own.setOther (Own.setOther (Own.setOther (Own.setOther (Own.setOther O1.out w4.heap.size (by simp [Value.ownBlock]; omega) _ _) w.heap.size (by simp [Value.ownBlock]; omega) _ _) w.heap.size (by simp [Value.ownBlock]; omega) _ _) w.heap.size (by simp [Value.ownBlock]; omega) _ _) w.heap.size (by simp [Value.ownBlock]; omega) _ _) lb3).tail LN.out.1 (by omega) _ (by have := O1.out.intsF.room _ _ _ rfl; omega), (Own.mono (Own.setOther (Own.setOther (Own.setOther (Own.setOther (Own.setOther O2.out w4.heap.size (by simp [Value.ownBlock]; omega) _ _) w.heap.size (by simp [Value.ownBlock]; omega) _ _) w.heap.size (by simp [Value.ownBlock]; omega) _ _) w.heap.size (by simp [Value.ownBlock]; omega) _ _) w.heap.size (by simp [Value.ownBlock]; omega) _ _) lb3).intsF⟩, Rdr.mono ((((((((((hr6).set (by omega) _ _)).set (by omega) _ _)).set (by omega) _ _)).set (by omega) _ _)).set (by omega) _ _) (by omega) HP, ((((((((((HM.out).setNew (by omega) _ _)).setNew (by omega) _ _)).setNew (by omega) _ _)).setNew (by omega) _ _)).setNew (by omega) _ _)⟩

    · have e0' : ((x6 : Int) == 0) = false := by simp; omega
      by_cases e1 : x6 = 1
      · subst e1
        go_wp2_with (fail)
        have hlt6 := hr6.lt
        have lk1 := k1.lt
        apply wp_region_zipJ (Mod.rel g) (fun m w' => Rdr g (P + 30 + 2 * (5 - m)) w') [isv _, isv _, isv _, isP (Lt 256), isP (PtrAt gG 256)] _ ?hJ (by kernel_rfl)
        case hJ => exact (hr6.keep ⟨rfl, rfl, rfl, Nat.le_refl _, fun _ _ => rfl⟩).mono (by first | (simp; done) | (simp; omega)) (HP.le (by first | (simp; done) | (simp; omega)))
        case hA => intro V; simp [putAll, dstOf, Act.put]; exact rfl
        case hsl => intro V; exact rfl
        case step =>
          intro V lo up w' hr m hm hj
          simp only [List.length_cons, List.length_nil, Nat.zero_add, Nat.reduceAdd] at hm
          have RJ : Rdr g (P + 30 + 2 * (5 - m)) w' := hj.mono (by omega) (HP.le (by omega))
          have k1 := hr.blk k1 (by omega)
          obtain ⟨c10, c11, c12, c13⟩ := k1.four
          simp only [zipOkJ, depsImp, isv, isP, waits, Region.binds, List.map_nil, List.nil_append, List.filterMap_cons, List.filterMap_nil, ↓reduceIte, modeNe, Bool.false_eq_true, true_implies, List.getD_cons_zero, List.getD_cons_succ, and_true]
          refine ⟨?_, ?_, ?_, ?_, ?_⟩
          · intros
            go_wp2
            refine stepQ_mk rfl (by simp only [List.getElem?_toArray, List.getElem?_cons_succ, List.getElem?_cons_zero]; exact rfl) ?_
            exact ⟨Mod.refl _ _, rfl, RJ⟩
          · intros
            go_wp2
            refine stepQ_mk rfl (by simp only [List.getElem?_toArray, List.getElem?_cons_succ, List.getElem?_cons_zero]; exact rfl) ?_
            exact ⟨Mod.refl _ _, rfl, RJ⟩
          · intros
            go_wp2
            refine stepQ_mk rfl (by simp only [List.getElem?_toArray, List.getElem?_cons_succ, List.getElem?_cons_zero]; exact rfl) ?_
            exact ⟨Mod.refl _ _, rfl, RJ⟩
          · intros
            go_wp2_with (fail)
            (with_reducible refine (pick g _ _ (HP.le (by omega)) _ hj).mono ?_)
            rintro e w7 ⟨v, rfl, ⟨x, rfl, hx, -⟩, hr7, hm7⟩
            go_wp2
            refine stepQ_mk rfl (by simp only [List.getElem?_toArray, List.getElem?_cons_succ, List.getElem?_cons_zero]; exact rfl) ?_
            exact ⟨hm7, ⟨x, rfl, hx (by omega)⟩, hr7.mono (by omega) (HP.le (by omega))⟩
          · intro _ _ _ e1 _ _ _ ⟨x, e3, lx⟩
            intros
            have lx' : (x : Int) < 4096 := by omega
            go_wp2
            refine stepQ_mk rfl (by simp only [List.getElem?_toArray, List.getElem?_cons_succ, List.getElem?_cons_zero]; exact rfl) ?_
            exact ⟨Mod.refl _ _, ⟨x, rfl, by omega⟩, RJ⟩
        case hB => kernel_rfl
        case fin =>
          intro V lo up w' hr hj hf ha
          simp only [factsOk, isv, isP, List.map_nil, and_true, Nat.zero_add, Nat.reduceAdd] at hf
          simp only [List.length_cons, List.length_nil, Nat.zero_add, Nat.reduceAdd, List.drop_succ_cons, List.drop_zero]
          obtain ⟨-, -, -, -, ⟨-, -, -, x, e4, lx⟩⟩ := hf
          rw [e4]
          clear e4 ha
          have hr7 : Rdr g (P + 50) w' := hj.mono (by omega) (HP.le (by omega))
          clear hj hr6
          replace k0 := hr.blk k0 (by omega)
          replace k1 := hr.blk k1 (by omega)
          replace o1 := o1.modO hr (by simp [Value.ownBlock]; omega)
          replace o2 := o2.modO hr (by simp [Value.ownBlock]; omega)
          replace hm6 := hm6.trans hr
          clear hr
          have cG := o2.cell LN.out.2 x (by omega)
          obtain ⟨g1, g2⟩ := cG
          have ST := Kept.mk (o2.store LN.out.2 x 4096).1
          obtain ⟨c00, c01, c02, c03⟩ := k0.four
          obtain ⟨c10, c11, c12, c13⟩ := k1.four
          have f0 := k0.free
          have f1 := k1.free
          have nTG : w4.heap.size ≠ gG := by omega
          have nGT : gG ≠ w4.heap.size := by omega
          have nGW : gG ≠ w.heap.size := by omega
          have nFG : gF ≠ gG := HD.out
          have O1 := Kept.mk o1
          have O2 := Kept.mk o2
          clear o1 o2
          have HM := Kept.mk (hm6); clear hm6
          clear k0 k1
          go_wp2
          exact bodyPost_ret (v := .agg #[.int .i64 A, .int .i64 C, .slice (some ⟨gF, 0, none⟩) 4096 cF, .slice (some ⟨gG, 0, none⟩) 4096 cG]) (by simp [results, Try.results74, go_sem, *]) rfl ⟨_, rfl, ⟨_, _, _, _, _, _, rfl, (Own.mono (Own.setOther (Own.setOther (Own.setOther (Own.setOther (Own.setOther O1.out gG (by simp [Value.ownBlock]; omega) _ _) w.heap.size (by simp [Value.ownBlock]; omega) _ _) w.heap.size (by simp [Value.ownBlock]; omega) _ _) w.heap.size (by simp [Value.ownBlock]; omega) _ _) w.heap.size (by simp [Value.ownBlock]; omega) _ _) lb3).intsF, (Own.mono (Own.setOther (Own.setOther (Own.setOther (Own.setOther ST.out w.heap.size (by simp [Value.ownBlock]; omega) _ _) w.heap.size (by simp [Value.ownBlock]; omega) _ _) w.heap.size (by simp [Value.ownBlock]; omega) _ _) w.heap.size (by simp [Value.ownBlock]; omega) _ _) lb3).intsF⟩, Rdr.mono ((((((((((hr7).set (by omega) _ _)).set (by omega) _ _)).set (by omega) _ _)).set (by omega) _ _)).set (by omega) _ _) (by omega) HP, ((((((((((HM.out).setNew (by omega) _ _)).setNew (by omega) _ _)).setNew (by omega) _ _)).setNew (by omega) _ _)).setNew (by omega) _ _)⟩

      · have e1' : ((x6 : Int) == 1) = false := by simp; omega
        by_cases e2 : x6 = 2
        · subst e2
          go_wp2_with (fail)
          (with_reducible refine (sh20 g _ 1 ⟨by omega, by omega⟩ (HP.le (by omega)) _ hr6).mono ?_)
          rintro e w7 ⟨v, rfl, ⟨a', b', rfl, -, -⟩, hr7, hm7⟩
          replace k0 := hm7.blk k0 (by omega)
          replace k1 := hm7.blk k1 (by omega)
          replace o1 := o1.modO hm7 (by simp [Value.ownBlock]; omega)
          replace o2 := o2.modO hm7 (by simp [Value.ownBlock]; omega)
          replace hm7 := hm6.trans hm7
          clear hm6 hr6
          obtain ⟨c00, c01, c02, c03⟩ := k0.four
          obtain ⟨c10, c11, c12, c13⟩ := k1.four
          have f0 := k0.free
          have f1 := k1.free
          have O1 := Kept.mk o1
          have O2 := Kept.mk o2
          clear o1 o2
          have HM := Kept.mk (hm7); clear hm7
          clear k0 k1
          go_wp2
          exact bodyPost_ret (v := .agg #[.int .i64 a', .int .i64 b', .slice (some ⟨gF, 0, none⟩) 4096 cF, .slice (some ⟨gG, 0, none⟩) 4096 cG]) (by simp [results, Try.results74, go_sem, *]) rfl ⟨_, rfl, ⟨_, _, _, _, _, _, rfl, (Own.mono (Own.setOther (Own.setOther (Own.setOther (Own.setOther (Own.setOther (Own.setOther O1.out w4.heap.size (by simp [Value.ownBlock]; omega) _ _) w4.heap.size (by simp [Value.ownBlock]; omega) _ _) w.heap.size (by simp [Value.ownBlock]; omega) _ _) w.heap.size (by simp [Value.ownBlock]; omega) _ _) w.heap.size (by simp [Value.ownBlock]; omega) _ _) w.heap.size (by simp [Value.ownBlock]; omega) _ _) lb3).intsF, (Own.mono (Own.setOther (Own.setOther (Own.setOther (Own.setOther (Own.setOther (Own.setOther O2.out w4.heap.size (by simp [Value.ownBlock]; omega) _ _) w4.heap.size (by simp [Value.ownBlock]; omega) _ _) w.heap.size (by simp [Value.ownBlock]; omega) _ _) w.heap.size (by simp [Value.ownBlock]; omega) _ _) w.heap.size (by simp [Value.ownBlock]; omega) _ _) w.heap.size (by simp [Value.ownBlock]; omega) _ _) lb3).intsF⟩, Rdr.mono ((((((((((((hr7).set (by omega) _ _)).set (by omega) _ _)).set (by omega) _ _)).set (by omega) _ _)).set (by omega) _ _)).set (by omega) _ _) (by omega) HP, ((((((((((((HM.out).setNew (by omega) _ _)).setNew (by omega) _ _)).setNew (by omega) _ _)).setNew (by omega) _ _)).setNew (by omega) _ _)).setNew (by omega) _ _)⟩

        · have e2' : ((x6 : Int) == 2) = false := by simp; omega
          obtain ⟨c00, c01, c02, c03⟩ := k0.four
          obtain ⟨c10, c11, c12, c13⟩ := k1.four
          have f0 := k0.free
          have f1 := k1.free
          have O1 := Kept.mk o1
          have O2 := Kept.mk o2
          clear o1 o2
          have HM := Kept.mk (hm6); clear hm6
          clear k0 k1
          go_wp2
          exact bodyPost_ret (v := .agg #[.int .i64 0, .int .i64 0, .slice none 0 0, .slice none 0 0]) (by simp [results, Try.results74, go_sem, *]) rfl ⟨_, rfl, ⟨_, _, _, _, _, _, rfl, (Own.nil _ _).intsF, (Own.nil _ _).intsF⟩, Rdr.mono ((((((((((((((((hr6).set (by omega) _ _)).set (by omega) _ _)).set (by omega) _ _)).set (by omega) _ _)).set (by omega) _ _)).set (by omega) _ _)).set (by omega) _ _)).set (by omega) _ _) (by omega) HP, ((((((((((((((((HM.out).setNew (by omega) _ _)).setNew (by omega) _ _)).setNew (by omega) _ _)).setNew (by omega) _ _)).setNew (by omega) _ _)).setNew (by omega) _ _)).setNew (by omega) _ _)).setNew (by omega) _ _)⟩

set_option maxHeartbeats 2000000 in
theorem spec_DrawTableValid (v : Value) (w : World) (hb : Bytes w v) : Calls Try.prog 38 #[v] w fun e w' => ∃ (a b : Int) (xs ys : List Int) (v1 v2 : Value), e = .returned (.agg #[.int .i64 a, .int .i64 b, v1, v2]) ∧ IntsF 0 w' v1 xs ∧ IntsF 0 w' v2 ys ∧ Ext w w' := by
  go_enter Try.func38, Try.ntmps38
  go_wp2_with (fail)
  (with_reducible refine (open' _ _ (hb.ext ((Ext.refl w).alloc _))).mono ?_)
  rintro e w1 ⟨g, rfl, hg, hr1, hx1⟩
  simp only [World.size_alloc] at hg
  have k0 := (Blk.new w #[.int .i64 0, .int .i64 0, .slice none 0 0, .slice none 0 0] 39).keep hx1
  have lt0 := k0.lt
  have HX := Kept.mk (((Ext.refl w).alloc _).trans hx1); clear hx1
  have HP : Room 100 := ⟨by omega⟩
  go_wp2_with (fail)
  (with_reducible refine (tab20 g _ 2 ⟨by omega, by omega⟩ (HP.le (by omega)) _ hr1).mono ?_)
  rintro e w2 ⟨v, rfl, ⟨a, b, xs, ys, v1, v2, rfl, i1, i2⟩, hr2, hm2⟩
  obtain ⟨s1, n1, h1, -, -⟩ := id i1.ints
  subst h1
  obtain ⟨s2, n2, h2, -, -⟩ := id i2.ints
  subst h2
  have I1 := Kept.mk i1
  have I2 := Kept.mk i2
  clear i1 i2
  replace k0 := hm2.blk k0 (by omega)
  have HY := Kept.mk (Mod.ext HX.out hm2 (by omega)); clear HX hm2
  obtain ⟨c00, c01, c02, c03⟩ := k0.four
  have f0 := k0.free
  go_wp2
  exact bodyPost_ret (v := .agg #[.int .i64 a, .int .i64 b, .slice s1 xs.length n1, .slice s2 ys.length n2]) (by simp [results, Try.results38, go_sem, *]) rfl ⟨a, b, xs, ys, _, _, rfl, (IntsF.set (IntsF.set (IntsF.set (IntsF.set I1.out (by omega) _ _) (by omega) _ _) (by omega) _ _) (by omega) _ _).mono (Nat.zero_le _), (IntsF.set (IntsF.set (IntsF.set (IntsF.set I2.out (by omega) _ _) (by omega) _ _) (by omega) _ _) (by omega) _ _).mono (Nat.zero_le _), ((((((((HY.out).setCell (by simp) _)).setCell (by simp) _)).setCell (by simp) _)).setCell (by simp) _)⟩

def tabM {m : Nat} (g : Nat) : OpSpec (Mod g) m := ⟨[], fun _ u _ _ w => ∃ B, g < B ∧ m ≤ B ∧ IsTab B w u, fun _ _ _ _ _ _ _ _ _ hx ⟨B, h1, h2, a, b, xs, ys, v1, v2, e, i1, i2⟩ => ⟨B, h1, h2, a, b, xs, ys, v1, v2, e, i1.mod hx h1, i2.mod hx h1⟩⟩

set_option maxHeartbeats 2000000 in
theorem spec_DrawUseTable (v : Value) (w : World) (hb : Bytes w v) : Calls Try.prog 39 #[v] w fun e w' => ∃ (x y a b : Int) (xs ys : List Int) (v1 v2 : Value), e = .returned (.tuple #[.agg #[.int .i64 x, .int .i64 y], .agg #[.int .i64 a, .int .i64 b, v1, v2]]) ∧ IntsF 0 w' v1 xs ∧ IntsF 0 w' v2 ys ∧ Ext w w' := by
  go_enter Try.func39, Try.ntmps39
  go_wp2_with (fail)
  (with_reducible refine (open' _ _ (hb.ext (((Ext.refl w).alloc _).alloc _))).mono ?_)
  rintro e w1 ⟨g, rfl, hg, hr1, hx1⟩
  have k0 := ((Blk.new w #[.int .i64 0, .int .i64 0] 37).old (.cells #[.int .i64 0, .int .i64 0, .slice none 0 0, .slice none 0 0] 39)).keep hx1
  have k1 := (Blk.new (w.alloc (.cells #[.int .i64 0, .int .i64 0] 37)) #[.int .i64 0, .int .i64 0, .slice none 0 0, .slice none 0 0] 39).keep hx1
  simp only [World.size_alloc] at hg k1
  have HX := Kept.mk ((((Ext.refl w).alloc _).alloc _).trans hx1); clear hx1
  have HP : Room 200 := ⟨by omega⟩
  go_wp2_with (fail)
  (with_reducible refine (sh20 g _ 12 ⟨by omega, by omega⟩ (HP.le (by omega)) _ hr1).mono ?_)
  rintro e w2 ⟨v, rfl, ⟨x, y, rfl, -, -⟩, hr2, hm2⟩
  replace k0 := hm2.blk k0 (by omega)
  replace k1 := hm2.blk k1 (by omega)
  have kA := Blk.new w2 #[.int .i64 x, .int .i64 y] 37
  have xa := (Ext.refl w2).alloc (.cells #[.int .i64 x, .int .i64 y] 37)
  have lt2 := hr2.lt
  replace hr2 := hr2.keep xa
  replace k0 := k0.keep xa
  replace k1 := k1.keep xa
  have HY := Kept.mk ((Mod.ext HX.out hm2 (by omega)).trans xa); clear HX hm2 xa
  have lw2 := k1.lt
  go_wp2_with (fail)
  apply wp_region_zipJ (Mod.rel g) (fun m w' => Rdr g (20 + 60 * (3 - m)) w') [isv _, isv _, tabM g] _ ?hJ (by kernel_rfl)
  case hJ => exact (hr2.keep ⟨rfl, rfl, rfl, Nat.le_refl _, fun _ _ => rfl⟩).mono (by first | (simp; done) | (simp; omega)) ⟨by simp⟩
  case hA => intro V; simp [putAll, dstOf, Act.put]; exact rfl
  case hsl => intro V; exact rfl
  case step =>
    intro V lo up w' hr m hm hj
    simp only [List.length_cons, List.length_nil, Nat.zero_add, Nat.reduceAdd] at hm
    have RJ : Rdr g (20 + 60 * (3 - m)) w' := hj.mono (by omega) ⟨by omega⟩
    have kA := hr.blk kA (by omega)
    obtain ⟨a0, a1⟩ := kA.two
    simp only [zipOkJ, depsImp, isv, tabM, waits, Region.binds, List.map_nil, List.nil_append, List.filterMap_cons, List.filterMap_nil, ↓reduceIte, modeNe, Bool.false_eq_true, true_implies, List.getD_cons_zero, List.getD_cons_succ, and_true]
    refine ⟨?_, ?_, ?_⟩
    · intros
      go_wp2
      refine stepQ_mk rfl (by simp only [List.getElem?_toArray, List.getElem?_cons_succ, List.getElem?_cons_zero]; exact rfl) ?_
      exact ⟨Mod.refl _ _, rfl, RJ⟩
    · intros
      go_wp2
      refine stepQ_mk rfl (by simp only [List.getElem?_toArray, List.getElem?_cons_succ, List.getElem?_cons_zero]; exact rfl) ?_
      exact ⟨Mod.refl _ _, rfl, RJ⟩
    · intros
      go_wp2_with (fail)
      (with_reducible refine (tab20 g (20 + 60 * (3 - (m + 1))) 12 ⟨by omega, by omega⟩ ⟨by omega⟩ _ hj).mono ?_)
      rintro e w5 ⟨v, rfl, tv, hr5, hm5⟩
      go_wp2
      refine stepQ_mk rfl (by simp only [List.getElem?_toArray, List.getElem?_cons_succ, List.getElem?_cons_zero]; exact rfl) ?_
      exact ⟨hm5, ⟨w'.heap.size, hj.lt, hr.size, tv⟩, hr5.mono (by omega) ⟨by omega⟩⟩
  case hB => kernel_rfl
  case fin =>
    intro V lo up w' hr hj hf ha
    simp only [factsOk, isv, tabM, List.map_nil, and_true, Nat.zero_add, Nat.reduceAdd] at hf
    simp only [List.length_cons, List.length_nil, Nat.zero_add, Nat.reduceAdd, List.drop_succ_cons, List.drop_zero]
    obtain ⟨⟨-, -, -, e0⟩, -, ⟨-, -, -, B, hB1, hB2, a, b, xs, ys, v1, v2, e2, i1, i2⟩⟩ := hf
    obtain ⟨s1, n1, h1, -, -⟩ := id i1.ints
    subst h1
    obtain ⟨s2, n2, h2, -, -⟩ := id i2.ints
    subst h2
    rw [e0, e2]
    clear e0 e2 ha hj kA
    have I1 := Kept.mk i1
    have I2 := Kept.mk i2
    clear i1 i2
    replace k0 := hr.blk k0 (by omega)
    replace k1 := hr.blk k1 (by omega)
    have HE := Kept.mk (Mod.ext HY.out hr (by omega))
    have hB3 : w.heap.size + 1 < B := by omega
    clear hr HY hB2
    obtain ⟨c00, c01⟩ := k0.two
    obtain ⟨c10, c11, c12, c13⟩ := k1.four
    have f0 := k0.free
    have f1 := k1.free
    go_wp2
    exact bodyPost_ret (v := .tuple #[.agg #[.int .i64 x, .int .i64 y], .agg #[.int .i64 a, .int .i64 b, .slice s1 xs.length n1, .slice s2 ys.length n2]]) (by simp [results, Try.results39, go_sem, *]) rfl ⟨x, y, a, b, xs, ys, _, _, rfl, (IntsF.set (IntsF.set (IntsF.set (IntsF.set (IntsF.set (IntsF.set I1.out (by omega) _ _) (by omega) _ _) (by omega) _ _) (by omega) _ _) (by omega) _ _) (by omega) _ _).mono (Nat.zero_le _), (IntsF.set (IntsF.set (IntsF.set (IntsF.set (IntsF.set (IntsF.set I2.out (by omega) _ _) (by omega) _ _) (by omega) _ _) (by omega) _ _) (by omega) _ _) (by omega) _ _).mono (Nat.zero_le _), ((((((((((((HE.out).setCell (by show w.heap.size ≤ _; simp; try omega) _)).setCell (by show w.heap.size ≤ _; simp; try omega) _)).setCell (by show w.heap.size ≤ _; simp; try omega) _)).setCell (by show w.heap.size ≤ _; simp; try omega) _)).setCell (by show w.heap.size ≤ _; simp; try omega) _)).setCell (by show w.heap.size ≤ _; simp; try omega) _)⟩

end Go.Proofs.Ytnblocljjljebaa
