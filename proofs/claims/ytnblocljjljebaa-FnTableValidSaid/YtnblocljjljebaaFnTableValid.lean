/- Proved: the law FnTableValid answers true for every input. No condition. -/
import Derived.Test.YtnblocljjljebaaRows
import Derived.Test.YtnblocljjljebaaTabD
import Derived.Test.YtnblocljjljebaaOpen
import Derived.ChangeSlices
import Derived.Test.YtnblocljjljebaaOpen
import Derived.ChangeOld
import Derived.Carry
namespace Go.Proofs.Ytnblocljjljebaa
set_option linter.unusedSimpArgs false
set_option linter.unusedVariables false
open Go.ChangeShapes Go.WideShapes Go.ChangeAt Go.RowKit Go.Joins
set_option linter.unusedVariables false
theorem own : ownKnob Try.prog.godebug = none := by kernel_rfl
theorem laidOut : laidOutB Try.prog = true := by kernel_rfl

theorem laws_alive (w : World) : Calls Try.prog 18 #[] w fun e w' => e = .returned (.bool true) ∧ w = w' := by
  go_enter Try.func18, Try.ntmps18
  go_wp2_with (go_at_call 33; (with_reducible refine (impl_RingValid 5 true (by decide) _).mono ?_); rintro e w1 ⟨rfl, rfl⟩)
  go_ret
  exact ⟨rfl, rfl⟩
theorem Ints.take {w : World} {s : Option Addr} {n c c' : Nat} {xs : List Int} (h : Ints w (.slice s n c) xs) (m : Nat) (hm : m ≤ n) : Ints w (.slice s m c') (xs.take m) := by
  obtain ⟨a, cap, e, hl, hc⟩ := h
  simp at e
  obtain ⟨rfl, rfl, rfl⟩ := e
  have hx : (xs.take m).length = m := by simp; omega
  refine ⟨_, _, by rw [hx], by rw [hx]; omega, fun i hi => ?_⟩
  rw [hx] at hi
  obtain ⟨b, off, e1, e2, e3⟩ := hc i (by omega)
  exact ⟨b, off, e1, e2, by rw [e3]; simp [hi]⟩
theorem tabV_len {a b : Int} {xs ys : List Int} (h : tabV a b xs ys = true) : xs.length = 4096 := by
  simp only [tabV, Bool.and_eq_true] at h
  exact good_len h.2.1
theorem tabV_take {a b : Int} {xs ys : List Int} (h : xs.length = 4096) : tabV a b (xs.take 4095) ys = false := by
  have : goodL (xs.take 4095) = false := by simp [goodL, h]
  simp [tabV, this]

set_option maxHeartbeats 4000000 in
set_option maxRecDepth 4000 in
theorem walk_FnTableValid (v : Value) (w : World) (hb : Bytes w v) : Calls Try.prog 9 #[v] w fun e w' => e = .returned (.bool true) ∧ Ext w w' := by
  obtain ⟨a, n, cap, rfl, hn, hm, hc⟩ := id hb
  clear hc
  have HB := Kept.mk hb; clear hb
  by_cases hl : (n : Int) ≤ 1048576
  · go_enter Try.func9, Try.ntmps9
    go_wp2_with (fail)
    (with_reducible refine (spec_DrawTableValid _ _ HB.out).mono ?_)
    rintro e w1 ⟨a, b, xs, ys, v1, v2, rfl, i1, i2, hx1⟩
    clear hl
    obtain ⟨s1, n1, h1, -, -⟩ := id i1.ints
    subst h1
    obtain ⟨s2, n2, h2, -, -⟩ := id i2.ints
    subst h2
    cases hk : tabV a b xs ys
    · have I1 := Kept.mk i1.ints
      have I2 := Kept.mk i2.ints
      clear i1 i2
      have Timpl : Kept (∀ w', Ext w1 w' → Calls Try.prog 24 #[.agg #[.int .i64 a, .int .i64 b, .slice s1 xs.length n1, .slice s2 ys.length n2]] w' fun e w'' => e = .returned (.bool false) ∧ Ext w' w'') := ⟨fun w' hx => hk ▸ impl_TableValid a b _ _ xs ys w' (I1.out.keep hx) (I2.out.keep hx)⟩
      have Tspec : Kept (∀ w', Ext w1 w' → Calls Try.prog 22 #[.agg #[.int .i64 a, .int .i64 b, .slice s1 xs.length n1, .slice s2 ys.length n2]] w' fun e w'' => e = .returned (.bool false) ∧ Ext w' w'') := ⟨fun w' hx => hk ▸ spec_TableValid a b _ _ xs ys w' (I1.out.keep hx) (I2.out.keep hx)⟩
      clear hk
      have kA := Blk.new w1 #[.int .i64 a, .int .i64 b, .slice s1 xs.length n1, .slice s2 ys.length n2] 39
      have xa := (Ext.refl w1).alloc (.cells #[.int .i64 a, .int .i64 b, .slice s1 xs.length n1, .slice s2 ys.length n2] 39)
      have X := Kept.mk xa
      go_wp2_with (fail)
      (with_reducible refine (Timpl.out _ xa).mono ?_)
      rintro e w2 ⟨rfl, x2⟩
      clear xa
      replace kA := kA.keep x2
      replace X := Kept.mk (X.out.trans x2)
      clear x2
      obtain ⟨a0, a1, a2, a3⟩ := kA.four
      go_wp2_with (fail)
      (with_reducible refine (Tspec.out _ X.out).mono ?_)
      rintro e w3 ⟨rfl, x3⟩
      clear a0 a1 a2 a3
      replace kA := kA.keep x3
      replace X := Kept.mk (X.out.trans x3)
      clear x3
      obtain ⟨a0, a1, a2, a3⟩ := kA.four
      go_wp2_with (go_at_call 18; (with_reducible refine (laws_alive _).mono ?_); rintro e w1 ⟨rfl, rfl⟩)
      go_ret
      exact ⟨rfl, hx1.trans X.out⟩
    · have lx := tabV_len hk
      have TF := Kept.mk (tabV_take (a := a) (b := b) (ys := ys) lx)
      have rm := i1.room _ _ _ rfl
      rw [lx] at i1 rm ⊢
      clear lx
      have I1 := Kept.mk i1.ints
      have I2 := Kept.mk i2.ints
      clear i1 i2
      have Timpl : Kept (∀ w', Ext w1 w' → Calls Try.prog 24 #[.agg #[.int .i64 a, .int .i64 b, .slice s1 4096 n1, .slice s2 ys.length n2]] w' fun e w'' => e = .returned (.bool true) ∧ Ext w' w'') := ⟨fun w' hx => hk ▸ impl_TableValid a b _ _ xs ys w' (I1.out.keep hx) (I2.out.keep hx)⟩
      have Tspec : Kept (∀ w', Ext w1 w' → Calls Try.prog 22 #[.agg #[.int .i64 a, .int .i64 b, .slice s1 4096 n1, .slice s2 ys.length n2]] w' fun e w'' => e = .returned (.bool true) ∧ Ext w' w'') := ⟨fun w' hx => hk ▸ spec_TableValid a b _ _ xs ys w' (I1.out.keep hx) (I2.out.keep hx)⟩
      clear hk
      have kA := Blk.new w1 #[.int .i64 a, .int .i64 b, .slice s1 4096 n1, .slice s2 ys.length n2] 39
      have xa := (Ext.refl w1).alloc (.cells #[.int .i64 a, .int .i64 b, .slice s1 4096 n1, .slice s2 ys.length n2] 39)
      have X := Kept.mk xa
      go_wp2_with (fail)
      (with_reducible refine (Timpl.out _ xa).mono ?_)
      rintro e w2 ⟨rfl, x2⟩
      clear xa
      replace kA := kA.keep x2
      replace X := Kept.mk (X.out.trans x2)
      clear x2
      obtain ⟨a0, a1, a2, a3⟩ := kA.four
      go_wp2_with (fail)
      (with_reducible refine (Tspec.out _ X.out).mono ?_)
      rintro e w3 ⟨rfl, x3⟩
      clear a0 a1 a2 a3
      replace kA := kA.keep x3
      replace X := Kept.mk (X.out.trans x3)
      clear x3
      obtain ⟨a0, a1, a2, a3⟩ := kA.four
      have HX := Kept.mk (hx1.trans X.out)
      clear hx1
      have rm' : (4095 : Int) ≤ (n1 : Int) := by omega
      have rm2 : 4095 ≤ n1 := by omega
      clear rm
      go_wp2_with (fail)
      clear a0 a1 a2 a3
      have T3 : Kept (∀ w', Ext w3 w' → Calls Try.prog 24 #[.agg #[.int .i64 a, .int .i64 b, .slice s1 4095 n1, .slice s2 ys.length n2]] w' fun e w'' => e = .returned (.bool false) ∧ Ext w' w'') := ⟨fun w' hx => TF.out ▸ impl_TableValid a b _ _ (xs.take 4095) ys w' ((I1.out.keep (X.out.trans hx)).take 4095 (by omega)) (I2.out.keep (X.out.trans hx))⟩
      apply wp_region_zip [isv _, isv _, isv _, isv _, isv _, isv _, isv _, isv _, isv _, isv _, isv _, isv _, isv (.bool false), isv _] _ (by kernel_rfl)
      case hA => intro V; simp [putAll, dstOf, Act.put]; exact rfl
      case hsl => intro V; exact rfl
      case step =>
        intro V lo up w' hr
        obtain ⟨hcr, hzr⟩ := hr.cells
        have hsr := hr.size
        have kA := kA.keep hr
        obtain ⟨a0, a1, a2, a3⟩ := kA.four
        simp only [zipOk, depsImp, isv, modeNg, newb, waits, Region.binds, List.map_nil, List.map_cons, List.headD_cons, List.nil_append, List.cons_append, List.filterMap_cons, List.filterMap_nil, ↓reduceIte, modeNe, Bool.false_eq_true, true_implies, List.getD_cons_zero, List.getD_cons_succ, and_true]
        refine ⟨?_, ?_, ?_, ?_, ?_, ?_, ?_, ?_, ?_, ?_, ?_, ?_, ?_, ?_⟩
        · intros
          go_wp2
          refine stepQ_mk rfl (by simp only [List.getElem?_toArray, List.getElem?_cons_succ, List.getElem?_cons_zero]; exact rfl) ?_
          exact ⟨Ext.refl _, rfl⟩
        · intros
          go_wp2
          refine stepQ_mk rfl (by simp only [List.getElem?_toArray, List.getElem?_cons_succ, List.getElem?_cons_zero]; exact rfl) ?_
          exact ⟨Ext.refl _, rfl⟩
        · intros
          go_wp2
          refine stepQ_mk rfl (by simp only [List.getElem?_toArray, List.getElem?_cons_succ, List.getElem?_cons_zero]; exact rfl) ?_
          exact ⟨Ext.refl _, rfl⟩
        · intros
          go_wp2
          refine stepQ_mk rfl (by simp only [List.getElem?_toArray, List.getElem?_cons_succ, List.getElem?_cons_zero]; exact rfl) ?_
          exact ⟨Ext.refl _, rfl⟩
        · intros
          go_wp2
          refine stepQ_mk rfl (by simp only [List.getElem?_toArray, List.getElem?_cons_succ, List.getElem?_cons_zero]; exact rfl) ?_
          exact ⟨Ext.refl _, rfl⟩
        · intros
          go_wp2
          refine stepQ_mk rfl (by simp only [List.getElem?_toArray, List.getElem?_cons_succ, List.getElem?_cons_zero]; exact rfl) ?_
          exact ⟨Ext.refl _, rfl⟩
        · intros
          go_wp2
          refine stepQ_mk rfl (by simp only [List.getElem?_toArray, List.getElem?_cons_succ, List.getElem?_cons_zero]; exact rfl) ?_
          exact ⟨Ext.refl _, rfl⟩
        · intros
          go_wp2
          refine stepQ_mk rfl (by simp only [List.getElem?_toArray, List.getElem?_cons_succ, List.getElem?_cons_zero]; exact rfl) ?_
          exact ⟨Ext.refl _, rfl⟩
        · intros
          go_wp2
          refine stepQ_mk rfl (by simp only [List.getElem?_toArray, List.getElem?_cons_succ, List.getElem?_cons_zero]; exact rfl) ?_
          exact ⟨Ext.refl _, rfl⟩
        · intros
          go_wp2
          refine stepQ_mk rfl (by simp only [List.getElem?_toArray, List.getElem?_cons_succ, List.getElem?_cons_zero]; exact rfl) ?_
          exact ⟨Ext.refl _, rfl⟩
        · intros
          go_wp2
          refine stepQ_mk rfl (by simp only [List.getElem?_toArray, List.getElem?_cons_succ, List.getElem?_cons_zero]; exact rfl) ?_
          exact ⟨Ext.refl _, rfl⟩
        · intros
          go_wp2
          refine stepQ_mk rfl (by simp only [List.getElem?_toArray, List.getElem?_cons_succ, List.getElem?_cons_zero]; exact rfl) ?_
          exact ⟨Ext.refl _, rfl⟩
        · intros
          go_wp2_with (fail)
          (with_reducible refine (T3.out _ hr).mono ?_)
          rintro e w5 ⟨rfl, x5⟩
          go_wp2
          refine stepQ_mk rfl (by simp only [List.getElem?_toArray, List.getElem?_cons_succ, List.getElem?_cons_zero]; exact rfl) ?_
          exact ⟨x5, rfl⟩
        · intros
          go_wp2
          refine stepQ_mk rfl (by simp only [List.getElem?_toArray, List.getElem?_cons_succ, List.getElem?_cons_zero]; exact rfl) ?_
          exact ⟨Ext.refl _, rfl⟩
      case hB => kernel_rfl
      case fin =>
        intro V lo up w' hr hf ha
        simp only [factsOk, isv, modeNg, newb, List.map_nil, List.map_cons, List.headD_cons, and_true, Nat.zero_add, Nat.reduceAdd] at hf
        simp only [List.length_cons, List.length_nil, Nat.zero_add, Nat.reduceAdd, List.drop_succ_cons, List.drop_zero]
        obtain ⟨-, -, -, -, -, -, -, -, -, -, -, -, -, ⟨-, -, -, e13⟩⟩ := hf
        clear ha
        replace kA := kA.keep hr
        rw [e13]
        go_wp2
        go_ret
        exact ⟨rfl, HX.out.trans hr⟩
  · have hl' : ¬ (n : Int) ≤ 1048576 := hl
    have hg : (1048576 : Int) < n := by omega
    clear hl
    go_enter Try.func9, Try.ntmps9
    go_wp2_with (fail)
    go_ret
    exact ⟨rfl, Ext.refl _⟩
theorem add_at (b o i : Nat) : (⟨b, o, none⟩ : Addr).add i = ⟨b, o + i, none⟩ := by
  unfold Addr.add; by_cases h : i = 0
  · subst h; rfl
  · rw [if_neg h]
theorem cell_lt {w : World} {b o : Nat} {v : Value} (h : w.cell? ⟨b, o, none⟩ = some v) : b < w.heap.size := by
  apply Classical.byContradiction
  intro hn
  have : w.heap[b]? = none := by simp; omega
  simp [World.cell?, this] at h
theorem bytes_of {H : Type} {enc : TypeId × Value → H} {w : World} {base : Nat} {held : Bool} {t e : TypeId} {fuel : Nat} {a : Option Addr} {len cap : Nat} {x : DataW H × List MemPlace} (ht : Try.prog.underlying t = some (.slice e)) (he : Try.prog.underlying e = some (.int .u8)) (hc : Try.prog.cellsOf e = 1)
    (h : DataW.trod enc Try.prog w base (fun _ => true) held fuel t (Value.slice a len cap).cells.toList = some x) : Bytes w (.slice a len cap) := by
  rcases open_ints ht he hc h with ⟨hcs, _⟩ | ⟨x, l, c, zs, hcs, _, hl, hm, hz, _, hcell, hwz⟩
  · simp [Value.cells] at hcs
    obtain ⟨rfl, rfl, rfl⟩ := hcs
    exact ⟨none, 0, 0, rfl, Nat.le_refl _, by omega, fun i hi => absurd hi (Nat.not_lt_zero _)⟩
  · simp [Value.cells] at hcs
    obtain ⟨rfl, rfl, rfl⟩ := hcs
    have hz' : zs.length = cap := by simpa using hz
    refine ⟨some x, len, cap, rfl, hl, by unfold maxLen at hm; omega, fun i hi => ?_⟩
    have hci := hcell i (by omega)
    obtain ⟨b, off, spot⟩ := x
    have hspot : spot = none := by
      have h0 := hcell 0 (by omega)
      simpa [Addr.add] using World.cell?_spot h0
    subst hspot
    rw [add_at] at hci
    have hwf := hwz (zs.getD i 0) (by
      have : i < zs.length := by omega
      simp [this])
    refine ⟨b, off, rfl, cell_lt hci, _, hci, ?_⟩
    have := bounds_u8 hwf
    omega

set_option maxRecDepth 100000 in
theorem lifted_FnTableValid (os : Os) (started : os.Started) (H : Type) (enc : TypeId × Value → H) :
    ReturnsInHanded {} Try.checked os 9 .any (Rows.fnTableValidSpec.pre6 enc Try.prog Try.f9 Rows.fnTableValidRow.domain false) (Rows.fnTableValidSpec.post enc Try.prog Try.f9 false true false false) := by
  refine returnsInHanded_of_change (C := Try.checked) own started (by kernel_rfl) Try.func9
    (ChangeSpec.witness6 (enc := enc) (C := Try.checked) false ⟨#[], #[.slice none 0 0], []⟩ 8 (by kernel_rfl) (by kernel_rfl) (by kernel_rfl) (by kernel_rfl)) ?_
  intro W base args ds gs before hval0 hW hcnd _
  have hval : ∀ (j : Nat) t v, Try.f9.params[j]? = some t → args[j]? = some v → Value.okWide Try.prog W .any base t v := hval0
  have hW' := hW
  obtain ⟨p, q, hA0, hV, rfl, hfz, hnd⟩ := hW
  have hA : DataW.TrodAll enc Try.prog W 0 (fun _ => true) true Try.f9.params.toList args.toList ds p := hA0
  rw [Try.params9] at hA hval
  obtain ⟨v0, vs0, d0, ds0, p0, q0, hargs, rfl, rfl, h0, r0⟩ := trodAll_cons hA
  obtain ⟨rfl, rfl, rfl⟩ := trodAll_nil r0
  obtain rfl : args = #[v0] := by cases args; simp_all
  obtain ⟨rfl, rfl⟩ := trodVars_none hV
  have k0 := h0
  have lt0 : ∀ x ∈ p0, x.block < W.heap.size := by obtain ⟨m, hm⟩ := k0; exact DataW.trod_lt m _ _ _ hm
  obtain ⟨sa0, sl0, sc0, rfl⟩ := okWide_slice Try.underlying24 (hval 0 24 v0 rfl rfl)
  have by0 : Bytes W (.slice sa0 sl0 sc0) := by
    obtain ⟨fu, hf⟩ := h0
    exact bytes_of Try.underlying24 Try.underlying5 (by kernel_rfl) hf
  clear hA0 hval0
  refine (walk_FnTableValid (.slice sa0 sl0 sc0) W by0).mono fun e W' ⟨he, bel⟩ => ?_
  subst he
  exact ⟨_, rfl, _, _, _, [], _, [], hW', trodAll_mk1 (shut_bool Try.underlying4 _), (trodAll_cons_mk (Below.trod laidOut (by kernel_rfl) (of_decide_eq_true (by kernel_rfl)) k0 bel lt0) trodAll_mk0), rfl, Below.frame bel _, fun h => by cases h⟩
theorem proved_FnTableValid : Rows.FnTableValidSaid :=
  OpenClaim.holds_of_wide 9 Try.f9 rfl rfl rfl rfl rfl rfl rfl ⟨rfl, rfl, rfl, rfl, rfl⟩ rfl rfl rfl rfl rfl (by kernel_rfl) Try.func9 (by kernel_rfl)
    (of_decide_eq_true (by kernel_rfl)) (by unfold Func.isWrapper; rw [if_neg (of_decide_eq_false (by kernel_rfl))]; exact ⟨rfl, rfl⟩)
    (fun os started H enc _ => lifted_FnTableValid os started H enc)
#print axioms proved_FnTableValid

end Go.Proofs.Ytnblocljjljebaa
