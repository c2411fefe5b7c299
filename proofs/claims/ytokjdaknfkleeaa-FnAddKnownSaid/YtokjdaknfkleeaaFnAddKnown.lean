/- Proved: the law FnAddKnown answers true for every input. No condition. -/
import Derived.Test.YtokjdaknfkleeaaRows
import Derived.Test.YtokjdaknfkleeaaDraw4
import Derived.ChangeSlices
import Derived.Test.YtokjdaknfkleeaaShares2
import Derived.Test.YtokjdaknfkleeaaOpen
import Derived.ChangeOld
import Derived.Carry
namespace Go.Proofs.Ytokjdaknfkleeaa
open Go.ChangeShapes Go.WideShapes Go.ChangeAt Go.RowKit Go.Joins
set_option linter.unusedVariables false
theorem own : ownKnob Try.prog.godebug = none := by kernel_rfl
theorem laidOut : laidOutB Try.prog = true := by kernel_rfl

theorem laws_alive (w : World) : Calls Try.prog 30 #[] w fun e w' => e = .returned (.bool true) ∧ w = w' := by
  go_enter Try.func30, Try.ntmps30
  go_wp2_with (go_at_call 52; (with_reducible refine (impl_RingValid 5 true (by decide) _).mono ?_); rintro e w1 ⟨rfl, rfl⟩)
  go_ret
  exact ⟨rfl, rfl⟩
theorem okS_addV (a b c d : Int) : (rv (addF a b c d) && rv (addL a b c d)) = okS a b c d := by
  unfold addF addL
  cases okS a b c d
  · rfl
  · simp [rv_ring]
theorem okS_subV (a b c d : Int) : (rv (subF a b c d) && rv (subL a b c d)) = okS a b c d := by
  unfold subF subL
  cases okS a b c d
  · rfl
  · simp [rv_ring]
theorem join_add {a b c d : Int} (h : okS a b c d = true) : addR (addF a b c d) (addL a b c d) = addR (addR a b) (addR c d) := by
  simp only [okS, Bool.and_eq_true] at h
  obtain ⟨⟨h1, h2⟩, h3, h4⟩ := h
  simp only [addF, addL, okS, h1, h2, h3, h4, Bool.and_self, if_true, addR_ok, rv_ring]
  unfold ring; omega
theorem join_sub {a b c d : Int} (h : okS a b c d = true) : addR (subF a b c d) (subL a b c d) = subR (addR a b) (addR c d) := by
  simp only [okS, Bool.and_eq_true] at h
  obtain ⟨⟨h1, h2⟩, h3, h4⟩ := h
  simp only [subF, subL, okS, h1, h2, h3, h4, Bool.and_self, if_true, addR_ok, subR_ok, rv_ring]
  unfold ring; omega

theorem okK_akV (a b k : Int) : (rv (akF a b k) && rv (akL a b k)) = okK a b k := by
  unfold akF akL
  cases h : okK a b k
  · rfl
  · simp only [okK, Bool.and_eq_true] at h
    simp [rv_ring, h.1.2]
theorem okK_tkV (a b k : Int) : (rv (tkF a b k) && rv (tkL a b k)) = okK a b k := by
  unfold tkF tkL
  cases okK a b k
  · rfl
  · simp [rv_ring]
theorem join_ak {a b k : Int} (h : okK a b k = true) : addR (akF a b k) (akL a b k) = addR (addR a b) k ∧ akL a b k = b := by
  simp only [okK, Bool.and_eq_true] at h
  obtain ⟨⟨h1, h2⟩, h3⟩ := h
  simp only [akF, akL, okK, h1, h2, h3, Bool.and_self, if_true, addR_ok, rv_ring, and_true]
  unfold ring; omega
theorem ring_join (a b k : Int) : ring (ring (a * k) + ring (b * k)) = ring (ring (a + b) * k) := by
  unfold ring
  rw [← Int.add_emod, ← Int.add_mul, Int.mul_emod (a + b) k, Int.mul_emod ((a + b) % 4096) k, Int.emod_emod_of_dvd _ (Int.dvd_refl _)]
theorem join_tk {a b k : Int} (h : okK a b k = true) : addR (tkF a b k) (tkL a b k) = mulR (addR a b) k := by
  simp only [okK, Bool.and_eq_true] at h
  obtain ⟨⟨h1, h2⟩, h3⟩ := h
  simp only [tkF, tkL, okK, h1, h2, h3, Bool.and_self, if_true, addR_ok, mulR_ok, rv_ring]
  exact ring_join a b k

set_option maxHeartbeats 2000000 in
theorem walk_FnAddKnown (v : Value) (w : World) (hb : Bytes w v) : Calls Try.prog 7 #[v] w fun e w' => e = .returned (.bool true) ∧ Ext w w' := by
  obtain ⟨a, n, cap, rfl, hn, hm, hc⟩ := id hb
  clear hc
  have HB := Lib.hid hb; clear hb
  by_cases hl : (n : Int) ≤ 1048576
  · go_enter Try.func7, Try.ntmps7
    go_wp2_with (fail)
    (with_reducible refine (spec_DrawAddKnown _ _ HB.out).mono ?_)
    rintro e w1 ⟨a0, b0, a1, rfl, A0, B0, A1, hx1⟩
    clear hl
    go_wp2_with (fail)
    (with_reducible refine (impl_AddKnown a0 b0 a1 _).mono ?_)
    rintro e w2 ⟨rfl, hx2⟩
    have kA := ((Blk.new w1 #[.int .i64 a0, .int .i64 b0] 24)).keep hx2
    have kS := Blk.new w2 #[.int .i64 (akF a0 b0 a1), .int .i64 (akL a0 b0 a1)] 24
    have HX := Lib.hid (Ext.alloc (hx1.trans (Ext.trans ((Ext.refl w1).alloc _) hx2)) (.cells #[.int .i64 (akF a0 b0 a1), .int .i64 (akL a0 b0 a1)] 24)); clear hx1 hx2
    replace kA := kA.old (.cells #[.int .i64 (akF a0 b0 a1), .int .i64 (akL a0 b0 a1)] 24)
    go_wp2_with (fail)
    apply wp_region_zip [isv _, isv _, isv _, isv _, isv _] _ (by kernel_rfl)
    case hA => intro V; simp [putAll, dstOf, Act.put]; exact rfl
    case hsl => intro V; exact rfl
    case step =>
      intro V lo up w' hr
      have hxr := HX.out.trans hr
      obtain ⟨hcr, hzr⟩ := hxr.cells
      have kA := kA.keep hr
      have kS := kS.keep hr
      obtain ⟨ckA0, ckA1⟩ := kA.two
      obtain ⟨ckS0, ckS1⟩ := kS.two

      simp only [zipOk, depsImp, isv, waits, Region.binds, List.map_nil, List.nil_append, List.filterMap_cons, List.filterMap_nil, ↓reduceIte, true_implies, List.getD_cons_zero, List.getD_cons_succ, and_true]
      refine ⟨?_, ?_, ?_, ?_, ?_⟩
      all_goals
        intros
        go_wp2_with (go_at_call 28; (with_reducible refine (spec_AddKnown _ _ _ _).mono ?_); rintro e w1 ⟨rfl, hy⟩)
        refine stepQ_mk rfl (by simp only [List.getElem?_toArray, List.getElem?_cons_succ, List.getElem?_cons_zero]; exact rfl) ?_
        first | exact ⟨hy, rfl⟩ | exact ⟨Ext.refl _, rfl⟩ | exact ⟨Ext.refl _, by assumption⟩ | exact ⟨(Ext.refl _).alloc _, rfl, by simp, Blk.new _ _ _⟩
    case hB => kernel_rfl
    case fin =>
      intro V lo up w' hr hf ha
      simp only [factsOk, isv, List.map_nil, and_true, Nat.zero_add, Nat.reduceAdd] at hf
      simp only [List.length_cons, List.length_nil, Nat.zero_add, Nat.reduceAdd, List.drop_succ_cons, List.drop_zero]
      obtain ⟨⟨-, -, -, e0⟩, ⟨-, -, -, e1⟩, ⟨-, -, -, e2⟩, ⟨-, -, -, e3⟩, ⟨-, -, -, e4⟩⟩ := hf
      rw [e0, e1, e2, e3, e4]
      clear e0 e1 e2 e3 e4
      clear ha V lo up
      have hs0 := HX.out.size
      replace hx := HX.out.trans hr
      have tkA := kA.lt
      replace kA := kA.keep hr
      have tkS := kS.lt
      replace kS := kS.keep hr
      clear hr
      try clear hc hz
      obtain ⟨hc, hz⟩ := hx.cells
      have HX := Lib.hid hx; clear hx hc hz
      obtain ⟨ckA0, ckA1⟩ := kA.two
      obtain ⟨ckS0, ckS1⟩ := kS.two
      have ltkA := kA.lt
      have ltkS := kS.lt
      have hok := okK_akV a0 b0 a1
      cases ho : okK a0 b0 a1
      · rw [show akF a0 b0 a1 = -1 by simp [akF, ho]] at *
        rw [show akL a0 b0 a1 = -1 by simp [akL, ho]] at *
        go_wp2_with (first | (go_at_call 29; (with_reducible refine (impl_SharedValid _ _ false (by decide) _).mono ?_); rintro e w1 ⟨rfl, hy⟩; (first | (replace hx := hx.trans hy; clear hc hz hy; obtain ⟨hc, hz⟩ := hx.cells) | (have hx := hy; clear hy; obtain ⟨hc, hz⟩ := hx.cells))) | (go_at_call 30; (with_reducible refine (laws_alive _).mono ?_); rintro e w1 ⟨rfl, rfl⟩))
        go_ret
        exact ⟨rfl, HX.out.trans hx⟩

      · rw [ho] at hok
        have HK := Lib.hid hok; clear hok
        have JN := Lib.hid (join_ak ho); clear ho
        go_wp2_with (first | (go_at_call 29; (with_reducible refine (impl_SharedValid _ _ true HK.out _).mono ?_); rintro e w1 ⟨rfl, hy⟩; (first | (replace hx := hx.trans hy; clear hc hz hy; obtain ⟨hc, hz⟩ := hx.cells) | (have hx := hy; clear hy; obtain ⟨hc, hz⟩ := hx.cells))))
        replace kA := kA.keep hx
        replace kS := kS.keep hx
        replace hx := HX.out.trans hx
        clear HX hc hz
        clear ckA0 ckA1 ltkA
        clear ckS0 ckS1 ltkS
        have hL := JN.out.2
        have je := JN.out.1
        rw [hL] at je
        have JK := Kept.mk (fun w => (je ▸ impl_JoinShares (akF a0 b0 a1) b0 w : Calls Try.prog 31 #[.agg #[.int .i64 (akF a0 b0 a1), .int .i64 b0]] w fun e w' => e = .returned (.int .i64 (addR (addR a0 b0) a1)) ∧ Ext w w'))
        clear je JN
        rw [hL] at kS
        rw [hL]
        clear hL
        apply wp_region_zip [isv _, isv _, isv _, isv _, isv _, isv _, isv _, isv _, isv _, isv _, isv _, isv _, isv _, isv _, isv _] _ (by kernel_rfl)
        case hA => intro V; simp [putAll, dstOf, Act.put]; exact rfl
        case hsl => intro V; exact rfl
        case step =>
          intro V lo up w' hr
          have hxr := hx.trans hr
          obtain ⟨hcr, hzr⟩ := hxr.cells
          have kA := kA.keep hr
          have kS := kS.keep hr
          obtain ⟨ckA0, ckA1⟩ := kA.two
          obtain ⟨ckS0, ckS1⟩ := kS.two

          simp only [zipOk, depsImp, isv, waits, Region.binds, List.map_nil, List.nil_append, List.filterMap_cons, List.filterMap_nil, ↓reduceIte, true_implies, List.getD_cons_zero, List.getD_cons_succ, and_true]
          refine ⟨?_, ?_, ?_, ?_, ?_, ?_, ?_, ?_, ?_, ?_, ?_, ?_, ?_, ?_, ?_⟩
          all_goals
            intros
            go_wp2_with (first | (go_at_call 31; (with_reducible refine (JK.out _).mono ?_); rintro e w1 ⟨rfl, hy⟩) | (go_at_call 31; (with_reducible refine (impl_JoinShares _ _ _).mono ?_); rintro e w1 ⟨rfl, hy⟩) | (go_at_call 32; (with_reducible refine (impl_AddRing _ _ _).mono ?_); rintro e w1 ⟨rfl, rfl⟩))
            refine stepQ_mk rfl (by simp only [List.getElem?_toArray, List.getElem?_cons_succ, List.getElem?_cons_zero]; exact rfl) ?_
            first | exact ⟨hy, rfl⟩ | exact ⟨Ext.refl _, rfl⟩ | exact ⟨Ext.refl _, by assumption⟩ | exact ⟨(Ext.refl _).alloc _, rfl, by simp, Blk.new _ _ _⟩
        case hB => kernel_rfl
        case fin =>
          intro V lo up w' hr hf ha
          simp only [factsOk, isv, List.map_nil, and_true, Nat.zero_add, Nat.reduceAdd] at hf
          simp only [List.length_cons, List.length_nil, Nat.zero_add, Nat.reduceAdd, List.drop_succ_cons, List.drop_zero]
          obtain ⟨⟨-, -, -, e0⟩, ⟨-, -, -, e1⟩, ⟨-, -, -, e2⟩, ⟨-, -, -, e3⟩, ⟨-, -, -, e4⟩, ⟨-, -, -, e5⟩, ⟨-, -, -, e6⟩, ⟨-, -, -, e7⟩, ⟨-, -, -, e8⟩, ⟨-, -, -, e9⟩, ⟨-, -, -, e10⟩, ⟨-, -, -, e11⟩, ⟨-, -, -, e12⟩, ⟨-, -, -, e13⟩, ⟨-, -, -, e14⟩⟩ := hf
          rw [e0, e1, e2, e3, e4, e5, e6, e7, e8, e9, e10, e11, e12, e13, e14]
          clear e0 e1 e2 e3 e4 e5 e6 e7 e8 e9 e10 e11 e12 e13 e14
          clear ha V lo up
          have hs0 := hx.size
          replace hx := hx.trans hr
          have tkA := kA.lt
          replace kA := kA.keep hr
          have tkS := kS.lt
          replace kS := kS.keep hr
          clear hr
          try clear hc hz
          obtain ⟨hc, hz⟩ := hx.cells
          go_wp2
          go_ret
          exact ⟨rfl, hx⟩

  · go_enter Try.func7, Try.ntmps7
    go_wp2
    go_ret
    exact ⟨rfl, (by (repeat (first | refine Ext.setCell ?_ (by first | (simp; done) | (simp; omega) | omega) _ | refine Ext.alloc ?_ _ | refine Ext.drew ?_ | refine Ext.setRow ?_ (by omega) _)); first | exact Ext.refl _ | exact hx | (refine Ext.trans ?_ hx; (repeat (refine Ext.alloc ?_ _)); exact Ext.refl _))⟩
theorem add_at (b o i : Nat) : (⟨b, o, none⟩ : Addr).add i = ⟨b, o + i, none⟩ := by
  unfold Addr.add; by_cases h : i = 0
  · subst h; rfl
  · rw [if_neg h]
theorem cell_lt {w : World} {b o : Nat} {v : Value} (h : w.cell? ⟨b, o, none⟩ = some v) : b < w.heap.size := by
  apply Classical.byContradiction
  intro hn
  have : w.heap[b]? = none := by simp; omega
  simp [World.cell?, this] at h
theorem bytes_of {H : Type} {enc : TypeId × Value → H} {w : World} {base : Nat} {held : Bool} {t e : TypeId} {fuel : Nat} {a : Option Addr} {len cap : Nat} {x : DataW H × List MemPlace} (ht : Try.prog.underlying t = some (.slice e)) (he : Try.prog.underlying e = some (.int .u8)) (hc : Try.prog.cellsOf e = 1)
    (h : DataW.trod enc Try.prog w base (fun _ => true) held fuel t (Value.slice a len cap).cells.toList = some x) : Bytes w (.slice a len cap) := by
  rcases open_ints ht he hc h with ⟨hcs, _⟩ | ⟨x, l, c, zs, hcs, _, hl, hm, hz, _, hcell, hwz⟩
  · simp [Value.cells] at hcs
    obtain ⟨rfl, rfl, rfl⟩ := hcs
    exact ⟨none, 0, 0, rfl, Nat.le_refl _, by omega, fun i hi => absurd hi (Nat.not_lt_zero _)⟩
  · simp [Value.cells] at hcs
    obtain ⟨rfl, rfl, rfl⟩ := hcs
    have hz' : zs.length = cap := by simpa using hz
    refine ⟨some x, len, cap, rfl, hl, by unfold maxLen at hm; omega, fun i hi => ?_⟩
    have hci := hcell i (by omega)
    obtain ⟨b, off, spot⟩ := x
    have hspot : spot = none := by
      have h0 := hcell 0 (by omega)
      simpa [Addr.add] using World.cell?_spot h0
    subst hspot
    rw [add_at] at hci
    have hwf := hwz (zs.getD i 0) (by
      have : i < zs.length := by omega
      simp [this])
    refine ⟨b, off, rfl, cell_lt hci, _, hci, ?_⟩
    have := bounds_u8 hwf
    omega

set_option maxRecDepth 100000 in
theorem lifted_FnAddKnown (os : Os) (started : os.Started) (H : Type) (enc : TypeId × Value → H) :
    ReturnsInHanded {} Try.checked os 7 .any (Rows.fnAddKnownSpec.pre6 enc Try.prog Try.f7 Rows.fnAddKnownRow.domain false) (Rows.fnAddKnownSpec.post enc Try.prog Try.f7 false true false false) := by
  refine returnsInHanded_of_change (C := Try.checked) own started (by kernel_rfl) Try.func7
    (ChangeSpec.witness6 (enc := enc) (C := Try.checked) false ⟨#[], #[.slice none 0 0], []⟩ 8 (by kernel_rfl) (by kernel_rfl) (by kernel_rfl) (by kernel_rfl)) ?_
  intro W base args ds gs before hval0 hW hcnd _
  have hval : ∀ (j : Nat) t v, Try.f7.params[j]? = some t → args[j]? = some v → Value.okWide Try.prog W .any base t v := hval0
  have hW' := hW
  obtain ⟨p, q, hA0, hV, rfl, hfz, hnd⟩ := hW
  have hA : DataW.TrodAll enc Try.prog W 0 (fun _ => true) true Try.f7.params.toList args.toList ds p := hA0
  rw [Try.params7] at hA hval
  obtain ⟨v0, vs0, d0, ds0, p0, q0, hargs, rfl, rfl, h0, r0⟩ := trodAll_cons hA
  obtain ⟨rfl, rfl, rfl⟩ := trodAll_nil r0
  obtain rfl : args = #[v0] := by cases args; simp_all
  obtain ⟨rfl, rfl⟩ := trodVars_none hV
  have k0 := h0
  have lt0 : ∀ x ∈ p0, x.block < W.heap.size := by obtain ⟨m, hm⟩ := k0; exact DataW.trod_lt m _ _ _ hm
  obtain ⟨sa0, sl0, sc0, rfl⟩ := okWide_slice Try.underlying38 (hval 0 38 v0 rfl rfl)
  have by0 : Bytes W (.slice sa0 sl0 sc0) := by
    obtain ⟨fu, hf⟩ := h0
    exact bytes_of Try.underlying38 Try.underlying5 (by kernel_rfl) hf
  clear hA0 hval0
  refine (walk_FnAddKnown (.slice sa0 sl0 sc0) W by0).mono fun e W' ⟨he, bel⟩ => ?_
  subst he
  exact ⟨_, rfl, _, _, _, [], _, [], hW', trodAll_mk1 (shut_bool Try.underlying4 _), (trodAll_cons_mk (Below.trod laidOut (by kernel_rfl) (of_decide_eq_true (by kernel_rfl)) k0 bel lt0) trodAll_mk0), rfl, Below.frame bel _, fun h => by cases h⟩
theorem proved_FnAddKnown : Rows.FnAddKnownSaid :=
  OpenClaim.holds_of_wide 7 Try.f7 rfl rfl rfl rfl rfl rfl rfl ⟨rfl, rfl, rfl, rfl, rfl⟩ rfl rfl rfl rfl rfl (by kernel_rfl) Try.func7 (by kernel_rfl)
    (of_decide_eq_true (by kernel_rfl)) (by unfold Func.isWrapper; rw [if_neg (of_decide_eq_false (by kernel_rfl))]; exact ⟨rfl, rfl⟩)
    (fun os started H enc _ => lifted_FnAddKnown os started H enc)
#print axioms proved_FnAddKnown

end Go.Proofs.Ytokjdaknfkleeaa
