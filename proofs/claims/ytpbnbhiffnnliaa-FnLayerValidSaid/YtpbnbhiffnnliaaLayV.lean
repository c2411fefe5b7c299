/- Whether a layer is valid: the reference and the program. -/
import Derived.Test.YtpbnbhiffnnliaaLayX
import Derived.Test.YtpbnbhiffnnliaaSPair
import Derived.Test.YtpbnbhiffnnliaaKC
namespace Go.Proofs.Ytpbnbhiffnnliaa
set_option linter.unusedSimpArgs false
set_option linter.unusedVariables false
open Go.RowKit
theorem Mats.at {B : Nat} {w : World} {b n cap : Nat} {ms : List Mat} (h : Mats B 0 w (.slice (some ⟨b, 0, none⟩) n cap) ms) {i : Nat} (hi : i < n) : b < w.heap.size ∧ ∃ u, w.cell? ⟨b, i * 3, none⟩ = some (.int .i64 (ms.getD i matZ).r) ∧ w.cell? ⟨b, i * 3 + 1, none⟩ = some (.int .i64 (ms.getD i matZ).c) ∧ w.cell? ⟨b, i * 3 + 2, none⟩ = some u ∧ Ints w u (ms.getD i matZ).xs := by
  obtain ⟨a, c, e, hm, hc⟩ := h
  cases e
  obtain ⟨b', u, e, -, hb, hr, hu, -⟩ := hc i hi
  cases e
  exact ⟨hb, u, by have := hr 0 _ rfl; simpa using this, by have := hr 1 _ rfl; simpa using this, by have := hr 2 _ rfl; simpa using this, hu⟩
theorem Mats.block {B : Nat} {w : World} {a : Option Addr} {n cap : Nat} {ms : List Mat} (h : Mats B 0 w (.slice a n cap) ms) (hn : 0 < n) : ∃ b, a = some ⟨b, 0, none⟩ := by
  obtain ⟨a, c, e, hm, hc⟩ := h
  cases e
  obtain ⟨b', u, e, -⟩ := hc 0 hn
  exact ⟨b', e⟩
theorem ml2 {ms : List Mat} (h : 2 = ms.length) : ∃ m0 m1, ms = [m0, m1] := by
  match ms, h with
  | [a, b], _ => exact ⟨a, b, rfl⟩
theorem ml3 {ms : List Mat} (h : 3 = ms.length) : ∃ m0 m1 m2, ms = [m0, m1, m2] := by
  match ms, h with
  | [a, b, c], _ => exact ⟨a, b, c, rfl⟩
theorem all_ok {ms : List Mat} {n : Nat} (hn : n = ms.length) (h : ∀ j, j < n → (ms.getD j matZ).ok = true) : ms.all Mat.ok = true := by
  rw [List.all_eq_true]
  intro m hm
  obtain ⟨i, hi, rfl⟩ := List.mem_iff_getElem.1 hm
  have := h i (by omega)
  simpa [hi] using this
theorem not_ok {ms : List Mat} {n j : Nat} (hn : n = ms.length) (hj : j < n) (h : (ms.getD j matZ).ok = false) (k : Int) : layOk k ms = false := by
  have : ms.all Mat.ok = false := by
    rw [Bool.eq_false_iff]
    intro h9
    rw [List.all_eq_true] at h9
    have hj' : j < ms.length := by omega
    have h8 := h9 ms[j] (List.getElem_mem hj')
    have e : ms.getD j matZ = ms[j] := by simp [hj']
    rw [e] at h
    rw [h] at h8
    cases h8
  unfold layOk
  rw [this, Bool.false_and]

set_option maxHeartbeats 8000000 in
set_option maxRecDepth 4000 in
theorem spec_LayerValid (B : Nat) (kd : Int) (v : Value) (ms : List Mat) (b : Bool) (hb : layOk kd ms = b) (w : World) (h : Mats B 0 w v ms) : Calls Try.prog 15 #[.agg #[.int .i64 kd, v]] w fun e w' => e = .returned (.bool b) ∧ Ext w w' := by
  obtain ⟨a, n, cap, rfl, hn, h⟩ := h.lit
  have H := Kept.mk h
  obtain ⟨hm, hc⟩ := h.elt
  have HC := Kept.mk hc
  have HN := Kept.mk hn
  clear hc hn
  have KB := Kept.mk (Blk.new w #[.int .i64 kd, .slice a n cap] 42)
  have X0 := Kept.mk ((Ext.refl w).alloc (.cells #[.int .i64 kd, .slice a n cap] 42))
  go_enter Try.func15, Try.ntmps15
  go_wp2_with (fail)
  go_loopw [3] (fun i wr => ∃ k : Nat, k ≤ n ∧ i = .int .i64 k ∧ (∀ j, j < k → (ms.getD j matZ).ok = true) ∧ Blk wr w.heap.size #[.int .i64 kd, .slice a n cap] 42 ∧ Ext w wr) (fun i _ => n - (intOf i).toNat)
  case atStart => exact ⟨0, Nat.zero_le _, rfl, fun j hj => absurd hj (Nat.not_lt_zero j), KB.out, X0.out⟩
  case round =>
    clear X0 KB
    obtain ⟨k, hk, rfl, hall, hkw, hx⟩ := hrel
    have HA := Kept.mk hall
    have KW := Kept.mk hkw
    have X := Kept.mk hx
    clear hall hkw hx
    by_cases hlt : k < n
    · obtain ⟨eb, u, rfl, -, heb, hr, hu, -⟩ := HC.out k hlt
      rw [Nat.zero_add] at hr
      have RA := Kept.mk (rangeAt_keep X.out heb hr)
      have HU := Kept.mk (hu.keep X.out)
      clear hr hu
      generalize hM : ms.getD k matZ = M at RA HU
      obtain ⟨r, c, xs⟩ := M
      simp only at RA HU
      have z1 : (k : Int) < (n : Int) := Int.ofNat_lt.2 hlt
      have S9 := Kept.mk (spec_MatrixValid r c u xs wr HU.out)
      obtain ⟨y0, y1⟩ := KW.out.two
      cases g1 : mOk r c xs
      · rw [g1] at S9
        rw [not_ok HN.out hlt (by rw [hM]; exact g1) kd] at hb
        subst hb
        clear hM g1
        go_wp2_with (first | (refine wpList_load_mid rfl 25 _ rfl _ _ rfl _ _ RA.out Try.underlying25 rfl (by kernel_rfl) ?_; dsimp only) | fail)
        (with_reducible refine (S9.out).mono ?_)
        rintro e u9 ⟨rfl, x9⟩
        replace X := Kept.mk (X.out.trans x9)
        clear x9
        go_wp2
        go_ret
        exact ⟨rfl, X.out⟩
      · rw [g1] at S9
        have HN : Kept (∀ j, j < k + 1 → (ms.getD j matZ).ok = true) := ⟨fun j hj => by
          rcases Nat.lt_succ_iff_lt_or_eq.1 hj with h | rfl
          · exact HA.out j h
          · rw [hM]; exact g1⟩
        clear hM g1
        go_wp2_with (first | (refine wpList_load_mid rfl 25 _ rfl _ _ rfl _ _ RA.out Try.underlying25 rfl (by kernel_rfl) ?_; dsimp only) | fail)
        (with_reducible refine (S9.out).mono ?_)
        rintro e u9 ⟨rfl, x9⟩
        replace X := Kept.mk (X.out.trans x9)
        replace KW := Kept.mk (KW.out.keep x9)
        clear x9
        go_wp2
        go_roundw
        case rel => exact ⟨k + 1, by omega, by go_num, HN.out, KW.out, X.out⟩
        case measure => simp [intOf]; omega
    · obtain rfl : n = k := by omega
      have hn := HN.out
      have hall := HA.out
      have ha := all_ok hn hall
      by_cases d1 : kd = 1
      · subst d1
        have hb9 := hb
        unfold layOk at hb9
        rw [ha, Bool.true_and, if_pos rfl] at hb9
        by_cases d2 : n = 2
        · obtain rfl : n = 2 := d2
          obtain ⟨bb, rfl⟩ := H.out.block (by omega)
          obtain ⟨m0, m1, rfl⟩ := ml2 hn
          obtain ⟨r0, c0, x0⟩ := m0
          obtain ⟨r1, c1, x1⟩ := m1
          obtain ⟨lb, u0, q0, q1, q2, i0⟩ := H.out.at (i := 0) (by omega)
          obtain ⟨-, u1, q3, q4, q5, i1⟩ := H.out.at (i := 1) (by omega)
          simp only [Nat.zero_mul, Nat.one_mul, Nat.zero_add, Nat.reduceAdd, Nat.reduceMul, List.getD_cons_zero, List.getD_cons_succ] at q0 q1 q2 q3 q4 q5 i0 i1
          by_cases g1 : c1 = 1
          · by_cases g2 : r1 = r0
            · simp only [List.length_cons, List.length_nil, List.getD_cons_zero, List.getD_cons_succ] at hb9
              obtain rfl : b = true := by rw [← hb9]; simp [g1, g2]
              subst g1 g2
              clear hb hb9 hn
              have p0 := (X.out.cells.1 bb _ lb).trans q0
              have p1 := (X.out.cells.1 bb _ lb).trans q1
              have p2 := (X.out.cells.1 bb _ lb).trans q2
              have p3 := (X.out.cells.1 bb _ lb).trans q3
              have p4 := (X.out.cells.1 bb _ lb).trans q4
              have p5 := (X.out.cells.1 bb _ lb).trans q5
              obtain ⟨y0, y1⟩ := KW.out.two
              go_wp2_with (fail)
              go_quiet (fail)
              go_wp2
              go_ret
              exact ⟨rfl, X.out.drewN _⟩
            · simp only [List.length_cons, List.length_nil, List.getD_cons_zero, List.getD_cons_succ] at hb9
              obtain rfl : b = false := by rw [← hb9]; simp [g1, g2]
              have e1 : (r1 == r0) = false := by simpa using g2
              subst g1
              clear hb hb9 hn
              have p0 := (X.out.cells.1 bb _ lb).trans q0
              have p1 := (X.out.cells.1 bb _ lb).trans q1
              have p2 := (X.out.cells.1 bb _ lb).trans q2
              have p3 := (X.out.cells.1 bb _ lb).trans q3
              have p4 := (X.out.cells.1 bb _ lb).trans q4
              have p5 := (X.out.cells.1 bb _ lb).trans q5
              obtain ⟨y0, y1⟩ := KW.out.two
              go_wp2_with (fail)
              go_quiet (fail)
              go_wp2
              go_ret
              exact ⟨rfl, X.out.drewN _⟩
          · simp only [List.length_cons, List.length_nil, List.getD_cons_zero, List.getD_cons_succ] at hb9
            obtain rfl : b = false := by rw [← hb9]; simp [g1]
            have e1 : (c1 == 1) = false := by simpa using g1
            clear hb hb9 hn
            have p0 := (X.out.cells.1 bb _ lb).trans q0
            have p1 := (X.out.cells.1 bb _ lb).trans q1
            have p2 := (X.out.cells.1 bb _ lb).trans q2
            have p3 := (X.out.cells.1 bb _ lb).trans q3
            have p4 := (X.out.cells.1 bb _ lb).trans q4
            have p5 := (X.out.cells.1 bb _ lb).trans q5
            obtain ⟨y0, y1⟩ := KW.out.two
            go_wp2_with (fail)
            go_quiet (fail)
            go_wp2
            go_ret
            exact ⟨rfl, X.out.drewN _⟩
        · obtain rfl : b = false := by rw [← hb9, show decide (ms.length = 2) = false by simp; omega]; rfl
          have e1 : ((n : Int) == 2) = false := by simp; omega
          clear hb hb9 hn
          obtain ⟨y0, y1⟩ := KW.out.two
          go_wp2_with (fail)
          go_quiet (fail)
          go_wp2
          go_ret
          exact ⟨rfl, X.out.drewN _⟩
      · by_cases d2 : kd = 2
        · subst d2
          have hb9 := hb
          unfold layOk at hb9
          rw [ha, Bool.true_and, if_neg (by decide), if_pos rfl] at hb9
          by_cases f2 : n = 0
          · subst f2
            obtain rfl : b = true := by rw [← hb9, ← hn]; simp
            clear hb hb9 hn
            obtain ⟨y0, y1⟩ := KW.out.two
            go_wp2
            go_ret
            exact ⟨rfl, X.out⟩
          · obtain rfl : b = false := by rw [← hb9]; exact decide_eq_false (by omega)
            have e1 : ((n : Int) == 0) = false := by simp; omega
            clear hb hb9 hn
            obtain ⟨y0, y1⟩ := KW.out.two
            go_wp2
            go_ret
            exact ⟨rfl, X.out⟩
        · by_cases d3 : kd = 3
          · subst d3
            have hb9 := hb
            unfold layOk at hb9
            rw [ha, Bool.true_and, if_neg (by decide), if_neg (by decide), if_pos rfl] at hb9
            by_cases f2 : n = 3
            · obtain rfl : n = 3 := f2
              obtain ⟨bb, rfl⟩ := H.out.block (by omega)
              obtain ⟨m0, m1, m2, rfl⟩ := ml3 hn
              obtain ⟨r0, c0, x0⟩ := m0
              obtain ⟨r1, c1, x1⟩ := m1
              obtain ⟨r2, c2, x2⟩ := m2
              obtain ⟨lb, u0, q0, q1, q2, i0⟩ := H.out.at (i := 0) (by omega)
              obtain ⟨-, u1, q3, q4, q5, i1⟩ := H.out.at (i := 1) (by omega)
              obtain ⟨-, u2, q6, q7, q8, i2⟩ := H.out.at (i := 2) (by omega)
              simp only [Nat.zero_mul, Nat.one_mul, Nat.zero_add, Nat.reduceAdd, Nat.reduceMul, List.getD_cons_zero, List.getD_cons_succ] at q0 q1 q2 q3 q4 q5 q6 q7 q8 i0 i1 i2
              have o0 : mOk r0 c0 x0 = true := hall 0 (by omega)
              have o1 : mOk r1 c1 x1 = true := hall 1 (by omega)
              have o2 : mOk r2 c2 x2 = true := hall 2 (by omega)
              by_cases g1 : r0 = c0
              · cases g2 : (decide (r0 = r1) && decide (c0 = c1))
                · simp only [List.length_cons, List.length_nil, List.getD_cons_zero, List.getD_cons_succ, sameS] at hb9
                  obtain rfl : b = false := by rw [← hb9, g2]; simp
                  have LA : Kept (∀ w', Ext w w' → Calls Try.prog 44 #[.agg #[.int .i64 r0, .int .i64 c0, u0], .agg #[.int .i64 r1, .int .i64 c1, u1]] w' fun e w'' => e = .returned (.bool false) ∧ Ext w' w'') := ⟨fun w' hx => spec_l3Like _ _ _ _ _ _ x0 x1 false (by rw [o0, o1, Bool.true_and, Bool.true_and]; exact g2) w' (i0.keep hx) (i1.keep hx)⟩
                  subst g1
                  clear g2
                  clear hb hb9 hn o0 o1 o2 i0 i1 i2
                  obtain ⟨y0, y1⟩ := KW.out.two
                  go_wp2_with (fail)
                  clear y0 y1
                  have hx := X.out
                  have kB := KW.out
                  clear X KW
                  apply wp_region_zip [isv _, isv _, isv _, isv _, isv _, isv _, isv _, isv _, isv _, isv _, isv _, isv _, isv _, isv _, isv _, isv _, isv _, isv _, isv _, isv _, isv _, isv _, isv _, isv _, isv _, isv _, isv _, isv _, isv _, isv _, isv _, isv _, isv _, isv _, isv _, isv _, isv _, isv _, isv _, isv _] _ (by kernel_rfl)
                  case hA => intro V; simp [putAll, dstOf, Act.put]; exact rfl
                  case hsl => intro V; exact rfl
                  case step =>
                    intro V lo up w' hr
                    have hxr := hx.trans hr
                    obtain ⟨hcr, hzr⟩ := hxr.cells
                    have kB := kB.keep hr
                    obtain ⟨y0, y1⟩ := kB.two
                    have p0 := (hxr.cells.1 bb _ lb).trans q0
                    have p1 := (hxr.cells.1 bb _ lb).trans q1
                    have p2 := (hxr.cells.1 bb _ lb).trans q2
                    have p3 := (hxr.cells.1 bb _ lb).trans q3
                    have p4 := (hxr.cells.1 bb _ lb).trans q4
                    have p5 := (hxr.cells.1 bb _ lb).trans q5
                    have p6 := (hxr.cells.1 bb _ lb).trans q6
                    have p7 := (hxr.cells.1 bb _ lb).trans q7
                    have p8 := (hxr.cells.1 bb _ lb).trans q8
                    simp only [zipOk, depsImp, isv, waits, Region.binds, List.map_nil, List.nil_append, List.filterMap_cons, List.filterMap_nil, ↓reduceIte, true_implies, List.getD_cons_zero, List.getD_cons_succ, and_true]
                    refine ⟨?_, ?_, ?_, ?_, ?_, ?_, ?_, ?_, ?_, ?_, ?_, ?_, ?_, ?_, ?_, ?_, ?_, ?_, ?_, ?_, ?_, ?_, ?_, ?_, ?_, ?_, ?_, ?_, ?_, ?_, ?_, ?_, ?_, ?_, ?_, ?_, ?_, ?_, ?_, ?_⟩
                    all_goals
                      intros
                      go_wp2_with (go_at_call 44; (with_reducible refine (LA.out _ hxr).mono ?_); rintro e w1 ⟨rfl, hy⟩)
                      refine stepQ_mk rfl (by simp only [List.getElem?_toArray, List.getElem?_cons_succ, List.getElem?_cons_zero]; exact rfl) ?_
                      first | exact ⟨hy, rfl⟩ | exact ⟨Ext.refl _, rfl⟩ | exact ⟨Ext.refl _, by assumption⟩ | exact ⟨(Ext.refl _).alloc _, rfl, by simp, Blk.new _ _ _⟩
                  case hB => kernel_rfl
                  case fin =>
                    intro V lo up w' hr hf ha
                    simp only [factsOk, isv, List.map_nil, and_true, Nat.zero_add, Nat.reduceAdd] at hf
                    simp only [List.length_cons, List.length_nil, Nat.zero_add, Nat.reduceAdd, List.drop_succ_cons, List.drop_zero]
                    obtain ⟨⟨-, -, -, e0⟩, ⟨-, -, -, e1⟩, ⟨-, -, -, e2⟩, ⟨-, -, -, e3⟩, ⟨-, -, -, e4⟩, ⟨-, -, -, e5⟩, ⟨-, -, -, e6⟩, ⟨-, -, -, e7⟩, ⟨-, -, -, e8⟩, ⟨-, -, -, e9⟩, ⟨-, -, -, e10⟩, ⟨-, -, -, e11⟩, ⟨-, -, -, e12⟩, ⟨-, -, -, e13⟩, ⟨-, -, -, e14⟩, ⟨-, -, -, e15⟩, ⟨-, -, -, e16⟩, ⟨-, -, -, e17⟩, ⟨-, -, -, e18⟩, ⟨-, -, -, e19⟩, ⟨-, -, -, e20⟩, ⟨-, -, -, e21⟩, ⟨-, -, -, e22⟩, ⟨-, -, -, e23⟩, ⟨-, -, -, e24⟩, ⟨-, -, -, e25⟩, ⟨-, -, -, e26⟩, ⟨-, -, -, e27⟩, ⟨-, -, -, e28⟩, ⟨-, -, -, e29⟩, ⟨-, -, -, e30⟩, ⟨-, -, -, e31⟩, ⟨-, -, -, e32⟩, ⟨-, -, -, e33⟩, ⟨-, -, -, e34⟩, ⟨-, -, -, e35⟩, ⟨-, -, -, e36⟩, ⟨-, -, -, e37⟩, ⟨-, -, -, e38⟩, ⟨-, -, -, e39⟩⟩ := hf
                    rw [e0, e1, e2, e3, e4, e5, e6, e7, e8, e9, e10, e11, e12, e13, e14, e15, e16, e17, e18, e19, e20, e21, e22, e23, e24, e25, e26, e27, e28, e29, e30, e31, e32, e33, e34, e35, e36, e37, e38, e39]
                    clear e0 e1 e2 e3 e4 e5 e6 e7 e8 e9 e10 e11 e12 e13 e14 e15 e16 e17 e18 e19 e20 e21 e22 e23 e24 e25 e26 e27 e28 e29 e30 e31 e32 e33 e34 e35 e36 e37 e38 e39
                    clear ha V lo up
                    have hs0 := hx.size
                    replace hx := hx.trans hr
                    have tkB := kB.lt
                    replace kB := kB.keep hr
                    clear hr
                    try clear hc hz
                    obtain ⟨hc, hz⟩ := hx.cells
                    go_wp2
                    go_ret
                    exact ⟨rfl, hx⟩
                · cases g3 : (decide (r0 = r2) && decide (c0 = c2))
                  · simp only [List.length_cons, List.length_nil, List.getD_cons_zero, List.getD_cons_succ, sameS] at hb9
                    obtain rfl : b = false := by rw [← hb9, g3]; simp
                    have LA : Kept (∀ w', Ext w w' → Calls Try.prog 44 #[.agg #[.int .i64 r0, .int .i64 c0, u0], .agg #[.int .i64 r1, .int .i64 c1, u1]] w' fun e w'' => e = .returned (.bool true) ∧ Ext w' w'') := ⟨fun w' hx => spec_l3Like _ _ _ _ _ _ x0 x1 true (by rw [o0, o1, Bool.true_and, Bool.true_and]; exact g2) w' (i0.keep hx) (i1.keep hx)⟩
                    have LB : Kept (∀ w', Ext w w' → Calls Try.prog 44 #[.agg #[.int .i64 r0, .int .i64 c0, u0], .agg #[.int .i64 r2, .int .i64 c2, u2]] w' fun e w'' => e = .returned (.bool false) ∧ Ext w' w'') := ⟨fun w' hx => spec_l3Like _ _ _ _ _ _ x0 x2 false (by rw [o0, o2, Bool.true_and, Bool.true_and]; exact g3) w' (i0.keep hx) (i2.keep hx)⟩
                    subst g1
                    clear g2 g3
                    clear hb hb9 hn o0 o1 o2 i0 i1 i2
                    obtain ⟨y0, y1⟩ := KW.out.two
                    go_wp2_with (fail)
                    clear y0 y1
                    have hx := X.out
                    have kB := KW.out
                    clear X KW
                    apply wp_region_zip [isv _, isv _, isv _, isv _, isv _, isv _, isv _, isv _, isv _, isv _, isv _, isv _, isv _, isv _, isv _, isv _, isv _, isv _, isv _, isv _, isv _, isv _, isv _, isv _, isv _, isv _, isv _, isv _, isv _, isv _, isv _, isv _, isv _, isv _, isv _, isv _, isv _, isv _, isv _, isv _] _ (by kernel_rfl)
                    case hA => intro V; simp [putAll, dstOf, Act.put]; exact rfl
                    case hsl => intro V; exact rfl
                    case step =>
                      intro V lo up w' hr
                      have hxr := hx.trans hr
                      obtain ⟨hcr, hzr⟩ := hxr.cells
                      have kB := kB.keep hr
                      obtain ⟨y0, y1⟩ := kB.two
                      have p0 := (hxr.cells.1 bb _ lb).trans q0
                      have p1 := (hxr.cells.1 bb _ lb).trans q1
                      have p2 := (hxr.cells.1 bb _ lb).trans q2
                      have p3 := (hxr.cells.1 bb _ lb).trans q3
                      have p4 := (hxr.cells.1 bb _ lb).trans q4
                      have p5 := (hxr.cells.1 bb _ lb).trans q5
                      have p6 := (hxr.cells.1 bb _ lb).trans q6
                      have p7 := (hxr.cells.1 bb _ lb).trans q7
                      have p8 := (hxr.cells.1 bb _ lb).trans q8
                      simp only [zipOk, depsImp, isv, waits, Region.binds, List.map_nil, List.nil_append, List.filterMap_cons, List.filterMap_nil, ↓reduceIte, true_implies, List.getD_cons_zero, List.getD_cons_succ, and_true]
                      refine ⟨?_, ?_, ?_, ?_, ?_, ?_, ?_, ?_, ?_, ?_, ?_, ?_, ?_, ?_, ?_, ?_, ?_, ?_, ?_, ?_, ?_, ?_, ?_, ?_, ?_, ?_, ?_, ?_, ?_, ?_, ?_, ?_, ?_, ?_, ?_, ?_, ?_, ?_, ?_, ?_⟩
                      all_goals
                        intros
                        go_wp2_with (first | (go_at_call 44; (with_reducible refine (LA.out _ hxr).mono ?_); rintro e w1 ⟨rfl, hy⟩) | (go_at_call 44; (with_reducible refine (LB.out _ hxr).mono ?_); rintro e w1 ⟨rfl, hy⟩))
                        refine stepQ_mk rfl (by simp only [List.getElem?_toArray, List.getElem?_cons_succ, List.getElem?_cons_zero]; exact rfl) ?_
                        first | exact ⟨hy, rfl⟩ | exact ⟨Ext.refl _, rfl⟩ | exact ⟨Ext.refl _, by assumption⟩ | exact ⟨(Ext.refl _).alloc _, rfl, by simp, Blk.new _ _ _⟩
                    case hB => kernel_rfl
                    case fin =>
                      intro V lo up w' hr hf ha
                      simp only [factsOk, isv, List.map_nil, and_true, Nat.zero_add, Nat.reduceAdd] at hf
                      simp only [List.length_cons, List.length_nil, Nat.zero_add, Nat.reduceAdd, List.drop_succ_cons, List.drop_zero]
                      obtain ⟨⟨-, -, -, e0⟩, ⟨-, -, -, e1⟩, ⟨-, -, -, e2⟩, ⟨-, -, -, e3⟩, ⟨-, -, -, e4⟩, ⟨-, -, -, e5⟩, ⟨-, -, -, e6⟩, ⟨-, -, -, e7⟩, ⟨-, -, -, e8⟩, ⟨-, -, -, e9⟩, ⟨-, -, -, e10⟩, ⟨-, -, -, e11⟩, ⟨-, -, -, e12⟩, ⟨-, -, -, e13⟩, ⟨-, -, -, e14⟩, ⟨-, -, -, e15⟩, ⟨-, -, -, e16⟩, ⟨-, -, -, e17⟩, ⟨-, -, -, e18⟩, ⟨-, -, -, e19⟩, ⟨-, -, -, e20⟩, ⟨-, -, -, e21⟩, ⟨-, -, -, e22⟩, ⟨-, -, -, e23⟩, ⟨-, -, -, e24⟩, ⟨-, -, -, e25⟩, ⟨-, -, -, e26⟩, ⟨-, -, -, e27⟩, ⟨-, -, -, e28⟩, ⟨-, -, -, e29⟩, ⟨-, -, -, e30⟩, ⟨-, -, -, e31⟩, ⟨-, -, -, e32⟩, ⟨-, -, -, e33⟩, ⟨-, -, -, e34⟩, ⟨-, -, -, e35⟩, ⟨-, -, -, e36⟩, ⟨-, -, -, e37⟩, ⟨-, -, -, e38⟩, ⟨-, -, -, e39⟩⟩ := hf
                      rw [e0, e1, e2, e3, e4, e5, e6, e7, e8, e9, e10, e11, e12, e13, e14, e15, e16, e17, e18, e19, e20, e21, e22, e23, e24, e25, e26, e27, e28, e29, e30, e31, e32, e33, e34, e35, e36, e37, e38, e39]
                      clear e0 e1 e2 e3 e4 e5 e6 e7 e8 e9 e10 e11 e12 e13 e14 e15 e16 e17 e18 e19 e20 e21 e22 e23 e24 e25 e26 e27 e28 e29 e30 e31 e32 e33 e34 e35 e36 e37 e38 e39
                      clear ha V lo up
                      have hs0 := hx.size
                      replace hx := hx.trans hr
                      have tkB := kB.lt
                      replace kB := kB.keep hr
                      clear hr
                      try clear hc hz
                      obtain ⟨hc, hz⟩ := hx.cells
                      go_wp2
                      go_ret
                      exact ⟨rfl, hx⟩
                  · simp only [List.length_cons, List.length_nil, List.getD_cons_zero, List.getD_cons_succ, sameS] at hb9
                    obtain rfl : b = true := by rw [← hb9, g2, g3]; simp [g1]
                    have LA : Kept (∀ w', Ext w w' → Calls Try.prog 44 #[.agg #[.int .i64 r0, .int .i64 c0, u0], .agg #[.int .i64 r1, .int .i64 c1, u1]] w' fun e w'' => e = .returned (.bool true) ∧ Ext w' w'') := ⟨fun w' hx => spec_l3Like _ _ _ _ _ _ x0 x1 true (by rw [o0, o1, Bool.true_and, Bool.true_and]; exact g2) w' (i0.keep hx) (i1.keep hx)⟩
                    have LB : Kept (∀ w', Ext w w' → Calls Try.prog 44 #[.agg #[.int .i64 r0, .int .i64 c0, u0], .agg #[.int .i64 r2, .int .i64 c2, u2]] w' fun e w'' => e = .returned (.bool true) ∧ Ext w' w'') := ⟨fun w' hx => spec_l3Like _ _ _ _ _ _ x0 x2 true (by rw [o0, o2, Bool.true_and, Bool.true_and]; exact g3) w' (i0.keep hx) (i2.keep hx)⟩
                    subst g1
                    clear g2 g3
                    clear hb hb9 hn o0 o1 o2 i0 i1 i2
                    obtain ⟨y0, y1⟩ := KW.out.two
                    go_wp2_with (fail)
                    clear y0 y1
                    have hx := X.out
                    have kB := KW.out
                    clear X KW
                    apply wp_region_zip [isv _, isv _, isv _, isv _, isv _, isv _, isv _, isv _, isv _, isv _, isv _, isv _, isv _, isv _, isv _, isv _, isv _, isv _, isv _, isv _, isv _, isv _, isv _, isv _, isv _, isv _, isv _, isv _, isv _, isv _, isv _, isv _, isv _, isv _, isv _, isv _, isv _, isv _, isv _, isv _] _ (by kernel_rfl)
                    case hA => intro V; simp [putAll, dstOf, Act.put]; exact rfl
                    case hsl => intro V; exact rfl
                    case step =>
                      intro V lo up w' hr
                      have hxr := hx.trans hr
                      obtain ⟨hcr, hzr⟩ := hxr.cells
                      have kB := kB.keep hr
                      obtain ⟨y0, y1⟩ := kB.two
                      have p0 := (hxr.cells.1 bb _ lb).trans q0
                      have p1 := (hxr.cells.1 bb _ lb).trans q1
                      have p2 := (hxr.cells.1 bb _ lb).trans q2
                      have p3 := (hxr.cells.1 bb _ lb).trans q3
                      have p4 := (hxr.cells.1 bb _ lb).trans q4
                      have p5 := (hxr.cells.1 bb _ lb).trans q5
                      have p6 := (hxr.cells.1 bb _ lb).trans q6
                      have p7 := (hxr.cells.1 bb _ lb).trans q7
                      have p8 := (hxr.cells.1 bb _ lb).trans q8
                      simp only [zipOk, depsImp, isv, waits, Region.binds, List.map_nil, List.nil_append, List.filterMap_cons, List.filterMap_nil, ↓reduceIte, true_implies, List.getD_cons_zero, List.getD_cons_succ, and_true]
                      refine ⟨?_, ?_, ?_, ?_, ?_, ?_, ?_, ?_, ?_, ?_, ?_, ?_, ?_, ?_, ?_, ?_, ?_, ?_, ?_, ?_, ?_, ?_, ?_, ?_, ?_, ?_, ?_, ?_, ?_, ?_, ?_, ?_, ?_, ?_, ?_, ?_, ?_, ?_, ?_, ?_⟩
                      all_goals
                        intros
                        go_wp2_with (first | (go_at_call 44; (with_reducible refine (LA.out _ hxr).mono ?_); rintro e w1 ⟨rfl, hy⟩) | (go_at_call 44; (with_reducible refine (LB.out _ hxr).mono ?_); rintro e w1 ⟨rfl, hy⟩))
                        refine stepQ_mk rfl (by simp only [List.getElem?_toArray, List.getElem?_cons_succ, List.getElem?_cons_zero]; exact rfl) ?_
                        first | exact ⟨hy, rfl⟩ | exact ⟨Ext.refl _, rfl⟩ | exact ⟨Ext.refl _, by assumption⟩ | exact ⟨(Ext.refl _).alloc _, rfl, by simp, Blk.new _ _ _⟩
                    case hB => kernel_rfl
                    case fin =>
                      intro V lo up w' hr hf ha
                      simp only [factsOk, isv, List.map_nil, and_true, Nat.zero_add, Nat.reduceAdd] at hf
                      simp only [List.length_cons, List.length_nil, Nat.zero_add, Nat.reduceAdd, List.drop_succ_cons, List.drop_zero]
                      obtain ⟨⟨-, -, -, e0⟩, ⟨-, -, -, e1⟩, ⟨-, -, -, e2⟩, ⟨-, -, -, e3⟩, ⟨-, -, -, e4⟩, ⟨-, -, -, e5⟩, ⟨-, -, -, e6⟩, ⟨-, -, -, e7⟩, ⟨-, -, -, e8⟩, ⟨-, -, -, e9⟩, ⟨-, -, -, e10⟩, ⟨-, -, -, e11⟩, ⟨-, -, -, e12⟩, ⟨-, -, -, e13⟩, ⟨-, -, -, e14⟩, ⟨-, -, -, e15⟩, ⟨-, -, -, e16⟩, ⟨-, -, -, e17⟩, ⟨-, -, -, e18⟩, ⟨-, -, -, e19⟩, ⟨-, -, -, e20⟩, ⟨-, -, -, e21⟩, ⟨-, -, -, e22⟩, ⟨-, -, -, e23⟩, ⟨-, -, -, e24⟩, ⟨-, -, -, e25⟩, ⟨-, -, -, e26⟩, ⟨-, -, -, e27⟩, ⟨-, -, -, e28⟩, ⟨-, -, -, e29⟩, ⟨-, -, -, e30⟩, ⟨-, -, -, e31⟩, ⟨-, -, -, e32⟩, ⟨-, -, -, e33⟩, ⟨-, -, -, e34⟩, ⟨-, -, -, e35⟩, ⟨-, -, -, e36⟩, ⟨-, -, -, e37⟩, ⟨-, -, -, e38⟩, ⟨-, -, -, e39⟩⟩ := hf
                      rw [e0, e1, e2, e3, e4, e5, e6, e7, e8, e9, e10, e11, e12, e13, e14, e15, e16, e17, e18, e19, e20, e21, e22, e23, e24, e25, e26, e27, e28, e29, e30, e31, e32, e33, e34, e35, e36, e37, e38, e39]
                      clear e0 e1 e2 e3 e4 e5 e6 e7 e8 e9 e10 e11 e12 e13 e14 e15 e16 e17 e18 e19 e20 e21 e22 e23 e24 e25 e26 e27 e28 e29 e30 e31 e32 e33 e34 e35 e36 e37 e38 e39
                      clear ha V lo up
                      have hs0 := hx.size
                      replace hx := hx.trans hr
                      have tkB := kB.lt
                      replace kB := kB.keep hr
                      clear hr
                      try clear hc hz
                      obtain ⟨hc, hz⟩ := hx.cells
                      go_wp2
                      go_ret
                      exact ⟨rfl, hx⟩
              · simp only [List.length_cons, List.length_nil, List.getD_cons_zero, List.getD_cons_succ, sameS] at hb9
                obtain rfl : b = false := by rw [← hb9]; simp [g1]
                have e1 : (r0 == c0) = false := by simpa using g1
                clear g1
                clear hb hb9 hn o0 o1 o2 i0 i1 i2
                have p0 := (X.out.cells.1 bb _ lb).trans q0
                have p1 := (X.out.cells.1 bb _ lb).trans q1
                have p2 := (X.out.cells.1 bb _ lb).trans q2
                have p3 := (X.out.cells.1 bb _ lb).trans q3
                have p4 := (X.out.cells.1 bb _ lb).trans q4
                have p5 := (X.out.cells.1 bb _ lb).trans q5
                have p6 := (X.out.cells.1 bb _ lb).trans q6
                have p7 := (X.out.cells.1 bb _ lb).trans q7
                have p8 := (X.out.cells.1 bb _ lb).trans q8
                obtain ⟨y0, y1⟩ := KW.out.two
                go_wp2_with (fail)
                go_quiet (fail)
                go_wp2
                go_ret
                exact ⟨rfl, X.out.drewN _⟩
            · obtain rfl : b = false := by rw [← hb9, show decide (ms.length = 3) = false by simp; omega]; rfl
              have e1 : ((n : Int) == 3) = false := by simp; omega
              clear hb hb9 hn
              obtain ⟨y0, y1⟩ := KW.out.two
              go_wp2_with (fail)
              go_quiet (fail)
              go_wp2
              go_ret
              exact ⟨rfl, X.out.drewN _⟩
          · have hb9 := hb
            unfold layOk at hb9
            rw [ha, Bool.true_and, if_neg d1, if_neg d2, if_neg d3] at hb9
            subst hb9
            have e1 : (kd == 1) = false := by simpa using d1
            have e2 : (kd == 2) = false := by simpa using d2
            have e3 : (kd == 3) = false := by simpa using d3
            clear hb hn
            obtain ⟨y0, y1⟩ := KW.out.two
            go_wp2
            go_ret
            exact ⟨rfl, X.out⟩
end Go.Proofs.Ytpbnbhiffnnliaa
