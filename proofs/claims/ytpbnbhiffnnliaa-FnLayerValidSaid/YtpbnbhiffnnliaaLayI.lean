/- Whether a layer is valid: the program. -/
import Derived.Test.YtpbnbhiffnnliaaLayV
namespace Go.Proofs.Ytpbnbhiffnnliaa
set_option linter.unusedSimpArgs false
set_option linter.unusedVariables false
open Go.RowKit

/-- The matrices are valid, square and of one size. -/
def mixB (ms : List Mat) : Bool := ms.all fun m => m.ok && decide (m.r = m.c) && sameS m (ms.getD 0 matZ)
theorem mixB_no {ms : List Mat} {n j : Nat} (hn : n = ms.length) (hj : j < n) (h : ((ms.getD j matZ).ok && decide ((ms.getD j matZ).r = (ms.getD j matZ).c) && sameS (ms.getD j matZ) (ms.getD 0 matZ)) = false) : mixB ms = false := by
  rw [Bool.eq_false_iff]
  intro h9
  unfold mixB at h9
  rw [List.all_eq_true] at h9
  have hj' : j < ms.length := by omega
  have h8 := h9 ms[j] (List.getElem_mem hj')
  have e : ms.getD j matZ = ms[j] := by simp [hj']
  rw [e] at h
  rw [h] at h8
  cases h8
theorem mixB_yes {ms : List Mat} {n : Nat} (hn : n = ms.length) (h : ∀ j, j < n → ((ms.getD j matZ).ok && decide ((ms.getD j matZ).r = (ms.getD j matZ).c) && sameS (ms.getD j matZ) (ms.getD 0 matZ)) = true) : mixB ms = true := by
  unfold mixB
  rw [List.all_eq_true]
  intro m hm
  obtain ⟨i, hi, rfl⟩ := List.mem_iff_getElem.1 hm
  have h9 := h i (by omega)
  rw [show ms.getD i matZ = ms[i] by simp [hi]] at h9
  exact h9

set_option maxHeartbeats 4000000 in
set_option maxRecDepth 4000 in
theorem impl_mixFits (B : Nat) (v : Value) (ms : List Mat) (b : Bool) (hb0 : mixB ms = b) (w : World) (h : Mats B 0 w v ms) : Calls Try.prog 62 #[v] w fun e w' => e = .returned (.bool b) ∧ Ext w w' := by
  obtain ⟨a, n, cap, rfl, hn, h⟩ := h.lit
  have H := Kept.mk h
  obtain ⟨hm, hc⟩ := h.elt
  have HC := Kept.mk hc
  have HN := Kept.mk hn
  clear hc hn
  go_enter Try.func62, Try.ntmps62
  go_wp2_with (fail)
  go_loopw [7] (fun i wr => ∃ k : Nat, k ≤ n ∧ i = .int .i64 k ∧ (∀ j, j < k → ((ms.getD j matZ).ok && decide ((ms.getD j matZ).r = (ms.getD j matZ).c) && sameS (ms.getD j matZ) (ms.getD 0 matZ)) = true) ∧ Ext w wr) (fun i _ => n - (intOf i).toNat)
  case atStart => exact ⟨0, Nat.zero_le _, rfl, fun j hj => absurd hj (Nat.not_lt_zero j), Ext.refl _⟩
  case round =>
    obtain ⟨k, hk, rfl, hall, hx⟩ := hrel
    have HA := Kept.mk hall
    have X := Kept.mk hx
    clear hall hx
    by_cases hlt : k < n
    · obtain ⟨b1, u, rfl, -, hb, hr, hu, -⟩ := HC.out k hlt
      rw [Nat.zero_add] at hr
      obtain ⟨lb, u0, q0, q1, q2, -⟩ := H.out.at (i := 0) (by omega)
      simp only [Nat.zero_mul, Nat.zero_add] at q0 q1 q2
      have RA := Kept.mk (rangeAt_keep X.out hb hr)
      have HU := Kept.mk hu
      clear hr hu hb
      have FB := Kept.mk (fun (h9 : ((ms.getD k matZ).ok && decide ((ms.getD k matZ).r = (ms.getD k matZ).c) && sameS (ms.getD k matZ) (ms.getD 0 matZ)) = false) => mixB_no HN.out hlt h9)
      have FY := Kept.mk (fun (h9 : ((ms.getD k matZ).ok && decide ((ms.getD k matZ).r = (ms.getD k matZ).c) && sameS (ms.getD k matZ) (ms.getD 0 matZ)) = true) j (hj : j < k + 1) => show ((ms.getD j matZ).ok && decide ((ms.getD j matZ).r = (ms.getD j matZ).c) && sameS (ms.getD j matZ) (ms.getD 0 matZ)) = true from (Nat.lt_succ_iff_lt_or_eq.1 hj).elim (HA.out j) (fun e => e ▸ h9))
      generalize hM : ms.getD k matZ = M at RA HU FB FY
      clear hM
      generalize hM0 : ms.getD 0 matZ = M0 at q0 q1 FB
      obtain ⟨r, c, xs⟩ := M
      obtain ⟨r0, c0, xs0⟩ := M0
      simp only [Mat.ok, sameS] at RA HU FB q0 q1
      have HM0 := Kept.mk hM0
      clear hM0
      obtain ⟨su, nu, eu, -, -⟩ := id HU.out
      (try simp only at eu)
      subst eu
      have z1 : (k : Int) < (n : Int) := Int.ofNat_lt.2 hlt
      have z2 : (0 : Int) < (n : Int) := by omega
      have V9 := Kept.mk (fun w' (hx : Ext w w') => impl_MatrixValid r c _ xs w' (HU.out.keep hx))
      clear HU
      cases g1 : mOk r c xs
      · simp only [g1] at V9
        have hbf := FB.out (by rw [g1]; simp)
        obtain rfl : b = false := by rw [← hb0, hbf]
        clear g1 FB FY HM0 hb0
        have S := Kept.mk (St.start wr)
        go_wp2_with (first | (refine wpList_load_mid rfl 25 _ rfl _ _ rfl _ _ RA.out Try.underlying25 rfl (by kernel_rfl) ?_; dsimp only) | (refine aliM S.out ?_; clear S; intro b9 w9 S) | (refine stiM S.out ?_; clear S; intro w9 S) | fail)
        obtain ⟨kE, -⟩ := S.out.box _ (List.Mem.head _)
        have hx := X.out.trans S.out.ext
        clear X S RA
        apply wp_region_zip [isv _, isv _, isv _, isv _, isv _, isv _, isv _, isv _, isv _, isv _, isv _, isv _, isv _, isv _, isv _, isv _, isv _, isv _] _ (by kernel_rfl)
        case hA => intro V; simp [putAll, dstOf, Act.put]; exact rfl
        case hsl => intro V; exact rfl
        case step =>
          intro V lo up w' hr
          have hxr := hx.trans hr
          obtain ⟨hcr, hzr⟩ := hxr.cells
          have kE := kE.keep hr
          obtain ⟨y0, y1, y2⟩ := kE.three
          have p0 := (hxr.cells.1 b1 _ lb).trans q0
          have p1 := (hxr.cells.1 b1 _ lb).trans q1
          have p2 := (hxr.cells.1 b1 _ lb).trans q2
          simp only [zipOk, depsImp, isv, waits, Region.binds, List.map_nil, List.nil_append, List.filterMap_cons, List.filterMap_nil, ↓reduceIte, true_implies, List.getD_cons_zero, List.getD_cons_succ, and_true]
          refine ⟨?_, ?_, ?_, ?_, ?_, ?_, ?_, ?_, ?_, ?_, ?_, ?_, ?_, ?_, ?_, ?_, ?_, ?_⟩
          all_goals
            intros
            go_wp2_with (go_at_call 24; (with_reducible refine (V9.out _ hxr).mono ?_); rintro e w1 ⟨rfl, hy⟩)
            refine stepQ_mk rfl (by simp only [List.getElem?_toArray, List.getElem?_cons_succ, List.getElem?_cons_zero]; exact rfl) ?_
            first | exact ⟨hy, rfl⟩ | exact ⟨Ext.refl _, rfl⟩ | exact ⟨Ext.refl _, by assumption⟩ | exact ⟨(Ext.refl _).alloc _, rfl, by simp, Blk.new _ _ _⟩
        case hB => kernel_rfl
        case fin =>
          intro V lo up w' hr hf ha
          simp only [factsOk, isv, List.map_nil, and_true, Nat.zero_add, Nat.reduceAdd] at hf
          simp only [List.length_cons, List.length_nil, Nat.zero_add, Nat.reduceAdd, List.drop_succ_cons, List.drop_zero]
          obtain ⟨⟨-, -, -, e0⟩, ⟨-, -, -, e1⟩, ⟨-, -, -, e2⟩, ⟨-, -, -, e3⟩, ⟨-, -, -, e4⟩, ⟨-, -, -, e5⟩, ⟨-, -, -, e6⟩, ⟨-, -, -, e7⟩, ⟨-, -, -, e8⟩, ⟨-, -, -, e9⟩, ⟨-, -, -, e10⟩, ⟨-, -, -, e11⟩, ⟨-, -, -, e12⟩, ⟨-, -, -, e13⟩, ⟨-, -, -, e14⟩, ⟨-, -, -, e15⟩, ⟨-, -, -, e16⟩, ⟨-, -, -, e17⟩⟩ := hf
          rw [e0, e1, e2, e3, e4, e5, e6, e7, e8, e9, e10, e11, e12, e13, e14, e15, e16, e17]
          clear e0 e1 e2 e3 e4 e5 e6 e7 e8 e9 e10 e11 e12 e13 e14 e15 e16 e17
          clear ha V lo up
          have hs0 := hx.size
          replace hx := hx.trans hr
          have tkE := kE.lt
          replace kE := kE.keep hr
          clear hr
          try clear hc hz
          obtain ⟨hc, hz⟩ := hx.cells
          go_wp2
          go_ret
          exact ⟨rfl, hx⟩
      · by_cases g2 : r = c
        · cases g3 : (decide (r = r0) && decide (c = c0))
          · simp only [g1] at V9
            have SS : Kept (∀ w', Calls Try.prog 64 #[.agg #[.int .i64 r, .int .i64 c, .slice su xs.length nu], .agg #[.int .i64 r0, .int .i64 c0, u0]] w' fun e w'' => e = .returned (.bool false) ∧ Ext w' w'') := ⟨fun w' => impl_sameSides _ _ _ _ _ _ false g3 w'⟩
            have hbf := FB.out (by rw [g3, Bool.and_false])
            obtain rfl : b = false := by rw [← hb0, hbf]
            subst g2
            clear g1 FB FY HM0 g3 hb0
            have S := Kept.mk (St.start wr)
            go_wp2_with (first | (refine wpList_load_mid rfl 25 _ rfl _ _ rfl _ _ RA.out Try.underlying25 rfl (by kernel_rfl) ?_; dsimp only) | (refine aliM S.out ?_; clear S; intro b9 w9 S) | (refine stiM S.out ?_; clear S; intro w9 S) | fail)
            obtain ⟨kE, -⟩ := S.out.box _ (List.Mem.head _)
            have hx := X.out.trans S.out.ext
            clear X S RA
            apply wp_region_zip [isv _, isv _, isv _, isv _, isv _, isv _, isv _, isv _, isv _, isv _, isv _, isv _, isv _, isv _, isv _, isv _, isv _, isv _] _ (by kernel_rfl)
            case hA => intro V; simp [putAll, dstOf, Act.put]; exact rfl
            case hsl => intro V; exact rfl
            case step =>
              intro V lo up w' hr
              have hxr := hx.trans hr
              obtain ⟨hcr, hzr⟩ := hxr.cells
              have kE := kE.keep hr
              obtain ⟨y0, y1, y2⟩ := kE.three
              have p0 := (hxr.cells.1 b1 _ lb).trans q0
              have p1 := (hxr.cells.1 b1 _ lb).trans q1
              have p2 := (hxr.cells.1 b1 _ lb).trans q2
              simp only [zipOk, depsImp, isv, waits, Region.binds, List.map_nil, List.nil_append, List.filterMap_cons, List.filterMap_nil, ↓reduceIte, true_implies, List.getD_cons_zero, List.getD_cons_succ, and_true]
              refine ⟨?_, ?_, ?_, ?_, ?_, ?_, ?_, ?_, ?_, ?_, ?_, ?_, ?_, ?_, ?_, ?_, ?_, ?_⟩
              all_goals
                intros
                go_wp2_with (first | (go_at_call 24; (with_reducible refine (V9.out _ hxr).mono ?_); rintro e w1 ⟨rfl, hy⟩) | (go_at_call 64; (with_reducible refine (SS.out _).mono ?_); rintro e w1 ⟨rfl, hy⟩))
                refine stepQ_mk rfl (by simp only [List.getElem?_toArray, List.getElem?_cons_succ, List.getElem?_cons_zero]; exact rfl) ?_
                first | exact ⟨hy, rfl⟩ | exact ⟨Ext.refl _, rfl⟩ | exact ⟨Ext.refl _, by assumption⟩ | exact ⟨(Ext.refl _).alloc _, rfl, by simp, Blk.new _ _ _⟩
            case hB => kernel_rfl
            case fin =>
              intro V lo up w' hr hf ha
              simp only [factsOk, isv, List.map_nil, and_true, Nat.zero_add, Nat.reduceAdd] at hf
              simp only [List.length_cons, List.length_nil, Nat.zero_add, Nat.reduceAdd, List.drop_succ_cons, List.drop_zero]
              obtain ⟨⟨-, -, -, e0⟩, ⟨-, -, -, e1⟩, ⟨-, -, -, e2⟩, ⟨-, -, -, e3⟩, ⟨-, -, -, e4⟩, ⟨-, -, -, e5⟩, ⟨-, -, -, e6⟩, ⟨-, -, -, e7⟩, ⟨-, -, -, e8⟩, ⟨-, -, -, e9⟩, ⟨-, -, -, e10⟩, ⟨-, -, -, e11⟩, ⟨-, -, -, e12⟩, ⟨-, -, -, e13⟩, ⟨-, -, -, e14⟩, ⟨-, -, -, e15⟩, ⟨-, -, -, e16⟩, ⟨-, -, -, e17⟩⟩ := hf
              rw [e0, e1, e2, e3, e4, e5, e6, e7, e8, e9, e10, e11, e12, e13, e14, e15, e16, e17]
              clear e0 e1 e2 e3 e4 e5 e6 e7 e8 e9 e10 e11 e12 e13 e14 e15 e16 e17
              clear ha V lo up
              have hs0 := hx.size
              replace hx := hx.trans hr
              have tkE := kE.lt
              replace kE := kE.keep hr
              clear hr
              try clear hc hz
              obtain ⟨hc, hz⟩ := hx.cells
              go_wp2
              go_ret
              exact ⟨rfl, hx⟩
          · simp only [g1] at V9
            have SS : Kept (∀ w', Calls Try.prog 64 #[.agg #[.int .i64 r, .int .i64 c, .slice su xs.length nu], .agg #[.int .i64 r0, .int .i64 c0, u0]] w' fun e w'' => e = .returned (.bool true) ∧ Ext w' w'') := ⟨fun w' => impl_sameSides _ _ _ _ _ _ true g3 w'⟩
            have FZ := Kept.mk (FY.out (by simp only [Mat.ok, sameS, HM0.out, g1, g3]; simp [g2]))
            subst g2
            clear g1 FB FY g3
            have S := Kept.mk (St.start wr)
            go_wp2_with (first | (refine wpList_load_mid rfl 25 _ rfl _ _ rfl _ _ RA.out Try.underlying25 rfl (by kernel_rfl) ?_; dsimp only) | (refine aliM S.out ?_; clear S; intro b9 w9 S) | (refine stiM S.out ?_; clear S; intro w9 S) | fail)
            obtain ⟨kE, -⟩ := S.out.box _ (List.Mem.head _)
            have hx := X.out.trans S.out.ext
            clear X S RA
            apply wp_region_zip [isv _, isv _, isv _, isv _, isv _, isv _, isv _, isv _, isv _, isv _, isv _, isv _, isv _, isv _, isv _, isv _, isv _, isv _] _ (by kernel_rfl)
            case hA => intro V; simp [putAll, dstOf, Act.put]; exact rfl
            case hsl => intro V; exact rfl
            case step =>
              intro V lo up w' hr
              have hxr := hx.trans hr
              obtain ⟨hcr, hzr⟩ := hxr.cells
              have kE := kE.keep hr
              obtain ⟨y0, y1, y2⟩ := kE.three
              have p0 := (hxr.cells.1 b1 _ lb).trans q0
              have p1 := (hxr.cells.1 b1 _ lb).trans q1
              have p2 := (hxr.cells.1 b1 _ lb).trans q2
              simp only [zipOk, depsImp, isv, waits, Region.binds, List.map_nil, List.nil_append, List.filterMap_cons, List.filterMap_nil, ↓reduceIte, true_implies, List.getD_cons_zero, List.getD_cons_succ, and_true]
              refine ⟨?_, ?_, ?_, ?_, ?_, ?_, ?_, ?_, ?_, ?_, ?_, ?_, ?_, ?_, ?_, ?_, ?_, ?_⟩
              all_goals
                intros
                go_wp2_with (first | (go_at_call 24; (with_reducible refine (V9.out _ hxr).mono ?_); rintro e w1 ⟨rfl, hy⟩) | (go_at_call 64; (with_reducible refine (SS.out _).mono ?_); rintro e w1 ⟨rfl, hy⟩))
                refine stepQ_mk rfl (by simp only [List.getElem?_toArray, List.getElem?_cons_succ, List.getElem?_cons_zero]; exact rfl) ?_
                first | exact ⟨hy, rfl⟩ | exact ⟨Ext.refl _, rfl⟩ | exact ⟨Ext.refl _, by assumption⟩ | exact ⟨(Ext.refl _).alloc _, rfl, by simp, Blk.new _ _ _⟩
            case hB => kernel_rfl
            case fin =>
              intro V lo up w' hr hf ha
              simp only [factsOk, isv, List.map_nil, and_true, Nat.zero_add, Nat.reduceAdd] at hf
              simp only [List.length_cons, List.length_nil, Nat.zero_add, Nat.reduceAdd, List.drop_succ_cons, List.drop_zero]
              obtain ⟨⟨-, -, -, e0⟩, ⟨-, -, -, e1⟩, ⟨-, -, -, e2⟩, ⟨-, -, -, e3⟩, ⟨-, -, -, e4⟩, ⟨-, -, -, e5⟩, ⟨-, -, -, e6⟩, ⟨-, -, -, e7⟩, ⟨-, -, -, e8⟩, ⟨-, -, -, e9⟩, ⟨-, -, -, e10⟩, ⟨-, -, -, e11⟩, ⟨-, -, -, e12⟩, ⟨-, -, -, e13⟩, ⟨-, -, -, e14⟩, ⟨-, -, -, e15⟩, ⟨-, -, -, e16⟩, ⟨-, -, -, e17⟩⟩ := hf
              rw [e0, e1, e2, e3, e4, e5, e6, e7, e8, e9, e10, e11, e12, e13, e14, e15, e16, e17]
              clear e0 e1 e2 e3 e4 e5 e6 e7 e8 e9 e10 e11 e12 e13 e14 e15 e16 e17
              clear ha V lo up
              have hs0 := hx.size
              replace hx := hx.trans hr
              have tkE := kE.lt
              replace kE := kE.keep hr
              clear hr
              try clear hc hz
              obtain ⟨hc, hz⟩ := hx.cells
              have X := Kept.mk hx
              clear hx
              go_wp2
              go_roundw
              case rel => exact ⟨k + 1, by omega, by go_num, (by first | exact FZ.out | (rw [← HM0.out]; exact FZ.out)), X.out⟩
              case measure => simp [intOf]; omega
        · have e1 : (r == c) = false := by simpa using g2
          simp only [g1] at V9
          have hbf := FB.out (by simp [g2])
          obtain rfl : b = false := by rw [← hb0, hbf]
          clear g1 FB FY HM0 hb0
          have S := Kept.mk (St.start wr)
          go_wp2_with (first | (refine wpList_load_mid rfl 25 _ rfl _ _ rfl _ _ RA.out Try.underlying25 rfl (by kernel_rfl) ?_; dsimp only) | (refine aliM S.out ?_; clear S; intro b9 w9 S) | (refine stiM S.out ?_; clear S; intro w9 S) | fail)
          obtain ⟨kE, -⟩ := S.out.box _ (List.Mem.head _)
          have hx := X.out.trans S.out.ext
          clear X S RA
          apply wp_region_zip [isv _, isv _, isv _, isv _, isv _, isv _, isv _, isv _, isv _, isv _, isv _, isv _, isv _, isv _, isv _, isv _, isv _, isv _] _ (by kernel_rfl)
          case hA => intro V; simp [putAll, dstOf, Act.put]; exact rfl
          case hsl => intro V; exact rfl
          case step =>
            intro V lo up w' hr
            have hxr := hx.trans hr
            obtain ⟨hcr, hzr⟩ := hxr.cells
            have kE := kE.keep hr
            obtain ⟨y0, y1, y2⟩ := kE.three
            have p0 := (hxr.cells.1 b1 _ lb).trans q0
            have p1 := (hxr.cells.1 b1 _ lb).trans q1
            have p2 := (hxr.cells.1 b1 _ lb).trans q2
            simp only [zipOk, depsImp, isv, waits, Region.binds, List.map_nil, List.nil_append, List.filterMap_cons, List.filterMap_nil, ↓reduceIte, true_implies, List.getD_cons_zero, List.getD_cons_succ, and_true]
            refine ⟨?_, ?_, ?_, ?_, ?_, ?_, ?_, ?_, ?_, ?_, ?_, ?_, ?_, ?_, ?_, ?_, ?_, ?_⟩
            all_goals
              intros
              go_wp2_with (go_at_call 24; (with_reducible refine (V9.out _ hxr).mono ?_); rintro e w1 ⟨rfl, hy⟩)
              refine stepQ_mk rfl (by simp only [List.getElem?_toArray, List.getElem?_cons_succ, List.getElem?_cons_zero]; exact rfl) ?_
              first | exact ⟨hy, rfl⟩ | exact ⟨Ext.refl _, rfl⟩ | exact ⟨Ext.refl _, by assumption⟩ | exact ⟨(Ext.refl _).alloc _, rfl, by simp, Blk.new _ _ _⟩
          case hB => kernel_rfl
          case fin =>
            intro V lo up w' hr hf ha
            simp only [factsOk, isv, List.map_nil, and_true, Nat.zero_add, Nat.reduceAdd] at hf
            simp only [List.length_cons, List.length_nil, Nat.zero_add, Nat.reduceAdd, List.drop_succ_cons, List.drop_zero]
            obtain ⟨⟨-, -, -, e0⟩, ⟨-, -, -, e1⟩, ⟨-, -, -, e2⟩, ⟨-, -, -, e3⟩, ⟨-, -, -, e4⟩, ⟨-, -, -, e5⟩, ⟨-, -, -, e6⟩, ⟨-, -, -, e7⟩, ⟨-, -, -, e8⟩, ⟨-, -, -, e9⟩, ⟨-, -, -, e10⟩, ⟨-, -, -, e11⟩, ⟨-, -, -, e12⟩, ⟨-, -, -, e13⟩, ⟨-, -, -, e14⟩, ⟨-, -, -, e15⟩, ⟨-, -, -, e16⟩, ⟨-, -, -, e17⟩⟩ := hf
            rw [e0, e1, e2, e3, e4, e5, e6, e7, e8, e9, e10, e11, e12, e13, e14, e15, e16, e17]
            clear e0 e1 e2 e3 e4 e5 e6 e7 e8 e9 e10 e11 e12 e13 e14 e15 e16 e17
            clear ha V lo up
            have hs0 := hx.size
            replace hx := hx.trans hr
            have tkE := kE.lt
            replace kE := kE.keep hr
            clear hr
            try clear hc hz
            obtain ⟨hc, hz⟩ := hx.cells
            go_wp2
            go_ret
            exact ⟨rfl, hx⟩
    · obtain rfl : n = k := by omega
      obtain rfl : b = true := by rw [← hb0]; exact mixB_yes HN.out HA.out
      go_wp2
      go_ret
      exact ⟨rfl, X.out⟩
/-- What the program asks of a layer. -/
def layI (k : Int) (ms : List Mat) : Bool :=
  if k = 1 then decide (ms.length = 2) && ((ms.getD 0 matZ).ok && (ms.getD 1 matZ).ok && decide ((ms.getD 1 matZ).c = 1) && decide ((ms.getD 1 matZ).r = (ms.getD 0 matZ).r))
  else if k = 2 then decide (ms.length = 0) else if k = 3 then decide (ms.length = 3) && mixB ms else false
theorem layI_eq (k : Int) (ms : List Mat) : layI k ms = layOk k ms := by
  unfold layI layOk
  by_cases d1 : k = 1
  · simp only [d1, if_true]
    by_cases h : ms.length = 2
    · obtain ⟨a, b, rfl⟩ := ml2 h.symm
      simp [Bool.and_assoc]
    · simp [h]
  · by_cases d2 : k = 2
    · simp only [d1, d2, if_true, if_false]
      by_cases h : ms.length = 0
      · obtain rfl := List.eq_nil_of_length_eq_zero h
        rfl
      · simp [h]
    · by_cases d3 : k = 3
      · simp only [d1, d2, d3, if_true, if_false]
        by_cases h : ms.length = 3
        · obtain ⟨a, b, c, rfl⟩ := ml3 h.symm
          rw [Bool.eq_iff_iff]
          simp [mixB, sameS]
          grind
        · simp [h]
      · simp [d1, d2, d3]

set_option maxHeartbeats 4000000 in
set_option maxRecDepth 4000 in
theorem impl_layerOf (B : Nat) (kd : Int) (v : Value) (ms : List Mat) (b : Bool) (hb : layI kd ms = b) (w : World) (h : Mats B 0 w v ms) : Calls Try.prog 46 #[.agg #[.int .i64 kd, v]] w fun e w' => ∃ x, e = .returned (.tuple #[x, .bool b]) ∧ Ext w w' := by
  obtain ⟨a, n, cap, rfl, hn, h⟩ := h.lit
  have H := Kept.mk h
  obtain ⟨hm, -⟩ := h.elt
  clear h
  by_cases d1 : kd = 1
  · subst d1
    have hb9 := hb
    unfold layI at hb9
    rw [if_pos rfl] at hb9
    by_cases d2 : n = 2
    · obtain rfl : n = 2 := d2
      obtain ⟨bb, rfl⟩ := H.out.block (by omega)
      obtain ⟨m0, m1, rfl⟩ := ml2 hn
      obtain ⟨r0, c0, x0⟩ := m0
      obtain ⟨r1, c1, x1⟩ := m1
      obtain ⟨lb, u0, q0, q1, q2, i0⟩ := H.out.at (i := 0) (by omega)
      obtain ⟨-, u1, q3, q4, q5, i1⟩ := H.out.at (i := 1) (by omega)
      simp only [Nat.zero_mul, Nat.one_mul, Nat.zero_add, Nat.reduceAdd, Nat.reduceMul, List.getD_cons_zero, List.getD_cons_succ] at q0 q1 q2 q3 q4 q5 i0 i1
      simp only [List.length_cons, List.length_nil, List.getD_cons_zero, List.getD_cons_succ, Mat.ok, Nat.zero_add, Nat.reduceAdd, decide_true, Bool.true_and] at hb9
      cases g1 : (mOk r0 c0 x0 && mOk r1 c1 x1 && decide (c1 = 1) && decide (r1 = r0))
      · obtain rfl : b = false := by rw [← hb9, g1]
        have DF : Kept (∀ w', Ext w w' → Calls Try.prog 25 #[.agg #[.int .i64 r0, .int .i64 c0, u0], .agg #[.int .i64 r1, .int .i64 c1, u1]] w' fun e w'' => e = .returned (.bool false) ∧ Ext w' w'') := ⟨fun w' hx => impl_denseFits _ _ _ _ _ _ x0 x1 false g1 w' (i0.keep hx) (i1.keep hx)⟩
        clear hb hb9 hn g1 i0 i1
        have kB := Blk.new w #[.int .i64 1, .slice (some ⟨bb, 0, none⟩) 2 cap] 42
        have hx := (Ext.refl w).alloc (.cells #[.int .i64 1, .slice (some ⟨bb, 0, none⟩) 2 cap] 42)
        go_enter Try.func46, Try.ntmps46
        obtain ⟨y0, y1⟩ := kB.two
        go_wp2_with (fail)
        clear y0 y1
        apply wp_region_zip [isv _, isv _, isv _, isv _, isv _, isv _, isv _, isv _, isv _, isv _, isv _, isv _, isv _, isv _, isv _, isv _, isv _, isv _, isv _, isv _, isv _] _ (by kernel_rfl)
        case hA => intro V; simp [putAll, dstOf, Act.put]; exact rfl
        case hsl => intro V; exact rfl
        case step =>
          intro V lo up w' hr
          have hxr := hx.trans hr
          obtain ⟨hcr, hzr⟩ := hxr.cells
          have kB := kB.keep hr
          obtain ⟨y0, y1⟩ := kB.two
          have p0 := (hxr.cells.1 bb _ lb).trans q0
          have p1 := (hxr.cells.1 bb _ lb).trans q1
          have p2 := (hxr.cells.1 bb _ lb).trans q2
          have p3 := (hxr.cells.1 bb _ lb).trans q3
          have p4 := (hxr.cells.1 bb _ lb).trans q4
          have p5 := (hxr.cells.1 bb _ lb).trans q5
          simp only [zipOk, depsImp, isv, waits, Region.binds, List.map_nil, List.nil_append, List.filterMap_cons, List.filterMap_nil, ↓reduceIte, true_implies, List.getD_cons_zero, List.getD_cons_succ, and_true]
          refine ⟨?_, ?_, ?_, ?_, ?_, ?_, ?_, ?_, ?_, ?_, ?_, ?_, ?_, ?_, ?_, ?_, ?_, ?_, ?_, ?_, ?_⟩
          all_goals
            intros
            go_wp2_with (go_at_call 25; (with_reducible refine (DF.out _ hxr).mono ?_); rintro e w1 ⟨rfl, hy⟩)
            refine stepQ_mk rfl (by simp only [List.getElem?_toArray, List.getElem?_cons_succ, List.getElem?_cons_zero]; exact rfl) ?_
            first | exact ⟨hy, rfl⟩ | exact ⟨Ext.refl _, rfl⟩ | exact ⟨Ext.refl _, by assumption⟩ | exact ⟨(Ext.refl _).alloc _, rfl, by simp, Blk.new _ _ _⟩
        case hB => kernel_rfl
        case fin =>
          intro V lo up w' hr hf ha
          simp only [factsOk, isv, List.map_nil, and_true, Nat.zero_add, Nat.reduceAdd] at hf
          simp only [List.length_cons, List.length_nil, Nat.zero_add, Nat.reduceAdd, List.drop_succ_cons, List.drop_zero]
          obtain ⟨⟨-, -, -, e0⟩, ⟨-, -, -, e1⟩, ⟨-, -, -, e2⟩, ⟨-, -, -, e3⟩, ⟨-, -, -, e4⟩, ⟨-, -, -, e5⟩, ⟨-, -, -, e6⟩, ⟨-, -, -, e7⟩, ⟨-, -, -, e8⟩, ⟨-, -, -, e9⟩, ⟨-, -, -, e10⟩, ⟨-, -, -, e11⟩, ⟨-, -, -, e12⟩, ⟨-, -, -, e13⟩, ⟨-, -, -, e14⟩, ⟨-, -, -, e15⟩, ⟨-, -, -, e16⟩, ⟨-, -, -, e17⟩, ⟨-, -, -, e18⟩, ⟨-, -, -, e19⟩, ⟨-, -, -, e20⟩⟩ := hf
          rw [e0, e1, e2, e3, e4, e5, e6, e7, e8, e9, e10, e11, e12, e13, e14, e15, e16, e17, e18, e19, e20]
          clear e0 e1 e2 e3 e4 e5 e6 e7 e8 e9 e10 e11 e12 e13 e14 e15 e16 e17 e18 e19 e20
          clear ha V lo up
          have hs0 := hx.size
          replace hx := hx.trans hr
          have tkB := kB.lt
          replace kB := kB.keep hr
          clear hr
          try clear hc hz
          obtain ⟨hc, hz⟩ := hx.cells
          obtain ⟨y0, y1⟩ := kB.two
          go_wp2
          exact bodyPost_ret (v := _) (res2 rfl rfl rfl) rfl ⟨_, rfl, hx⟩
      · obtain rfl : b = true := by rw [← hb9, g1]
        have DF : Kept (∀ w', Ext w w' → Calls Try.prog 25 #[.agg #[.int .i64 r0, .int .i64 c0, u0], .agg #[.int .i64 r1, .int .i64 c1, u1]] w' fun e w'' => e = .returned (.bool true) ∧ Ext w' w'') := ⟨fun w' hx => impl_denseFits _ _ _ _ _ _ x0 x1 true g1 w' (i0.keep hx) (i1.keep hx)⟩
        clear hb hb9 hn g1 i0 i1
        have kB := Blk.new w #[.int .i64 1, .slice (some ⟨bb, 0, none⟩) 2 cap] 42
        have hx := (Ext.refl w).alloc (.cells #[.int .i64 1, .slice (some ⟨bb, 0, none⟩) 2 cap] 42)
        go_enter Try.func46, Try.ntmps46
        obtain ⟨y0, y1⟩ := kB.two
        go_wp2_with (fail)
        clear y0 y1
        apply wp_region_zip [isv _, isv _, isv _, isv _, isv _, isv _, isv _, isv _, isv _, isv _, isv _, isv _, isv _, isv _, isv _, isv _, isv _, isv _, isv _, isv _, isv _] _ (by kernel_rfl)
        case hA => intro V; simp [putAll, dstOf, Act.put]; exact rfl
        case hsl => intro V; exact rfl
        case step =>
          intro V lo up w' hr
          have hxr := hx.trans hr
          obtain ⟨hcr, hzr⟩ := hxr.cells
          have kB := kB.keep hr
          obtain ⟨y0, y1⟩ := kB.two
          have p0 := (hxr.cells.1 bb _ lb).trans q0
          have p1 := (hxr.cells.1 bb _ lb).trans q1
          have p2 := (hxr.cells.1 bb _ lb).trans q2
          have p3 := (hxr.cells.1 bb _ lb).trans q3
          have p4 := (hxr.cells.1 bb _ lb).trans q4
          have p5 := (hxr.cells.1 bb _ lb).trans q5
          simp only [zipOk, depsImp, isv, waits, Region.binds, List.map_nil, List.nil_append, List.filterMap_cons, List.filterMap_nil, ↓reduceIte, true_implies, List.getD_cons_zero, List.getD_cons_succ, and_true]
          refine ⟨?_, ?_, ?_, ?_, ?_, ?_, ?_, ?_, ?_, ?_, ?_, ?_, ?_, ?_, ?_, ?_, ?_, ?_, ?_, ?_, ?_⟩
          all_goals
            intros
            go_wp2_with (go_at_call 25; (with_reducible refine (DF.out _ hxr).mono ?_); rintro e w1 ⟨rfl, hy⟩)
            refine stepQ_mk rfl (by simp only [List.getElem?_toArray, List.getElem?_cons_succ, List.getElem?_cons_zero]; exact rfl) ?_
            first | exact ⟨hy, rfl⟩ | exact ⟨Ext.refl _, rfl⟩ | exact ⟨Ext.refl _, by assumption⟩ | exact ⟨(Ext.refl _).alloc _, rfl, by simp, Blk.new _ _ _⟩
        case hB => kernel_rfl
        case fin =>
          intro V lo up w' hr hf ha
          simp only [factsOk, isv, List.map_nil, and_true, Nat.zero_add, Nat.reduceAdd] at hf
          simp only [List.length_cons, List.length_nil, Nat.zero_add, Nat.reduceAdd, List.drop_succ_cons, List.drop_zero]
          obtain ⟨⟨-, -, -, e0⟩, ⟨-, -, -, e1⟩, ⟨-, -, -, e2⟩, ⟨-, -, -, e3⟩, ⟨-, -, -, e4⟩, ⟨-, -, -, e5⟩, ⟨-, -, -, e6⟩, ⟨-, -, -, e7⟩, ⟨-, -, -, e8⟩, ⟨-, -, -, e9⟩, ⟨-, -, -, e10⟩, ⟨-, -, -, e11⟩, ⟨-, -, -, e12⟩, ⟨-, -, -, e13⟩, ⟨-, -, -, e14⟩, ⟨-, -, -, e15⟩, ⟨-, -, -, e16⟩, ⟨-, -, -, e17⟩, ⟨-, -, -, e18⟩, ⟨-, -, -, e19⟩, ⟨-, -, -, e20⟩⟩ := hf
          rw [e0, e1, e2, e3, e4, e5, e6, e7, e8, e9, e10, e11, e12, e13, e14, e15, e16, e17, e18, e19, e20]
          clear e0 e1 e2 e3 e4 e5 e6 e7 e8 e9 e10 e11 e12 e13 e14 e15 e16 e17 e18 e19 e20
          clear ha V lo up
          have hs0 := hx.size
          replace hx := hx.trans hr
          have tkB := kB.lt
          replace kB := kB.keep hr
          clear hr
          try clear hc hz
          obtain ⟨hc, hz⟩ := hx.cells
          obtain ⟨y0, y1⟩ := kB.two
          have p0 := (hx.cells.1 bb _ lb).trans q0
          have p1 := (hx.cells.1 bb _ lb).trans q1
          have p2 := (hx.cells.1 bb _ lb).trans q2
          have p3 := (hx.cells.1 bb _ lb).trans q3
          have p4 := (hx.cells.1 bb _ lb).trans q4
          have p5 := (hx.cells.1 bb _ lb).trans q5
          go_wp2_with (fail)
          go_quiet (fail)
          go_wp2
          exact bodyPost_ret (v := _) (res2 rfl rfl rfl) rfl ⟨_, rfl, hx.drewN _⟩
    · obtain rfl : b = false := by rw [← hb9, show decide (ms.length = 2) = false from decide_eq_false (by omega)]; rfl
      have e1 : ((n : Int) == 2) = false := by simp; omega
      clear hb hb9 hn
      have kB := Blk.new w #[.int .i64 1, .slice a n cap] 42
      have hx := (Ext.refl w).alloc (.cells #[.int .i64 1, .slice a n cap] 42)
      go_enter Try.func46, Try.ntmps46
      obtain ⟨y0, y1⟩ := kB.two
      go_wp2_with (fail)
      go_quiet (fail)
      go_wp2
      exact bodyPost_ret (v := _) (res2 rfl rfl rfl) rfl ⟨_, rfl, hx.drewN _⟩
  · by_cases d2 : kd = 2
    · subst d2
      have hb9 := hb
      unfold layI at hb9
      rw [if_neg (by decide), if_pos rfl] at hb9
      by_cases d3 : n = 0
      · subst d3
        obtain rfl : b = true := by rw [← hb9, ← hn]; rfl
        clear hb hb9 hn
        have kB := Blk.new w #[.int .i64 2, .slice a 0 cap] 42
        have hx := (Ext.refl w).alloc (.cells #[.int .i64 2, .slice a 0 cap] 42)
        go_enter Try.func46, Try.ntmps46
        obtain ⟨y0, y1⟩ := kB.two
        go_wp2_with (fail)
        go_quiet (fail)
        go_wp2
        exact bodyPost_ret (v := _) (res2 rfl rfl rfl) rfl ⟨_, rfl, hx.drewN _⟩
      · obtain rfl : b = false := by rw [← hb9]; exact decide_eq_false (by omega)
        have e1 : ((n : Int) == 0) = false := by simp; omega
        clear hb hb9 hn
        have kB := Blk.new w #[.int .i64 2, .slice a n cap] 42
        have hx := (Ext.refl w).alloc (.cells #[.int .i64 2, .slice a n cap] 42)
        go_enter Try.func46, Try.ntmps46
        obtain ⟨y0, y1⟩ := kB.two
        go_wp2_with (fail)
        go_quiet (fail)
        go_wp2
        exact bodyPost_ret (v := _) (res2 rfl rfl rfl) rfl ⟨_, rfl, hx.drewN _⟩
    · by_cases d3 : kd = 3
      · subst d3
        have hb9 := hb
        unfold layI at hb9
        rw [if_neg (by decide), if_neg (by decide), if_pos rfl] at hb9
        by_cases d4 : n = 3
        · subst d4
          rw [show decide (ms.length = 3) = true from decide_eq_true (by omega), Bool.true_and] at hb9
          cases g1 : mixB ms
          · obtain rfl : b = false := by rw [← hb9, g1]
            have MF := Kept.mk (fun w' (hx : Ext w w') => impl_mixFits B (.slice a 3 cap) ms false g1 w' (H.out.keep hx))
            clear hb hb9 hn g1
            have kB := Blk.new w #[.int .i64 3, .slice a 3 cap] 42
            have hx := (Ext.refl w).alloc (.cells #[.int .i64 3, .slice a 3 cap] 42)
            go_enter Try.func46, Try.ntmps46
            obtain ⟨y0, y1⟩ := kB.two
            go_wp2_with (fail)
            go_quiet (fail)
            clear y0 y1
            replace kB := Kept.mk (kB.keep ((Ext.refl _).drewN nq))
            have X := Kept.mk (hx.drewN nq)
            clear hx
            obtain ⟨y0, y1⟩ := kB.out.two
            go_wp2_with (fail)
            (with_reducible refine (MF.out _ X.out).mono ?_)
            rintro e u9 ⟨rfl, x9⟩
            replace X := Kept.mk (X.out.trans x9)
            replace kB := Kept.mk (kB.out.keep x9)
            clear x9 y0 y1
            obtain ⟨y0, y1⟩ := kB.out.two
            go_wp2
            exact bodyPost_ret (v := _) (res2 rfl rfl rfl) rfl ⟨_, rfl, X.out⟩
          · obtain rfl : b = true := by rw [← hb9, g1]
            have MF := Kept.mk (fun w' (hx : Ext w w') => impl_mixFits B (.slice a 3 cap) ms true g1 w' (H.out.keep hx))
            clear hb hb9 hn g1
            have kB := Blk.new w #[.int .i64 3, .slice a 3 cap] 42
            have hx := (Ext.refl w).alloc (.cells #[.int .i64 3, .slice a 3 cap] 42)
            go_enter Try.func46, Try.ntmps46
            obtain ⟨y0, y1⟩ := kB.two
            go_wp2_with (fail)
            go_quiet (fail)
            clear y0 y1
            replace kB := Kept.mk (kB.keep ((Ext.refl _).drewN nq))
            have X := Kept.mk (hx.drewN nq)
            clear hx
            obtain ⟨y0, y1⟩ := kB.out.two
            go_wp2_with (fail)
            (with_reducible refine (MF.out _ X.out).mono ?_)
            rintro e u9 ⟨rfl, x9⟩
            replace X := Kept.mk (X.out.trans x9)
            replace kB := Kept.mk (kB.out.keep x9)
            clear x9 y0 y1
            obtain ⟨y0, y1⟩ := kB.out.two
            go_wp2
            exact bodyPost_ret (v := _) (res2 rfl rfl rfl) rfl ⟨_, rfl, X.out⟩
        · obtain rfl : b = false := by rw [← hb9, show decide (ms.length = 3) = false from decide_eq_false (by omega)]; rfl
          have e1 : ((n : Int) == 3) = false := by simp; omega
          clear hb hb9 hn
          have kB := Blk.new w #[.int .i64 3, .slice a n cap] 42
          have hx := (Ext.refl w).alloc (.cells #[.int .i64 3, .slice a n cap] 42)
          go_enter Try.func46, Try.ntmps46
          obtain ⟨y0, y1⟩ := kB.two
          go_wp2_with (fail)
          go_quiet (fail)
          go_wp2
          exact bodyPost_ret (v := _) (res2 rfl rfl rfl) rfl ⟨_, rfl, hx.drewN _⟩
      · have hb9 := hb
        unfold layI at hb9
        rw [if_neg d1, if_neg d2, if_neg d3] at hb9
        subst hb9
        have e1 : (kd == 1) = false := by simpa using d1
        have e2 : (kd == 2) = false := by simpa using d2
        have e3 : (kd == 3) = false := by simpa using d3
        clear hb hn
        have kB := Blk.new w #[.int .i64 kd, .slice a n cap] 42
        have hx := (Ext.refl w).alloc (.cells #[.int .i64 kd, .slice a n cap] 42)
        go_enter Try.func46, Try.ntmps46
        obtain ⟨y0, y1⟩ := kB.two
        go_wp2_with (fail)
        go_quiet (fail)
        go_wp2
        exact bodyPost_ret (v := _) (res2 rfl rfl rfl) rfl ⟨_, rfl, hx.drewN _⟩
set_option maxHeartbeats 1000000 in
theorem impl_LayerValid (B : Nat) (kd : Int) (v : Value) (ms : List Mat) (b : Bool) (hb : layOk kd ms = b) (w : World) (h : Mats B 0 w v ms) : Calls Try.prog 17 #[.agg #[.int .i64 kd, v]] w fun e w' => e = .returned (.bool b) ∧ Ext w w' := by
  obtain ⟨a, n, cap, rfl, hn, h⟩ := h.lit
  have hx := (Ext.refl w).alloc (.cells #[.int .i64 kd, .slice a n cap] 42)
  have kB := Blk.new w #[.int .i64 kd, .slice a n cap] 42
  have LO := Kept.mk (impl_layerOf B kd _ ms b (by rw [layI_eq]; exact hb) _ (h.keep hx))
  clear h hb hn
  go_enter Try.func17, Try.ntmps17
  obtain ⟨y0, y1⟩ := kB.two
  go_wp2_with (fail)
  (with_reducible refine (LO.out).mono ?_)
  rintro e u9 ⟨x, rfl, x9⟩
  go_wp2
  go_ret
  exact ⟨rfl, hx.trans x9⟩
end Go.Proofs.Ytpbnbhiffnnliaa
