/- Sums of rows: the contract of the program. -/
import Derived.Test.YtjoomdihjffmlaaPairT
import Derived.Test.YtjoomdihjffmlaaRow
namespace Go.Proofs.Ytjoomdihjffmlaa
set_option linter.unusedSimpArgs false
set_option linter.unusedVariables false
open Go.RowKit
/-- The sum of a row's first k values. -/
def rsTo (xs : List Int) (C i k : Nat) : Int := ring (sumTo (fun k => xs.getD (i * C + k) 0) k)
def rowSums (r c : Int) (xs : List Int) : Mat := if mOk r c xs = true then ⟨r, 1, mapTo (fun i => rsTo xs c.toNat i c.toNat) r.toNat⟩ else matZ
theorem rowSums_bad {r c : Int} {xs : List Int} (h : mOk r c xs = false) : rowSums r c xs = matZ := by unfold rowSums; rw [h]; rfl
theorem rowSums_ok {R C : Nat} {xs : List Int} (h : mOk R C xs = true) : rowSums R C xs = ⟨R, 1, mapTo (fun i => rsTo xs C i C) R⟩ := by unfold rowSums; rw [h]; rfl
theorem rs_step {xs : List Int} {C i k : Nat} (h : rv (xs.getD (i * C + k) 0) = true) : addR (rsTo xs C i k) (xs.getD (i * C + k) 0) = rsTo xs C i (k + 1) := by
  unfold rsTo
  rw [addR_ring (rv_ring _) h]
  simp only [sumTo]
  rw [ring_add_l]
/-- What the sums are while row i has been added up to its value k. -/
def rsAt (xs : List Int) (C i k p : Nat) : Int := if p < i then rsTo xs C p C else if p = i then rsTo xs C i k else 0
theorem mapTo_set (f : Nat → Int) (n i : Nat) (y : Int) (h : i < n) : (mapTo f n).set i y = mapTo (fun p => if p = i then y else f p) n := by
  apply list_ext'
  · rw [List.length_set, mapTo_len, mapTo_len]
  · intro p hp
    rw [List.length_set, mapTo_len] at hp
    rw [getD_set' _ _ _ _ (by rw [mapTo_len]; exact h), mapTo_get _ _ _ hp, mapTo_get _ _ _ hp]
theorem rs_set {xs : List Int} {C i k n : Nat} (h : i < n) : (mapTo (rsAt xs C i k) n).set i (rsTo xs C i (k + 1)) = mapTo (rsAt xs C i (k + 1)) n := by
  rw [mapTo_set _ _ _ _ h]
  apply mapTo_congr
  intro p _
  unfold rsAt
  by_cases e : p = i
  · subst e; simp
  · simp [e]
theorem rs_next {xs : List Int} {C i n : Nat} : mapTo (rsAt xs C i C) n = mapTo (rsAt xs C (i + 1) 0) n := by
  apply mapTo_congr
  intro p _
  unfold rsAt
  by_cases e : p < i
  · rw [if_pos e, if_pos (by omega)]
  · by_cases e2 : p = i
    · subst e2; rw [if_neg e, if_pos rfl, if_pos (by omega)]
    · rw [if_neg e, if_neg e2, if_neg (by omega)]
      by_cases e3 : p = i + 1
      · rw [if_pos e3]; rfl
      · rw [if_neg e3]
theorem rs_zero (xs : List Int) (C n : Nat) : zer n = mapTo (rsAt xs C 0 0) n := by
  apply list_ext'
  · rw [zer_len, mapTo_len]
  · intro i hi
    rw [zer_len] at hi
    rw [mapTo_get _ _ _ hi]
    unfold rsAt zer
    rw [if_neg (Nat.not_lt_zero _)]
    split <;> simp [hi, rsTo, sumTo, ring]
theorem rs_end (xs : List Int) (C n : Nat) : mapTo (rsAt xs C n 0) n = mapTo (fun i => rsTo xs C i C) n := by
  apply mapTo_congr
  intro p hp
  unfold rsAt
  rw [if_pos hp]
theorem rs_cell {xs : List Int} {C i k n : Nat} (h : i < n) : (mapTo (rsAt xs C i k) n).getD i 0 = rsTo xs C i k := by
  rw [mapTo_get _ _ _ h]; unfold rsAt; rw [if_neg (Nat.lt_irrefl _), if_pos rfl]

set_option maxHeartbeats 4000000 in
set_option maxRecDepth 2000 in
theorem impl_RowSums (r c : Int) (v : Value) (xs : List Int) (w : World) (h1 : Ints w v xs) (hf : Fit v) : Calls Try.prog 11 #[.agg #[.int .i64 r, .int .i64 c, v]] w (MatPost (rowSums r c xs) w) := by
  unfold MatPost
  have hroom := hf.room
  cases g1 : mOk r c xs
  · rw [rowSums_bad g1]
    clear hroom
    obtain ⟨s1, n1, rfl, hm1, hc1⟩ := id h1
    clear hm1 hc1
    have HV := Kept.mk h1
    clear h1
    have MA : Kept (∀ w', Ext w w' → Calls Try.prog 27 #[.agg #[.int .i64 r, .int .i64 c, .slice s1 xs.length n1]] w' fun e w'' => e = .returned (.bool false) ∧ Ext w' w'') := ⟨fun w' hx => g1 ▸ impl_MatrixValid _ _ _ xs w' (HV.out.keep hx)⟩
    clear g1
    have X := Kept.mk (((Ext.refl w).alloc (.cells #[.int .i64 r, .int .i64 c, .slice s1 xs.length n1] 25)).alloc (.cells #[.int .i64 0, .int .i64 0, .slice none 0 0] 25))
    have kA := (Blk.new w #[.int .i64 r, .int .i64 c, .slice s1 xs.length n1] 25).old (.cells #[.int .i64 0, .int .i64 0, .slice none 0 0] 25)
    have kR := Blk.new (w.alloc (.cells #[.int .i64 r, .int .i64 c, .slice s1 xs.length n1] 25)) #[.int .i64 0, .int .i64 0, .slice none 0 0] 25
    simp only [World.size_alloc] at kR
    go_enter Try.func11, Try.ntmps11
    obtain ⟨akA0, akA1, akA2⟩ := kA.three
    go_wp2_with (fail)
    clear akA0 akA1 akA2
    (with_reducible refine (MA.out _ X.out).mono ?_)
    rintro e u1 ⟨rfl, x9⟩
    replace X := Kept.mk (X.out.trans x9)
    replace kA := kA.keep x9
    replace kR := kR.keep x9
    clear x9
    clear kA
    have RK := Kept.mk kR
    obtain ⟨r0, r1, r2⟩ := kR.three
    have rf := kR.free
    clear kR
    go_wp2
    exact bodyPost_ret (v := .agg #[.int .i64 0, .int .i64 0, .slice none 0 0]) (by simp [results, Try.results11, go_sem, *]) rfl ⟨_, rfl, Own.nil _ _, by first | exact X.out.other3 (by show w.heap.size ≤ w.heap.size + 1; omega) _ _ _ | exact X.out⟩
  · obtain ⟨s1, n1, rfl, hm1, hc1⟩ := id h1
    clear hm1 hc1
    have HV := Kept.mk h1
    clear h1
    have hcap : xs.length ≤ n1 := hroom _ _ _ rfl
    clear hroom
    obtain ⟨R, C, rfl, rfl, R1, R5, C1, C5, hL, L25, hrv⟩ := mOk_nat g1
    rw [rowSums_ok g1]
    have RV := Kept.mk hrv
    clear hrv
    have MA : Kept (∀ w', Ext w w' → Calls Try.prog 27 #[.agg #[.int .i64 (R : Int), .int .i64 (C : Int), .slice s1 xs.length n1]] w' fun e w'' => e = .returned (.bool true) ∧ Ext w' w'') := ⟨fun w' hx => g1 ▸ impl_MatrixValid _ _ _ xs w' (HV.out.keep hx)⟩
    have EM : Kept (∀ w, Calls Try.prog 44 #[.int .i64 R, .int .i64 1] w (ZeroPost R 1 w)) := ⟨fun w => impl_emptyMatrix R 1 R5 (by decide) w⟩
    unfold ZeroPost at EM
    simp only [Nat.mul_one] at EM
    obtain ⟨LA, hLA⟩ : ∃ LA, LA = R * C := ⟨_, rfl⟩
    rw [← hLA] at hL L25
    rw [hL] at HV MA ⊢
    have RO : Kept (∀ i w', i < R → Ext w w' → LA ≤ n1 → Calls Try.prog 45 #[.agg #[.int .i64 R, .int .i64 C, .slice s1 LA n1], .int .i64 i] w' fun e w'' => ∃ ad cap, e = .returned (.slice ad C cap) ∧ (∀ w0, Ints w0 (.slice s1 LA n1) xs → Ints w0 (.slice ad C cap) (rowL xs C i)) ∧ Ext w' w'') := ⟨fun i w' hi hx hc => impl_rowOf R C i LA s1 n1 xs w' (HV.out.keep hx) hL hLA R1 C1 hi hc L25⟩
    have RS : Kept (∀ i k, i < R → k < C → addR (rsTo xs C i k) (xs.getD (i * C + k) 0) = rsTo xs C i (k + 1)) := ⟨fun i k hi hk => rs_step (RV.out _ (by rw [hL, hLA]; exact place_lt hi hk))⟩
    have AD : Kept (∀ x y w, Calls Try.prog 42 #[.int .i64 x, .int .i64 y] w fun e w' => e = .returned (.int .i64 (addR x y)) ∧ w = w') := ⟨fun x y w => impl_AddRing x y w⟩
    have HCAP := Kept.mk hcap
    rw [hL] at HCAP
    clear hL hLA L25 R1 C1 g1 hcap RV
    have X := Kept.mk (((Ext.refl w).alloc (.cells #[.int .i64 R, .int .i64 C, .slice s1 LA n1] 25)).alloc (.cells #[.int .i64 0, .int .i64 0, .slice none 0 0] 25))
    have kA := (Blk.new w #[.int .i64 R, .int .i64 C, .slice s1 LA n1] 25).old (.cells #[.int .i64 0, .int .i64 0, .slice none 0 0] 25)
    have kR := Blk.new (w.alloc (.cells #[.int .i64 R, .int .i64 C, .slice s1 LA n1] 25)) #[.int .i64 0, .int .i64 0, .slice none 0 0] 25
    simp only [World.size_alloc] at kR
    go_enter Try.func11, Try.ntmps11
    obtain ⟨akA0, akA1, akA2⟩ := kA.three
    go_wp2_with (fail)
    clear akA0 akA1 akA2
    (with_reducible refine (MA.out _ X.out).mono ?_)
    rintro e u1 ⟨rfl, x9⟩
    replace X := Kept.mk (X.out.trans x9)
    replace kA := kA.keep x9
    replace kR := kR.keep x9
    clear x9
    obtain ⟨akA0, akA1, akA2⟩ := kA.three
    go_wp2_with (fail)
    clear akA0 akA1 akA2
    (with_reducible refine (EM.out _).mono ?_)
    rintro e u2 ⟨g, rfl, oZ, x9⟩
    replace oZ := oZ.mono X.out.size
    replace X := Kept.mk (X.out.trans x9)
    replace kA := kA.keep x9
    replace kR := kR.keep x9
    clear x9
    have kM := Blk.new u2 #[.int .i64 R, .int .i64 1, .slice (some ⟨g, 0, none⟩) R R] 25
    replace kA := kA.old (.cells #[.int .i64 R, .int .i64 1, .slice (some ⟨g, 0, none⟩) R R] 25)
    replace kR := kR.old (.cells #[.int .i64 R, .int .i64 1, .slice (some ⟨g, 0, none⟩) R R] 25)
    replace oZ := oZ.keep ((Ext.refl u2).alloc (.cells #[.int .i64 R, .int .i64 1, .slice (some ⟨g, 0, none⟩) R R] 25))
    replace X := Kept.mk (X.out.alloc (.cells #[.int .i64 R, .int .i64 1, .slice (some ⟨g, 0, none⟩) R R] 25))
    obtain ⟨akA0, akA1, akA2⟩ := kA.three
    go_wp2_with (fail)
    clear akA0 akA1 akA2
    have lM := X.out.size
    generalize hgM : u2.heap.size = gM at *
    clear MA EM lM hgM
    go_loopw [16] (fun i wr => ∃ j : Nat, j ≤ R ∧ i = .int .i64 j ∧ Own w.heap.size wr (.slice (some ⟨g, 0, none⟩) R R) (mapTo (rsAt xs C j 0) R) ∧ Blk wr (gM) #[.int .i64 R, .int .i64 1, .slice (some ⟨g, 0, none⟩) R R] 25 ∧ Blk wr (w.heap.size) #[.int .i64 R, .int .i64 C, .slice s1 LA n1] 25 ∧ Blk wr (w.heap.size + 1) #[.int .i64 0, .int .i64 0, .slice none 0 0] 25 ∧ Ext w wr) (fun i _ => R - (intOf i).toNat)
    case atStart => exact ⟨0, Nat.zero_le _, rfl, by rw [← rs_zero]; exact oZ, kM, kA, kR, X.out⟩
    case round =>
      clear X kM kA kR oZ
      obtain ⟨i0, hi0, rfl, ho, kM, kA, kR, hx⟩ := hrel
      by_cases hlt : i0 < R
      · have X := Kept.mk hx
        clear hx
        have hltZ : (i0 : Int) < (R : Int) := by omega
        have HO := Kept.mk ho
        clear ho
        obtain ⟨a0, a1, a2⟩ := kA.three
        go_wp2_with (fail)
        clear a0 a1 a2
        (with_reducible refine (RO.out i0 _ hlt X.out HCAP.out).mono ?_)
        rintro e w1 ⟨ad, cap, rfl, rI, x9⟩
        have RI := Kept.mk (rI w HV.out)
        clear rI
        replace X := Kept.mk (X.out.trans x9)
        replace kM := kM.keep x9
        replace kA := kA.keep x9
        replace kR := kR.keep x9
        replace HO := Kept.mk (HO.out.keep x9)
        clear x9
        go_wp2_with (fail)
        go_loopw [6, 23] (fun _ i wr => ∃ j : Nat, j ≤ C ∧ i = .int .i64 j ∧ Own w.heap.size wr (.slice (some ⟨g, 0, none⟩) R R) (mapTo (rsAt xs C i0 j) R) ∧ Blk wr (gM) #[.int .i64 R, .int .i64 1, .slice (some ⟨g, 0, none⟩) R R] 25 ∧ Blk wr (w.heap.size) #[.int .i64 R, .int .i64 C, .slice s1 LA n1] 25 ∧ Blk wr (w.heap.size + 1) #[.int .i64 0, .int .i64 0, .slice none 0 0] 25 ∧ Ext w wr) (fun _ i _ => C - (intOf i).toNat)
        case atStart => exact ⟨0, Nat.zero_le _, rfl, HO.out, kM, kA, kR, X.out⟩
        case round =>
          clear X kM kA kR HO
          obtain ⟨k, hk, rfl, ho, kM, kA, kR, hx⟩ := hrel
          by_cases hlk : k < C
          · have X := Kept.mk hx
            clear hx
            have hlkZ : (k : Int) < (C : Int) := by omega
            have neM := Kept.mk (ho.ne kM (by decide))
            have neA := Kept.mk (ho.ne kA (by decide))
            have neR := Kept.mk (ho.ne kR (by decide))
            obtain ⟨b, off, es, lb, cb⟩ := at_len (RI.out.keep X.out) (rowL_len _ _ _) hlk
            subst es
            rw [rowL_get _ _ _ _ hlk] at cb
            have HR := Kept.mk (RS.out i0 k hlt hlk)
            generalize xs.getD (i0 * C + k) 0 = p at cb HR
            have HC := ho.cell (mapTo_len _ _) i0 hlt
            rw [rs_cell hlt] at HC
            obtain ⟨hc1, hc2⟩ := HC
            have HO := Kept.mk ho
            clear ho
            go_wp2_with (fail)
            apply wp_region_zip [isv _, isv _, isv _, isv _, isv _, isv _, isv _, isv _, isv _, isv _] _ (by kernel_rfl)
            case hA => intro V; simp [putAll, dstOf, Act.put]; exact rfl
            case hsl => intro V; exact rfl
            case step =>
              intro V lo up w' hr
              obtain ⟨hcr, hzr⟩ := hr.cells
              have hsr := hr.size
              obtain ⟨m0, m1, m2⟩ := (kM.keep hr).three
              have cs1 := (hr.cells.1 g i0 (HO.out.block g rfl).2).trans hc1
              simp only [zipOk, depsImp, isv, newb, waits, Region.binds, List.map_nil, List.map_cons, List.headD_cons, List.nil_append, List.cons_append, List.filterMap_cons, List.filterMap_nil, ↓reduceIte, modeNe, Bool.false_eq_true, true_implies, List.getD_cons_zero, List.getD_cons_succ, and_true]
              refine ⟨?_, ?_, ?_, ?_, ?_, ?_, ?_, ?_, ?_, ?_⟩
              · intros
                go_wp2
                refine stepQ_mk rfl (by simp only [List.getElem?_toArray, List.getElem?_cons_succ, List.getElem?_cons_zero]; exact rfl) ?_
                exact ⟨Ext.refl _, rfl⟩
              · intros
                go_wp2
                refine stepQ_mk rfl (by simp only [List.getElem?_toArray, List.getElem?_cons_succ, List.getElem?_cons_zero]; exact rfl) ?_
                exact ⟨Ext.refl _, rfl⟩
              · intros
                go_wp2
                refine stepQ_mk rfl (by simp only [List.getElem?_toArray, List.getElem?_cons_succ, List.getElem?_cons_zero]; exact rfl) ?_
                exact ⟨Ext.refl _, rfl⟩
              · intros
                go_wp2
                refine stepQ_mk rfl (by simp only [List.getElem?_toArray, List.getElem?_cons_succ, List.getElem?_cons_zero]; exact rfl) ?_
                exact ⟨Ext.refl _, rfl⟩
              · intros
                go_wp2
                refine stepQ_mk rfl (by simp only [List.getElem?_toArray, List.getElem?_cons_succ, List.getElem?_cons_zero]; exact rfl) ?_
                exact ⟨Ext.refl _, rfl⟩
              · intros
                go_wp2
                refine stepQ_mk rfl (by simp only [List.getElem?_toArray, List.getElem?_cons_succ, List.getElem?_cons_zero]; exact rfl) ?_
                exact ⟨Ext.refl _, rfl⟩
              · intros
                go_wp2
                refine stepQ_mk rfl (by simp only [List.getElem?_toArray, List.getElem?_cons_succ, List.getElem?_cons_zero]; exact rfl) ?_
                exact ⟨Ext.refl _, rfl⟩
              · intros
                go_wp2
                refine stepQ_mk rfl (by simp only [List.getElem?_toArray, List.getElem?_cons_succ, List.getElem?_cons_zero]; exact rfl) ?_
                exact ⟨Ext.refl _, rfl⟩
              · intros
                go_wp2
                refine stepQ_mk rfl (by simp only [List.getElem?_toArray, List.getElem?_cons_succ, List.getElem?_cons_zero]; exact rfl) ?_
                exact ⟨Ext.refl _, rfl⟩
              · intros
                go_wp2_with (go_at_call 42; (with_reducible refine (AD.out _ _ _).mono ?_); rintro e w1 ⟨rfl, rfl⟩)
                refine stepQ_mk rfl (by simp only [List.getElem?_toArray, List.getElem?_cons_succ, List.getElem?_cons_zero]; exact rfl) ?_
                first | exact ⟨Ext.refl _, rfl⟩ | exact ⟨hy, rfl⟩
            case hB => kernel_rfl
            case fin =>
              intro V lo up w' hr hf ha
              simp only [factsOk, isv, newb, List.map_nil, List.map_cons, List.headD_cons, and_true, Nat.zero_add, Nat.reduceAdd] at hf
              simp only [List.length_cons, List.length_nil, Nat.zero_add, Nat.reduceAdd, List.drop_succ_cons, List.drop_zero]
              obtain ⟨-, ⟨-, -, -, e1⟩, ⟨-, -, -, e2⟩, -, -, -, -, -, -, ⟨-, -, -, e9⟩⟩ := hf
              clear ha
              rw [e1, e2, e9]
              clear e1 e2 e9
              obtain ⟨hd1, hd2⟩ := (HO.out.keep hr).cell (mapTo_len _ _) i0 hlt
              have hst := Kept.mk ((HO.out.keep hr).store (mapTo_len _ _) i0 (addR (rsTo xs C i0 k) p))
              rw [HR.out, rs_set hlt] at hst
              rw [HR.out]
              go_wp2
              go_roundw
              case rel =>
                refine ⟨k + 1, by omega, by go_num, hst.out.1, ?_, ?_, ?_, ?_⟩
                · exact (kM.keep hr).setO (fun e => neM.out (by simp [Value.ownBlock, e])) _ _
                · exact (kA.keep hr).setO (fun e => neA.out (by simp [Value.ownBlock, e])) _ _
                · exact (kR.keep hr).setO (fun e => neR.out (by simp [Value.ownBlock, e])) _ _
                · exact (X.out.trans hr).setCell (HO.out.block g rfl).1 _
              case measure => simp [intOf]; omega

          · obtain rfl : k = C := by omega
            rw [rs_next] at ho
            have HO := Kept.mk ho
            have X := Kept.mk hx
            clear ho hx
            go_wp2
            go_roundw
            case rel => exact ⟨i0 + 1, by omega, by go_num, HO.out, kM, kA, kR, X.out⟩
            case measure => simp [intOf]; omega
      · obtain rfl : i0 = R := by omega
        rw [rs_end] at ho
        obtain ⟨m0, m1, m2⟩ := kM.three
        obtain ⟨r0, r1, r2⟩ := kR.three
        have rf := kR.free
        have NR := Kept.mk (ho.ne kR (by decide))
        have HO := Kept.mk ho
        have HX := Kept.mk hx
        clear ho hx kM kA kR HV RO
        go_wp2
        exact bodyPost_ret (v := .agg #[.int .i64 i0, .int .i64 1, .slice (some ⟨g, 0, none⟩) i0 i0]) (by simp [results, Try.results11, go_sem, *]) rfl ⟨_, rfl, HO.out.other3 NR.out _ _ _, HX.out.other3 (by show w.heap.size ≤ w.heap.size + 1; omega) _ _ _⟩
end Go.Proofs.Ytjoomdihjffmlaa
