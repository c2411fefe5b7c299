/- Values and seeds that are drawn for a table; the law's own comparison of tables. -/
import Derived.Test.YtbkallacblkmpaaTabD
namespace Go.Proofs.Ytbkallacblkmpaa
set_option linter.unusedSimpArgs false
set_option linter.unusedVariables false
open Go.RowKit
theorem Mod.turned {g : Nat} {w wr w5 : World} {v : Value} {o : Obj} (m : Mod g w wr) (t : Turned v (wr.alloc o) w5) (hv : ∀ q, v.ownBlock = some q → w.heap.size ≤ q) : Mod g w w5 := by
  have m' := m.alloc o
  exact ⟨t.os.trans m'.os, t.tape.trans m'.tape, t.output.trans m'.output, Nat.le_trans m'.size t.size, fun k hk hne => (t.block k (Nat.lt_of_lt_of_le hk m'.size) (fun e => by have := hv k e; omega)).trans (m'.block k hk hne)⟩
theorem Rdr.turned {g P : Nat} {w w' : World} {v : Value} (h : Rdr g P w) (t : Turned v w w') (hv : ∀ q, v.ownBlock = some q → g < q) : Rdr g P w' := by
  obtain ⟨p, sl, h1, h2, h3⟩ := h
  exact ⟨p, sl, t.blk h1 (fun e => by have := hv g e; omega), h2.cells (fun b hb => t.block b (by have := h1.lt; omega) (fun e => by have := hv b e; omega)), h3⟩

set_option maxHeartbeats 4000000 in
set_option maxRecDepth 4000 in
theorem vals20 (g P : Nat) (HP : Room (P + 20)) (w : World) (hr : Rdr g P w) : Calls Try.prog 29 #[.pointer (some ⟨g, 0, none⟩)] w fun e w' => ∃ v, e = .returned v ∧ (∃ xs, IntsF w.heap.size w' v xs) ∧ Rdr g (P + 20) w' ∧ Mod g w w' := by
  have hlt := hr.lt
  go_enter Try.func29, Try.ntmps29
  go_wp2_with (fail)
  (with_reducible refine (pick g _ _ (HP.le (by omega)) _ hr).mono ?_)
  rintro e w1 ⟨v, rfl, ⟨x1, rfl, h1, z1⟩, hr1, hm1⟩
  have l1 := h1 (by omega)
  clear h1 z1
  by_cases e1 : x1 = 0
  · subst e1
    go_wp2_with (fail)
    (with_reducible refine (pick g _ _ (HP.le (by omega)) _ hr1).mono ?_)
    rintro e w2 ⟨v, rfl, ⟨x2, rfl, h2, z2⟩, hr2, hm2⟩
    have l2 := h2 (by omega)
    clear h2 z2
    have W1 : wrap64 (1 + (x2 : Int)) = 1 + (x2 : Int) := by unfold wrap64; omega
    go_wp2_with (fail)
    (with_reducible refine (spec_FunctionValues (1 + (x2 : Int)) _).mono ?_)
    rintro e w3 ⟨vv, rfl, ov, x3⟩
    have b3 : w.heap.size ≤ w2.heap.size := (hm1.trans hm2).size
    go_wp2
    go_ret
    exact ⟨_, rfl, ⟨_, (ov.mono b3).intsF⟩, (hr2.keep x3).mono (by omega) HP, (hm1.trans hm2).trans (Mod.of_ext x3)⟩
  · have e1' : ((x1 : Int) == 0) = false := by simp; omega
    clear e1
    go_wp2_with (fail)
    (with_reducible refine (pick g _ _ (HP.le (by omega)) _ (hr1.keep ((Ext.refl w1).alloc _))).mono ?_)
    rintro e w2 ⟨v, rfl, ⟨x2, rfl, h2, z2⟩, hr2, hm2⟩
    clear h2 z2
    have o2 := Own.modO (Own.empty (Nat.le_refl _) (Blk.new w1 #[] 3) (Nat.zero_le _) rfl) hm2 (by have := hr1.lt; simp [Value.ownBlock]; omega)
    replace hm2 := hm1.trans ((Mod.of_ext ((Ext.refl w1).alloc _)).trans hm2)
    have b1 := hm1.size
    have lg1 := hr1.lt
    clear hm1 hr1 hr
    go_wp2_with (fail)
    (with_reducible refine (pick g _ _ (HP.le (by omega)) _ hr2).mono ?_)
    rintro e w3 ⟨v, rfl, ⟨x3, rfl, h3, z3⟩, hr3, hm3⟩
    clear h3 z3
    replace o2 := Own.modO o2 hm3 (by simp [Value.ownBlock]; omega)
    replace hm3 := hm2.trans hm3
    clear hm2 hr2
    have M3s := Kept.mk b1
    have R3 := Kept.mk hr3
    have M3 := Kept.mk hm3
    have l13 : w1.heap.size ≤ w3.heap.size := by have := (o2.block w1.heap.size rfl).2; omega
    clear hr3 hm3
    go_wp2_with (fail)
    go_loopw [3, 6] (fun v i wr => ∃ (j : Nat) (xs : List Int), j ≤ 4096 ∧ i = .int .i64 j ∧ xs.length = j ∧ Own w1.heap.size wr v xs ∧ Mod g w wr ∧ Rdr g (P + 4) wr ∧ w1.heap.size ≤ wr.heap.size) (fun _ i _ => 4096 - (intOf i).toNat)
    case atStart => exact ⟨0, [], by omega, rfl, rfl, o2, M3.out, R3.out.mono (by omega) (HP.le (by omega)), l13⟩
    case round =>
      obtain ⟨j, xs, hj, rfl, hlen, ho, hm, hr, hB⟩ := hrel
      have neg : ∀ q, Value.ownBlock u3 = some q → q ≠ g := fun q e h => by have := (ho.block q e).1; omega
      by_cases hlt' : (j : Int) < 4096
      · have HO := Kept.mk ho
        have HM := Kept.mk hm
        have HR := Kept.mk hr
        have HL := Kept.mk hlen
        have HN := Kept.mk neg
        have HJ := Kept.mk hj
        clear ho hm hr hlen neg o2
        go_wp2_with (first | (go_at_call 40; (with_reducible refine (spec_l1Ring _ _).mono ?_); rintro e w1 ⟨rfl, rfl⟩) | (at_builtin; refine wpList_append_one rfl _ _ rfl w1.heap.size _ xs rfl (HO.out.keep ((Ext.refl wr).alloc _)) wr.heap.size _ rfl (Blk.new _ _ _) (by rw [HL.out]; omega) (by simp; omega) ?_; intro v' w5 hown5 htu; have O5 := Kept.mk hown5; have T5 := Kept.mk htu; clear hown5 htu))
        go_wp2
        go_roundw
        case rel =>
          have sz := T5.out.size
          have hb := HO.out.block
          have ms := M3s.out
          refine ⟨j + 1, _, by omega, by go_num, ?_, O5.out, HM.out.turned T5.out (fun q e => by have := (hb q e).1; omega), (HR.out.keep ((Ext.refl wr).alloc _)).turned T5.out (fun q e => by have := (hb q e).1; omega), by simp at sz; omega⟩
          rw [List.length_append, HL.out]; rfl
        case measure => simp [intOf]; omega

      · have e : j = 4096 := by omega
        subst e
        obtain ⟨gO, cO, hv, bO, lO, -⟩ := ho.form (by omega)
        subst hv
        rw [hlen] at ho ⊢
        clear o2 neg hlt' hj
        have HL := Kept.mk hlen
        clear hlen
        go_wp2_with (fail)
        (with_reducible refine (odd g _ _ ⟨by omega, by omega⟩ (HP.le (by omega)) _ (hr)).mono ?_)
        rintro e w4 ⟨v, rfl, ⟨b4, rfl⟩, hr4, hm4⟩
        replace ho := ho.modO hm4 (by simp [Value.ownBlock]; omega)
        replace hm4 := hm.trans hm4
        clear hm hr
        cases b4
        · go_wp2_with (fail)
          (with_reducible refine (odd g _ _ ⟨by omega, by omega⟩ (HP.le (by omega)) _ (hr4)).mono ?_)
          rintro e w5 ⟨v, rfl, ⟨b5, rfl⟩, hr5, hm5⟩
          replace ho := Own.modO ho hm5 (by simp [Value.ownBlock]; omega)
          replace hm5 := Mod.trans (hm4) hm5
          cases b5
          · have HO := Kept.mk ho
            clear ho
            go_wp2
            go_ret
            exact ⟨_, rfl, ⟨_, (HO.out.mono b1).intsF⟩, Rdr.mono hr5 (by omega) HP, hm5⟩
          · have HO := Kept.mk ho
            clear ho
            have rm := HO.out.intsF.room _ _ _ rfl
            have nc : ¬ cO = 1 := by omega
            clear rm
            go_wp2
            go_ret
            exact ⟨_, rfl, ⟨_, (HO.out.mono b1).tail HL.out (by omega) _ (by have := HO.out.intsF.room _ _ _ rfl; omega)⟩, Rdr.mono hr5 (by omega) HP, hm5⟩
        · go_wp2_with (fail)
          (with_reducible refine (pick g _ _ (HP.le (by omega)) _ hr4).mono ?_)
          rintro e w5 ⟨v, rfl, ⟨x5, rfl, h5, z5⟩, hr5, hm5⟩
          have l5 := h5 (by omega)
          clear h5 z5
          replace ho := ho.modO hm5 (by simp [Value.ownBlock]; omega)
          replace hm5 := hm4.trans hm5
          clear hm4
          have CC := ho.cell HL.out x5 (by omega)
          obtain ⟨c1, c2⟩ := CC
          have l5' : (x5 : Int) < 4096 := by omega
          have ST := Kept.mk (ho.store HL.out x5 (-1)).1
          have RS := Kept.mk (hr5.set (show g < gO by omega) x5 (.int .i64 (-1)))
          have MS := Kept.mk (hm5.setNew (show w.heap.size ≤ gO by omega) x5 (.int .i64 (-1)))
          have LS : Kept ((xs.set x5 (-1)).length = 4096) := ⟨by rw [List.length_set]; exact HL.out⟩
          clear ho hr5 hm5 hr4 HL
          go_wp2_with (fail)
          clear c1 c2
          have ho := ST.out
          have HL := LS
          go_wp2_with (fail)
          (with_reducible refine (odd g _ _ ⟨by omega, by omega⟩ (HP.le (by omega)) _ (RS.out)).mono ?_)
          rintro e w6 ⟨v, rfl, ⟨b6, rfl⟩, hr6, hm6⟩
          replace ho := Own.modO ho hm6 (by simp [Value.ownBlock]; omega)
          replace hm6 := Mod.trans (MS.out) hm6
          cases b6
          · have HO := Kept.mk ho
            clear ho
            go_wp2
            go_ret
            exact ⟨_, rfl, ⟨_, (HO.out.mono b1).intsF⟩, Rdr.mono hr6 (by omega) HP, hm6⟩
          · have HO := Kept.mk ho
            clear ho
            have rm := HO.out.intsF.room _ _ _ rfl
            have nc : ¬ cO = 1 := by omega
            clear rm
            go_wp2
            go_ret
            exact ⟨_, rfl, ⟨_, (HO.out.mono b1).tail HL.out (by omega) _ (by have := HO.out.intsF.room _ _ _ rfl; omega)⟩, Rdr.mono hr6 (by omega) HP, hm6⟩
set_option maxHeartbeats 1000000 in
theorem spec_DrawMakeTable (v : Value) (w : World) (hb : Bytes w v) : Calls Try.prog 8 #[v] w fun e w' => ∃ (u : Value) (xs : List Int) (s : Int), e = .returned (.tuple #[u, .int .i64 s]) ∧ IntsF 0 w' u xs ∧ Ext w w' := by
  go_enter Try.func8, Try.ntmps8
  go_wp2_with (fail)
  (with_reducible refine (open' _ _ hb).mono ?_)
  rintro e w1 ⟨g, rfl, hg, hr1, hx1⟩
  have HP : Room 100 := ⟨by omega⟩
  have lt1 := hr1.lt
  go_wp2_with (fail)
  (with_reducible refine (vals20 g _ (HP.le (by omega)) _ hr1).mono ?_)
  rintro e w2 ⟨v, rfl, ⟨xs, i2⟩, hr2, hm2⟩
  go_wp2_with (fail)
  (with_reducible refine (seed20 g _ 9 ⟨by omega, by omega⟩ (HP.le (by omega)) _ hr2).mono ?_)
  rintro e w3 ⟨v, rfl, ⟨s, rfl, -⟩, hr3, hm3⟩
  go_wp2
  go_ret2
  exact ⟨_, xs, s, rfl, (i2.mod hm3 lt1).mono (Nat.zero_le _), Mod.ext hx1 (hm2.trans hm3) hg⟩
set_option maxHeartbeats 1000000 in
theorem laws_sameTable (a b : Int) (v1 v2 u1 u2 : Value) (xs ys : List Int) (w : World) (h1 : Ints w v1 xs) (h2 : Ints w v2 ys) (g1 : Ints w u1 xs) (g2 : Ints w u2 ys) : Calls Try.prog 11 #[.agg #[.int .i64 a, .int .i64 b, v1, v2], .agg #[.int .i64 a, .int .i64 b, u1, u2]] w fun e w' => e = .returned (.bool true) ∧ Ext w w' := by
  obtain ⟨s1, s3, rfl, -, -⟩ := id h1
  obtain ⟨s2, s4, rfl, -, -⟩ := id h2
  obtain ⟨q1, q3, rfl, -, -⟩ := id g1
  obtain ⟨q2, q4, rfl, -, -⟩ := id g2
  have kA := (Blk.new w #[.int .i64 a, .int .i64 b, .slice s1 xs.length s3, .slice s2 ys.length s4] 29).old (.cells #[.int .i64 a, .int .i64 b, .slice q1 xs.length q3, .slice q2 ys.length q4] 29)
  have kB := Blk.new (w.alloc (.cells #[.int .i64 a, .int .i64 b, .slice s1 xs.length s3, .slice s2 ys.length s4] 29)) #[.int .i64 a, .int .i64 b, .slice q1 xs.length q3, .slice q2 ys.length q4] 29
  simp only [World.size_alloc] at kB
  have hx := ((Ext.refl w).alloc (.cells #[.int .i64 a, .int .i64 b, .slice s1 xs.length s3, .slice s2 ys.length s4] 29)).alloc (.cells #[.int .i64 a, .int .i64 b, .slice q1 xs.length q3, .slice q2 ys.length q4] 29)
  have I1 := Kept.mk h1
  have I2 := Kept.mk h2
  have J1 := Kept.mk g1
  have J2 := Kept.mk g2
  clear h1 h2 g1 g2
  go_enter Try.func11, Try.ntmps11
  obtain ⟨a0, a1, a2, a3⟩ := kA.four
  obtain ⟨b0, b1, b2, b3⟩ := kB.four
  go_wp2_with (fail)
  (with_reducible refine (laws_sameInts _ _ xs _ (I1.out.keep hx) (J1.out.keep hx)).mono ?_)
  rintro e w1 ⟨rfl, x1⟩
  replace kA := kA.keep x1
  replace kB := kB.keep x1
  replace hx := hx.trans x1
  clear x1 a0 a1 a2 a3 b0 b1 b2 b3
  obtain ⟨a0, a1, a2, a3⟩ := kA.four
  obtain ⟨b0, b1, b2, b3⟩ := kB.four
  go_wp2_with (fail)
  (with_reducible refine (laws_sameInts _ _ ys _ (I2.out.keep hx) (J2.out.keep hx)).mono ?_)
  rintro e w2 ⟨rfl, x2⟩
  go_wp2
  go_ret
  exact ⟨rfl, hx.trans x2⟩
end Go.Proofs.Ytbkallacblkmpaa
