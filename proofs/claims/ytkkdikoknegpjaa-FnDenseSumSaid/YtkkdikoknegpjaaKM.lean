/- Made triples of shared matrices: the program. -/
import Derived.Test.YtkkdikoknegpjaaKR
namespace Go.Proofs.Ytkkdikoknegpjaa
set_option linter.unusedSimpArgs false
set_option linter.unusedVariables false
open Go.RowKit

set_option maxHeartbeats 8000000 in
set_option maxRecDepth 4000 in
theorem impl_MakeTripleN (R K C : Nat) (hR : Side R) (hK : Side K) (hC : Side C) (s : Int) (hs : Seed s) (w : World) : Calls Try.prog 75 #[.int .i64 R, .int .i64 K, .int .i64 C, .int .i64 s] w (TrNPost (tripN R K C s) (sd5 R K C s) w) := by
  have SR := Kept.mk hR.ok
  have SK := Kept.mk hK.ok
  have SC := Kept.mk hC.ok
  have SD : Kept ((decide (1 ≤ s) && decide (s ≤ 2147483646)) = true) := ⟨hs.ok⟩
  unfold TrNPost
  unfold tripN tripA tripB tripC sd5
  simp only
  unfold sd4 sd3 sd2 sd1
  have Q0 := Kept.mk (fun w' => impl_RandomMatrix R K hR hK s hs w')
  unfold RmPost at Q0
  have L0 : Kept ((rlist s (R * K)).length ≤ 1048576) := ⟨by rw [rlist_len]; exact Nat.le_trans (side_mul' hR hK) (by decide)⟩
  replace hs := hs.strm (R * K)
  generalize strm s (R * K) = t1 at *
  generalize rlist s (R * K) = x0 at *
  have Q1 := Kept.mk (fun w' => impl_RandomMatrix R K hR hK t1 hs w')
  unfold RmPost at Q1
  have L1 : Kept ((rlist t1 (R * K)).length ≤ 1048576) := ⟨by rw [rlist_len]; exact Nat.le_trans (side_mul' hR hK) (by decide)⟩
  replace hs := hs.strm (R * K)
  generalize strm t1 (R * K) = t2 at *
  generalize rlist t1 (R * K) = x1 at *
  have Q2 := Kept.mk (fun w' => impl_RandomMatrix K C hK hC t2 hs w')
  unfold RmPost at Q2
  have L2 : Kept ((rlist t2 (K * C)).length ≤ 1048576) := ⟨by rw [rlist_len]; exact Nat.le_trans (side_mul' hK hC) (by decide)⟩
  replace hs := hs.strm (K * C)
  generalize strm t2 (K * C) = t3 at *
  generalize rlist t2 (K * C) = x2 at *
  have Q3 := Kept.mk (fun w' => impl_RandomMatrix K C hK hC t3 hs w')
  unfold RmPost at Q3
  have L3 : Kept ((rlist t3 (K * C)).length ≤ 1048576) := ⟨by rw [rlist_len]; exact Nat.le_trans (side_mul' hK hC) (by decide)⟩
  replace hs := hs.strm (K * C)
  generalize strm t3 (K * C) = t4 at *
  generalize rlist t3 (K * C) = x3 at *
  have Q4 := Kept.mk (fun w' => impl_RandomMatrix R C hR hC t4 hs w')
  unfold RmPost at Q4
  have L4 : Kept ((rlist t4 (R * C)).length ≤ 1048576) := ⟨by rw [rlist_len]; exact Nat.le_trans (side_mul' hR hC) (by decide)⟩
  replace hs := hs.strm (R * C)
  generalize strm t4 (R * C) = t5 at *
  generalize rlist t4 (R * C) = x4 at *
  have PP := Kept.mk (fun (v0 v1 v2 v3 v4 v5 : Value) (w' : World) (h0 : Ints w' v0 x0) (h1 : Ints w' v1 x1) (h2 : Ints w' v2 x2) (h3 : Ints w' v3 x3) (h4 : Ints w' v4 x4) (h5 : Ints w' v5 []) => impl_product R K R K K C K C R C 0 0 v0 v1 v2 v3 v4 v5 x0 x1 x2 x3 x4 [] w' h0 h1 h2 h3 h4 h5)
  unfold MatPost prodM at PP
  simp only at PP
  generalize mulM (joinM ⟨⟨R, K, x0⟩, ⟨R, K, x1⟩⟩) (joinM ⟨⟨K, C, x2⟩, ⟨K, C, x3⟩⟩) = DP at *
  obtain ⟨dr, dc, ds⟩ := DP
  simp only at PP
  have SB := Kept.mk (fun (v u : Value) (w' : World) (h1 : Ints w' v ds) (h2 : Ints w' u x4) => impl_SubMatrices dr dc R C v u ds x4 w' h1 h2)
  unfold MatPost at SB
  generalize subM ⟨dr, dc, ds⟩ ⟨R, C, x4⟩ = DE at *
  obtain ⟨er, ec, es⟩ := DE
  simp only at SB
  clear hs
  have X := Kept.mk (((Ext.refl w).alloc (.cells #[.int .i64 0, .int .i64 0, .slice none 0 0, .int .i64 0, .int .i64 0, .slice none 0 0, .int .i64 0, .int .i64 0, .slice none 0 0, .int .i64 0, .int .i64 0, .slice none 0 0, .int .i64 0, .int .i64 0, .slice none 0 0, .int .i64 0, .int .i64 0, .slice none 0 0] 38)).alloc (.cells #[.int .i64 0, .int .i64 0, .slice none 0 0, .int .i64 0, .int .i64 0, .slice none 0 0, .int .i64 0, .int .i64 0, .slice none 0 0, .int .i64 0, .int .i64 0, .slice none 0 0, .int .i64 0, .int .i64 0, .slice none 0 0, .int .i64 0, .int .i64 0, .slice none 0 0] 38))
  have kR := (Blk.new w #[.int .i64 0, .int .i64 0, .slice none 0 0, .int .i64 0, .int .i64 0, .slice none 0 0, .int .i64 0, .int .i64 0, .slice none 0 0, .int .i64 0, .int .i64 0, .slice none 0 0, .int .i64 0, .int .i64 0, .slice none 0 0, .int .i64 0, .int .i64 0, .slice none 0 0] 38).old (.cells #[.int .i64 0, .int .i64 0, .slice none 0 0, .int .i64 0, .int .i64 0, .slice none 0 0, .int .i64 0, .int .i64 0, .slice none 0 0, .int .i64 0, .int .i64 0, .slice none 0 0, .int .i64 0, .int .i64 0, .slice none 0 0, .int .i64 0, .int .i64 0, .slice none 0 0] 38)
  have kT := Blk.new (w.alloc (.cells #[.int .i64 0, .int .i64 0, .slice none 0 0, .int .i64 0, .int .i64 0, .slice none 0 0, .int .i64 0, .int .i64 0, .slice none 0 0, .int .i64 0, .int .i64 0, .slice none 0 0, .int .i64 0, .int .i64 0, .slice none 0 0, .int .i64 0, .int .i64 0, .slice none 0 0] 38)) #[.int .i64 0, .int .i64 0, .slice none 0 0, .int .i64 0, .int .i64 0, .slice none 0 0, .int .i64 0, .int .i64 0, .slice none 0 0, .int .i64 0, .int .i64 0, .slice none 0 0, .int .i64 0, .int .i64 0, .slice none 0 0, .int .i64 0, .int .i64 0, .slice none 0 0] 38
  simp only [World.size_alloc] at kT
  go_enter Try.func75, Try.ntmps75
  go_wp2_with (fail)
  (with_reducible refine (impl_sideValid R true SR.out _).mono ?_)
  rintro e u1 ⟨rfl, rfl⟩
  go_wp2_with (fail)
  (with_reducible refine (impl_sideValid K true SK.out _).mono ?_)
  rintro e u2 ⟨rfl, rfl⟩
  go_wp2_with (fail)
  (with_reducible refine (impl_sideValid C true SC.out _).mono ?_)
  rintro e u3 ⟨rfl, rfl⟩
  go_wp2_with (fail)
  (with_reducible refine (impl_seedValid s true SD.out _).mono ?_)
  rintro e u4 ⟨rfl, rfl⟩
  go_wp2_with (fail)
  (with_reducible refine (Q0.out _).mono ?_)
  rintro e u5 ⟨v0, rfl, o0, x9⟩
  obtain ⟨p0, m0, hu9, -, -⟩ := id o0.ints
  try simp only at hu9
  subst hu9
  have gG := (Grp.one o0).mono X.out.size
  clear o0
  replace X := Kept.mk (X.out.trans x9)
  replace kR := kR.keep x9
  replace kT := kT.keep x9
  clear x9
  obtain ⟨akT0, akT1, akT2, akT3, akT4, akT5, akT6, akT7, akT8, akT9, akT10, akT11, akT12, akT13, akT14, akT15, akT16, akT17⟩ := kT.c18
  have fkT := kT.free
  go_wp2_with (fail)
  clear akT0 akT1 akT2 akT3 akT4 akT5 akT6 akT7 akT8 akT9 akT10 akT11 akT12 akT13 akT14 akT15 akT16 akT17
  clear fkT
  replace gG := gG.oth (gG.ne kT (by decide)) 0 1 2 (.int .i64 R) (.int .i64 K) (.slice p0 x0.length m0)
  replace kR := kR.oth (g := w.heap.size + 1) (by omega) 0 1 2 (.int .i64 R) (.int .i64 K) (.slice p0 x0.length m0)
  replace kT := kT.sub 0 1 2 (.int .i64 R) (.int .i64 K) (.slice p0 x0.length m0) (cs' := #[.int .i64 R, .int .i64 K, .slice p0 x0.length m0, .int .i64 0, .int .i64 0, .slice none 0 0, .int .i64 0, .int .i64 0, .slice none 0 0, .int .i64 0, .int .i64 0, .slice none 0 0, .int .i64 0, .int .i64 0, .slice none 0 0, .int .i64 0, .int .i64 0, .slice none 0 0]) rfl
  replace X := Kept.mk (X.out.oth (g := w.heap.size + 1) (by omega) 0 1 2 (.int .i64 R) (.int .i64 K) (.slice p0 x0.length m0))
  (with_reducible refine (Q1.out _).mono ?_)
  rintro e u6 ⟨v1, rfl, o1, x9⟩
  obtain ⟨p1, m1, hu9, -, -⟩ := id o1.ints
  try simp only at hu9
  subst hu9
  have SG := Kept.mk (gG.sep (Grp.one o1))
  have g9 := ((Grp.one o1).mono X.out.size)
  have gK := gG.keep x9
  replace X := Kept.mk (X.out.trans x9)
  replace kR := kR.keep x9
  replace kT := kT.keep x9
  clear x9
  have gN := gK.app g9 SG.out
  clear gG gK g9 o1 SG
  have gG : Grp w.heap.size u6 [.slice p0 x0.length m0, .slice p1 x1.length m1] [x0, x1] := gN
  clear gN
  obtain ⟨akT0, akT1, akT2, akT3, akT4, akT5, akT6, akT7, akT8, akT9, akT10, akT11, akT12, akT13, akT14, akT15, akT16, akT17⟩ := kT.c18
  have fkT := kT.free
  go_wp2_with (fail)
  clear akT0 akT1 akT2 akT3 akT4 akT5 akT6 akT7 akT8 akT9 akT10 akT11 akT12 akT13 akT14 akT15 akT16 akT17
  clear fkT
  replace gG := gG.oth (gG.ne kT (by decide)) 3 4 5 (.int .i64 R) (.int .i64 K) (.slice p1 x1.length m1)
  replace kR := kR.oth (g := w.heap.size + 1) (by omega) 3 4 5 (.int .i64 R) (.int .i64 K) (.slice p1 x1.length m1)
  replace kT := kT.sub 3 4 5 (.int .i64 R) (.int .i64 K) (.slice p1 x1.length m1) (cs' := #[.int .i64 R, .int .i64 K, .slice p0 x0.length m0, .int .i64 R, .int .i64 K, .slice p1 x1.length m1, .int .i64 0, .int .i64 0, .slice none 0 0, .int .i64 0, .int .i64 0, .slice none 0 0, .int .i64 0, .int .i64 0, .slice none 0 0, .int .i64 0, .int .i64 0, .slice none 0 0]) rfl
  replace X := Kept.mk (X.out.oth (g := w.heap.size + 1) (by omega) 3 4 5 (.int .i64 R) (.int .i64 K) (.slice p1 x1.length m1))
  (with_reducible refine (Q2.out _).mono ?_)
  rintro e u7 ⟨v2, rfl, o2, x9⟩
  obtain ⟨p2, m2, hu9, -, -⟩ := id o2.ints
  try simp only at hu9
  subst hu9
  have SG := Kept.mk (gG.sep (Grp.one o2))
  have g9 := ((Grp.one o2).mono X.out.size)
  have gK := gG.keep x9
  replace X := Kept.mk (X.out.trans x9)
  replace kR := kR.keep x9
  replace kT := kT.keep x9
  clear x9
  have gN := gK.app g9 SG.out
  clear gG gK g9 o2 SG
  have gG : Grp w.heap.size u7 [.slice p0 x0.length m0, .slice p1 x1.length m1, .slice p2 x2.length m2] [x0, x1, x2] := gN
  clear gN
  obtain ⟨akT0, akT1, akT2, akT3, akT4, akT5, akT6, akT7, akT8, akT9, akT10, akT11, akT12, akT13, akT14, akT15, akT16, akT17⟩ := kT.c18
  have fkT := kT.free
  go_wp2_with (fail)
  clear akT0 akT1 akT2 akT3 akT4 akT5 akT6 akT7 akT8 akT9 akT10 akT11 akT12 akT13 akT14 akT15 akT16 akT17
  clear fkT
  replace gG := gG.oth (gG.ne kT (by decide)) 6 7 8 (.int .i64 K) (.int .i64 C) (.slice p2 x2.length m2)
  replace kR := kR.oth (g := w.heap.size + 1) (by omega) 6 7 8 (.int .i64 K) (.int .i64 C) (.slice p2 x2.length m2)
  replace kT := kT.sub 6 7 8 (.int .i64 K) (.int .i64 C) (.slice p2 x2.length m2) (cs' := #[.int .i64 R, .int .i64 K, .slice p0 x0.length m0, .int .i64 R, .int .i64 K, .slice p1 x1.length m1, .int .i64 K, .int .i64 C, .slice p2 x2.length m2, .int .i64 0, .int .i64 0, .slice none 0 0, .int .i64 0, .int .i64 0, .slice none 0 0, .int .i64 0, .int .i64 0, .slice none 0 0]) rfl
  replace X := Kept.mk (X.out.oth (g := w.heap.size + 1) (by omega) 6 7 8 (.int .i64 K) (.int .i64 C) (.slice p2 x2.length m2))
  (with_reducible refine (Q3.out _).mono ?_)
  rintro e u8 ⟨v3, rfl, o3, x9⟩
  obtain ⟨p3, m3, hu9, -, -⟩ := id o3.ints
  try simp only at hu9
  subst hu9
  have SG := Kept.mk (gG.sep (Grp.one o3))
  have g9 := ((Grp.one o3).mono X.out.size)
  have gK := gG.keep x9
  replace X := Kept.mk (X.out.trans x9)
  replace kR := kR.keep x9
  replace kT := kT.keep x9
  clear x9
  have gN := gK.app g9 SG.out
  clear gG gK g9 o3 SG
  have gG : Grp w.heap.size u8 [.slice p0 x0.length m0, .slice p1 x1.length m1, .slice p2 x2.length m2, .slice p3 x3.length m3] [x0, x1, x2, x3] := gN
  clear gN
  obtain ⟨akT0, akT1, akT2, akT3, akT4, akT5, akT6, akT7, akT8, akT9, akT10, akT11, akT12, akT13, akT14, akT15, akT16, akT17⟩ := kT.c18
  have fkT := kT.free
  go_wp2_with (fail)
  clear akT0 akT1 akT2 akT3 akT4 akT5 akT6 akT7 akT8 akT9 akT10 akT11 akT12 akT13 akT14 akT15 akT16 akT17
  clear fkT
  replace gG := gG.oth (gG.ne kT (by decide)) 9 10 11 (.int .i64 K) (.int .i64 C) (.slice p3 x3.length m3)
  replace kR := kR.oth (g := w.heap.size + 1) (by omega) 9 10 11 (.int .i64 K) (.int .i64 C) (.slice p3 x3.length m3)
  replace kT := kT.sub 9 10 11 (.int .i64 K) (.int .i64 C) (.slice p3 x3.length m3) (cs' := #[.int .i64 R, .int .i64 K, .slice p0 x0.length m0, .int .i64 R, .int .i64 K, .slice p1 x1.length m1, .int .i64 K, .int .i64 C, .slice p2 x2.length m2, .int .i64 K, .int .i64 C, .slice p3 x3.length m3, .int .i64 0, .int .i64 0, .slice none 0 0, .int .i64 0, .int .i64 0, .slice none 0 0]) rfl
  replace X := Kept.mk (X.out.oth (g := w.heap.size + 1) (by omega) 9 10 11 (.int .i64 K) (.int .i64 C) (.slice p3 x3.length m3))
  (with_reducible refine (Q4.out _).mono ?_)
  rintro e u9 ⟨v4, rfl, o4, x9⟩
  obtain ⟨p4, m4, hu9, -, -⟩ := id o4.ints
  try simp only at hu9
  subst hu9
  have SG := Kept.mk (gG.sep (Grp.one o4))
  have g9 := ((Grp.one o4).mono X.out.size)
  have gK := gG.keep x9
  replace X := Kept.mk (X.out.trans x9)
  replace kR := kR.keep x9
  replace kT := kT.keep x9
  clear x9
  have gN := gK.app g9 SG.out
  clear gG gK g9 o4 SG
  have gG : Grp w.heap.size u9 [.slice p0 x0.length m0, .slice p1 x1.length m1, .slice p2 x2.length m2, .slice p3 x3.length m3, .slice p4 x4.length m4] [x0, x1, x2, x3, x4] := gN
  clear gN
  obtain ⟨akT0, akT1, akT2, akT3, akT4, akT5, akT6, akT7, akT8, akT9, akT10, akT11, akT12, akT13, akT14, akT15, akT16, akT17⟩ := kT.c18
  have fkT := kT.free
  go_wp2_with (fail)
  clear akT0 akT1 akT2 akT3 akT4 akT5 akT6 akT7 akT8 akT9 akT10 akT11 akT12 akT13 akT14 akT15 akT16 akT17
  clear fkT
  replace gG := gG.oth (gG.ne kT (by decide)) 12 13 14 (.int .i64 R) (.int .i64 C) (.slice p4 x4.length m4)
  replace kR := kR.oth (g := w.heap.size + 1) (by omega) 12 13 14 (.int .i64 R) (.int .i64 C) (.slice p4 x4.length m4)
  replace kT := kT.sub 12 13 14 (.int .i64 R) (.int .i64 C) (.slice p4 x4.length m4) (cs' := #[.int .i64 R, .int .i64 K, .slice p0 x0.length m0, .int .i64 R, .int .i64 K, .slice p1 x1.length m1, .int .i64 K, .int .i64 C, .slice p2 x2.length m2, .int .i64 K, .int .i64 C, .slice p3 x3.length m3, .int .i64 R, .int .i64 C, .slice p4 x4.length m4, .int .i64 0, .int .i64 0, .slice none 0 0]) rfl
  replace X := Kept.mk (X.out.oth (g := w.heap.size + 1) (by omega) 12 13 14 (.int .i64 R) (.int .i64 C) (.slice p4 x4.length m4))
  apply wp_region_zip [isv _, matR dr dc ds, isv _, isv _, isv _, matR er ec es] _ (by kernel_rfl)
  case hA => intro V; simp [putAll, dstOf, Act.put]; exact rfl
  case hsl => intro V; exact rfl
  case step =>
    intro V lo up w' hr
    obtain ⟨hcr, hzr⟩ := hr.cells
    have hsr := hr.size
    have kR := kR.keep hr
    have kT := kT.keep hr
    have gG := gG.keep hr
    have hxr := X.out.trans hr
    obtain ⟨akT0, akT1, akT2, akT3, akT4, akT5, akT6, akT7, akT8, akT9, akT10, akT11, akT12, akT13, akT14, akT15, akT16, akT17⟩ := kT.c18
    simp only [zipOk, depsImp, isv, matR, modeNg, newb, waits, Region.binds, List.map_nil, List.map_cons, List.headD_cons, List.nil_append, List.cons_append, List.filterMap_cons, List.filterMap_nil, ↓reduceIte, modeNe, Bool.false_eq_true, true_implies, List.getD_cons_zero, List.getD_cons_succ, and_true]
    refine ⟨?_, ?_, ?_, ?_, ?_, ?_⟩
    · intros
      go_wp2
      refine stepQ_mk rfl (by simp only [List.getElem?_toArray, List.getElem?_cons_succ, List.getElem?_cons_zero]; exact rfl) ?_
      exact ⟨Ext.refl _, rfl⟩
    · intros
      go_wp2_with (fail)
      (with_reducible refine (PP.out _ _ _ _ _ _ _ gG.o0.ints gG.o1.ints gG.o2.ints gG.o3.ints gG.o4.ints (Own.nil 0 _).ints).mono ?_)
      rintro e w9 ⟨v9, rfl, o9, x9⟩
      go_wp2
      refine stepQ_mk rfl (by simp only [List.getElem?_toArray, List.getElem?_cons_succ, List.getElem?_cons_zero]; exact rfl) ?_
      exact ⟨x9, v9, rfl, o9, fun q hq => (o9.block q hq).2⟩
    · intros
      go_wp2
      refine stepQ_mk rfl (by simp only [List.getElem?_toArray, List.getElem?_cons_succ, List.getElem?_cons_zero]; exact rfl) ?_
      exact ⟨Ext.refl _, rfl⟩
    · intros
      go_wp2
      refine stepQ_mk rfl (by simp only [List.getElem?_toArray, List.getElem?_cons_succ, List.getElem?_cons_zero]; exact rfl) ?_
      exact ⟨Ext.refl _, rfl⟩
    · intros
      go_wp2
      refine stepQ_mk rfl (by simp only [List.getElem?_toArray, List.getElem?_cons_succ, List.getElem?_cons_zero]; exact rfl) ?_
      exact ⟨Ext.refl _, rfl⟩
    · intro _ _ _ ⟨v1, e1, o1, b1⟩
      intros
      go_wp2_with (fail)
      (with_reducible refine (SB.out _ _ _ o1.ints gG.o4.ints).mono ?_)
      rintro e w9 ⟨v9, rfl, o9, x9⟩
      go_wp2
      refine stepQ_mk rfl (by simp only [List.getElem?_toArray, List.getElem?_cons_succ, List.getElem?_cons_zero]; exact rfl) ?_
      exact ⟨x9, v9, rfl, o9, fun q hq => (o9.block q hq).2⟩
  case hB => kernel_rfl
  case fin =>
    intro V lo up w' hr hf ha
    simp only [factsOk, isv, matR, modeNg, newb, List.map_nil, List.map_cons, List.headD_cons, and_true, Nat.zero_add, Nat.reduceAdd] at hf
    simp only [List.length_cons, List.length_nil, Nat.zero_add, Nat.reduceAdd, List.drop_succ_cons, List.drop_zero]
    obtain ⟨-, -, -, -, -, ⟨l5, -, -, v5, e5, o5, b5⟩⟩ := hf
    have SG := Kept.mk (gG.sep (Grp.one (o5.mono l5)))
    clear ha
    replace kR := kR.keep hr
    replace kT := kT.keep hr
    replace gG := gG.keep hr
    replace o5 := o5.mono (Nat.le_trans X.out.size l5)
    replace X := Kept.mk (X.out.trans hr)
    clear hr
    try clear hc hz
    obtain ⟨pE, mE, huE, -, -⟩ := id o5.ints
    try simp only at huE
    subst huE
    rw [e5]
    clear e5 l5 b5
    have oE := o5
    clear o5
    have gN := gG.app (Grp.one oE) SG.out
    clear gG oE
    have gG : Grp w.heap.size w' [.slice p0 x0.length m0, .slice p1 x1.length m1, .slice p2 x2.length m2, .slice p3 x3.length m3, .slice p4 x4.length m4, .slice pE es.length mE] [x0, x1, x2, x3, x4, es] := gN
    clear gN
    obtain ⟨akT0, akT1, akT2, akT3, akT4, akT5, akT6, akT7, akT8, akT9, akT10, akT11, akT12, akT13, akT14, akT15, akT16, akT17⟩ := kT.c18
    have fkT := kT.free
    replace gG := gG.oth (gG.ne kT (by decide)) 15 16 17 (.int .i64 er) (.int .i64 ec) (.slice pE es.length mE)
    replace kR := kR.oth (g := w.heap.size + 1) (by omega) 15 16 17 (.int .i64 er) (.int .i64 ec) (.slice pE es.length mE)
    replace kT := kT.sub 15 16 17 (.int .i64 er) (.int .i64 ec) (.slice pE es.length mE) (cs' := #[.int .i64 R, .int .i64 K, .slice p0 x0.length m0, .int .i64 R, .int .i64 K, .slice p1 x1.length m1, .int .i64 K, .int .i64 C, .slice p2 x2.length m2, .int .i64 K, .int .i64 C, .slice p3 x3.length m3, .int .i64 R, .int .i64 C, .slice p4 x4.length m4, .int .i64 er, .int .i64 ec, .slice pE es.length mE]) rfl
    replace X := Kept.mk (X.out.oth (g := w.heap.size + 1) (by omega) 15 16 17 (.int .i64 er) (.int .i64 ec) (.slice pE es.length mE))
    have NR := Kept.mk (gG.ne kR (by decide))
    have KO := Kept.mk gG
    have KR := Kept.mk kR
    have kx := Kept.mk (X.out.size)
    have KT := Kept.mk kT
    clear kR kT gG
    go_wp2_with (first | (refine wpList_load_row rfl 38 (.tmp 10) rfl (w.heap.size + 1) rfl 38 _ _ _ KT.out Try.underlying38 rfl (by kernel_rfl) ?_) | (refine wpList_store_blk rfl rfl 38 (.tmp 8) (.tmp 83) rfl (w.heap.size) _ rfl rfl 38 _ KR.out (by kernel_rfl) rfl (by simp [Value.oneCell']) X.out (by omega) ?_; intro w9 hy kR9 hoth hsz; have NO := Kept.mk (KO.out.keep' hoth NR.out); have HY := Kept.mk hy; have K9 := Kept.mk kR9; clear hy hoth hsz KR KO X kR9; try clear KT))
    exact bodyPost_ret (v := .tuple #[.agg #[.int .i64 R, .int .i64 K, .slice p0 x0.length m0, .int .i64 R, .int .i64 K, .slice p1 x1.length m1, .int .i64 K, .int .i64 C, .slice p2 x2.length m2, .int .i64 K, .int .i64 C, .slice p3 x3.length m3, .int .i64 R, .int .i64 C, .slice p4 x4.length m4, .int .i64 er, .int .i64 ec, .slice pE es.length mE], .int .i64 t5]) (by rw [results_row_tmp rfl _ _ (w.heap.size) 38 _ _ _ rfl K9.out Try.underlying38 rfl (by kernel_rfl)]; rfl) rfl ⟨_, _, _, _, _, _, rfl, NO.out, HY.out⟩
end Go.Proofs.Ytkkdikoknegpjaa
namespace Go.Proofs.Ytkkdikoknegpjaa
set_option linter.unusedSimpArgs false
set_option linter.unusedVariables false
open Go.RowKit

theorem Grp.zero6 (B : Nat) (w : World) : Grp B w [.slice none 0 0, .slice none 0 0, .slice none 0 0, .slice none 0 0, .slice none 0 0, .slice none 0 0] [[], [], [], [], [], []] :=
  ⟨⟨Own.nil _ _, Own.nil _ _, Own.nil _ _, Own.nil _ _, Own.nil _ _, Own.nil _ _, trivial⟩, by have a : Apt (.slice none 0 0) (.slice none 0 0) := Apt.nil _ _ rfl; simp [a]⟩

set_option maxHeartbeats 4000000 in
set_option maxRecDepth 4000 in
theorem impl_MakeMatrixTriple (r k c s : Int) (w : World) : Calls Try.prog 75 #[.int .i64 r, .int .i64 k, .int .i64 c, .int .i64 s] w (TrNPost (tripM r k c s) (tripS r k c s) w) := by
  cases g0 : sideB r
  · have hz : mkOkM r k c s = false := by unfold mkOkM; simp [g0]
    rw [show tripM r k c s = trZ by unfold tripM; rw [hz]; rfl, show tripS r k c s = 0 by unfold tripS; rw [hz]; rfl]
    clear hz
    unfold TrNPost trZ shZ matZ
    simp only
    have S0 : Kept (sideB r = false) := ⟨g0⟩
    clear g0
    have X := Kept.mk ((Ext.refl w).alloc (.cells #[.int .i64 0, .int .i64 0, .slice none 0 0, .int .i64 0, .int .i64 0, .slice none 0 0, .int .i64 0, .int .i64 0, .slice none 0 0, .int .i64 0, .int .i64 0, .slice none 0 0, .int .i64 0, .int .i64 0, .slice none 0 0, .int .i64 0, .int .i64 0, .slice none 0 0] 38))
    have kR := Blk.new w #[.int .i64 0, .int .i64 0, .slice none 0 0, .int .i64 0, .int .i64 0, .slice none 0 0, .int .i64 0, .int .i64 0, .slice none 0 0, .int .i64 0, .int .i64 0, .slice none 0 0, .int .i64 0, .int .i64 0, .slice none 0 0, .int .i64 0, .int .i64 0, .slice none 0 0] 38
    go_enter Try.func75, Try.ntmps75
    go_wp2_with (fail)
    (with_reducible refine (impl_sideValid r false S0.out _).mono ?_)
    rintro e u1 ⟨rfl, rfl⟩
    have KR := Kept.mk kR
    clear kR
    go_wp2_with (refine wpList_store_blk rfl rfl 38 (.tmp 8) (.tmp 29) rfl (w.heap.size) _ rfl rfl 38 _ KR.out (by kernel_rfl) rfl (by simp [Value.oneCell']) X.out (Nat.le_refl _) ?_; intro w9 hy kR9 hoth hsz; have HY := Kept.mk hy; have K9 := Kept.mk kR9; clear hy hoth hsz KR X kR9)
    exact bodyPost_ret (v := .tuple #[.agg #[.int .i64 0, .int .i64 0, .slice none 0 0, .int .i64 0, .int .i64 0, .slice none 0 0, .int .i64 0, .int .i64 0, .slice none 0 0, .int .i64 0, .int .i64 0, .slice none 0 0, .int .i64 0, .int .i64 0, .slice none 0 0, .int .i64 0, .int .i64 0, .slice none 0 0], .int .i64 0]) (by rw [results_row_tmp rfl _ _ (w.heap.size) 38 _ _ _ rfl K9.out Try.underlying38 rfl (by kernel_rfl)]; rfl) rfl ⟨_, _, _, _, _, _, rfl, Grp.zero6 _ _, HY.out⟩
  · cases g1 : sideB k
    · have hz : mkOkM r k c s = false := by unfold mkOkM; simp [g0, g1]
      rw [show tripM r k c s = trZ by unfold tripM; rw [hz]; rfl, show tripS r k c s = 0 by unfold tripS; rw [hz]; rfl]
      clear hz
      unfold TrNPost trZ shZ matZ
      simp only
      have S0 : Kept (sideB r = true) := ⟨g0⟩
      have S1 : Kept (sideB k = false) := ⟨g1⟩
      clear g0 g1
      have X := Kept.mk ((Ext.refl w).alloc (.cells #[.int .i64 0, .int .i64 0, .slice none 0 0, .int .i64 0, .int .i64 0, .slice none 0 0, .int .i64 0, .int .i64 0, .slice none 0 0, .int .i64 0, .int .i64 0, .slice none 0 0, .int .i64 0, .int .i64 0, .slice none 0 0, .int .i64 0, .int .i64 0, .slice none 0 0] 38))
      have kR := Blk.new w #[.int .i64 0, .int .i64 0, .slice none 0 0, .int .i64 0, .int .i64 0, .slice none 0 0, .int .i64 0, .int .i64 0, .slice none 0 0, .int .i64 0, .int .i64 0, .slice none 0 0, .int .i64 0, .int .i64 0, .slice none 0 0, .int .i64 0, .int .i64 0, .slice none 0 0] 38
      go_enter Try.func75, Try.ntmps75
      go_wp2_with (fail)
      (with_reducible refine (impl_sideValid r true S0.out _).mono ?_)
      rintro e u1 ⟨rfl, rfl⟩
      go_wp2_with (fail)
      (with_reducible refine (impl_sideValid k false S1.out _).mono ?_)
      rintro e u2 ⟨rfl, rfl⟩
      have KR := Kept.mk kR
      clear kR
      go_wp2_with (refine wpList_store_blk rfl rfl 38 (.tmp 8) (.tmp 29) rfl (w.heap.size) _ rfl rfl 38 _ KR.out (by kernel_rfl) rfl (by simp [Value.oneCell']) X.out (Nat.le_refl _) ?_; intro w9 hy kR9 hoth hsz; have HY := Kept.mk hy; have K9 := Kept.mk kR9; clear hy hoth hsz KR X kR9)
      exact bodyPost_ret (v := .tuple #[.agg #[.int .i64 0, .int .i64 0, .slice none 0 0, .int .i64 0, .int .i64 0, .slice none 0 0, .int .i64 0, .int .i64 0, .slice none 0 0, .int .i64 0, .int .i64 0, .slice none 0 0, .int .i64 0, .int .i64 0, .slice none 0 0, .int .i64 0, .int .i64 0, .slice none 0 0], .int .i64 0]) (by rw [results_row_tmp rfl _ _ (w.heap.size) 38 _ _ _ rfl K9.out Try.underlying38 rfl (by kernel_rfl)]; rfl) rfl ⟨_, _, _, _, _, _, rfl, Grp.zero6 _ _, HY.out⟩
    · cases g2 : sideB c
      · have hz : mkOkM r k c s = false := by unfold mkOkM; simp [g0, g1, g2]
        rw [show tripM r k c s = trZ by unfold tripM; rw [hz]; rfl, show tripS r k c s = 0 by unfold tripS; rw [hz]; rfl]
        clear hz
        unfold TrNPost trZ shZ matZ
        simp only
        have S0 : Kept (sideB r = true) := ⟨g0⟩
        have S1 : Kept (sideB k = true) := ⟨g1⟩
        have S2 : Kept (sideB c = false) := ⟨g2⟩
        clear g0 g1 g2
        have X := Kept.mk ((Ext.refl w).alloc (.cells #[.int .i64 0, .int .i64 0, .slice none 0 0, .int .i64 0, .int .i64 0, .slice none 0 0, .int .i64 0, .int .i64 0, .slice none 0 0, .int .i64 0, .int .i64 0, .slice none 0 0, .int .i64 0, .int .i64 0, .slice none 0 0, .int .i64 0, .int .i64 0, .slice none 0 0] 38))
        have kR := Blk.new w #[.int .i64 0, .int .i64 0, .slice none 0 0, .int .i64 0, .int .i64 0, .slice none 0 0, .int .i64 0, .int .i64 0, .slice none 0 0, .int .i64 0, .int .i64 0, .slice none 0 0, .int .i64 0, .int .i64 0, .slice none 0 0, .int .i64 0, .int .i64 0, .slice none 0 0] 38
        go_enter Try.func75, Try.ntmps75
        go_wp2_with (fail)
        (with_reducible refine (impl_sideValid r true S0.out _).mono ?_)
        rintro e u1 ⟨rfl, rfl⟩
        go_wp2_with (fail)
        (with_reducible refine (impl_sideValid k true S1.out _).mono ?_)
        rintro e u2 ⟨rfl, rfl⟩
        go_wp2_with (fail)
        (with_reducible refine (impl_sideValid c false S2.out _).mono ?_)
        rintro e u3 ⟨rfl, rfl⟩
        have KR := Kept.mk kR
        clear kR
        go_wp2_with (refine wpList_store_blk rfl rfl 38 (.tmp 8) (.tmp 29) rfl (w.heap.size) _ rfl rfl 38 _ KR.out (by kernel_rfl) rfl (by simp [Value.oneCell']) X.out (Nat.le_refl _) ?_; intro w9 hy kR9 hoth hsz; have HY := Kept.mk hy; have K9 := Kept.mk kR9; clear hy hoth hsz KR X kR9)
        exact bodyPost_ret (v := .tuple #[.agg #[.int .i64 0, .int .i64 0, .slice none 0 0, .int .i64 0, .int .i64 0, .slice none 0 0, .int .i64 0, .int .i64 0, .slice none 0 0, .int .i64 0, .int .i64 0, .slice none 0 0, .int .i64 0, .int .i64 0, .slice none 0 0, .int .i64 0, .int .i64 0, .slice none 0 0], .int .i64 0]) (by rw [results_row_tmp rfl _ _ (w.heap.size) 38 _ _ _ rfl K9.out Try.underlying38 rfl (by kernel_rfl)]; rfl) rfl ⟨_, _, _, _, _, _, rfl, Grp.zero6 _ _, HY.out⟩
      · cases g3 : seedOk s
        · have hz : mkOkM r k c s = false := by unfold mkOkM; simp [g0, g1, g2, g3]
          rw [show tripM r k c s = trZ by unfold tripM; rw [hz]; rfl, show tripS r k c s = 0 by unfold tripS; rw [hz]; rfl]
          clear hz
          unfold TrNPost trZ shZ matZ
          simp only
          have S0 : Kept (sideB r = true) := ⟨g0⟩
          have S1 : Kept (sideB k = true) := ⟨g1⟩
          have S2 : Kept (sideB c = true) := ⟨g2⟩
          have S3 : Kept ((decide (1 ≤ s) && decide (s ≤ 2147483646)) = false) := ⟨g3⟩
          clear g0 g1 g2 g3
          have X := Kept.mk ((Ext.refl w).alloc (.cells #[.int .i64 0, .int .i64 0, .slice none 0 0, .int .i64 0, .int .i64 0, .slice none 0 0, .int .i64 0, .int .i64 0, .slice none 0 0, .int .i64 0, .int .i64 0, .slice none 0 0, .int .i64 0, .int .i64 0, .slice none 0 0, .int .i64 0, .int .i64 0, .slice none 0 0] 38))
          have kR := Blk.new w #[.int .i64 0, .int .i64 0, .slice none 0 0, .int .i64 0, .int .i64 0, .slice none 0 0, .int .i64 0, .int .i64 0, .slice none 0 0, .int .i64 0, .int .i64 0, .slice none 0 0, .int .i64 0, .int .i64 0, .slice none 0 0, .int .i64 0, .int .i64 0, .slice none 0 0] 38
          go_enter Try.func75, Try.ntmps75
          go_wp2_with (fail)
          (with_reducible refine (impl_sideValid r true S0.out _).mono ?_)
          rintro e u1 ⟨rfl, rfl⟩
          go_wp2_with (fail)
          (with_reducible refine (impl_sideValid k true S1.out _).mono ?_)
          rintro e u2 ⟨rfl, rfl⟩
          go_wp2_with (fail)
          (with_reducible refine (impl_sideValid c true S2.out _).mono ?_)
          rintro e u3 ⟨rfl, rfl⟩
          go_wp2_with (fail)
          (with_reducible refine (impl_seedValid s false S3.out _).mono ?_)
          rintro e u4 ⟨rfl, rfl⟩
          have KR := Kept.mk kR
          clear kR
          go_wp2_with (refine wpList_store_blk rfl rfl 38 (.tmp 8) (.tmp 29) rfl (w.heap.size) _ rfl rfl 38 _ KR.out (by kernel_rfl) rfl (by simp [Value.oneCell']) X.out (Nat.le_refl _) ?_; intro w9 hy kR9 hoth hsz; have HY := Kept.mk hy; have K9 := Kept.mk kR9; clear hy hoth hsz KR X kR9)
          exact bodyPost_ret (v := .tuple #[.agg #[.int .i64 0, .int .i64 0, .slice none 0 0, .int .i64 0, .int .i64 0, .slice none 0 0, .int .i64 0, .int .i64 0, .slice none 0 0, .int .i64 0, .int .i64 0, .slice none 0 0, .int .i64 0, .int .i64 0, .slice none 0 0, .int .i64 0, .int .i64 0, .slice none 0 0], .int .i64 0]) (by rw [results_row_tmp rfl _ _ (w.heap.size) 38 _ _ _ rfl K9.out Try.underlying38 rfl (by kernel_rfl)]; rfl) rfl ⟨_, _, _, _, _, _, rfl, Grp.zero6 _ _, HY.out⟩
        · obtain ⟨R, rfl, hR⟩ := Side.of_int g0
          obtain ⟨K, rfl, hK⟩ := Side.of_int g1
          obtain ⟨C, rfl, hC⟩ := Side.of_int g2
          have hz : mkOkM R K C s = true := by unfold mkOkM; simp [g0, g1, g2, g3]
          rw [show tripM R K C s = tripN R K C s by unfold tripM; rw [hz]; rfl, show tripS R K C s = sd5 R K C s by unfold tripS; rw [hz]; rfl]
          exact impl_MakeTripleN R K C hR hK hC s (seed_of g3) w
end Go.Proofs.Ytkkdikoknegpjaa
