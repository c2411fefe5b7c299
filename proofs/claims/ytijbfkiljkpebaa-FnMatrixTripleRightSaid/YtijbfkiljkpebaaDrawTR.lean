/- What DrawMatrixTripleRight returns. -/
import Derived.Test.YtijbfkiljkpebaaKK
import Derived.Test.YtijbfkiljkpebaaSideD
namespace Go.Proofs.Ytijbfkiljkpebaa
set_option linter.unusedSimpArgs false
set_option linter.unusedVariables false
open Go.RowKit

set_option maxHeartbeats 2000000 in
set_option maxRecDepth 4000 in
theorem spec_DrawMatrixTripleRight (v : Value) (w : World) (hb : Bytes w v) : Calls Try.prog 19 #[v] w fun e w' => ∃ u, e = .returned u ∧ IsTr w.heap.size w' u ∧ Ext w w' := by
  have S := Kept.mk (St.start w)
  have HP : Room 15000 := ⟨by omega⟩
  go_enter Try.func19, Try.ntmps19
  go_wp2_with (first | (refine aliT (L := []) S.out ?_; clear S; intro rb w9 S) | (refine ldiT S.out ?_) | (refine ldI S.out ?_) | (refine ldIs S.out ?_) | (refine stiT S.out ?_; clear S; intro w9 S) | (refine wpList_want rfl rfl ?_; dsimp only) | fail)
  (with_reducible refine (open' _ _ (hb.ext S.out.ext)).mono ?_)
  rintro e w1 ⟨g, rfl, hg, hr1, hx1⟩
  have O := S
  replace S := Kept.mk (St.startR hr1)
  clear hr1
  go_wp2_with (first | (refine aliT (L := []) S.out ?_; clear S; intro rb w9 S) | (refine ldiT S.out ?_) | (refine ldI S.out ?_) | (refine ldIs S.out ?_) | (refine stiT S.out ?_; clear S; intro w9 S) | (refine wpList_want rfl rfl ?_; dsimp only) | fail)
  (with_reducible refine (side20 g _ (HP.le (by omega)) _ S.out.rdr).mono ?_)
  rintro e u9 ⟨v7, rfl, ⟨n1, rfl, sn1⟩, hr7, hm7⟩
  replace S := Kept.mk (S.out.read hr7 hm7)
  clear hr7 hm7
  go_wp2_with (first | (refine aliT (L := []) S.out ?_; clear S; intro rb w9 S) | (refine ldiT S.out ?_) | (refine ldI S.out ?_) | (refine ldIs S.out ?_) | (refine stiT S.out ?_; clear S; intro w9 S) | (refine wpList_want rfl rfl ?_; dsimp only) | fail)
  (with_reducible refine (side20 g _ (HP.le (by omega)) _ S.out.rdr).mono ?_)
  rintro e u9 ⟨v7, rfl, ⟨n2, rfl, sn2⟩, hr7, hm7⟩
  replace S := Kept.mk (S.out.read hr7 hm7)
  clear hr7 hm7
  go_wp2_with (first | (refine aliT (L := []) S.out ?_; clear S; intro rb w9 S) | (refine ldiT S.out ?_) | (refine ldI S.out ?_) | (refine ldIs S.out ?_) | (refine stiT S.out ?_; clear S; intro w9 S) | (refine wpList_want rfl rfl ?_; dsimp only) | fail)
  (with_reducible refine (side20 g _ (HP.le (by omega)) _ S.out.rdr).mono ?_)
  rintro e u9 ⟨v7, rfl, ⟨n3, rfl, sn3⟩, hr7, hm7⟩
  replace S := Kept.mk (S.out.read hr7 hm7)
  clear hr7 hm7
  go_wp2_with (first | (refine aliT (L := []) S.out ?_; clear S; intro rb w9 S) | (refine ldiT S.out ?_) | (refine ldI S.out ?_) | (refine ldIs S.out ?_) | (refine stiT S.out ?_; clear S; intro w9 S) | (refine wpList_want rfl rfl ?_; dsimp only) | fail)
  (with_reducible refine (tri20M g _ n1 n2 n3 2 sn1 sn2 sn3 ⟨by omega, by omega⟩ (HP.le (by omega)) _ S.out.rdr).mono ?_)
  rintro e u9 ⟨v7, rfl, ⟨r0, c0, r1, c1, r2, c2, r3, c3, r4, c4, r5, c5, v0, v1, v2, v3, v4, v5, x0, x1, x2, x3, x4, x5, rfl, gg, ln⟩, hr7, hm7⟩
  obtain ⟨p0, m0, hu9, -, -⟩ := id gg.o0.ints
  try simp only at hu9
  subst hu9
  obtain ⟨p1, m1, hu9, -, -⟩ := id gg.o1.ints
  try simp only at hu9
  subst hu9
  obtain ⟨p2, m2, hu9, -, -⟩ := id gg.o2.ints
  try simp only at hu9
  subst hu9
  obtain ⟨p3, m3, hu9, -, -⟩ := id gg.o3.ints
  try simp only at hu9
  subst hu9
  obtain ⟨p4, m4, hu9, -, -⟩ := id gg.o4.ints
  try simp only at hu9
  subst hu9
  obtain ⟨p5, m5, hu9, -, -⟩ := id gg.o5.ints
  try simp only at hu9
  subst hu9
  replace S := Kept.mk (S.out.read6 gg hr7 hm7)
  clear hr7 hm7 gg
  replace S := Kept.mk (show St none w _ [⟨rb, 35, [.int .i64 0, .int .i64 0, .slice none 0 0, .int .i64 0, .int .i64 0, .slice none 0 0, .int .i64 0, .int .i64 0, .slice none 0 0, .int .i64 0, .int .i64 0, .slice none 0 0, .int .i64 0, .int .i64 0, .slice none 0 0, .int .i64 0, .int .i64 0, .slice none 0 0]⟩] [.slice p0 x0.length m0, .slice p1 x1.length m1, .slice p2 x2.length m2, .slice p3 x3.length m3, .slice p4 x4.length m4, .slice p5 x5.length m5] [x0, x1, x2, x3, x4, x5] from O.out.nest hx1 hg S.out)
  clear O
  go_wp2_with (first | (refine aliT (L := []) S.out ?_; clear S; intro rb w9 S) | (refine ldiT S.out ?_) | (refine ldI S.out ?_) | (refine ldIs S.out ?_) | (refine stiT S.out ?_; clear S; intro w9 S) | (refine wpList_want rfl rfl ?_; dsimp only) | fail)
  exact bodyPost_ret (v := .agg #[.int .i64 r0, .int .i64 c0, .slice p0 x0.length m0, .int .i64 r1, .int .i64 c1, .slice p1 x1.length m1, .int .i64 r2, .int .i64 c2, .slice p2 x2.length m2, .int .i64 r3, .int .i64 c3, .slice p3 x3.length m3, .int .i64 r4, .int .i64 c4, .slice p4 x4.length m4, .int .i64 r5, .int .i64 c5, .slice p5 x5.length m5]) (by exact res1 rfl (by exact (rsiT S.out))) rfl ⟨_, rfl, ⟨_, _, _, _, _, _, _, _, _, _, _, _, _, _, _, _, _, _, _, _, _, _, _, _, rfl, S.out.grp, ln⟩, S.out.ext⟩
end Go.Proofs.Ytijbfkiljkpebaa
