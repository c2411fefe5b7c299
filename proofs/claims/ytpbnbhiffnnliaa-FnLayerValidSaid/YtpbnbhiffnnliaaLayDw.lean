/- What DrawLayerValid returns. -/
import Derived.Test.YtpbnbhiffnnliaaLayDr
namespace Go.Proofs.Ytpbnbhiffnnliaa
set_option linter.unusedSimpArgs false
set_option linter.unusedVariables false
open Go.RowKit

set_option maxHeartbeats 2000000 in
theorem spec_DrawLayerValid (v : Value) (w : World) (hb : Bytes w v) : Calls Try.prog 19 #[v] w fun e w' => ∃ k u ms, e = .returned (.agg #[.int .i64 k, u]) ∧ Mats 0 0 w' u ms ∧ Ext w w' := by
  have S := Kept.mk (St.start w)
  have HP : Room 70000 := ⟨by omega⟩
  go_enter Try.func19, Try.ntmps19
  go_wp2_with (first | (refine aliY (L := []) S.out ?_; clear S; intro rb w9 S) | (refine ldiY S.out ?_) | (refine ldI S.out ?_) | (refine wpList_want rfl rfl ?_; dsimp only) | fail)
  (with_reducible refine (open' _ _ (hb.ext S.out.ext)).mono ?_)
  rintro e w1 ⟨g, rfl, hg, hr1, hx1⟩
  have O := S
  replace S := Kept.mk (St.startR hr1)
  clear hr1
  have l2 := (O.out.box _ (List.Mem.head _)).1.lt
  simp only at l2
  go_wp2_with (first | (refine aliY (L := []) S.out ?_; clear S; intro rb w9 S) | (refine ldiY S.out ?_) | (refine ldI S.out ?_) | (refine wpList_want rfl rfl ?_; dsimp only) | fail)
  (with_reducible refine (pick g _ 3 (HP.le (by omega)) _ S.out.rdr).mono ?_)
  rintro e u9 ⟨v7, rfl, ⟨y1, rfl, h1, -⟩, hr7, hm7⟩
  replace S := Kept.mk (S.out.read hr7 hm7)
  clear hr7 hm7
  have l1 : (y1 : Int) < 3 := h1 (by omega)
  clear h1
  obtain ⟨K, hK⟩ : ∃ n : Nat, n = y1 + 1 := ⟨_, rfl⟩
  have sK : Sd K := ⟨by omega, by omega⟩
  have tK : K ≤ 3 := by omega
  have q1 : wrap64 (1 + (y1 : Int)) = (K : Int) := by unfold wrap64; omega
  have p1 : 1 + (y1 : Int) = (K : Int) := by omega
  have zK : wrap64 (K : Int) = (K : Int) := by unfold wrap64; omega
  clear hK
  go_wp2_with (first | (refine aliY (L := []) S.out ?_; clear S; intro rb w9 S) | (refine ldiY S.out ?_) | (refine ldI S.out ?_) | (refine wpList_want rfl rfl ?_; dsimp only) | fail)
  clear q1 p1 zK
  (with_reducible refine (pick g _ 3 (HP.le (by omega)) _ S.out.rdr).mono ?_)
  rintro e u9 ⟨v7, rfl, ⟨y2, rfl, h2, -⟩, hr7, hm7⟩
  replace S := Kept.mk (S.out.read hr7 hm7)
  clear hr7 hm7
  have l2 : (y2 : Int) < 3 := h2 (by omega)
  clear h2
  obtain ⟨R, hR⟩ : ∃ n : Nat, n = y2 + 1 := ⟨_, rfl⟩
  have sR : Sd R := ⟨by omega, by omega⟩
  have tR : R ≤ 3 := by omega
  have q2 : wrap64 (1 + (y2 : Int)) = (R : Int) := by unfold wrap64; omega
  have p2 : 1 + (y2 : Int) = (R : Int) := by omega
  have zR : wrap64 (R : Int) = (R : Int) := by unfold wrap64; omega
  clear hR
  go_wp2_with (first | (refine aliY (L := []) S.out ?_; clear S; intro rb w9 S) | (refine ldiY S.out ?_) | (refine ldI S.out ?_) | (refine wpList_want rfl rfl ?_; dsimp only) | fail)
  clear q2 p2 zR
  (with_reducible refine (pick g _ 3 (HP.le (by omega)) _ S.out.rdr).mono ?_)
  rintro e u9 ⟨v7, rfl, ⟨y3, rfl, h3, -⟩, hr7, hm7⟩
  replace S := Kept.mk (S.out.read hr7 hm7)
  clear hr7 hm7
  have l3 : (y3 : Int) < 3 := h3 (by omega)
  clear h3
  obtain ⟨C, hC⟩ : ∃ n : Nat, n = y3 + 1 := ⟨_, rfl⟩
  have sC : Sd C := ⟨by omega, by omega⟩
  have tC : C ≤ 3 := by omega
  have q3 : wrap64 (1 + (y3 : Int)) = (C : Int) := by unfold wrap64; omega
  have p3 : 1 + (y3 : Int) = (C : Int) := by omega
  have zC : wrap64 (C : Int) = (C : Int) := by unfold wrap64; omega
  clear hC
  go_wp2_with (first | (refine aliY (L := []) S.out ?_; clear S; intro rb w9 S) | (refine ldiY S.out ?_) | (refine ldI S.out ?_) | (refine wpList_want rfl rfl ?_; dsimp only) | fail)
  clear q3 p3 zC
  have l9 := S.out.size
  have l8 := hx1.size
  (with_reducible refine (lay20 g _ K R C sK tK sR sC (HP.le (by omega)) _ S.out.rdr).mono ?_)
  rintro e u9 ⟨k9, v9, ms9, rfl, hm, hr7, hm7⟩
  obtain ⟨a9, n9, cap9, rfl, -, hm⟩ := hm.lit
  replace S := Kept.mk (S.out.read hr7 hm7)
  clear hr7 hm7
  replace S := Kept.mk (show St none w _ [⟨rb, 42, [.int .i64 0, .slice none 0 0]⟩] [] [] from O.out.nest hx1 hg S.out)
  clear O
  go_wp2_with (first | (refine stiYK S.out ?_; clear S; intro w9 S hf hs; replace hm := Mats.other hm (by omega) hf hs; clear hf hs) | fail)
  exact bodyPost_ret (v := _) (by exact res1 rfl (by exact (rsiY S.out))) rfl ⟨_, _, _, rfl, hm.mono (Nat.zero_le _), S.out.ext⟩
end Go.Proofs.Ytpbnbhiffnnliaa
