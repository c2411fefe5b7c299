/- The walk through FnLayerValid. -/
import Derived.Test.YtpbnbhiffnnliaaLayDw
import Derived.Test.YtpbnbhiffnnliaaLayL
namespace Go.Proofs.Ytpbnbhiffnnliaa
set_option linter.unusedSimpArgs false
set_option linter.unusedVariables false
open Go.RowKit
theorem laws_alive (w : World) : Calls Try.prog 10 #[] w fun e w' => e = .returned (.bool true) ∧ w = w' := by
  go_enter Try.func10, Try.ntmps10
  go_wp2_with (go_at_call 36; (with_reducible refine (impl_RingValid 5 true (by decide) _).mono ?_); rintro e w1 ⟨rfl, rfl⟩)
  go_ret
  exact ⟨rfl, rfl⟩

set_option maxHeartbeats 8000000 in
set_option maxRecDepth 4000 in
theorem walk_FnLayerValid (v : Value) (w : World) (hb : Bytes w v) : Calls Try.prog 5 #[v] w fun e w' => e = .returned (.bool true) ∧ Ext w w' := by
  obtain ⟨a, n, cap, rfl, hn, hm, hc⟩ := id hb
  clear hc
  have HB := Kept.mk hb
  clear hb
  have S := Kept.mk (St.start w)
  by_cases hl : (n : Int) ≤ 1048576
  · go_enter Try.func5, Try.ntmps5
    go_wp2_with (fail)
    clear hl
    (with_reducible refine (spec_DrawLayerValid _ _ (HB.out.ext S.out.ext)).mono ?_)
    rintro e u9 ⟨k0, u0, ms, rfl, hm, x9⟩
    obtain ⟨a0, n0, c0, rfl, -, hm⟩ := hm.lit
    replace hm := Kept.mk hm
    replace S := Kept.mk (S.out.quiet x9)
    clear x9
    obtain ⟨b, hb⟩ : ∃ b, layOk k0 ms = b := ⟨_, rfl⟩
    have SV := Kept.mk (fun u w' (hm : Mats 0 0 w' u ms) => spec_LayerValid 0 k0 u ms b hb w' hm)
    have IV := Kept.mk (fun u w' (hm : Mats 0 0 w' u ms) => impl_LayerValid 0 k0 u ms b hb w' hm)
    have I4 := Kept.mk (fun u w' (hm : Mats 0 0 w' u ms) => impl_LayerValid 0 4 u ms false (by simp [layOk]) w' hm)
    have I1 := Kept.mk (fun u w' (hm : Mats 0 0 w' u [⟨1, 1, [1]⟩]) => impl_LayerValid 0 2 u [⟨1, 1, [1]⟩] false (by simp [layOk]) w' hm)
    have I0 := Kept.mk (fun w' => impl_LayerValid 0 2 (.slice none 0 0) [] true (by simp [layOk]) w' (Mats.nil _ _ _))
    clear hb
    have XS := Kept.mk S.out.ext
    clear S
    have T := Kept.mk (St.start u9)
    go_wp2_with (first | (refine aliY (L := []) T.out ?_; clear T; intro b3 w9 T) | (refine stiY T.out ?_; clear T; intro w9 T) | (refine aliM (T.out.alloc 3 [.int .i64 1]) ?_; clear T; intro b5 w9 T; generalize u9.heap.size = bi at *) | (refine stiM T.out ?_; clear T; intro w9 T) | (refine ldiY T.out ?_) | (refine ldMs T.out ?_) | (refine ldiM T.out ?_) | (refine wpList_want rfl rfl ?_; dsimp only) | fail)
    (with_reducible refine (IV.out _ _ (hm.out.keep T.out.ext)).mono ?_)
    rintro e u9 ⟨rfl, x9⟩
    replace T := Kept.mk (T.out.quiet x9)
    clear x9
    go_wp2_with (first | (refine aliY (L := []) T.out ?_; clear T; intro b3 w9 T) | (refine stiY T.out ?_; clear T; intro w9 T) | (refine aliM (T.out.alloc 3 [.int .i64 1]) ?_; clear T; intro b5 w9 T; generalize u9.heap.size = bi at *) | (refine stiM T.out ?_; clear T; intro w9 T) | (refine ldiY T.out ?_) | (refine ldMs T.out ?_) | (refine ldiM T.out ?_) | (refine wpList_want rfl rfl ?_; dsimp only) | fail)
    (with_reducible refine (SV.out _ _ (hm.out.keep T.out.ext)).mono ?_)
    rintro e u9 ⟨rfl, x9⟩
    replace T := Kept.mk (T.out.quiet x9)
    clear x9
    go_wp2_with (first | (refine aliY (L := []) T.out ?_; clear T; intro b3 w9 T) | (refine stiY T.out ?_; clear T; intro w9 T) | (refine aliM (T.out.alloc 3 [.int .i64 1]) ?_; clear T; intro b5 w9 T; generalize u9.heap.size = bi at *) | (refine stiM T.out ?_; clear T; intro w9 T) | (refine ldiY T.out ?_) | (refine ldMs T.out ?_) | (refine ldiM T.out ?_) | (refine wpList_want rfl rfl ?_; dsimp only) | fail)
    (with_reducible refine (I4.out _ _ (hm.out.keep T.out.ext)).mono ?_)
    rintro e u9 ⟨rfl, x9⟩
    replace T := Kept.mk (T.out.quiet x9)
    clear x9
    go_wp2_with (first | (refine aliY (L := []) T.out ?_; clear T; intro b3 w9 T) | (refine stiY T.out ?_; clear T; intro w9 T) | (refine aliM (T.out.alloc 3 [.int .i64 1]) ?_; clear T; intro b5 w9 T; generalize u9.heap.size = bi at *) | (refine stiM T.out ?_; clear T; intro w9 T) | (refine ldiY T.out ?_) | (refine ldMs T.out ?_) | (refine ldiM T.out ?_) | (refine wpList_want rfl rfl ?_; dsimp only) | fail)
    replace T := Kept.mk (T.out.alloc 25 [.int .i64 1, .int .i64 1, .slice (some ⟨bi, 0, none⟩) 1 1])
    have o1 := Own.lit (w := _) [1] (T.out.box _ (List.Mem.tail _ (List.Mem.tail _ (List.Mem.head _)))).2 (T.out.box _ (List.Mem.tail _ (List.Mem.tail _ (List.Mem.head _)))).1 (by decide)
    have hm1 := Kept.mk (show Mats 0 0 _ (.slice (some ⟨u9.heap.size, 0, none⟩) 1 1) [⟨1, 1, [1]⟩] from (MCells.mats (cap := 1) (ms := [⟨1, 1, [1]⟩]) (T.out.box _ (List.Mem.head _)) ⟨rfl, rfl, o1, MCells.nil⟩).mono (Nat.zero_le _))
    clear o1
    (with_reducible refine (I1.out _ _ hm1.out).mono ?_)
    rintro e u9 ⟨rfl, x9⟩
    replace T := Kept.mk (T.out.quiet x9)
    clear x9
    go_wp2_with (first | (refine aliY (L := []) T.out ?_; clear T; intro b3 w9 T) | (refine stiY T.out ?_; clear T; intro w9 T) | (refine aliM (T.out.alloc 3 [.int .i64 1]) ?_; clear T; intro b5 w9 T; generalize u9.heap.size = bi at *) | (refine stiM T.out ?_; clear T; intro w9 T) | (refine ldiY T.out ?_) | (refine ldMs T.out ?_) | (refine ldiM T.out ?_) | (refine wpList_want rfl rfl ?_; dsimp only) | fail)
    (with_reducible refine (I0.out _).mono ?_)
    rintro e u9 ⟨rfl, x9⟩
    replace T := Kept.mk (T.out.quiet x9)
    clear x9
    go_wp2_with (first | (refine aliY (L := []) T.out ?_; clear T; intro b3 w9 T) | (refine stiY T.out ?_; clear T; intro w9 T) | (refine aliM (T.out.alloc 3 [.int .i64 1]) ?_; clear T; intro b5 w9 T; generalize u9.heap.size = bi at *) | (refine stiM T.out ?_; clear T; intro w9 T) | (refine ldiY T.out ?_) | (refine ldMs T.out ?_) | (refine ldiM T.out ?_) | (refine wpList_want rfl rfl ?_; dsimp only) | fail)
    (with_reducible refine (laws_alive _).mono ?_)
    rintro e u9 ⟨rfl, rfl⟩
    go_wp2_with (first | (refine aliY (L := []) T.out ?_; clear T; intro b3 w9 T) | (refine stiY T.out ?_; clear T; intro w9 T) | (refine aliM (T.out.alloc 3 [.int .i64 1]) ?_; clear T; intro b5 w9 T; generalize u9.heap.size = bi at *) | (refine stiM T.out ?_; clear T; intro w9 T) | (refine ldiY T.out ?_) | (refine ldMs T.out ?_) | (refine ldiM T.out ?_) | (refine wpList_want rfl rfl ?_; dsimp only) | fail)
    go_ret
    exact ⟨rfl, XS.out.trans T.out.ext⟩
  · have hl' : ¬ (n : Int) ≤ 1048576 := hl
    have hg : (1048576 : Int) < n := by omega
    clear hl
    go_enter Try.func5, Try.ntmps5
    go_wp2_with (fail)
    go_ret
    exact ⟨rfl, S.out.ext⟩
end Go.Proofs.Ytpbnbhiffnnliaa
