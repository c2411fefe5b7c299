/- Sums of two or three matrices to a first. -/
import Derived.Test.YtkkdikoknegpjaaKF
import Derived.Test.YtkkdikoknegpjaaPairT
namespace Go.Proofs.Ytkkdikoknegpjaa
set_option linter.unusedSimpArgs false
set_option linter.unusedVariables false
open Go.RowKit
/-- The cells of a block, one by one. -/
theorem Blk.nineC {w : World} {b : Nat} {x0 x1 x2 x3 x4 x5 x6 x7 x8 : Value} {T : TypeId} (h : Blk w b #[x0, x1, x2, x3, x4, x5, x6, x7, x8] T) : w.cell? ⟨b, 0, none⟩ = some x0 ∧ w.cell? ⟨b, 1, none⟩ = some x1 ∧ w.cell? ⟨b, 2, none⟩ = some x2 ∧ w.cell? ⟨b, 3, none⟩ = some x3 ∧ w.cell? ⟨b, 4, none⟩ = some x4 ∧ w.cell? ⟨b, 5, none⟩ = some x5 ∧ w.cell? ⟨b, 6, none⟩ = some x6 ∧ w.cell? ⟨b, 7, none⟩ = some x7 ∧ w.cell? ⟨b, 8, none⟩ = some x8 :=
  ⟨by rw [h.cell]; rfl, by rw [h.cell]; rfl, by rw [h.cell]; rfl, by rw [h.cell]; rfl, by rw [h.cell]; rfl, by rw [h.cell]; rfl, by rw [h.cell]; rfl, by rw [h.cell]; rfl, by rw [h.cell]; rfl⟩

set_option maxHeartbeats 4000000 in
set_option maxRecDepth 4000 in
theorem impl_sumMatrices2 (r0 c0 r1 c1 r2 c2 : Int) (v0 v1 v2 : Value) (x0 x1 x2 : List Int) (g : Nat) (w : World) (hg : Blk w g #[.int .i64 r1, .int .i64 c1, v1, .int .i64 r2, .int .i64 c2, v2] 31) (h0 : Ints w v0 x0) (h1 : Ints w v1 x1) (h2 : Ints w v2 x2) : Calls Try.prog 57 #[.agg #[.int .i64 r0, .int .i64 c0, v0], .slice (some ⟨g, 0, none⟩) 2 2] w (MatPost (addM (addM ⟨r0, c0, x0⟩ ⟨r1, c1, x1⟩) ⟨r2, c2, x2⟩) w) := by
  obtain ⟨s0, n0, rfl, hm9, hc9⟩ := id h0
  clear hm9 hc9
  have H0 := Kept.mk h0
  clear h0
  obtain ⟨s1, n1, rfl, hm9, hc9⟩ := id h1
  clear hm9 hc9
  have H1 := Kept.mk h1
  clear h1
  obtain ⟨s2, n2, rfl, hm9, hc9⟩ := id h2
  clear hm9 hc9
  have H2 := Kept.mk h2
  clear h2
  have KG := Kept.mk hg
  clear hg
  have A1 := Kept.mk (fun (u : Value) (w' : World) (h : Ints w' u x0) (k : Ints w' (.slice s1 x1.length n1) x1) => impl_AddMatrices r0 c0 r1 c1 u _ x0 x1 w' h k)
  unfold MatPost at A1
  generalize addM ⟨r0, c0, x0⟩ ⟨r1, c1, x1⟩ = D1 at *
  obtain ⟨d1, e1, y1⟩ := D1
  simp only at A1 ⊢
  have A2 := Kept.mk (fun (u : Value) (w' : World) (h : Ints w' u y1) (k : Ints w' (.slice s2 x2.length n2) x2) => impl_AddMatrices d1 e1 r2 c2 u _ y1 x2 w' h k)
  unfold MatPost at A2
  generalize addM ⟨d1, e1, y1⟩ ⟨r2, c2, x2⟩ = D2 at *
  obtain ⟨d2, e2, y2⟩ := D2
  simp only at A2 ⊢
  unfold MatPost
  simp only
  have S := Kept.mk (St.start w)
  go_enter Try.func57, Try.ntmps57
  go_wp2_with (first | (refine bxiM (L := []) S.out ?_; clear S; intro b2 w9 S) | (refine aliM (L := [_]) S.out ?_; clear S; intro b4 w9 S) | (refine aliM (L := [_, _]) S.out ?_; clear S; intro b5 w9 S) | (refine ldiM S.out ?_) | (refine stiM S.out ?_; clear S; intro w9 S) | (refine wpList_want rfl rfl ?_; dsimp only) | fail)
  go_loopw [11] (fun i wr => (i = .int .i64 (0 : Nat) ∧ St none w wr [⟨b5, 31, [.int .i64 r0, .int .i64 c0, .slice s0 x0.length n0]⟩, ⟨b4, 31, [.int .i64 0, .int .i64 0, .slice none 0 0]⟩, ⟨b2, 31, [.int .i64 r0, .int .i64 c0, .slice s0 x0.length n0]⟩] [] []) ∨ (i = .int .i64 (1 : Nat) ∧ ∃ p m, St none w wr [⟨b5, 31, [.int .i64 d1, .int .i64 e1, .slice p y1.length m]⟩, ⟨b4, 31, [.int .i64 0, .int .i64 0, .slice none 0 0]⟩, ⟨b2, 31, [.int .i64 r0, .int .i64 c0, .slice s0 x0.length n0]⟩] [.slice p y1.length m] [y1]) ∨ (i = .int .i64 (2 : Nat) ∧ ∃ p m, St none w wr [⟨b5, 31, [.int .i64 d2, .int .i64 e2, .slice p y2.length m]⟩, ⟨b4, 31, [.int .i64 0, .int .i64 0, .slice none 0 0]⟩, ⟨b2, 31, [.int .i64 r0, .int .i64 c0, .slice s0 x0.length n0]⟩] [.slice p y2.length m] [y2])) (fun i _ => 2 - (intOf i).toNat)
  case atStart => exact .inl ⟨rfl, S.out⟩
  case round =>
    clear S
    obtain ⟨rfl, S⟩ | ⟨rfl, p, m, S⟩ | ⟨rfl, p, m, S⟩ := hrel
    · have S := Kept.mk S
      obtain ⟨a0, a1, a2, a3, a4, a5⟩ := (KG.out.keep S.out.ext).sixC
      go_wp2_with (first | (refine aliM S.out ?_; clear S; intro b7 w9 S) | (refine ldiM S.out ?_) | (refine stiM S.out ?_; clear S; intro w9 S) | (refine wpList_want rfl rfl ?_; dsimp only) | fail)
      (with_reducible refine (A1.out _ _ (H0.out.keep S.out.ext) (H1.out.keep S.out.ext)).mono ?_)
      rintro e u9 ⟨v9, rfl, o9, x9⟩
      replace S := Kept.mk (S.out.made o9 x9)
      clear x9
      obtain ⟨p9, m9, hu9, -, -⟩ := id o9.ints
      try simp only at hu9
      subst hu9
      clear o9
      go_wp2_with (first | (refine aliM S.out ?_; clear S; intro b7 w9 S) | (refine ldiM S.out ?_) | (refine stiM S.out ?_; clear S; intro w9 S) | (refine wpList_want rfl rfl ?_; dsimp only) | fail)
      go_roundw
      case rel => exact .inr (.inl (⟨rfl, _, _, (S.out.sub (List.sublist_cons_self _ _) (by simp) ⟨S.out.own, trivial⟩)⟩))
      case measure => simp [intOf]
    · have S := Kept.mk S
      obtain ⟨a0, a1, a2, a3, a4, a5⟩ := (KG.out.keep S.out.ext).sixC
      go_wp2_with (first | (refine aliM S.out ?_; clear S; intro b7 w9 S) | (refine ldiM S.out ?_) | (refine stiM S.out ?_; clear S; intro w9 S) | (refine wpList_want rfl rfl ?_; dsimp only) | fail)
      (with_reducible refine (A2.out _ _ S.out.own.ints (H2.out.keep S.out.ext)).mono ?_)
      rintro e u9 ⟨v9, rfl, o9, x9⟩
      replace S := Kept.mk (S.out.made o9 x9)
      clear x9
      obtain ⟨p9, m9, hu9, -, -⟩ := id o9.ints
      try simp only at hu9
      subst hu9
      clear o9
      go_wp2_with (first | (refine aliM S.out ?_; clear S; intro b7 w9 S) | (refine ldiM S.out ?_) | (refine stiM S.out ?_; clear S; intro w9 S) | (refine wpList_want rfl rfl ?_; dsimp only) | fail)
      go_roundw
      case rel => exact .inr (.inr (⟨rfl, _, _, (S.out.sub (List.sublist_cons_self _ _) (by simp) ⟨S.out.own, trivial⟩)⟩))
      case measure => simp [intOf]
    · have S := Kept.mk S
      go_wp2_with (first | (refine aliM S.out ?_; clear S; intro b7 w9 S) | (refine ldiM S.out ?_) | (refine stiM S.out ?_; clear S; intro w9 S) | (refine wpList_want rfl rfl ?_; dsimp only) | fail)
      exact bodyPost_ret (v := .agg #[.int .i64 d2, .int .i64 e2, .slice p y2.length m]) (by exact res1 rfl (by exact (rsiM S.out))) rfl ⟨_, rfl, S.out.own, S.out.ext⟩
set_option maxHeartbeats 4000000 in
set_option maxRecDepth 4000 in
theorem impl_sumMatrices3 (r0 c0 r1 c1 r2 c2 r3 c3 : Int) (v0 v1 v2 v3 : Value) (x0 x1 x2 x3 : List Int) (g : Nat) (w : World) (hg : Blk w g #[.int .i64 r1, .int .i64 c1, v1, .int .i64 r2, .int .i64 c2, v2, .int .i64 r3, .int .i64 c3, v3] 31) (h0 : Ints w v0 x0) (h1 : Ints w v1 x1) (h2 : Ints w v2 x2) (h3 : Ints w v3 x3) : Calls Try.prog 57 #[.agg #[.int .i64 r0, .int .i64 c0, v0], .slice (some ⟨g, 0, none⟩) 3 3] w (MatPost (addM (addM (addM ⟨r0, c0, x0⟩ ⟨r1, c1, x1⟩) ⟨r2, c2, x2⟩) ⟨r3, c3, x3⟩) w) := by
  obtain ⟨s0, n0, rfl, hm9, hc9⟩ := id h0
  clear hm9 hc9
  have H0 := Kept.mk h0
  clear h0
  obtain ⟨s1, n1, rfl, hm9, hc9⟩ := id h1
  clear hm9 hc9
  have H1 := Kept.mk h1
  clear h1
  obtain ⟨s2, n2, rfl, hm9, hc9⟩ := id h2
  clear hm9 hc9
  have H2 := Kept.mk h2
  clear h2
  obtain ⟨s3, n3, rfl, hm9, hc9⟩ := id h3
  clear hm9 hc9
  have H3 := Kept.mk h3
  clear h3
  have KG := Kept.mk hg
  clear hg
  have A1 := Kept.mk (fun (u : Value) (w' : World) (h : Ints w' u x0) (k : Ints w' (.slice s1 x1.length n1) x1) => impl_AddMatrices r0 c0 r1 c1 u _ x0 x1 w' h k)
  unfold MatPost at A1
  generalize addM ⟨r0, c0, x0⟩ ⟨r1, c1, x1⟩ = D1 at *
  obtain ⟨d1, e1, y1⟩ := D1
  simp only at A1 ⊢
  have A2 := Kept.mk (fun (u : Value) (w' : World) (h : Ints w' u y1) (k : Ints w' (.slice s2 x2.length n2) x2) => impl_AddMatrices d1 e1 r2 c2 u _ y1 x2 w' h k)
  unfold MatPost at A2
  generalize addM ⟨d1, e1, y1⟩ ⟨r2, c2, x2⟩ = D2 at *
  obtain ⟨d2, e2, y2⟩ := D2
  simp only at A2 ⊢
  have A3 := Kept.mk (fun (u : Value) (w' : World) (h : Ints w' u y2) (k : Ints w' (.slice s3 x3.length n3) x3) => impl_AddMatrices d2 e2 r3 c3 u _ y2 x3 w' h k)
  unfold MatPost at A3
  generalize addM ⟨d2, e2, y2⟩ ⟨r3, c3, x3⟩ = D3 at *
  obtain ⟨d3, e3, y3⟩ := D3
  simp only at A3 ⊢
  unfold MatPost
  simp only
  have S := Kept.mk (St.start w)
  go_enter Try.func57, Try.ntmps57
  go_wp2_with (first | (refine bxiM (L := []) S.out ?_; clear S; intro b2 w9 S) | (refine aliM (L := [_]) S.out ?_; clear S; intro b4 w9 S) | (refine aliM (L := [_, _]) S.out ?_; clear S; intro b5 w9 S) | (refine ldiM S.out ?_) | (refine stiM S.out ?_; clear S; intro w9 S) | (refine wpList_want rfl rfl ?_; dsimp only) | fail)
  go_loopw [11] (fun i wr => (i = .int .i64 (0 : Nat) ∧ St none w wr [⟨b5, 31, [.int .i64 r0, .int .i64 c0, .slice s0 x0.length n0]⟩, ⟨b4, 31, [.int .i64 0, .int .i64 0, .slice none 0 0]⟩, ⟨b2, 31, [.int .i64 r0, .int .i64 c0, .slice s0 x0.length n0]⟩] [] []) ∨ (i = .int .i64 (1 : Nat) ∧ ∃ p m, St none w wr [⟨b5, 31, [.int .i64 d1, .int .i64 e1, .slice p y1.length m]⟩, ⟨b4, 31, [.int .i64 0, .int .i64 0, .slice none 0 0]⟩, ⟨b2, 31, [.int .i64 r0, .int .i64 c0, .slice s0 x0.length n0]⟩] [.slice p y1.length m] [y1]) ∨ (i = .int .i64 (2 : Nat) ∧ ∃ p m, St none w wr [⟨b5, 31, [.int .i64 d2, .int .i64 e2, .slice p y2.length m]⟩, ⟨b4, 31, [.int .i64 0, .int .i64 0, .slice none 0 0]⟩, ⟨b2, 31, [.int .i64 r0, .int .i64 c0, .slice s0 x0.length n0]⟩] [.slice p y2.length m] [y2]) ∨ (i = .int .i64 (3 : Nat) ∧ ∃ p m, St none w wr [⟨b5, 31, [.int .i64 d3, .int .i64 e3, .slice p y3.length m]⟩, ⟨b4, 31, [.int .i64 0, .int .i64 0, .slice none 0 0]⟩, ⟨b2, 31, [.int .i64 r0, .int .i64 c0, .slice s0 x0.length n0]⟩] [.slice p y3.length m] [y3])) (fun i _ => 3 - (intOf i).toNat)
  case atStart => exact .inl ⟨rfl, S.out⟩
  case round =>
    clear S
    obtain ⟨rfl, S⟩ | ⟨rfl, p, m, S⟩ | ⟨rfl, p, m, S⟩ | ⟨rfl, p, m, S⟩ := hrel
    · have S := Kept.mk S
      obtain ⟨a0, a1, a2, a3, a4, a5, a6, a7, a8⟩ := (KG.out.keep S.out.ext).nineC
      go_wp2_with (first | (refine aliM S.out ?_; clear S; intro b7 w9 S) | (refine ldiM S.out ?_) | (refine stiM S.out ?_; clear S; intro w9 S) | (refine wpList_want rfl rfl ?_; dsimp only) | fail)
      (with_reducible refine (A1.out _ _ (H0.out.keep S.out.ext) (H1.out.keep S.out.ext)).mono ?_)
      rintro e u9 ⟨v9, rfl, o9, x9⟩
      replace S := Kept.mk (S.out.made o9 x9)
      clear x9
      obtain ⟨p9, m9, hu9, -, -⟩ := id o9.ints
      try simp only at hu9
      subst hu9
      clear o9
      go_wp2_with (first | (refine aliM S.out ?_; clear S; intro b7 w9 S) | (refine ldiM S.out ?_) | (refine stiM S.out ?_; clear S; intro w9 S) | (refine wpList_want rfl rfl ?_; dsimp only) | fail)
      go_roundw
      case rel => exact .inr (.inl (⟨rfl, _, _, (S.out.sub (List.sublist_cons_self _ _) (by simp) ⟨S.out.own, trivial⟩)⟩))
      case measure => simp [intOf]
    · have S := Kept.mk S
      obtain ⟨a0, a1, a2, a3, a4, a5, a6, a7, a8⟩ := (KG.out.keep S.out.ext).nineC
      go_wp2_with (first | (refine aliM S.out ?_; clear S; intro b7 w9 S) | (refine ldiM S.out ?_) | (refine stiM S.out ?_; clear S; intro w9 S) | (refine wpList_want rfl rfl ?_; dsimp only) | fail)
      (with_reducible refine (A2.out _ _ S.out.own.ints (H2.out.keep S.out.ext)).mono ?_)
      rintro e u9 ⟨v9, rfl, o9, x9⟩
      replace S := Kept.mk (S.out.made o9 x9)
      clear x9
      obtain ⟨p9, m9, hu9, -, -⟩ := id o9.ints
      try simp only at hu9
      subst hu9
      clear o9
      go_wp2_with (first | (refine aliM S.out ?_; clear S; intro b7 w9 S) | (refine ldiM S.out ?_) | (refine stiM S.out ?_; clear S; intro w9 S) | (refine wpList_want rfl rfl ?_; dsimp only) | fail)
      go_roundw
      case rel => exact .inr (.inr (.inl (⟨rfl, _, _, (S.out.sub (List.sublist_cons_self _ _) (by simp) ⟨S.out.own, trivial⟩)⟩)))
      case measure => simp [intOf]
    · have S := Kept.mk S
      obtain ⟨a0, a1, a2, a3, a4, a5, a6, a7, a8⟩ := (KG.out.keep S.out.ext).nineC
      go_wp2_with (first | (refine aliM S.out ?_; clear S; intro b7 w9 S) | (refine ldiM S.out ?_) | (refine stiM S.out ?_; clear S; intro w9 S) | (refine wpList_want rfl rfl ?_; dsimp only) | fail)
      (with_reducible refine (A3.out _ _ S.out.own.ints (H3.out.keep S.out.ext)).mono ?_)
      rintro e u9 ⟨v9, rfl, o9, x9⟩
      replace S := Kept.mk (S.out.made o9 x9)
      clear x9
      obtain ⟨p9, m9, hu9, -, -⟩ := id o9.ints
      try simp only at hu9
      subst hu9
      clear o9
      go_wp2_with (first | (refine aliM S.out ?_; clear S; intro b7 w9 S) | (refine ldiM S.out ?_) | (refine stiM S.out ?_; clear S; intro w9 S) | (refine wpList_want rfl rfl ?_; dsimp only) | fail)
      go_roundw
      case rel => exact .inr (.inr (.inr (⟨rfl, _, _, (S.out.sub (List.sublist_cons_self _ _) (by simp) ⟨S.out.own, trivial⟩)⟩)))
      case measure => simp [intOf]
    · have S := Kept.mk S
      go_wp2_with (first | (refine aliM S.out ?_; clear S; intro b7 w9 S) | (refine ldiM S.out ?_) | (refine stiM S.out ?_; clear S; intro w9 S) | (refine wpList_want rfl rfl ?_; dsimp only) | fail)
      exact bodyPost_ret (v := .agg #[.int .i64 d3, .int .i64 e3, .slice p y3.length m]) (by exact res1 rfl (by exact (rsiM S.out))) rfl ⟨_, rfl, S.out.own, S.out.ext⟩
end Go.Proofs.Ytkkdikoknegpjaa
