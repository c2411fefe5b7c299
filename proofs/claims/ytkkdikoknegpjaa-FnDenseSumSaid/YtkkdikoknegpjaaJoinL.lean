/- Two lists joined. -/
import Derived.Test.YtkkdikoknegpjaaKF
import Derived.Test.YtkkdikoknegpjaaKI
import Derived.Test.YtkkdikoknegpjaaSPair
namespace Go.Proofs.Ytkkdikoknegpjaa
set_option linter.unusedSimpArgs false
set_option linter.unusedVariables false
open Go.RowKit

set_option maxHeartbeats 2000000 in
set_option maxRecDepth 4000 in
theorem impl_joinedLists2 (v u : Value) (xs ys : List Int) (g : Nat) (w : World) (hg : Blk w g #[v, u] 22) (h1 : Arg w v xs) (h2 : Arg w u ys) : Calls Try.prog 76 #[.slice (some ⟨g, 0, none⟩) 2 2] w (OwnPost (xs ++ ys) w) := by
  have L1 := Kept.mk h1.len
  have L2 := Kept.mk h2.len
  obtain ⟨s1, n1, rfl, hm1, hc1⟩ := id h1.ints
  obtain ⟨s2, n2, rfl, hm2, hc2⟩ := id h2.ints
  clear hm1 hc1 hm2 hc2
  have H1 := Kept.mk h1
  have H2 := Kept.mk h2
  have KG := Kept.mk hg
  clear h1 h2 hg
  unfold OwnPost
  have S := Kept.mk ((St.start w).made (Own.nil _ _) (Ext.refl _))
  go_enter Try.func76, Try.ntmps76
  go_wp2_with (fail)
  go_loopw [3, 5, 8] (fun q _ i wr => (i = .int .i64 (0 : Nat) ∧ St none w wr [] [q] [[]]) ∨ (i = .int .i64 (1 : Nat) ∧ St none w wr [] [q] [[] ++ xs]) ∨ (i = .int .i64 (2 : Nat) ∧ St none w wr [] [q] [[] ++ xs ++ ys])) (fun _ _ i _ => 2 - (intOf i).toNat)
  case atStart => exact .inl ⟨rfl, S.out⟩
  case round =>
    clear S
    rcases hrel with ⟨rfl, S⟩ | ⟨rfl, S⟩ | ⟨rfl, S⟩
    · have S := Kept.mk S
      obtain ⟨a0, a1⟩ := (KG.out.keep S.out.ext).two
      go_wp2_with (at_builtin; refine wpList_append_ints rfl _ _ rfl w.heap.size _ [] rfl S.out.own _ xs rfl (H1.out.ints.keep S.out.ext) H1.out.fit.nil (by have := L1.out; have := L2.out; first | omega | (simp; omega)) S.out.size ?_; intro v' w8 o8 t8; have S9 := Kept.mk (S.out.grown t8 o8 (by simp)); clear S t8 o8; have S := S9; clear S9)
      go_roundw
      case rel => exact .inr (.inl ⟨rfl, S.out⟩)
      case measure => simp [intOf]

    · have S := Kept.mk S
      obtain ⟨a0, a1⟩ := (KG.out.keep S.out.ext).two
      go_wp2_with (at_builtin; refine wpList_append_ints rfl _ _ rfl w.heap.size _ ([] ++ xs) rfl S.out.own _ ys rfl (H2.out.ints.keep S.out.ext) H2.out.fit.nil (by have := L1.out; have := L2.out; first | omega | (simp; omega)) S.out.size ?_; intro v' w8 o8 t8; have S9 := Kept.mk (S.out.grown t8 o8 (by simp)); clear S t8 o8; have S := S9; clear S9)
      go_roundw
      case rel => exact .inr (.inr ⟨rfl, S.out⟩)
      case measure => simp [intOf]

    · have S := Kept.mk S
      go_wp2
      go_ret
      exact ⟨_, rfl, by have h := S.out.own; simpa using h, S.out.ext⟩
end Go.Proofs.Ytkkdikoknegpjaa
