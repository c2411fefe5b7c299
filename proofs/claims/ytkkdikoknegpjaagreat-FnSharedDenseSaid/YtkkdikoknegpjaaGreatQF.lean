import Derived.Test.YtkkdikoknegpjaaGreatKF
import Derived.Test.YtkkdikoknegpjaaGreatKI
import Derived.Test.YtkkdikoknegpjaaGreatSPair
import Derived.Test.YtkkdikoknegpjaaGreatKW
import Derived.Test.YtkkdikoknegpjaaGreatQG
import Derived.Test.YtkkdikoknegpjaaGreatQE
namespace Go.Proofs.YtkkdikoknegpjaaGreat
set_option linter.unusedSimpArgs false
set_option linter.unusedVariables false
open Go.RowKit
set_option maxHeartbeats 2000000 in
set_option maxRecDepth 4000 in
theorem impl_joinedLists2 (v u : Value) (xs ys : List Int) (g : Nat) (w : World) (hg : Blk w g #[v, u] 22) (h1 : Arg w v xs) (h2 : Arg w u ys) : Calls Tryz.prog 94 #[.slice (some ⟨g, 0, none⟩) 2 2] w (OwnPost (xs ++ ys) w) := by
 have L1 := kp h1.len
 have L2 := kp h2.len
 obtain ⟨s1, n1, rfl, hm1, hc1⟩ := id h1.ints
 obtain ⟨s2, n2, rfl, hm2, hc2⟩ := id h2.ints
 clear hm1 hc1 hm2 hc2
 have H1 := kp h1
 have H2 := kp h2
 have KG := kp hg
 clear h1 h2 hg
 unfold OwnPost
 have S := kp ((St.start w).made (Own.nil _ _) (Ext.refl _))
 go_enter Tryz.func94, Tryz.ntmps94
 go_wp2_with (fail)
 go_loopw [3, 5, 8] (fun q _ i wr => (i = .int .i64 (0 : Nat) ∧ St none w wr [] [q] [[]]) ∨ (i = .int .i64 (1 : Nat) ∧ St none w wr [] [q] [[] ++ xs]) ∨ (i = .int .i64 (2 : Nat) ∧ St none w wr [] [q] [[] ++ xs ++ ys])) (fun _ _ i _ => 2 - (intOf i).toNat)
 case atStart => exact .inl ⟨rfl, S.o⟩
 clear S
 rcases hrel with ⟨rfl, S⟩ | ⟨rfl, S⟩ | ⟨rfl, S⟩
 ·have S := kp S
  obtain ⟨a0, a1⟩ := (KG.out.keep S.o.ext).two
  go_wp2_with (at_builtin; refine wpList_append_ints rfl _ _ rfl w.heap.size _ [] rfl S.o.own _ xs rfl (H1.out.ints.keep S.o.ext) H1.out.fit.nil (by have := L1.out; have := L2.out; first | omega | (simp; omega)) S.o.size ?_; intro v' w8 o8 t8; have S9 := kp (S.o.grown t8 o8 (by simp)); clear S t8 o8; have S := S9; clear S9)
  go_roundw
  case rel => exact .inr (.inl ⟨rfl, S.o⟩)
  case measure => simp [intOf]
 ·have S := kp S
  obtain ⟨a0, a1⟩ := (KG.out.keep S.o.ext).two
  go_wp2_with (at_builtin; refine wpList_append_ints rfl _ _ rfl w.heap.size _ ([] ++ xs) rfl S.o.own _ ys rfl (H2.out.ints.keep S.o.ext) H2.out.fit.nil (by have := L1.out; have := L2.out; first | omega | (simp; omega)) S.o.size ?_; intro v' w8 o8 t8; have S9 := kp (S.o.grown t8 o8 (by simp)); clear S t8 o8; have S := S9; clear S9)
  go_roundw
  case rel => exact .inr (.inr ⟨rfl, S.o⟩)
  case measure => simp [intOf]
 have S := kp S
 go_wp2
 go_ret
 exact ⟨_, rfl, by have h := S.o.own; simpa using h, S.o.ext⟩
structure TrM.short (t : TrM) : Prop where
 l0 : t.a.f.xs.length ≤ 1048576
 l1 : t.a.s.xs.length ≤ 1048576
 l2 : t.b.f.xs.length ≤ 1048576
 l3 : t.b.s.xs.length ≤ 1048576
 l4 : t.c.f.xs.length ≤ 1048576
 l5 : t.c.s.xs.length ≤ 1048576
theorem tripN_short {R K C : Nat} (hR : Side R) (hK : Side K) (hC : Side C) (s : Int) : (tripN R K C s).short := by
 have a := Nat.le_trans (side_mul' hR hK) (show 25 ≤ 1048576 by decide)
 have b := Nat.le_trans (side_mul' hK hC) (show 25 ≤ 1048576 by decide)
 have c := Nat.le_trans (side_mul' hR hC) (show 25 ≤ 1048576 by decide)
 refine ⟨?_, ?_, ?_, ?_, ?_, pairM_len _ _ _⟩ <;> (simp only [tripN, tripA, tripB, tripC, rlist_len]; assumption)
theorem tripM_short (r k c s : Int) : (tripM r k c s).short := by
 unfold tripM
 split
 ·rename_i h
  simp only [mkOkM, Bool.and_eq_true] at h
  obtain ⟨R, rfl, hR⟩ := Side.of_int h.1.1.1
  obtain ⟨K, rfl, hK⟩ := Side.of_int h.1.1.2
  obtain ⟨C, rfl, hC⟩ := Side.of_int h.1.2
  exact tripN_short hR hK hC s
 exact ⟨by simp [trZ, shZ, matZ], by simp [trZ, shZ, matZ], by simp [trZ, shZ, matZ], by simp [trZ, shZ, matZ], by simp [trZ, shZ, matZ], by simp [trZ, shZ, matZ]⟩
end Go.Proofs.YtkkdikoknegpjaaGreat
