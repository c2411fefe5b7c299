/- Sides that are drawn from a code. -/
import Derived.Test.YtkkdikoknegpjaaKC
import Derived.Test.YtkkdikoknegpjaaPairT
namespace Go.Proofs.Ytkkdikoknegpjaa
set_option linter.unusedSimpArgs false
set_option linter.unusedVariables false
open Go.RowKit
/-- A side. -/
def IsSide (v : Value) : Prop := ∃ n : Nat, v = .int .i64 n ∧ Side n

set_option maxHeartbeats 2000000 in
theorem side20 (g P : Nat) (HP : Room (P + 2)) (w : World) (hr : Rdr g P w) : Calls Try.prog 59 #[.pointer (some ⟨g, 0, none⟩)] w (Drawn g (P + 2) IsSide w) := by
  go_enter Try.func59, Try.ntmps59
  go_wp2_with (fail)
  (with_reducible refine (pick g _ _ (HP.le (by omega)) _ (hr)).mono ?_)
  rintro e w1 ⟨v, rfl, ⟨x1, rfl, h1, z1⟩, hr1, hm1⟩
  have l1 : (x1 : Int) < 3 := h1 (by omega)
  clear h1 z1
  have W1 : wrap64 (1 + (x1 : Int)) = ((x1 + 1 : Nat) : Int) := by unfold wrap64; omega
  obtain ⟨n, hn⟩ : ∃ n, n = x1 + 1 := ⟨_, rfl⟩
  rw [← hn] at W1
  have sn : Kept (Side n) := ⟨⟨by omega, by omega⟩⟩
  clear hn l1
  go_wp2_with (fail)
  (with_reducible refine (pick g _ _ (HP.le (by omega)) _ (Rdr.keep hr1 ((Ext.refl w1).alloc _))).mono ?_)
  rintro e w2 ⟨v, rfl, ⟨x2, rfl, h2, z2⟩, hr2, hm2⟩
  have l2 : (x2 : Int) < 12 := h2 (by omega)
  clear h2 z2
  have hl1 := hr1.lt
  have kA := hm2.blk (Blk.new w1 _ _) (by omega)
  obtain ⟨a0, a1⟩ := kA.two
  clear kA
  have HM := Kept.mk (hm1.trans ((Mod.of_ext ((Ext.refl w1).alloc _)).trans hm2))
  clear hm1 hm2
  have hq : wrap64 ((x2 : Int) / 11) = 0 ∨ wrap64 ((x2 : Int) / 11) = 1 := by unfold wrap64; omega
  clear l2
  rcases hq with hq | hq
  · go_wp2
    go_ret
    exact ⟨_, rfl, ⟨n, rfl, sn.out⟩, hr2.mono (by omega) HP, HM.out⟩
  · go_wp2
    go_ret
    exact ⟨_, rfl, ⟨5, rfl, ⟨by omega, by omega⟩⟩, hr2.mono (by omega) HP, HM.out⟩
end Go.Proofs.Ytkkdikoknegpjaa
