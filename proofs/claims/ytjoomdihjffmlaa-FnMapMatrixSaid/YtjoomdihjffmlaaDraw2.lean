/- Ring numbers, shares and seeds that are drawn from a code. -/
import Derived.Test.YtjoomdihjffmlaaDraw
namespace Go.Proofs.Ytjoomdihjffmlaa
set_option linter.unusedSimpArgs false
set_option linter.unusedVariables false
open Go.RowKit

theorem Mod.pick {g : Nat} {w w' : World} (m : Mod g w w') {b : Nat} {cs : Array Value} {T : TypeId} (k : Blk w b cs T) (hne : b ≠ g) {x : Nat} {n : Int} (hx : (x : Int) < n) (lo hi : Int)
    (hall : ∀ i : Nat, (i : Int) < n → ∃ v : Int, cs[i]? = some (.int .i64 v) ∧ lo ≤ v ∧ v ≤ hi) : ∃ v : Int, w'.cell? ⟨b, x, none⟩ = some (.int .i64 v) ∧ lo ≤ v ∧ v ≤ hi := by
  obtain ⟨v, h1, h2, h3⟩ := hall x hx
  exact ⟨v, by rw [(m.blk k hne).cell]; exact h1, h2, h3⟩
set_option maxHeartbeats 2000000 in
theorem ring20 (g P : Nat) (n : Int) (HN : Bnd n) (HP : Room (P + 6)) (w : World) (hr : Rdr g P w) : Calls Try.prog 89 #[.pointer (some ⟨g, 0, none⟩), .int .i64 n] w (Drawn g (P + 6) IsNum w) := by

  go_enter Try.func89, Try.ntmps89
  go_wp2_with (go_at_call 61; (with_reducible refine (pick g _ _ (HP.le (by omega)) _ (hr)).mono ?_); rintro e w1 ⟨v, rfl, ⟨x1, rfl, h1, z1⟩, hr1, hm1⟩)
  have l1 : (x1 : Int) < _ := h1 (by omega)
  clear h1 z1
  go_wp2_with (go_at_call 61; (with_reducible refine (pick g _ _ (HP.le (by omega)) _ (hr1)).mono ?_); rintro e w2 ⟨v, rfl, ⟨x2, rfl, h2, z2⟩, hr2, hm2⟩)
  have l2 : (x2 : Int) < _ := h2 (by omega)
  clear h2 z2
  go_wp2_with (first | (go_at_call 48; (with_reducible refine (spec_l1Ring _ _).mono ?_); rintro e wr ⟨rfl, rfl⟩) | (go_at_call 61; (with_reducible refine (pick g _ _ (HP.le (by omega)) _ (hr2)).mono ?_); rintro e w3 ⟨v, rfl, ⟨x3, rfl, h3, z3⟩, hr3, hm3⟩))
  have l3 : (x3 : Int) < _ := h3 (by omega)
  clear h3 z3
  go_wp2_with (fail)
  have rb := And.intro (ring_lo ((x2 : Int) - 128)) (ring_hi ((x2 : Int) - 128))
  (with_reducible refine (pick g _ _ (HP.le (by omega)) _ (Rdr.keep hr3 ((Ext.refl w3).alloc _))).mono ?_)
  rintro e w4 ⟨v, rfl, ⟨x4, rfl, h4, z4⟩, hr4, hm4⟩
  have l4 : (x4 : Int) < 8 := h4 (by omega)
  obtain ⟨y4, hy4, lo4, hi4⟩ := hm4.pick (Blk.new _ _ _) (by have := hr3.lt; omega) l4 (-1) 1099511627776 (by
    intro i hi
    have hi' : i = 0 ∨ i = 1 ∨ i = 2 ∨ i = 3 ∨ i = 4 ∨ i = 5 ∨ i = 6 ∨ i = 7 := by omega
    clear hi
    rcases hi' with rfl | rfl | rfl | rfl | rfl | rfl | rfl | rfl <;> exact ⟨_, rfl, by omega, by omega⟩)
  replace hm4 := (Mod.of_ext ((Ext.refl w3).alloc _)).trans hm4
  have N4 : In40 y4 := ⟨lo4, hi4⟩
  clear h4 z4 lo4 hi4
  replace hm4 := ((hm1.trans hm2).trans hm3).trans hm4
  clear hm1 hm2 hm3
  clear rb l1 l2 l3
  go_wp2_with (fail)
  (with_reducible refine (odd g _ _ HN (HP.le (by omega)) _ (hr4)).mono ?_)
  rintro e w5 ⟨v, rfl, ⟨b5, rfl⟩, hr5, hm5⟩
  replace hm5 := hm4.trans hm5
  clear hm4
  cases b5
  · go_wp2
    go_ret
    exact ⟨_, rfl, ⟨_, rfl, N4⟩, hr5.mono (by omega) HP, hm5⟩
  · go_wp2_with (fail)
    (with_reducible refine (pick g _ _ (HP.le (by omega)) _ (Rdr.keep hr5 ((Ext.refl w5).alloc _))).mono ?_)
    rintro e w6 ⟨v, rfl, ⟨x6, rfl, h6, z6⟩, hr6, hm6⟩
    have l6 : (x6 : Int) < 3 := h6 (by omega)
    obtain ⟨y6, hy6, lo6, hi6⟩ := hm6.pick (Blk.new _ _ _) (by have := hr5.lt; omega) l6 (-1) 1099511627776 (by
      intro i hi
      have hi' : i = 0 ∨ i = 1 ∨ i = 2 := by omega
      clear hi
      rcases hi' with rfl | rfl | rfl <;> exact ⟨_, rfl, by omega, by omega⟩)
    replace hm6 := (Mod.of_ext ((Ext.refl w5).alloc _)).trans hm6
    have N6 : In40 y6 := ⟨lo6, hi6⟩
    clear h6 z6 lo6 hi6

    go_wp2
    go_ret
    exact ⟨_, rfl, ⟨_, rfl, N6⟩, hr6.mono (by omega) HP, hm5.trans hm6⟩

end Go.Proofs.Ytjoomdihjffmlaa
