import Derived.Test.YtkkdikoknegpjaaGreatQA
import Derived.Test.YtkkdikoknegpjaaGreatQB
import Derived.Test.YtkkdikoknegpjaaGreatPairT
namespace Go.Proofs.YtkkdikoknegpjaaGreat
set_option linter.unusedSimpArgs false
set_option linter.unusedVariables false
open Go.RowKit
set_option maxHeartbeats 2000000 in
theorem odd0 (g P : Nat) (hp : Room (P + 1)) (w : World) (hr : Rdr g P w) : Calls Tryz.prog 44 #[.pointer (some ⟨g, 0, none⟩), .int .i64 0] w fun e w' => e = .returned (.bool false) ∧ w' = w := by
 go_enter Tryz.func44, Tryz.ntmps44
 go_wp2_with (fail)
 go_ret
 exact ⟨rfl, rfl⟩
def IsSd (n : Int) (v : Value) : Prop := ∃ x : Int, v = .int .i64 x ∧ (n = 0 → Seed x)
theorem seed_at {w : World} {b z : Nat} {T : TypeId} {u : Int} (hu : 1 ≤ u) (hu' : u ≤ 2147483646) (k : Blk w b #[.int .i64 u, .int .i64 1, .int .i64 2147483646] T) (hz : z ≤ 2) : ∃ x : Int, w.cell? ⟨b, z, none⟩ = some (.int .i64 x) ∧ Seed x := by
 have hz' : z = 0 ∨ z = 1 ∨ z = 2 := by omega
 rw [k.cell]
 rcases hz' with rfl | rfl | rfl
 ·exact ⟨u, rfl, ⟨hu, hu'⟩⟩
 ·exact ⟨1, rfl, ⟨by omega, by omega⟩⟩
 exact ⟨2147483646, rfl, ⟨by omega, by omega⟩⟩
set_option maxHeartbeats 2000000 in
theorem seed20 (g P : Nat) (n : Int) (HN : Bnd n) (HP : Room (P + 4)) (w : World) (hr : Rdr g P w) : Calls Tryz.prog 45 #[.pointer (some ⟨g, 0, none⟩), .int .i64 n] w (Drawn g (P + 4) (IsSd n) w) := by
 by_cases hn : n = 0
 ·subst hn
  go_enter Tryz.func45, Tryz.ntmps45
  go_wp2_with (fail)
  (with_reducible refine (odd0 g P (HP.le (by omega)) _ hr).mono ?_)
  rintro e w1 ⟨rfl, rfl⟩
  go_wp2_with (fail)
  (with_reducible refine (pick g _ _ (HP.le (by omega)) _ (hr)).mono ?_)
  rintro e w3 ⟨v, rfl, ⟨x3, rfl, h3, z3⟩, hr3, hm3⟩
  have l3 : (x3 : Int) < _ := h3 (by omega)
  clear h3 z3
  have W3 : wrap64 ((x3 : Int) * 8000000) = (x3 : Int) * 8000000 := by unfold wrap64; omega
  have W4 : wrap64 (1 + (x3 : Int) * 8000000) = 1 + (x3 : Int) * 8000000 := by unfold wrap64; omega
  go_wp2_with (fail)
  clear W3 W4
  have b3 := kp (show 1 ≤ 1 + (x3 : Int) * 8000000 ∧ 1 + (x3 : Int) * 8000000 ≤ 2147483646 by omega)
  clear l3
  generalize 1 + (x3 : Int) * 8000000 = u at *
  (with_reducible refine (pick g _ _ (HP.le (by omega)) _ (Rdr.keep hr3 (((Ext.refl w3).alloc _).alloc _))).mono ?_)
  rintro e w4 ⟨v, rfl, ⟨x4, rfl, h4, z4⟩, hr4, hm4⟩
  have l4 : (x4 : Int) < 6 := h4 (by omega)
  clear h4 z4
  have hl3 := hr3.lt
  have kA := hm4.blk ((Blk.new w3 _ _).old _) (by omega)
  obtain ⟨y, hy, ylo, yhi⟩ := hm4.pick (Blk.new _ _ _) (by simp; omega) l4 0 2 (by
   intro i hi
   have hi' : i = 0 ∨ i = 1 ∨ i = 2 ∨ i = 3 ∨ i = 4 ∨ i = 5 := by omega
   clear hi
   rcases hi' with rfl | rfl | rfl | rfl | rfl | rfl <;> exact ⟨_, rfl, by omega, by omega⟩)
  simp only [World.size_alloc] at hy
  obtain ⟨z, rfl⟩ := Int.eq_ofNat_of_zero_le ylo
  obtain ⟨u', hu', sd⟩ := seed_at b3.out.1 b3.out.2 kA (by omega : z ≤ 2)
  clear kA b3
  replace hm4 := (hm3).trans ((Mod.of_ext (((Ext.refl w3).alloc _).alloc _)).trans hm4)
  have yz : (z : Int) < 3 := by omega
  clear yhi ylo hl3
  go_wp2
  go_ret
  exact ⟨_, rfl, ⟨_, rfl, fun _ => sd⟩, hr4.mono (by omega) HP, hm4⟩
 go_enter Tryz.func45, Tryz.ntmps45
 go_wp2_with (fail)
 (with_reducible refine (odd g _ _ HN (HP.le (by omega)) _ (hr)).mono ?_)
 rintro e w1 ⟨v, rfl, ⟨b1, rfl⟩, hr1, hm1⟩
 cases b1
 ·go_wp2_with (fail)
  (with_reducible refine (pick g _ _ (HP.le (by omega)) _ (hr1)).mono ?_)
  rintro e w3 ⟨v, rfl, ⟨x3, rfl, h3, z3⟩, hr3, hm3⟩
  have l3 : (x3 : Int) < _ := h3 (by omega)
  clear h3 z3
  have W3 : wrap64 ((x3 : Int) * 8000000) = (x3 : Int) * 8000000 := by unfold wrap64; omega
  have W4 : wrap64 (1 + (x3 : Int) * 8000000) = 1 + (x3 : Int) * 8000000 := by unfold wrap64; omega
  go_wp2_with (fail)
  clear W3 W4
  have b3 := kp (show 1 ≤ 1 + (x3 : Int) * 8000000 ∧ 1 + (x3 : Int) * 8000000 ≤ 2147483646 by omega)
  clear l3
  generalize 1 + (x3 : Int) * 8000000 = u at *
  (with_reducible refine (pick g _ _ (HP.le (by omega)) _ (Rdr.keep hr3 (((Ext.refl w3).alloc _).alloc _))).mono ?_)
  rintro e w4 ⟨v, rfl, ⟨x4, rfl, h4, z4⟩, hr4, hm4⟩
  have l4 : (x4 : Int) < 6 := h4 (by omega)
  clear h4 z4
  have hl3 := hr3.lt
  have kA := hm4.blk ((Blk.new w3 _ _).old _) (by omega)
  obtain ⟨y, hy, ylo, yhi⟩ := hm4.pick (Blk.new _ _ _) (by simp; omega) l4 0 2 (by
   intro i hi
   have hi' : i = 0 ∨ i = 1 ∨ i = 2 ∨ i = 3 ∨ i = 4 ∨ i = 5 := by omega
   clear hi
   rcases hi' with rfl | rfl | rfl | rfl | rfl | rfl <;> exact ⟨_, rfl, by omega, by omega⟩)
  simp only [World.size_alloc] at hy
  obtain ⟨z, rfl⟩ := Int.eq_ofNat_of_zero_le ylo
  obtain ⟨u', hu', sd⟩ := seed_at b3.out.1 b3.out.2 kA (by omega : z ≤ 2)
  clear kA b3
  replace hm4 := (hm1.trans hm3).trans ((Mod.of_ext (((Ext.refl w3).alloc _).alloc _)).trans hm4)
  have yz : (z : Int) < 3 := by omega
  clear yhi ylo hl3
  go_wp2
  go_ret
  exact ⟨_, rfl, ⟨_, rfl, fun _ => sd⟩, hr4.mono (by omega) HP, hm4⟩
 go_wp2_with (fail)
 (with_reducible refine (pick g _ _ (HP.le (by omega)) _ (Rdr.keep hr1 ((Ext.refl w1).alloc _))).mono ?_)
 rintro e w2 ⟨v, rfl, ⟨x2, rfl, h2, z2⟩, hr2, hm2⟩
 have l2 : (x2 : Int) < 3 := h2 (by omega)
 obtain ⟨y2, hy2, lo2, hi2⟩ := hm2.pick (Blk.new _ _ _) (by have := hr1.lt; omega) l2 (-1) 1099511627776 (by
  intro i hi
  have hi' : i = 0 ∨ i = 1 ∨ i = 2 := by omega
  clear hi
  rcases hi' with rfl | rfl | rfl <;> exact ⟨_, rfl, by omega, by omega⟩)
 replace hm2 := (Mod.of_ext ((Ext.refl w1).alloc _)).trans hm2
 have N2 : In40 y2 := ⟨lo2, hi2⟩
 clear h2 z2 lo2 hi2
 go_wp2
 go_ret
 exact ⟨_, rfl, ⟨_, rfl, fun h => absurd h hn⟩, hr2.mono (by omega) HP, hm1.trans hm2⟩
end Go.Proofs.YtkkdikoknegpjaaGreat
