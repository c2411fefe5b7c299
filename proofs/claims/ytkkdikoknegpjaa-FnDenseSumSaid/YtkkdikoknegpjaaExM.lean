/- Groups of the laws' own functions on lists of integers; lengths of made triples. -/
import Derived.Test.YtkkdikoknegpjaaKW
import Derived.Test.YtkkdikoknegpjaaKT
import Derived.Test.YtkkdikoknegpjaaKR
namespace Go.Proofs.Ytkkdikoknegpjaa
set_option linter.unusedSimpArgs false
set_option linter.unusedVariables false
open Go.RowKit
theorem laws_markIntSG (B : Nat) (v : Value) (xs : List Int) (k : Int) (n : Nat) (hn : xs.length = n) (w : World) (h : Grp B w [v] [xs]) (h0 : 0 ≤ k) (hk : k + n ≤ 1099511627776) : Calls Try.prog 34 #[v, .int .i64 k] w (MarkL B [v] k [n] w) :=
  (laws_markIntS B v xs k n hn w h.own.1 h0 hk).mono fun e w' ⟨h1, h2, h3⟩ => ⟨by rw [h1]; simp [totL], Grp.one h2, h3.toL⟩
theorem laws_heldIntSG (v : Value) (k : Int) (n : Nat) (w : World) (h : IntsL w [v] (marksL k [n])) (h0 : 0 ≤ k) (hk : k + n ≤ 1099511627776) : Calls Try.prog 35 #[v, .int .i64 k] w fun e w' => e = .returned (.int .i64 (k + totL [n])) ∧ Ext w w' :=
  (laws_heldIntS v k n w h.1 h0 hk).mono fun e w' ⟨h1, h2⟩ => ⟨by rw [h1]; simp [totL], Ext.of_eq h2⟩
structure TrM.short (t : TrM) : Prop where
  l0 : t.a.f.xs.length ≤ 1048576
  l1 : t.a.s.xs.length ≤ 1048576
  l2 : t.b.f.xs.length ≤ 1048576
  l3 : t.b.s.xs.length ≤ 1048576
  l4 : t.c.f.xs.length ≤ 1048576
  l5 : t.c.s.xs.length ≤ 1048576
theorem tripN_short {R K C : Nat} (hR : Side R) (hK : Side K) (hC : Side C) (s : Int) : (tripN R K C s).short := by
  have a := Nat.le_trans (side_mul' hR hK) (show 25 ≤ 1048576 by decide)
  have b := Nat.le_trans (side_mul' hK hC) (show 25 ≤ 1048576 by decide)
  have c := Nat.le_trans (side_mul' hR hC) (show 25 ≤ 1048576 by decide)
  refine ⟨?_, ?_, ?_, ?_, ?_, pairM_len _ _ _⟩ <;> (simp only [tripN, tripA, tripB, tripC, rlist_len]; assumption)
theorem tripM_short (r k c s : Int) : (tripM r k c s).short := by
  unfold tripM
  split
  · rename_i h
    simp only [mkOkM, Bool.and_eq_true] at h
    obtain ⟨R, rfl, hR⟩ := Side.of_int h.1.1.1
    obtain ⟨K, rfl, hK⟩ := Side.of_int h.1.1.2
    obtain ⟨C, rfl, hC⟩ := Side.of_int h.1.2
    exact tripN_short hR hK hC s
  · exact ⟨by simp [trZ, shZ, matZ], by simp [trZ, shZ, matZ], by simp [trZ, shZ, matZ], by simp [trZ, shZ, matZ], by simp [trZ, shZ, matZ], by simp [trZ, shZ, matZ]⟩
end Go.Proofs.Ytkkdikoknegpjaa
