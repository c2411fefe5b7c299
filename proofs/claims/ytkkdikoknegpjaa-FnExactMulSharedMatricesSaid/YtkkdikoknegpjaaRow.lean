/- The contract of rowOf. -/
import Derived.Test.YtkkdikoknegpjaaKD
namespace Go.Proofs.Ytkkdikoknegpjaa
set_option linter.unusedSimpArgs false
set_option linter.unusedVariables false
open Go.RowKit
/-- A row of a matrix of C columns. -/
def rowL (xs : List Int) (C i : Nat) : List Int := mapTo (fun k => xs.getD (i * C + k) 0) C
theorem rowL_len (xs : List Int) (C i : Nat) : (rowL xs C i).length = C := mapTo_len _ _
theorem rowL_get (xs : List Int) (C i k : Nat) (h : k < C) : (rowL xs C i).getD k 0 = xs.getD (i * C + k) 0 := mapTo_get _ _ _ h

theorem at_len' {w : World} {s : Option Addr} {k L : Nat} {xs : List Int} (h : Ints w (.slice s L k) xs) (hL : xs.length = L) {n : Nat} (hn : n < L) : ∃ b off, s = some ⟨b, off, none⟩ ∧ b < w.heap.size ∧ w.cell? ⟨b, off + n, none⟩ = some (.int .i64 (xs.getD n 0)) := by
  obtain ⟨a, c, e, _, hc⟩ := h
  simp at e
  obtain ⟨rfl, _, rfl⟩ := e
  exact hc n (by omega)
set_option maxHeartbeats 1000000 in
theorem impl_rowOf (R C i L : Nat) (s1 : Option Addr) (n1 : Nat) (xs : List Int) (w : World) (h1 : Ints w (.slice s1 L n1) xs) (hL : xs.length = L) (hRC : L = R * C) (hR : 1 ≤ R) (hC1 : 1 ≤ C) (hi : i < R) (hcap : L ≤ n1) (hlen25 : L ≤ 25) :
    Calls Try.prog 67 #[.agg #[.int .i64 R, .int .i64 C, .slice s1 L n1], .int .i64 i] w fun e w' => ∃ ad cap, e = .returned (.slice ad C cap) ∧ (∀ w0, Ints w0 (.slice s1 L n1) xs → Ints w0 (.slice ad C cap) (rowL xs C i)) ∧ Ext w w' := by
  obtain ⟨b, off, es, -, -⟩ := at_len' h1 hL (n := 0) (by have := Nat.mul_le_mul hR hC1; rw [Nat.one_mul] at this; omega)
  subst es
  have X := (Ext.refl w).alloc (.cells #[.int .i64 R, .int .i64 C, .slice (some ⟨b, off, none⟩) L n1] 31)
  have A := Blk.new w #[.int .i64 R, .int .i64 C, .slice (some ⟨b, off, none⟩) L n1] 31
  obtain ⟨a0, a1, a2⟩ := A.three
  obtain ⟨p, hp⟩ : ∃ p, p = i * C := ⟨_, rfl⟩
  obtain ⟨q, hq⟩ : ∃ q, q = (i + 1) * C := ⟨_, rfl⟩
  have hq' : q = p + C := by rw [hq, hp, Nat.add_mul, Nat.one_mul]
  have hle : q ≤ L := by rw [hq, hRC]; exact Nat.mul_le_mul_right C (by omega)
  have c1 : (i : Int) * (C : Int) = (p : Int) := by rw [hp, Int.natCast_mul]
  have c2 : ((i : Int) + 1) * (C : Int) = (q : Int) := by rw [hq, Int.natCast_mul]; rfl
  have hi5 : i < 25 := by
    have := Nat.mul_le_mul (Nat.le_refl i) hC1
    rw [Nat.mul_one] at this
    omega
  clear hRC
  have HI : Kept (∀ w0, Ints w0 (.slice (some ⟨b, off, none⟩) L n1) xs → Ints w0 (.slice (some ⟨b, off + p, none⟩) C (n1 - p)) (rowL xs C i)) := ⟨by
    intro w0 h9
    obtain ⟨a, cap, e, hm, hc⟩ := h9
    cases e
    refine ⟨_, _, by rw [rowL_len], by rw [rowL_len]; omega, fun k hk => ?_⟩
    rw [rowL_len] at hk
    obtain ⟨b', off', e, lb, cb⟩ := hc (i * C + k) (by rw [← hp]; omega)
    cases e
    exact ⟨b, off + p, rfl, lb, by rw [rowL_get _ _ _ _ hk, hp, Nat.add_assoc]; exact cb⟩⟩
  have hq25 : q ≤ 25 := Nat.le_trans hle hlen25
  have e1 : wrap64 ((i : Int) * (C : Int)) = (p : Int) := by rw [c1]; clear c1 c2 hq hp; unfold wrap64; omega
  have e2 : wrap64 (((i : Int) + 1) * (C : Int)) = (q : Int) := by rw [c2]; clear c1 c2 hq hp hle; unfold wrap64; omega
  clear c1 c2 hq hp
  have ew : wrap64 ((i : Int) + 1) = (i : Int) + 1 := by unfold wrap64; omega
  have l1 : p ≤ q := by omega
  have l2 : q ≤ n1 := by omega
  have l3 : n1 ≠ p := by omega
  have l4 : q - p = C := by omega
  have l5 : (p : Int) ≤ (q : Int) := by omega
  have l6 : (q : Int) ≤ (n1 : Int) := by omega
  clear hle hq' hq25 hi5 h1 hcap hi A hL hlen25 hR hC1
  go_enter Try.func67, Try.ntmps67
  go_wp2
  go_ret
  exact ⟨_, _, rfl, HI.out, X⟩

end Go.Proofs.Ytkkdikoknegpjaa
