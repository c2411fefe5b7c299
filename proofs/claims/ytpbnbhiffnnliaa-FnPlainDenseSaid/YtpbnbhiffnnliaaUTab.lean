/- The contracts of UseTable. -/
import Derived.Test.YtpbnbhiffnnliaaTab
import Derived.Test.YtpbnbhiffnnliaaKC
import Derived.Test.YtpbnbhiffnnliaaKB
namespace Go.Proofs.Ytpbnbhiffnnliaa
set_option linter.unusedSimpArgs false
set_option linter.unusedVariables false
open Go.RowKit
def useOk (x y a b : Int) (xs ys : List Int) : Bool := rv x && rv y && tabV a b xs ys
/-- What is opened; -1 if nothing is. -/
def useC (x y a b : Int) (xs ys : List Int) : Int := if useOk x y a b xs ys = true then addR (addR x y) (addR a b) else -1
def useF (x y a b : Int) (xs ys : List Int) : Int := if useOk x y a b xs ys = true then xs.getD (addR (addR x y) (addR a b)).toNat 0 else -1
def useL (x y a b : Int) (xs ys : List Int) : Int := if useOk x y a b xs ys = true then ys.getD (addR (addR x y) (addR a b)).toNat 0 else -1
theorem useC_nat {x y a b : Int} {xs ys : List Int} (h : useOk x y a b xs ys = true) : ∃ n : Nat, addR (addR x y) (addR a b) = (n : Int) ∧ n < xs.length ∧ n < ys.length := by
  simp only [useOk, tabV, goodL, Bool.and_eq_true, decide_eq_true_eq] at h
  obtain ⟨⟨hx, hy⟩, ⟨ha, hb⟩, ⟨_, l1⟩, ⟨_, l2⟩⟩ := h
  have e : addR (addR x y) (addR a b) = ring (ring (x + y) + ring (a + b)) := by simp only [hx, hy, ha, hb, addR_ok, rv_ring]
  have h0 := ring_lo (ring (x + y) + ring (a + b))
  have h1 := ring_hi (ring (x + y) + ring (a + b))
  exact ⟨(ring (ring (x + y) + ring (a + b))).toNat, by rw [e]; omega, by omega, by omega⟩
theorem join_add' {a b c d : Int} (h1 : (rv a && rv b) = true) (h2 : (rv c && rv d) = true) : addR (addF a b c d) (addL a b c d) = addR (addR a b) (addR c d) := by
  have h : okS a b c d = true := by simp [okS, h1, h2]
  simp only [Bool.and_eq_true] at h1 h2
  simp only [addF, addL, h, if_true, h1.1, h1.2, h2.1, h2.2, addR_ok, rv_ring]
  unfold ring; omega
theorem tabV_sh {a b : Int} {xs ys : List Int} (h : tabV a b xs ys = true) : (rv a && rv b) = true := by
  simp only [tabV, Bool.and_eq_true] at h ⊢
  exact h.1
/-- The place of a list's number. -/
theorem Ints.at {w : World} {s : Option Addr} {k : Nat} {xs : List Int} (h : Ints w (.slice s xs.length k) xs) {n : Nat} (hn : n < xs.length) : ∃ b off, s = some ⟨b, off, none⟩ ∧ b < w.heap.size ∧ w.cell? ⟨b, off + n, none⟩ = some (.int .i64 (xs.getD n 0)) := by
  obtain ⟨a, c, e, _, hc⟩ := h
  simp at e
  obtain ⟨rfl, rfl⟩ := e
  exact hc n hn

end Go.Proofs.Ytpbnbhiffnnliaa
