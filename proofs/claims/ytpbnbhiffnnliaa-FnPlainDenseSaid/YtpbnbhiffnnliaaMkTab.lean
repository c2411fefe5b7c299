/- MakeTable: the table of a dealer, on both sides. -/
import Derived.Test.YtpbnbhiffnnliaaRList
import Derived.Test.YtpbnbhiffnnliaaUTab
import Derived.Test.YtpbnbhiffnnliaaKC
import Derived.Test.YtpbnbhiffnnliaaKB
namespace Go.Proofs.Ytpbnbhiffnnliaa
set_option linter.unusedSimpArgs false
set_option linter.unusedVariables false
open Go.RowKit
/-- The shift. -/
def shT (s : Int) : Int := addR (rnd s 0) (rnd s 1)
/-- The second share of entry k. -/
def sec (vs : List Int) (s : Int) (k : Nat) : Int := ring (vs.getD (ring ((k : Int) - shT s)).toNat 0 - rnd (strm s 2) k)
def secL (vs : List Int) (s : Int) (n : Nat) : List Int := (List.range n).map (sec vs s)
theorem secL_len (vs : List Int) (s : Int) (n : Nat) : (secL vs s n).length = n := by simp [secL]
theorem secL_succ (vs : List Int) (s : Int) (n : Nat) : secL vs s (n + 1) = secL vs s n ++ [sec vs s n] := by simp [secL, List.range_succ]
theorem secL_get (vs : List Int) (s : Int) (n i : Nat) (h : i < n) : (secL vs s n).getD i 0 = sec vs s i := by simp [secL, h]
def mkOk (vs : List Int) (s : Int) : Bool := goodL vs && seedOk s
def mtA (vs : List Int) (s : Int) : Int := if mkOk vs s then rnd s 0 else 0
def mtB (vs : List Int) (s : Int) : Int := if mkOk vs s then rnd s 1 else 0
def mtF (vs : List Int) (s : Int) : List Int := if mkOk vs s then rlist (strm s 2) 4096 else []
def mtS (vs : List Int) (s : Int) : List Int := if mkOk vs s then secL vs s 4096 else []
def mtN (vs : List Int) (s : Int) : Int := if mkOk vs s then strm (strm s 2) 4096 else 0
/-- What MakeTable leaves. -/
def MadePost (vs : List Int) (s : Int) (w : World) (e : Ending) (w' : World) : Prop :=
  ∃ v1 v2, e = .returned (.tuple #[.agg #[.int .i64 (mtA vs s), .int .i64 (mtB vs s), v1, v2], .int .i64 (mtN vs s)]) ∧ Own w.heap.size w' v1 (mtF vs s) ∧ Own w.heap.size w' v2 (mtS vs s) ∧ (∀ q, v1.ownBlock = some q → v2.ownBlock ≠ some q) ∧ Ext w w'
theorem good_len {vs : List Int} (h : goodL vs = true) : vs.length = 4096 := by simp [goodL] at h; omega
theorem good_rv {vs : List Int} (h : goodL vs = true) (i : Nat) (hi : i < vs.length) : rv (vs.getD i 0) = true := by
  simp only [goodL, Bool.and_eq_true, List.all_eq_true] at h
  have : vs.getD i 0 = vs[i] := by simp [hi]
  rw [this]
  exact h.1 _ (List.getElem_mem hi)
/-- The place that is looked up. -/
theorem sh_nat (s : Int) (k : Nat) (hk : (k : Int) < 4096) : ∃ i : Nat, ring ((k : Int) - shT s) = (i : Int) ∧ i < 4096 ∧ wrap64 ((k : Int) - shT s) = (k : Int) - shT s := by
  have h1 := ring_lo ((k : Int) - shT s)
  have h2 := ring_hi ((k : Int) - shT s)
  have h3 : -1 ≤ shT s ∧ shT s ≤ 4095 := by
    have := ring_lo (rnd s 0 + rnd s 1)
    have := ring_hi (rnd s 0 + rnd s 1)
    unfold shT addR
    split <;> omega
  exact ⟨(ring ((k : Int) - shT s)).toNat, by omega, by omega, by unfold wrap64; omega⟩
theorem sec_at {vs : List Int} {s : Int} {k i : Nat} (e : ring ((k : Int) - shT s) = (i : Int)) : sec vs s k = ring (vs.getD i 0 - rnd (strm s 2) k) := by simp [sec, e]
theorem wrap_small {p q : Int} (hp : rv p = true) (hq : rv q = true) : wrap64 (p - q) = p - q := by
  rw [rv_iff] at hp hq
  unfold wrap64; omega

/-- A new slice of one integer. -/
def oneT {n0 : Nat} (c : Int) : OpSpec Ext n0 := ⟨[], fun _ u lo up w => u = .slice (some ⟨lo, 0, none⟩) 1 1 ∧ up = lo + 1 ∧ Blk w lo #[.int .i64 c] 3, fun _ _ _ _ _ _ _ _ _ hx ⟨h1, h2, h3⟩ => ⟨h1, h2, h3.keep hx⟩⟩
def zeros : List Int := List.replicate 4096 0
theorem zeros_len : zeros.length = 4096 := List.length_replicate
/-- A made list of 4096 zeros. -/
def mkS {n0 : Nat} (B : Nat) : OpSpec Ext n0 := ⟨[], fun _ u lo up w => u = .slice (some ⟨lo, 0, none⟩) 4096 4096 ∧ lo < up ∧ Own B w u zeros, fun _ _ _ _ _ _ _ _ _ hx ⟨h1, h2, h3⟩ => ⟨h1, h2, h3.keep hx⟩⟩
/-- A struct whose last field is the value of operation i. -/
def bldS {n0 : Nat} (i : Nat) (a b c : Value) : OpSpec Ext n0 := ⟨[i], fun vs u _ _ _ => u = .agg #[a, b, c, vs.headD undef], fun _ _ _ _ _ _ _ _ _ _ h => h⟩
end Go.Proofs.Ytpbnbhiffnnliaa
