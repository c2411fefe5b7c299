/- The contracts of FunctionValues: the values at all ring numbers, in new memory. -/
import Derived.Test.YtpbnbhiffnnliaaFnAt
import Derived.Test.YtpbnbhiffnnliaaInts
namespace Go.Proofs.Ytpbnbhiffnnliaa
set_option linter.unusedSimpArgs false
set_option linter.unusedVariables false
open Go.RowKit
def valsTo (k : Int) (j : Nat) : List Int := (List.range j).map fun (i : Nat) => fAt k (i : Int)
def fVals (k : Int) : List Int := if fKnown k = true then valsTo k 4096 else []
theorem valsTo_len (k : Int) (j : Nat) : (valsTo k j).length = j := by simp [valsTo]
theorem valsTo_succ (k : Int) (j : Nat) : valsTo k (j + 1) = valsTo k j ++ [fAt k (j : Int)] := by simp [valsTo, List.range_succ]
theorem rangeMap_get (f : Nat → Int) (n i : Nat) (h : i < n) : ((List.range n).map f).getD i 0 = f i := by simp [h]
theorem valsTo_get (k : Int) (n i : Nat) (h : i < n) : (valsTo k n).getD i 0 = fAt k (i : Int) := rangeMap_get _ n i h
/-- A list that is known place by place. -/
theorem list_ext {xs ys : List Int} (hl : xs.length = ys.length) (h : ∀ i, i < xs.length → xs.getD i 0 = ys.getD i 0) : xs = ys := by
  apply List.ext_getElem hl
  intro i h1 h2
  have := h i h1
  simpa [h1, h2] using this
theorem getD_set (xs : List Int) (j i : Nat) (y : Int) (hj : j < xs.length) : (xs.set j y).getD i 0 = if i = j then y else xs.getD i 0 := by
  by_cases h : i = j
  · subst h; simp [hj]
  · simp [List.getElem?_set, Ne.symm h, h]
end Go.Proofs.Ytpbnbhiffnnliaa
