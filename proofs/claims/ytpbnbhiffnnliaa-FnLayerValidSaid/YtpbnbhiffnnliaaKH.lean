/- The contracts of the shares' functions: what each returns, for all whole numbers; nothing that was in memory turns. -/
import Derived.Test.YtpbnbhiffnnliaaRing
import Derived.Test.YtpbnbhiffnnliaaKA
namespace Go.Proofs.Ytpbnbhiffnnliaa
set_option linter.unusedSimpArgs false
set_option linter.unusedVariables false
open Go.RowKit
def okS (x y u v : Int) : Bool := rv x && rv y && (rv u && rv v)
def okK (x y k : Int) : Bool := rv x && rv y && rv k
/-- First and second share of a sum and so on: of what every party makes, if all numbers are ring numbers; else -1. -/
def addF (x y u v : Int) : Int := if okS x y u v = true then ring (x + u) else -1
def addL (x y u v : Int) : Int := if okS x y u v = true then ring (y + v) else -1
def subF (x y u v : Int) : Int := if okS x y u v = true then ring (x - u) else -1
def subL (x y u v : Int) : Int := if okS x y u v = true then ring (y - v) else -1
def akF (x y k : Int) : Int := if okK x y k = true then ring (x + k) else -1
def akL (x y k : Int) : Int := if okK x y k = true then y else -1
def tkF (x y k : Int) : Int := if okK x y k = true then ring (x * k) else -1
def tkL (x y k : Int) : Int := if okK x y k = true then ring (y * k) else -1
theorem addR_ok {a b : Int} (h1 : rv a = true) (h2 : rv b = true) : addR a b = ring (a + b) := by simp [addR, h1, h2]
theorem subR_ok {a b : Int} (h1 : rv a = true) (h2 : rv b = true) : subR a b = ring (a - b) := by simp [subR, h1, h2]
theorem mulR_ok {a b : Int} (h1 : rv a = true) (h2 : rv b = true) : mulR a b = ring (a * b) := by simp [mulR, h1, h2]

end Go.Proofs.Ytpbnbhiffnnliaa
namespace Go.Proofs.Ytpbnbhiffnnliaa
set_option linter.unusedSimpArgs false
set_option linter.unusedVariables false
open Go.RowKit
def okT (a b c d e f : Int) : Bool := rv a && rv b && (rv c && rv d && (rv e && rv f))
/-- The product of what is shared. -/
def prodT (a b c d : Int) : Int := mulR (addR a b) (addR c d)
def triR (a b c d e f : Int) : Bool := okT a b c d e f && (addR e f == prodT a b c d)

end Go.Proofs.Ytpbnbhiffnnliaa
