/-
  No cell of these rows narrows 'for every input' (looked for: loops, veiled, ifaces, maps, wideKeys, modest, calm, conditions, laid).
  DERIVED. THE GIVEN ROWS OF THIS SEAT. 12 by the template 'for every input the law returns true; each argument reads behind the call as it read before'; 0 by the template 'total and deterministic' (their statements: YtokjdaknfkleeaaTotals.lean).
  GIVEN WITH THE SEED: the statements are not yours to turn. If you find one false, say at which input.
  Laid BY PROGRAM, IN A SANDBOX (cutbox-rows.mjs): the forced cells as the released guide's own fill.sh prints them over the translation 33df9616a75c0d6a… (all of the seat's roots in one cut). By AI agents, Wed Nov 11 2026. No macro, syntax, notation, axiom, sorry.
-/
import Derived.Test.YtokjdaknfkleeaaChecked
import GoSem.Claim
import GoSem.ClaimJoined
import GoSem.ClaimMapViews
import Derived.JoinedTies
import Derived.KernelRfl
namespace Go.Proofs.Ytokjdaknfkleeaa
/- THE CELL 'sum', in the pinned program and in every row, IS THE sha256 OF THE DUMP (.gsa) THAT YtokjdaknfkleeaaProg.lean LOADS. Nothing in Lean hashes anything: it is a label: what it is worth is what the hold of that sum in a sandbox is worth. -/
noncomputable def Try.pinned : Pinned := { name := "ytokjdaknfkleeaa", sum := "33df9616a75c0d6a1e045fd478232290eacc2af98313a75f428060236c4a8cc9", checked := Try.checked }
namespace Rows
def none {H : Type} : Left H := { results := [], args := [] }

/-- 'laws.FnExactAddShares': WHATEVER THE INPUT: true; the input reads as it did. -/
def fnExactAddSharesSpec : ChangeSpec := { name := "fnExactAddShares", fn := fun _ => fun
  | [d1, d2] => { results := [.lit (.bool true)], args := [d1, d2] }
  | _ => none }
def fnExactAddSharesRow : OpenClaim := { program := "ytokjdaknfkleeaa", sum := "33df9616a75c0d6a1e045fd478232290eacc2af98313a75f428060236c4a8cc9", func := "loop.example/sharedinference/laws.FnExactAddShares", spec := "fnExactAddShares", unfollowed := true, recurses := true, apart := false }
def FnExactAddSharesSaid : Prop := fnExactAddSharesRow.holds Try.pinned (OpenSpec.ofChange fnExactAddSharesSpec)

/-- ITS FALSE NEIGHBOUR: 'it returns false'. Refute it at one input. -/
def fnExactAddSharesWrong : ChangeSpec := { name := "fnExactAddShares", fn := fun _ => fun
  | [d1, d2] => { results := [.lit (.bool false)], args := [d1, d2] }
  | _ => none }
def FnExactAddSharesWrongFalsely : Prop := fnExactAddSharesRow.holds Try.pinned (OpenSpec.ofChange fnExactAddSharesWrong)

/-- 'laws.FnExactSubShares': WHATEVER THE INPUT: true; the input reads as it did. -/
def fnExactSubSharesSpec : ChangeSpec := { name := "fnExactSubShares", fn := fun _ => fun
  | [d1, d2] => { results := [.lit (.bool true)], args := [d1, d2] }
  | _ => none }
def fnExactSubSharesRow : OpenClaim := { program := "ytokjdaknfkleeaa", sum := "33df9616a75c0d6a1e045fd478232290eacc2af98313a75f428060236c4a8cc9", func := "loop.example/sharedinference/laws.FnExactSubShares", spec := "fnExactSubShares", unfollowed := true, recurses := true, apart := false }
def FnExactSubSharesSaid : Prop := fnExactSubSharesRow.holds Try.pinned (OpenSpec.ofChange fnExactSubSharesSpec)

/-- ITS FALSE NEIGHBOUR: 'it returns false'. Refute it at one input. -/
def fnExactSubSharesWrong : ChangeSpec := { name := "fnExactSubShares", fn := fun _ => fun
  | [d1, d2] => { results := [.lit (.bool false)], args := [d1, d2] }
  | _ => none }
def FnExactSubSharesWrongFalsely : Prop := fnExactSubSharesRow.holds Try.pinned (OpenSpec.ofChange fnExactSubSharesWrong)

/-- 'laws.FnExactTimesKnown': WHATEVER THE INPUT: true; the input reads as it did. -/
def fnExactTimesKnownSpec : ChangeSpec := { name := "fnExactTimesKnown", fn := fun _ => fun
  | [d1, d2] => { results := [.lit (.bool true)], args := [d1, d2] }
  | _ => none }
def fnExactTimesKnownRow : OpenClaim := { program := "ytokjdaknfkleeaa", sum := "33df9616a75c0d6a1e045fd478232290eacc2af98313a75f428060236c4a8cc9", func := "loop.example/sharedinference/laws.FnExactTimesKnown", spec := "fnExactTimesKnown", unfollowed := true, recurses := true, apart := false }
def FnExactTimesKnownSaid : Prop := fnExactTimesKnownRow.holds Try.pinned (OpenSpec.ofChange fnExactTimesKnownSpec)

/-- ITS FALSE NEIGHBOUR: 'it returns false'. Refute it at one input. -/
def fnExactTimesKnownWrong : ChangeSpec := { name := "fnExactTimesKnown", fn := fun _ => fun
  | [d1, d2] => { results := [.lit (.bool false)], args := [d1, d2] }
  | _ => none }
def FnExactTimesKnownWrongFalsely : Prop := fnExactTimesKnownRow.holds Try.pinned (OpenSpec.ofChange fnExactTimesKnownWrong)

/-- 'laws.FnExactTripleRight': WHATEVER THE INPUT: true; the input reads as it did. -/
def fnExactTripleRightSpec : ChangeSpec := { name := "fnExactTripleRight", fn := fun _ => fun
  | [d] => { results := [.lit (.bool true)], args := [d] }
  | _ => none }
def fnExactTripleRightRow : OpenClaim := { program := "ytokjdaknfkleeaa", sum := "33df9616a75c0d6a1e045fd478232290eacc2af98313a75f428060236c4a8cc9", func := "loop.example/sharedinference/laws.FnExactTripleRight", spec := "fnExactTripleRight", apart := false }
def FnExactTripleRightSaid : Prop := fnExactTripleRightRow.holds Try.pinned (OpenSpec.ofChange fnExactTripleRightSpec)

/-- ITS FALSE NEIGHBOUR: 'it returns false'. Refute it at one input. -/
def fnExactTripleRightWrong : ChangeSpec := { name := "fnExactTripleRight", fn := fun _ => fun
  | [d] => { results := [.lit (.bool false)], args := [d] }
  | _ => none }
def FnExactTripleRightWrongFalsely : Prop := fnExactTripleRightRow.holds Try.pinned (OpenSpec.ofChange fnExactTripleRightWrong)

/-- 'laws.FnAddKnown': WHATEVER THE INPUT: true; the input reads as it did. -/
def fnAddKnownSpec : ChangeSpec := { name := "fnAddKnown", fn := fun _ => fun
  | [d] => { results := [.lit (.bool true)], args := [d] }
  | _ => none }
def fnAddKnownRow : OpenClaim := { program := "ytokjdaknfkleeaa", sum := "33df9616a75c0d6a1e045fd478232290eacc2af98313a75f428060236c4a8cc9", func := "loop.example/sharedinference/laws.FnAddKnown", spec := "fnAddKnown", unfollowed := true, recurses := true, apart := false }
def FnAddKnownSaid : Prop := fnAddKnownRow.holds Try.pinned (OpenSpec.ofChange fnAddKnownSpec)

/-- ITS FALSE NEIGHBOUR: 'it returns false'. Refute it at one input. -/
def fnAddKnownWrong : ChangeSpec := { name := "fnAddKnown", fn := fun _ => fun
  | [d] => { results := [.lit (.bool false)], args := [d] }
  | _ => none }
def FnAddKnownWrongFalsely : Prop := fnAddKnownRow.holds Try.pinned (OpenSpec.ofChange fnAddKnownWrong)

/-- 'laws.FnAddShares': WHATEVER THE INPUT: true; the input reads as it did. -/
def fnAddSharesSpec : ChangeSpec := { name := "fnAddShares", fn := fun _ => fun
  | [d] => { results := [.lit (.bool true)], args := [d] }
  | _ => none }
def fnAddSharesRow : OpenClaim := { program := "ytokjdaknfkleeaa", sum := "33df9616a75c0d6a1e045fd478232290eacc2af98313a75f428060236c4a8cc9", func := "loop.example/sharedinference/laws.FnAddShares", spec := "fnAddShares", unfollowed := true, recurses := true, apart := false }
def FnAddSharesSaid : Prop := fnAddSharesRow.holds Try.pinned (OpenSpec.ofChange fnAddSharesSpec)

/-- ITS FALSE NEIGHBOUR: 'it returns false'. Refute it at one input. -/
def fnAddSharesWrong : ChangeSpec := { name := "fnAddShares", fn := fun _ => fun
  | [d] => { results := [.lit (.bool false)], args := [d] }
  | _ => none }
def FnAddSharesWrongFalsely : Prop := fnAddSharesRow.holds Try.pinned (OpenSpec.ofChange fnAddSharesWrong)

/-- 'laws.FnSubShares': WHATEVER THE INPUT: true; the input reads as it did. -/
def fnSubSharesSpec : ChangeSpec := { name := "fnSubShares", fn := fun _ => fun
  | [d] => { results := [.lit (.bool true)], args := [d] }
  | _ => none }
def fnSubSharesRow : OpenClaim := { program := "ytokjdaknfkleeaa", sum := "33df9616a75c0d6a1e045fd478232290eacc2af98313a75f428060236c4a8cc9", func := "loop.example/sharedinference/laws.FnSubShares", spec := "fnSubShares", unfollowed := true, recurses := true, apart := false }
def FnSubSharesSaid : Prop := fnSubSharesRow.holds Try.pinned (OpenSpec.ofChange fnSubSharesSpec)

/-- ITS FALSE NEIGHBOUR: 'it returns false'. Refute it at one input. -/
def fnSubSharesWrong : ChangeSpec := { name := "fnSubShares", fn := fun _ => fun
  | [d] => { results := [.lit (.bool false)], args := [d] }
  | _ => none }
def FnSubSharesWrongFalsely : Prop := fnSubSharesRow.holds Try.pinned (OpenSpec.ofChange fnSubSharesWrong)

/-- 'laws.FnTimesKnown': WHATEVER THE INPUT: true; the input reads as it did. -/
def fnTimesKnownSpec : ChangeSpec := { name := "fnTimesKnown", fn := fun _ => fun
  | [d] => { results := [.lit (.bool true)], args := [d] }
  | _ => none }
def fnTimesKnownRow : OpenClaim := { program := "ytokjdaknfkleeaa", sum := "33df9616a75c0d6a1e045fd478232290eacc2af98313a75f428060236c4a8cc9", func := "loop.example/sharedinference/laws.FnTimesKnown", spec := "fnTimesKnown", unfollowed := true, recurses := true, apart := false }
def FnTimesKnownSaid : Prop := fnTimesKnownRow.holds Try.pinned (OpenSpec.ofChange fnTimesKnownSpec)

/-- ITS FALSE NEIGHBOUR: 'it returns false'. Refute it at one input. -/
def fnTimesKnownWrong : ChangeSpec := { name := "fnTimesKnown", fn := fun _ => fun
  | [d] => { results := [.lit (.bool false)], args := [d] }
  | _ => none }
def FnTimesKnownWrongFalsely : Prop := fnTimesKnownRow.holds Try.pinned (OpenSpec.ofChange fnTimesKnownWrong)

/-- 'laws.FnTripleRight': WHATEVER THE INPUT: true; the input reads as it did. -/
def fnTripleRightSpec : ChangeSpec := { name := "fnTripleRight", fn := fun _ => fun
  | [d] => { results := [.lit (.bool true)], args := [d] }
  | _ => none }
def fnTripleRightRow : OpenClaim := { program := "ytokjdaknfkleeaa", sum := "33df9616a75c0d6a1e045fd478232290eacc2af98313a75f428060236c4a8cc9", func := "loop.example/sharedinference/laws.FnTripleRight", spec := "fnTripleRight", unfollowed := true, recurses := true, apart := false }
def FnTripleRightSaid : Prop := fnTripleRightRow.holds Try.pinned (OpenSpec.ofChange fnTripleRightSpec)

/-- ITS FALSE NEIGHBOUR: 'it returns false'. Refute it at one input. -/
def fnTripleRightWrong : ChangeSpec := { name := "fnTripleRight", fn := fun _ => fun
  | [d] => { results := [.lit (.bool false)], args := [d] }
  | _ => none }
def FnTripleRightWrongFalsely : Prop := fnTripleRightRow.holds Try.pinned (OpenSpec.ofChange fnTripleRightWrong)

/-- 'laws.FnExactMulShared': WHATEVER THE INPUT: true; the input reads as it did. -/
def fnExactMulSharedSpec : ChangeSpec := { name := "fnExactMulShared", fn := fun _ => fun
  | [d1, d2, d3] => { results := [.lit (.bool true)], args := [d1, d2, d3] }
  | _ => none }
def fnExactMulSharedRow : OpenClaim := { program := "ytokjdaknfkleeaa", sum := "33df9616a75c0d6a1e045fd478232290eacc2af98313a75f428060236c4a8cc9", func := "loop.example/sharedinference/laws.FnExactMulShared", spec := "fnExactMulShared", apart := false }
def FnExactMulSharedSaid : Prop := fnExactMulSharedRow.holds Try.pinned (OpenSpec.ofChange fnExactMulSharedSpec)

/-- ITS FALSE NEIGHBOUR: 'it returns false'. Refute it at one input. -/
def fnExactMulSharedWrong : ChangeSpec := { name := "fnExactMulShared", fn := fun _ => fun
  | [d1, d2, d3] => { results := [.lit (.bool false)], args := [d1, d2, d3] }
  | _ => none }
def FnExactMulSharedWrongFalsely : Prop := fnExactMulSharedRow.holds Try.pinned (OpenSpec.ofChange fnExactMulSharedWrong)

/-- 'laws.FnMulShared': WHATEVER THE INPUT: true; the input reads as it did. -/
def fnMulSharedSpec : ChangeSpec := { name := "fnMulShared", fn := fun _ => fun
  | [d] => { results := [.lit (.bool true)], args := [d] }
  | _ => none }
def fnMulSharedRow : OpenClaim := { program := "ytokjdaknfkleeaa", sum := "33df9616a75c0d6a1e045fd478232290eacc2af98313a75f428060236c4a8cc9", func := "loop.example/sharedinference/laws.FnMulShared", spec := "fnMulShared", apart := false }
def FnMulSharedSaid : Prop := fnMulSharedRow.holds Try.pinned (OpenSpec.ofChange fnMulSharedSpec)

/-- ITS FALSE NEIGHBOUR: 'it returns false'. Refute it at one input. -/
def fnMulSharedWrong : ChangeSpec := { name := "fnMulShared", fn := fun _ => fun
  | [d] => { results := [.lit (.bool false)], args := [d] }
  | _ => none }
def FnMulSharedWrongFalsely : Prop := fnMulSharedRow.holds Try.pinned (OpenSpec.ofChange fnMulSharedWrong)

/-- 'laws.FnMulOrder': WHATEVER THE INPUT: true; the input reads as it did. -/
def fnMulOrderSpec : ChangeSpec := { name := "fnMulOrder", fn := fun _ => fun
  | [d] => { results := [.lit (.bool true)], args := [d] }
  | _ => none }
def fnMulOrderRow : OpenClaim := { program := "ytokjdaknfkleeaa", sum := "33df9616a75c0d6a1e045fd478232290eacc2af98313a75f428060236c4a8cc9", func := "loop.example/sharedinference/laws.FnMulOrder", spec := "fnMulOrder", apart := false }
def FnMulOrderSaid : Prop := fnMulOrderRow.holds Try.pinned (OpenSpec.ofChange fnMulOrderSpec)

/-- ITS FALSE NEIGHBOUR: 'it returns false'. Refute it at one input. -/
def fnMulOrderWrong : ChangeSpec := { name := "fnMulOrder", fn := fun _ => fun
  | [d] => { results := [.lit (.bool false)], args := [d] }
  | _ => none }
def FnMulOrderWrongFalsely : Prop := fnMulOrderRow.holds Try.pinned (OpenSpec.ofChange fnMulOrderWrong)

/- THE SECOND FORM. 'bulk': how many values and letters a reading holds, each counted each time it is reached (what is shared counts as often as it is met; a slice's spare places count too). A statement '..UptoSaid' is the law's where the arguments, and the package variables that the reading takes, are together of bulk at most 1048576: NARROWER than '..Said'. Prove '..Said' where nothing that the law and all that it calls make is longer than what came in: it says more and counts as full. Else prove '..UptoSaid'. A law counts once. -/
mutual
def uptoBulk {H : Type} : DataW H → Nat
  | .lit (.string bytes) => bytes.length + 1
  | .lit _ => 1
  | .nil => 1
  | .ptr d => uptoBulk d + 1
  | .slice elems spare => uptoBulkAll elems + uptoBulkAll spare + 1
  | .agg parts => uptoBulkAll parts + 1
  | .iface _ d => uptoBulk d + 1
  | .map entries => uptoBulkEntries entries + 1
  | .held _ => 1
def uptoBulkAll {H : Type} : List (DataW H) → Nat
  | [] => 0
  | d :: r => uptoBulk d + uptoBulkAll r
def uptoBulkEntries {H : Type} : List (Lit × DataW H) → Nat
  | [] => 0
  | x :: r => uptoBulkEntry x + uptoBulkEntries r
def uptoBulkEntry {H : Type} : Lit × DataW H → Nat
  | (.string bytes, d) => bytes.length + uptoBulk d + 1
  | (_, d) => uptoBulk d + 1
 end
def uptoSmall : (H : Type) → List (DataW H) → Bool := fun _ ds => decide (uptoBulkAll ds ≤ 1048576)
def OpenSpec.upto (s : _root_.Go.ChangeSpec) : _root_.Go.OpenSpec := { _root_.Go.OpenSpec.ofChange s with cond := some uptoSmall }

/-- 'laws.FnExactAddShares', WHERE WHAT IT READS IS OF BULK AT MOST 1048576: true; the input reads as it did. -/
def fnExactAddSharesUptoRow : OpenClaim := { program := "ytokjdaknfkleeaa", sum := "33df9616a75c0d6a1e045fd478232290eacc2af98313a75f428060236c4a8cc9", func := "loop.example/sharedinference/laws.FnExactAddShares", spec := "fnExactAddShares", unfollowed := true, recurses := true, apart := false, narrowed := true }
def FnExactAddSharesUptoSaid : Prop := fnExactAddSharesUptoRow.holds Try.pinned (OpenSpec.upto fnExactAddSharesSpec)

/-- 'laws.FnExactSubShares', WHERE WHAT IT READS IS OF BULK AT MOST 1048576: true; the input reads as it did. -/
def fnExactSubSharesUptoRow : OpenClaim := { program := "ytokjdaknfkleeaa", sum := "33df9616a75c0d6a1e045fd478232290eacc2af98313a75f428060236c4a8cc9", func := "loop.example/sharedinference/laws.FnExactSubShares", spec := "fnExactSubShares", unfollowed := true, recurses := true, apart := false, narrowed := true }
def FnExactSubSharesUptoSaid : Prop := fnExactSubSharesUptoRow.holds Try.pinned (OpenSpec.upto fnExactSubSharesSpec)

/-- 'laws.FnExactTimesKnown', WHERE WHAT IT READS IS OF BULK AT MOST 1048576: true; the input reads as it did. -/
def fnExactTimesKnownUptoRow : OpenClaim := { program := "ytokjdaknfkleeaa", sum := "33df9616a75c0d6a1e045fd478232290eacc2af98313a75f428060236c4a8cc9", func := "loop.example/sharedinference/laws.FnExactTimesKnown", spec := "fnExactTimesKnown", unfollowed := true, recurses := true, apart := false, narrowed := true }
def FnExactTimesKnownUptoSaid : Prop := fnExactTimesKnownUptoRow.holds Try.pinned (OpenSpec.upto fnExactTimesKnownSpec)

/-- 'laws.FnExactTripleRight', WHERE WHAT IT READS IS OF BULK AT MOST 1048576: true; the input reads as it did. -/
def fnExactTripleRightUptoRow : OpenClaim := { program := "ytokjdaknfkleeaa", sum := "33df9616a75c0d6a1e045fd478232290eacc2af98313a75f428060236c4a8cc9", func := "loop.example/sharedinference/laws.FnExactTripleRight", spec := "fnExactTripleRight", apart := false, narrowed := true }
def FnExactTripleRightUptoSaid : Prop := fnExactTripleRightUptoRow.holds Try.pinned (OpenSpec.upto fnExactTripleRightSpec)

/-- 'laws.FnAddKnown', WHERE WHAT IT READS IS OF BULK AT MOST 1048576: true; the input reads as it did. -/
def fnAddKnownUptoRow : OpenClaim := { program := "ytokjdaknfkleeaa", sum := "33df9616a75c0d6a1e045fd478232290eacc2af98313a75f428060236c4a8cc9", func := "loop.example/sharedinference/laws.FnAddKnown", spec := "fnAddKnown", unfollowed := true, recurses := true, apart := false, narrowed := true }
def FnAddKnownUptoSaid : Prop := fnAddKnownUptoRow.holds Try.pinned (OpenSpec.upto fnAddKnownSpec)

/-- 'laws.FnAddShares', WHERE WHAT IT READS IS OF BULK AT MOST 1048576: true; the input reads as it did. -/
def fnAddSharesUptoRow : OpenClaim := { program := "ytokjdaknfkleeaa", sum := "33df9616a75c0d6a1e045fd478232290eacc2af98313a75f428060236c4a8cc9", func := "loop.example/sharedinference/laws.FnAddShares", spec := "fnAddShares", unfollowed := true, recurses := true, apart := false, narrowed := true }
def FnAddSharesUptoSaid : Prop := fnAddSharesUptoRow.holds Try.pinned (OpenSpec.upto fnAddSharesSpec)

/-- 'laws.FnSubShares', WHERE WHAT IT READS IS OF BULK AT MOST 1048576: true; the input reads as it did. -/
def fnSubSharesUptoRow : OpenClaim := { program := "ytokjdaknfkleeaa", sum := "33df9616a75c0d6a1e045fd478232290eacc2af98313a75f428060236c4a8cc9", func := "loop.example/sharedinference/laws.FnSubShares", spec := "fnSubShares", unfollowed := true, recurses := true, apart := false, narrowed := true }
def FnSubSharesUptoSaid : Prop := fnSubSharesUptoRow.holds Try.pinned (OpenSpec.upto fnSubSharesSpec)

/-- 'laws.FnTimesKnown', WHERE WHAT IT READS IS OF BULK AT MOST 1048576: true; the input reads as it did. -/
def fnTimesKnownUptoRow : OpenClaim := { program := "ytokjdaknfkleeaa", sum := "33df9616a75c0d6a1e045fd478232290eacc2af98313a75f428060236c4a8cc9", func := "loop.example/sharedinference/laws.FnTimesKnown", spec := "fnTimesKnown", unfollowed := true, recurses := true, apart := false, narrowed := true }
def FnTimesKnownUptoSaid : Prop := fnTimesKnownUptoRow.holds Try.pinned (OpenSpec.upto fnTimesKnownSpec)

/-- 'laws.FnTripleRight', WHERE WHAT IT READS IS OF BULK AT MOST 1048576: true; the input reads as it did. -/
def fnTripleRightUptoRow : OpenClaim := { program := "ytokjdaknfkleeaa", sum := "33df9616a75c0d6a1e045fd478232290eacc2af98313a75f428060236c4a8cc9", func := "loop.example/sharedinference/laws.FnTripleRight", spec := "fnTripleRight", unfollowed := true, recurses := true, apart := false, narrowed := true }
def FnTripleRightUptoSaid : Prop := fnTripleRightUptoRow.holds Try.pinned (OpenSpec.upto fnTripleRightSpec)

/-- 'laws.FnExactMulShared', WHERE WHAT IT READS IS OF BULK AT MOST 1048576: true; the input reads as it did. -/
def fnExactMulSharedUptoRow : OpenClaim := { program := "ytokjdaknfkleeaa", sum := "33df9616a75c0d6a1e045fd478232290eacc2af98313a75f428060236c4a8cc9", func := "loop.example/sharedinference/laws.FnExactMulShared", spec := "fnExactMulShared", apart := false, narrowed := true }
def FnExactMulSharedUptoSaid : Prop := fnExactMulSharedUptoRow.holds Try.pinned (OpenSpec.upto fnExactMulSharedSpec)

/-- 'laws.FnMulShared', WHERE WHAT IT READS IS OF BULK AT MOST 1048576: true; the input reads as it did. -/
def fnMulSharedUptoRow : OpenClaim := { program := "ytokjdaknfkleeaa", sum := "33df9616a75c0d6a1e045fd478232290eacc2af98313a75f428060236c4a8cc9", func := "loop.example/sharedinference/laws.FnMulShared", spec := "fnMulShared", apart := false, narrowed := true }
def FnMulSharedUptoSaid : Prop := fnMulSharedUptoRow.holds Try.pinned (OpenSpec.upto fnMulSharedSpec)

/-- 'laws.FnMulOrder', WHERE WHAT IT READS IS OF BULK AT MOST 1048576: true; the input reads as it did. -/
def fnMulOrderUptoRow : OpenClaim := { program := "ytokjdaknfkleeaa", sum := "33df9616a75c0d6a1e045fd478232290eacc2af98313a75f428060236c4a8cc9", func := "loop.example/sharedinference/laws.FnMulOrder", spec := "fnMulOrder", apart := false, narrowed := true }
def FnMulOrderUptoSaid : Prop := fnMulOrderUptoRow.holds Try.pinned (OpenSpec.upto fnMulOrderSpec)

end Rows
end Go.Proofs.Ytokjdaknfkleeaa
