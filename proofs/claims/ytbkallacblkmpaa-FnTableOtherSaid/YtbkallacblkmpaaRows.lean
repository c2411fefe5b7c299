/-
  No cell of these rows narrows 'for every input' (looked for: loops, veiled, ifaces, maps, wideKeys, modest, calm, conditions, laid).
  DERIVED. THE GIVEN ROWS OF THIS SEAT. 5 by the template 'for every input the law returns true; each argument reads behind the call as it read before'; 0 by the template 'total and deterministic' (their statements: YtbkallacblkmpaaTotals.lean).
  GIVEN WITH THE SEED: the statements are not yours to turn. If you find one false, say at which input.
  Laid BY PROGRAM, IN A SANDBOX (cutbox-rows.mjs): the forced cells as the released guide's own fill.sh prints them over the translation 203b39cf77464aba… (all of the seat's roots in one cut). By AI agents, Wed Nov 11 2026. No macro, syntax, notation, axiom, sorry.
-/
import Derived.Test.YtbkallacblkmpaaChecked
import GoSem.Claim
import GoSem.ClaimJoined
import GoSem.ClaimMapViews
import Derived.JoinedTies
import Derived.KernelRfl
namespace Go.Proofs.Ytbkallacblkmpaa
/- THE CELL 'sum', in the pinned program and in every row, IS THE sha256 OF THE DUMP (.gsa) THAT YtbkallacblkmpaaProg.lean LOADS. Nothing in Lean hashes anything: it is a label: what it is worth is what the hold of that sum in a sandbox is worth. -/
noncomputable def Try.pinned : Pinned := { name := "ytbkallacblkmpaa", sum := "203b39cf77464abad4c5792e29eaefdb0d208c426182edd0bc1a273c315f1eaf", checked := Try.checked }
namespace Rows
def none {H : Type} : Left H := { results := [], args := [] }

/-- 'laws.FnTableOther': WHATEVER THE INPUT: true; the input reads as it did. -/
def fnTableOtherSpec : ChangeSpec := { name := "fnTableOther", fn := fun _ => fun
  | [d] => { results := [.lit (.bool true)], args := [d] }
  | _ => none }
def fnTableOtherRow : OpenClaim := { program := "ytbkallacblkmpaa", sum := "203b39cf77464abad4c5792e29eaefdb0d208c426182edd0bc1a273c315f1eaf", func := "loop.example/sharedinference/laws.FnTableOther", spec := "fnTableOther", unfollowed := true, recurses := true, apart := false }
def FnTableOtherSaid : Prop := fnTableOtherRow.holds Try.pinned (OpenSpec.ofChange fnTableOtherSpec)

/-- ITS FALSE NEIGHBOUR: 'it returns false'. Refute it at one input. -/
def fnTableOtherWrong : ChangeSpec := { name := "fnTableOther", fn := fun _ => fun
  | [d] => { results := [.lit (.bool false)], args := [d] }
  | _ => none }
def FnTableOtherWrongFalsely : Prop := fnTableOtherRow.holds Try.pinned (OpenSpec.ofChange fnTableOtherWrong)

/-- 'laws.FnExactLessShared': WHATEVER THE INPUT: true; the input reads as it did. -/
def fnExactLessSharedSpec : ChangeSpec := { name := "fnExactLessShared", fn := fun _ => fun
  | [d1, d2, d3] => { results := [.lit (.bool true)], args := [d1, d2, d3] }
  | _ => none }
def fnExactLessSharedRow : OpenClaim := { program := "ytbkallacblkmpaa", sum := "203b39cf77464abad4c5792e29eaefdb0d208c426182edd0bc1a273c315f1eaf", func := "loop.example/sharedinference/laws.FnExactLessShared", spec := "fnExactLessShared", unfollowed := true, recurses := true, apart := false }
def FnExactLessSharedSaid : Prop := fnExactLessSharedRow.holds Try.pinned (OpenSpec.ofChange fnExactLessSharedSpec)

/-- ITS FALSE NEIGHBOUR: 'it returns false'. Refute it at one input. -/
def fnExactLessSharedWrong : ChangeSpec := { name := "fnExactLessShared", fn := fun _ => fun
  | [d1, d2, d3] => { results := [.lit (.bool false)], args := [d1, d2, d3] }
  | _ => none }
def FnExactLessSharedWrongFalsely : Prop := fnExactLessSharedRow.holds Try.pinned (OpenSpec.ofChange fnExactLessSharedWrong)

/-- 'laws.FnLessShared': WHATEVER THE INPUT: true; the input reads as it did. -/
def fnLessSharedSpec : ChangeSpec := { name := "fnLessShared", fn := fun _ => fun
  | [d] => { results := [.lit (.bool true)], args := [d] }
  | _ => none }
def fnLessSharedRow : OpenClaim := { program := "ytbkallacblkmpaa", sum := "203b39cf77464abad4c5792e29eaefdb0d208c426182edd0bc1a273c315f1eaf", func := "loop.example/sharedinference/laws.FnLessShared", spec := "fnLessShared", unfollowed := true, recurses := true, apart := false }
def FnLessSharedSaid : Prop := fnLessSharedRow.holds Try.pinned (OpenSpec.ofChange fnLessSharedSpec)

/-- ITS FALSE NEIGHBOUR: 'it returns false'. Refute it at one input. -/
def fnLessSharedWrong : ChangeSpec := { name := "fnLessShared", fn := fun _ => fun
  | [d] => { results := [.lit (.bool false)], args := [d] }
  | _ => none }
def FnLessSharedWrongFalsely : Prop := fnLessSharedRow.holds Try.pinned (OpenSpec.ofChange fnLessSharedWrong)

/-- 'laws.FnExactMaxShared': WHATEVER THE INPUT: true; the input reads as it did. -/
def fnExactMaxSharedSpec : ChangeSpec := { name := "fnExactMaxShared", fn := fun _ => fun
  | [d1, d2, d3] => { results := [.lit (.bool true)], args := [d1, d2, d3] }
  | _ => none }
def fnExactMaxSharedRow : OpenClaim := { program := "ytbkallacblkmpaa", sum := "203b39cf77464abad4c5792e29eaefdb0d208c426182edd0bc1a273c315f1eaf", func := "loop.example/sharedinference/laws.FnExactMaxShared", spec := "fnExactMaxShared", unfollowed := true, recurses := true, apart := false }
def FnExactMaxSharedSaid : Prop := fnExactMaxSharedRow.holds Try.pinned (OpenSpec.ofChange fnExactMaxSharedSpec)

/-- ITS FALSE NEIGHBOUR: 'it returns false'. Refute it at one input. -/
def fnExactMaxSharedWrong : ChangeSpec := { name := "fnExactMaxShared", fn := fun _ => fun
  | [d1, d2, d3] => { results := [.lit (.bool false)], args := [d1, d2, d3] }
  | _ => none }
def FnExactMaxSharedWrongFalsely : Prop := fnExactMaxSharedRow.holds Try.pinned (OpenSpec.ofChange fnExactMaxSharedWrong)

/-- 'laws.FnMaxShared': WHATEVER THE INPUT: true; the input reads as it did. -/
def fnMaxSharedSpec : ChangeSpec := { name := "fnMaxShared", fn := fun _ => fun
  | [d] => { results := [.lit (.bool true)], args := [d] }
  | _ => none }
def fnMaxSharedRow : OpenClaim := { program := "ytbkallacblkmpaa", sum := "203b39cf77464abad4c5792e29eaefdb0d208c426182edd0bc1a273c315f1eaf", func := "loop.example/sharedinference/laws.FnMaxShared", spec := "fnMaxShared", unfollowed := true, recurses := true, apart := false }
def FnMaxSharedSaid : Prop := fnMaxSharedRow.holds Try.pinned (OpenSpec.ofChange fnMaxSharedSpec)

/-- ITS FALSE NEIGHBOUR: 'it returns false'. Refute it at one input. -/
def fnMaxSharedWrong : ChangeSpec := { name := "fnMaxShared", fn := fun _ => fun
  | [d] => { results := [.lit (.bool false)], args := [d] }
  | _ => none }
def FnMaxSharedWrongFalsely : Prop := fnMaxSharedRow.holds Try.pinned (OpenSpec.ofChange fnMaxSharedWrong)

/- THE SECOND FORM. 'bulk': how many values and letters a reading holds, each counted each time it is reached (what is shared counts as often as it is met; a slice's spare places count too). A statement '..UptoSaid' is the law's where the arguments, and the package variables that the reading takes, are together of bulk at most 1048576: NARROWER than '..Said'. Prove '..Said' where nothing that the law and all that it calls make is longer than what came in: it says more and counts as full. Else prove '..UptoSaid'. A law counts once. -/
mutual
def uptoBulk {H : Type} : DataW H → Nat
  | .lit (.string bytes) => bytes.length + 1
  | .lit _ => 1
  | .nil => 1
  | .ptr d => uptoBulk d + 1
  | .slice elems spare => uptoBulkAll elems + uptoBulkAll spare + 1
  | .agg parts => uptoBulkAll parts + 1
  | .iface _ d => uptoBulk d + 1
  | .map entries => uptoBulkEntries entries + 1
  | .held _ => 1
def uptoBulkAll {H : Type} : List (DataW H) → Nat
  | [] => 0
  | d :: r => uptoBulk d + uptoBulkAll r
def uptoBulkEntries {H : Type} : List (Lit × DataW H) → Nat
  | [] => 0
  | x :: r => uptoBulkEntry x + uptoBulkEntries r
def uptoBulkEntry {H : Type} : Lit × DataW H → Nat
  | (.string bytes, d) => bytes.length + uptoBulk d + 1
  | (_, d) => uptoBulk d + 1
 end
def uptoSmall : (H : Type) → List (DataW H) → Bool := fun _ ds => decide (uptoBulkAll ds ≤ 1048576)
def OpenSpec.upto (s : _root_.Go.ChangeSpec) : _root_.Go.OpenSpec := { _root_.Go.OpenSpec.ofChange s with cond := some uptoSmall }

/-- 'laws.FnTableOther', WHERE WHAT IT READS IS OF BULK AT MOST 1048576: true; the input reads as it did. -/
def fnTableOtherUptoRow : OpenClaim := { program := "ytbkallacblkmpaa", sum := "203b39cf77464abad4c5792e29eaefdb0d208c426182edd0bc1a273c315f1eaf", func := "loop.example/sharedinference/laws.FnTableOther", spec := "fnTableOther", unfollowed := true, recurses := true, apart := false, narrowed := true }
def FnTableOtherUptoSaid : Prop := fnTableOtherUptoRow.holds Try.pinned (OpenSpec.upto fnTableOtherSpec)

/-- 'laws.FnExactLessShared', WHERE WHAT IT READS IS OF BULK AT MOST 1048576: true; the input reads as it did. -/
def fnExactLessSharedUptoRow : OpenClaim := { program := "ytbkallacblkmpaa", sum := "203b39cf77464abad4c5792e29eaefdb0d208c426182edd0bc1a273c315f1eaf", func := "loop.example/sharedinference/laws.FnExactLessShared", spec := "fnExactLessShared", unfollowed := true, recurses := true, apart := false, narrowed := true }
def FnExactLessSharedUptoSaid : Prop := fnExactLessSharedUptoRow.holds Try.pinned (OpenSpec.upto fnExactLessSharedSpec)

/-- 'laws.FnLessShared', WHERE WHAT IT READS IS OF BULK AT MOST 1048576: true; the input reads as it did. -/
def fnLessSharedUptoRow : OpenClaim := { program := "ytbkallacblkmpaa", sum := "203b39cf77464abad4c5792e29eaefdb0d208c426182edd0bc1a273c315f1eaf", func := "loop.example/sharedinference/laws.FnLessShared", spec := "fnLessShared", unfollowed := true, recurses := true, apart := false, narrowed := true }
def FnLessSharedUptoSaid : Prop := fnLessSharedUptoRow.holds Try.pinned (OpenSpec.upto fnLessSharedSpec)

/-- 'laws.FnExactMaxShared', WHERE WHAT IT READS IS OF BULK AT MOST 1048576: true; the input reads as it did. -/
def fnExactMaxSharedUptoRow : OpenClaim := { program := "ytbkallacblkmpaa", sum := "203b39cf77464abad4c5792e29eaefdb0d208c426182edd0bc1a273c315f1eaf", func := "loop.example/sharedinference/laws.FnExactMaxShared", spec := "fnExactMaxShared", unfollowed := true, recurses := true, apart := false, narrowed := true }
def FnExactMaxSharedUptoSaid : Prop := fnExactMaxSharedUptoRow.holds Try.pinned (OpenSpec.upto fnExactMaxSharedSpec)

/-- 'laws.FnMaxShared', WHERE WHAT IT READS IS OF BULK AT MOST 1048576: true; the input reads as it did. -/
def fnMaxSharedUptoRow : OpenClaim := { program := "ytbkallacblkmpaa", sum := "203b39cf77464abad4c5792e29eaefdb0d208c426182edd0bc1a273c315f1eaf", func := "loop.example/sharedinference/laws.FnMaxShared", spec := "fnMaxShared", unfollowed := true, recurses := true, apart := false, narrowed := true }
def FnMaxSharedUptoSaid : Prop := fnMaxSharedUptoRow.holds Try.pinned (OpenSpec.upto fnMaxSharedSpec)

end Rows
end Go.Proofs.Ytbkallacblkmpaa
