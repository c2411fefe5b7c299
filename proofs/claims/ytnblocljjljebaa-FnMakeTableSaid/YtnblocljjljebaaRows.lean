/-
  No cell of these rows narrows 'for every input' (looked for: loops, veiled, ifaces, maps, wideKeys, modest, calm, conditions, laid).
  DERIVED. THE GIVEN ROWS OF THIS SEAT. 12 by the template 'for every input the law returns true; each argument reads behind the call as it read before'; 0 by the template 'total and deterministic' (their statements: YtnblocljjljebaaTotals.lean).
  GIVEN WITH THE SEED: the statements are not yours to turn. If you find one false, say at which input.
  Laid BY PROGRAM, IN A SANDBOX (cutbox-rows.mjs): the forced cells as the released guide's own fill.sh prints them over the translation 4260bd6c4ba9ccef… (all of the seat's roots in one cut). By AI agents, Wed Nov 11 2026. No macro, syntax, notation, axiom, sorry.
-/
import Derived.Test.YtnblocljjljebaaChecked
import GoSem.Claim
import GoSem.ClaimJoined
import GoSem.ClaimMapViews
import Derived.JoinedTies
import Derived.KernelRfl
namespace Go.Proofs.Ytnblocljjljebaa
/- THE CELL 'sum', in the pinned program and in every row, IS THE sha256 OF THE DUMP (.gsa) THAT YtnblocljjljebaaProg.lean LOADS. Nothing in Lean hashes anything: it is a label: what it is worth is what the hold of that sum in a sandbox is worth. -/
noncomputable def Try.pinned : Pinned := { name := "ytnblocljjljebaa", sum := "4260bd6c4ba9ccef057122e6d0e929e66f5d3cacf7ea42bb80c759e5ddf5cf5d", checked := Try.checked }
namespace Rows
def none {H : Type} : Left H := { results := [], args := [] }

/-- 'laws.FnExactFunctionAt': WHATEVER THE INPUT: true; the input reads as it did. -/
def fnExactFunctionAtSpec : ChangeSpec := { name := "fnExactFunctionAt", fn := fun _ => fun
  | [d1, d2] => { results := [.lit (.bool true)], args := [d1, d2] }
  | _ => none }
def fnExactFunctionAtRow : OpenClaim := { program := "ytnblocljjljebaa", sum := "4260bd6c4ba9ccef057122e6d0e929e66f5d3cacf7ea42bb80c759e5ddf5cf5d", func := "loop.example/sharedinference/laws.FnExactFunctionAt", spec := "fnExactFunctionAt", apart := false }
def FnExactFunctionAtSaid : Prop := fnExactFunctionAtRow.holds Try.pinned (OpenSpec.ofChange fnExactFunctionAtSpec)

/-- ITS FALSE NEIGHBOUR: 'it returns false'. Refute it at one input. -/
def fnExactFunctionAtWrong : ChangeSpec := { name := "fnExactFunctionAt", fn := fun _ => fun
  | [d1, d2] => { results := [.lit (.bool false)], args := [d1, d2] }
  | _ => none }
def FnExactFunctionAtWrongFalsely : Prop := fnExactFunctionAtRow.holds Try.pinned (OpenSpec.ofChange fnExactFunctionAtWrong)

/-- 'laws.FnFunctionAt': WHATEVER THE INPUT: true; the input reads as it did. -/
def fnFunctionAtSpec : ChangeSpec := { name := "fnFunctionAt", fn := fun _ => fun
  | [d] => { results := [.lit (.bool true)], args := [d] }
  | _ => none }
def fnFunctionAtRow : OpenClaim := { program := "ytnblocljjljebaa", sum := "4260bd6c4ba9ccef057122e6d0e929e66f5d3cacf7ea42bb80c759e5ddf5cf5d", func := "loop.example/sharedinference/laws.FnFunctionAt", spec := "fnFunctionAt", apart := false }
def FnFunctionAtSaid : Prop := fnFunctionAtRow.holds Try.pinned (OpenSpec.ofChange fnFunctionAtSpec)

/-- ITS FALSE NEIGHBOUR: 'it returns false'. Refute it at one input. -/
def fnFunctionAtWrong : ChangeSpec := { name := "fnFunctionAt", fn := fun _ => fun
  | [d] => { results := [.lit (.bool false)], args := [d] }
  | _ => none }
def FnFunctionAtWrongFalsely : Prop := fnFunctionAtRow.holds Try.pinned (OpenSpec.ofChange fnFunctionAtWrong)

/-- 'laws.FnExactTableValid': WHATEVER THE INPUT: true; the input reads as it did. -/
def fnExactTableValidSpec : ChangeSpec := { name := "fnExactTableValid", fn := fun _ => fun
  | [d] => { results := [.lit (.bool true)], args := [d] }
  | _ => none }
def fnExactTableValidRow : OpenClaim := { program := "ytnblocljjljebaa", sum := "4260bd6c4ba9ccef057122e6d0e929e66f5d3cacf7ea42bb80c759e5ddf5cf5d", func := "loop.example/sharedinference/laws.FnExactTableValid", spec := "fnExactTableValid", apart := false }
def FnExactTableValidSaid : Prop := fnExactTableValidRow.holds Try.pinned (OpenSpec.ofChange fnExactTableValidSpec)

/-- ITS FALSE NEIGHBOUR: 'it returns false'. Refute it at one input. -/
def fnExactTableValidWrong : ChangeSpec := { name := "fnExactTableValid", fn := fun _ => fun
  | [d] => { results := [.lit (.bool false)], args := [d] }
  | _ => none }
def FnExactTableValidWrongFalsely : Prop := fnExactTableValidRow.holds Try.pinned (OpenSpec.ofChange fnExactTableValidWrong)

/-- 'laws.FnExactFunctionValues': WHATEVER THE INPUT: true; the input reads as it did. -/
def fnExactFunctionValuesSpec : ChangeSpec := { name := "fnExactFunctionValues", fn := fun _ => fun
  | [d] => { results := [.lit (.bool true)], args := [d] }
  | _ => none }
def fnExactFunctionValuesRow : OpenClaim := { program := "ytnblocljjljebaa", sum := "4260bd6c4ba9ccef057122e6d0e929e66f5d3cacf7ea42bb80c759e5ddf5cf5d", func := "loop.example/sharedinference/laws.FnExactFunctionValues", spec := "fnExactFunctionValues", apart := false }
def FnExactFunctionValuesSaid : Prop := fnExactFunctionValuesRow.holds Try.pinned (OpenSpec.ofChange fnExactFunctionValuesSpec)

/-- ITS FALSE NEIGHBOUR: 'it returns false'. Refute it at one input. -/
def fnExactFunctionValuesWrong : ChangeSpec := { name := "fnExactFunctionValues", fn := fun _ => fun
  | [d] => { results := [.lit (.bool false)], args := [d] }
  | _ => none }
def FnExactFunctionValuesWrongFalsely : Prop := fnExactFunctionValuesRow.holds Try.pinned (OpenSpec.ofChange fnExactFunctionValuesWrong)

/-- 'laws.FnFunctionValues': WHATEVER THE INPUT: true; the input reads as it did. -/
def fnFunctionValuesSpec : ChangeSpec := { name := "fnFunctionValues", fn := fun _ => fun
  | [d] => { results := [.lit (.bool true)], args := [d] }
  | _ => none }
def fnFunctionValuesRow : OpenClaim := { program := "ytnblocljjljebaa", sum := "4260bd6c4ba9ccef057122e6d0e929e66f5d3cacf7ea42bb80c759e5ddf5cf5d", func := "loop.example/sharedinference/laws.FnFunctionValues", spec := "fnFunctionValues", apart := false }
def FnFunctionValuesSaid : Prop := fnFunctionValuesRow.holds Try.pinned (OpenSpec.ofChange fnFunctionValuesSpec)

/-- ITS FALSE NEIGHBOUR: 'it returns false'. Refute it at one input. -/
def fnFunctionValuesWrong : ChangeSpec := { name := "fnFunctionValues", fn := fun _ => fun
  | [d] => { results := [.lit (.bool false)], args := [d] }
  | _ => none }
def FnFunctionValuesWrongFalsely : Prop := fnFunctionValuesRow.holds Try.pinned (OpenSpec.ofChange fnFunctionValuesWrong)

/-- 'laws.FnExactUseTable': WHATEVER THE INPUT: true; the input reads as it did. -/
def fnExactUseTableSpec : ChangeSpec := { name := "fnExactUseTable", fn := fun _ => fun
  | [d1, d2] => { results := [.lit (.bool true)], args := [d1, d2] }
  | _ => none }
def fnExactUseTableRow : OpenClaim := { program := "ytnblocljjljebaa", sum := "4260bd6c4ba9ccef057122e6d0e929e66f5d3cacf7ea42bb80c759e5ddf5cf5d", func := "loop.example/sharedinference/laws.FnExactUseTable", spec := "fnExactUseTable", apart := false }
def FnExactUseTableSaid : Prop := fnExactUseTableRow.holds Try.pinned (OpenSpec.ofChange fnExactUseTableSpec)

/-- ITS FALSE NEIGHBOUR: 'it returns false'. Refute it at one input. -/
def fnExactUseTableWrong : ChangeSpec := { name := "fnExactUseTable", fn := fun _ => fun
  | [d1, d2] => { results := [.lit (.bool false)], args := [d1, d2] }
  | _ => none }
def FnExactUseTableWrongFalsely : Prop := fnExactUseTableRow.holds Try.pinned (OpenSpec.ofChange fnExactUseTableWrong)

/-- 'laws.FnTableValid': WHATEVER THE INPUT: true; the input reads as it did. -/
def fnTableValidSpec : ChangeSpec := { name := "fnTableValid", fn := fun _ => fun
  | [d] => { results := [.lit (.bool true)], args := [d] }
  | _ => none }
def fnTableValidRow : OpenClaim := { program := "ytnblocljjljebaa", sum := "4260bd6c4ba9ccef057122e6d0e929e66f5d3cacf7ea42bb80c759e5ddf5cf5d", func := "loop.example/sharedinference/laws.FnTableValid", spec := "fnTableValid", apart := false }
def FnTableValidSaid : Prop := fnTableValidRow.holds Try.pinned (OpenSpec.ofChange fnTableValidSpec)

/-- ITS FALSE NEIGHBOUR: 'it returns false'. Refute it at one input. -/
def fnTableValidWrong : ChangeSpec := { name := "fnTableValid", fn := fun _ => fun
  | [d] => { results := [.lit (.bool false)], args := [d] }
  | _ => none }
def FnTableValidWrongFalsely : Prop := fnTableValidRow.holds Try.pinned (OpenSpec.ofChange fnTableValidWrong)

/-- 'laws.FnUseTable': WHATEVER THE INPUT: true; the input reads as it did. -/
def fnUseTableSpec : ChangeSpec := { name := "fnUseTable", fn := fun _ => fun
  | [d] => { results := [.lit (.bool true)], args := [d] }
  | _ => none }
def fnUseTableRow : OpenClaim := { program := "ytnblocljjljebaa", sum := "4260bd6c4ba9ccef057122e6d0e929e66f5d3cacf7ea42bb80c759e5ddf5cf5d", func := "loop.example/sharedinference/laws.FnUseTable", spec := "fnUseTable", apart := false }
def FnUseTableSaid : Prop := fnUseTableRow.holds Try.pinned (OpenSpec.ofChange fnUseTableSpec)

/-- ITS FALSE NEIGHBOUR: 'it returns false'. Refute it at one input. -/
def fnUseTableWrong : ChangeSpec := { name := "fnUseTable", fn := fun _ => fun
  | [d] => { results := [.lit (.bool false)], args := [d] }
  | _ => none }
def FnUseTableWrongFalsely : Prop := fnUseTableRow.holds Try.pinned (OpenSpec.ofChange fnUseTableWrong)

/-- 'laws.FnExactMakeTriple': WHATEVER THE INPUT: true; the input reads as it did. -/
def fnExactMakeTripleSpec : ChangeSpec := { name := "fnExactMakeTriple", fn := fun _ => fun
  | [d] => { results := [.lit (.bool true)], args := [d] }
  | _ => none }
def fnExactMakeTripleRow : OpenClaim := { program := "ytnblocljjljebaa", sum := "4260bd6c4ba9ccef057122e6d0e929e66f5d3cacf7ea42bb80c759e5ddf5cf5d", func := "loop.example/sharedinference/laws.FnExactMakeTriple", spec := "fnExactMakeTriple", unfollowed := true, recurses := true, apart := false }
def FnExactMakeTripleSaid : Prop := fnExactMakeTripleRow.holds Try.pinned (OpenSpec.ofChange fnExactMakeTripleSpec)

/-- ITS FALSE NEIGHBOUR: 'it returns false'. Refute it at one input. -/
def fnExactMakeTripleWrong : ChangeSpec := { name := "fnExactMakeTriple", fn := fun _ => fun
  | [d] => { results := [.lit (.bool false)], args := [d] }
  | _ => none }
def FnExactMakeTripleWrongFalsely : Prop := fnExactMakeTripleRow.holds Try.pinned (OpenSpec.ofChange fnExactMakeTripleWrong)

/-- 'laws.FnMakeTriple': WHATEVER THE INPUT: true; the input reads as it did. -/
def fnMakeTripleSpec : ChangeSpec := { name := "fnMakeTriple", fn := fun _ => fun
  | [d] => { results := [.lit (.bool true)], args := [d] }
  | _ => none }
def fnMakeTripleRow : OpenClaim := { program := "ytnblocljjljebaa", sum := "4260bd6c4ba9ccef057122e6d0e929e66f5d3cacf7ea42bb80c759e5ddf5cf5d", func := "loop.example/sharedinference/laws.FnMakeTriple", spec := "fnMakeTriple", unfollowed := true, recurses := true, apart := false }
def FnMakeTripleSaid : Prop := fnMakeTripleRow.holds Try.pinned (OpenSpec.ofChange fnMakeTripleSpec)

/-- ITS FALSE NEIGHBOUR: 'it returns false'. Refute it at one input. -/
def fnMakeTripleWrong : ChangeSpec := { name := "fnMakeTriple", fn := fun _ => fun
  | [d] => { results := [.lit (.bool false)], args := [d] }
  | _ => none }
def FnMakeTripleWrongFalsely : Prop := fnMakeTripleRow.holds Try.pinned (OpenSpec.ofChange fnMakeTripleWrong)

/-- 'laws.FnExactMakeTable': WHATEVER THE INPUT: true; the input reads as it did. -/
def fnExactMakeTableSpec : ChangeSpec := { name := "fnExactMakeTable", fn := fun _ => fun
  | [d1, d2] => { results := [.lit (.bool true)], args := [d1, d2] }
  | _ => none }
def fnExactMakeTableRow : OpenClaim := { program := "ytnblocljjljebaa", sum := "4260bd6c4ba9ccef057122e6d0e929e66f5d3cacf7ea42bb80c759e5ddf5cf5d", func := "loop.example/sharedinference/laws.FnExactMakeTable", spec := "fnExactMakeTable", unfollowed := true, recurses := true, apart := false }
def FnExactMakeTableSaid : Prop := fnExactMakeTableRow.holds Try.pinned (OpenSpec.ofChange fnExactMakeTableSpec)

/-- ITS FALSE NEIGHBOUR: 'it returns false'. Refute it at one input. -/
def fnExactMakeTableWrong : ChangeSpec := { name := "fnExactMakeTable", fn := fun _ => fun
  | [d1, d2] => { results := [.lit (.bool false)], args := [d1, d2] }
  | _ => none }
def FnExactMakeTableWrongFalsely : Prop := fnExactMakeTableRow.holds Try.pinned (OpenSpec.ofChange fnExactMakeTableWrong)

/-- 'laws.FnMakeTable': WHATEVER THE INPUT: true; the input reads as it did. -/
def fnMakeTableSpec : ChangeSpec := { name := "fnMakeTable", fn := fun _ => fun
  | [d1, d2] => { results := [.lit (.bool true)], args := [d1, d2] }
  | _ => none }
def fnMakeTableRow : OpenClaim := { program := "ytnblocljjljebaa", sum := "4260bd6c4ba9ccef057122e6d0e929e66f5d3cacf7ea42bb80c759e5ddf5cf5d", func := "loop.example/sharedinference/laws.FnMakeTable", spec := "fnMakeTable", unfollowed := true, recurses := true, apart := false }
def FnMakeTableSaid : Prop := fnMakeTableRow.holds Try.pinned (OpenSpec.ofChange fnMakeTableSpec)

/-- ITS FALSE NEIGHBOUR: 'it returns false'. Refute it at one input. -/
def fnMakeTableWrong : ChangeSpec := { name := "fnMakeTable", fn := fun _ => fun
  | [d1, d2] => { results := [.lit (.bool false)], args := [d1, d2] }
  | _ => none }
def FnMakeTableWrongFalsely : Prop := fnMakeTableRow.holds Try.pinned (OpenSpec.ofChange fnMakeTableWrong)

/- THE SECOND FORM. 'bulk': how many values and letters a reading holds, each counted each time it is reached (what is shared counts as often as it is met; a slice's spare places count too). A statement '..UptoSaid' is the law's where the arguments, and the package variables that the reading takes, are together of bulk at most 1048576: NARROWER than '..Said'. Prove '..Said' where nothing that the law and all that it calls make is longer than what came in: it says more and counts as full. Else prove '..UptoSaid'. A law counts once. -/
mutual
def uptoBulk {H : Type} : DataW H → Nat
  | .lit (.string bytes) => bytes.length + 1
  | .lit _ => 1
  | .nil => 1
  | .ptr d => uptoBulk d + 1
  | .slice elems spare => uptoBulkAll elems + uptoBulkAll spare + 1
  | .agg parts => uptoBulkAll parts + 1
  | .iface _ d => uptoBulk d + 1
  | .map entries => uptoBulkEntries entries + 1
  | .held _ => 1
def uptoBulkAll {H : Type} : List (DataW H) → Nat
  | [] => 0
  | d :: r => uptoBulk d + uptoBulkAll r
def uptoBulkEntries {H : Type} : List (Lit × DataW H) → Nat
  | [] => 0
  | x :: r => uptoBulkEntry x + uptoBulkEntries r
def uptoBulkEntry {H : Type} : Lit × DataW H → Nat
  | (.string bytes, d) => bytes.length + uptoBulk d + 1
  | (_, d) => uptoBulk d + 1
 end
def uptoSmall : (H : Type) → List (DataW H) → Bool := fun _ ds => decide (uptoBulkAll ds ≤ 1048576)
def OpenSpec.upto (s : _root_.Go.ChangeSpec) : _root_.Go.OpenSpec := { _root_.Go.OpenSpec.ofChange s with cond := some uptoSmall }

/-- 'laws.FnExactFunctionAt', WHERE WHAT IT READS IS OF BULK AT MOST 1048576: true; the input reads as it did. -/
def fnExactFunctionAtUptoRow : OpenClaim := { program := "ytnblocljjljebaa", sum := "4260bd6c4ba9ccef057122e6d0e929e66f5d3cacf7ea42bb80c759e5ddf5cf5d", func := "loop.example/sharedinference/laws.FnExactFunctionAt", spec := "fnExactFunctionAt", apart := false, narrowed := true }
def FnExactFunctionAtUptoSaid : Prop := fnExactFunctionAtUptoRow.holds Try.pinned (OpenSpec.upto fnExactFunctionAtSpec)

/-- 'laws.FnFunctionAt', WHERE WHAT IT READS IS OF BULK AT MOST 1048576: true; the input reads as it did. -/
def fnFunctionAtUptoRow : OpenClaim := { program := "ytnblocljjljebaa", sum := "4260bd6c4ba9ccef057122e6d0e929e66f5d3cacf7ea42bb80c759e5ddf5cf5d", func := "loop.example/sharedinference/laws.FnFunctionAt", spec := "fnFunctionAt", apart := false, narrowed := true }
def FnFunctionAtUptoSaid : Prop := fnFunctionAtUptoRow.holds Try.pinned (OpenSpec.upto fnFunctionAtSpec)

/-- 'laws.FnExactTableValid', WHERE WHAT IT READS IS OF BULK AT MOST 1048576: true; the input reads as it did. -/
def fnExactTableValidUptoRow : OpenClaim := { program := "ytnblocljjljebaa", sum := "4260bd6c4ba9ccef057122e6d0e929e66f5d3cacf7ea42bb80c759e5ddf5cf5d", func := "loop.example/sharedinference/laws.FnExactTableValid", spec := "fnExactTableValid", apart := false, narrowed := true }
def FnExactTableValidUptoSaid : Prop := fnExactTableValidUptoRow.holds Try.pinned (OpenSpec.upto fnExactTableValidSpec)

/-- 'laws.FnExactFunctionValues', WHERE WHAT IT READS IS OF BULK AT MOST 1048576: true; the input reads as it did. -/
def fnExactFunctionValuesUptoRow : OpenClaim := { program := "ytnblocljjljebaa", sum := "4260bd6c4ba9ccef057122e6d0e929e66f5d3cacf7ea42bb80c759e5ddf5cf5d", func := "loop.example/sharedinference/laws.FnExactFunctionValues", spec := "fnExactFunctionValues", apart := false, narrowed := true }
def FnExactFunctionValuesUptoSaid : Prop := fnExactFunctionValuesUptoRow.holds Try.pinned (OpenSpec.upto fnExactFunctionValuesSpec)

/-- 'laws.FnFunctionValues', WHERE WHAT IT READS IS OF BULK AT MOST 1048576: true; the input reads as it did. -/
def fnFunctionValuesUptoRow : OpenClaim := { program := "ytnblocljjljebaa", sum := "4260bd6c4ba9ccef057122e6d0e929e66f5d3cacf7ea42bb80c759e5ddf5cf5d", func := "loop.example/sharedinference/laws.FnFunctionValues", spec := "fnFunctionValues", apart := false, narrowed := true }
def FnFunctionValuesUptoSaid : Prop := fnFunctionValuesUptoRow.holds Try.pinned (OpenSpec.upto fnFunctionValuesSpec)

/-- 'laws.FnExactUseTable', WHERE WHAT IT READS IS OF BULK AT MOST 1048576: true; the input reads as it did. -/
def fnExactUseTableUptoRow : OpenClaim := { program := "ytnblocljjljebaa", sum := "4260bd6c4ba9ccef057122e6d0e929e66f5d3cacf7ea42bb80c759e5ddf5cf5d", func := "loop.example/sharedinference/laws.FnExactUseTable", spec := "fnExactUseTable", apart := false, narrowed := true }
def FnExactUseTableUptoSaid : Prop := fnExactUseTableUptoRow.holds Try.pinned (OpenSpec.upto fnExactUseTableSpec)

/-- 'laws.FnTableValid', WHERE WHAT IT READS IS OF BULK AT MOST 1048576: true; the input reads as it did. -/
def fnTableValidUptoRow : OpenClaim := { program := "ytnblocljjljebaa", sum := "4260bd6c4ba9ccef057122e6d0e929e66f5d3cacf7ea42bb80c759e5ddf5cf5d", func := "loop.example/sharedinference/laws.FnTableValid", spec := "fnTableValid", apart := false, narrowed := true }
def FnTableValidUptoSaid : Prop := fnTableValidUptoRow.holds Try.pinned (OpenSpec.upto fnTableValidSpec)

/-- 'laws.FnUseTable', WHERE WHAT IT READS IS OF BULK AT MOST 1048576: true; the input reads as it did. -/
def fnUseTableUptoRow : OpenClaim := { program := "ytnblocljjljebaa", sum := "4260bd6c4ba9ccef057122e6d0e929e66f5d3cacf7ea42bb80c759e5ddf5cf5d", func := "loop.example/sharedinference/laws.FnUseTable", spec := "fnUseTable", apart := false, narrowed := true }
def FnUseTableUptoSaid : Prop := fnUseTableUptoRow.holds Try.pinned (OpenSpec.upto fnUseTableSpec)

/-- 'laws.FnExactMakeTriple', WHERE WHAT IT READS IS OF BULK AT MOST 1048576: true; the input reads as it did. -/
def fnExactMakeTripleUptoRow : OpenClaim := { program := "ytnblocljjljebaa", sum := "4260bd6c4ba9ccef057122e6d0e929e66f5d3cacf7ea42bb80c759e5ddf5cf5d", func := "loop.example/sharedinference/laws.FnExactMakeTriple", spec := "fnExactMakeTriple", unfollowed := true, recurses := true, apart := false, narrowed := true }
def FnExactMakeTripleUptoSaid : Prop := fnExactMakeTripleUptoRow.holds Try.pinned (OpenSpec.upto fnExactMakeTripleSpec)

/-- 'laws.FnMakeTriple', WHERE WHAT IT READS IS OF BULK AT MOST 1048576: true; the input reads as it did. -/
def fnMakeTripleUptoRow : OpenClaim := { program := "ytnblocljjljebaa", sum := "4260bd6c4ba9ccef057122e6d0e929e66f5d3cacf7ea42bb80c759e5ddf5cf5d", func := "loop.example/sharedinference/laws.FnMakeTriple", spec := "fnMakeTriple", unfollowed := true, recurses := true, apart := false, narrowed := true }
def FnMakeTripleUptoSaid : Prop := fnMakeTripleUptoRow.holds Try.pinned (OpenSpec.upto fnMakeTripleSpec)

/-- 'laws.FnExactMakeTable', WHERE WHAT IT READS IS OF BULK AT MOST 1048576: true; the input reads as it did. -/
def fnExactMakeTableUptoRow : OpenClaim := { program := "ytnblocljjljebaa", sum := "4260bd6c4ba9ccef057122e6d0e929e66f5d3cacf7ea42bb80c759e5ddf5cf5d", func := "loop.example/sharedinference/laws.FnExactMakeTable", spec := "fnExactMakeTable", unfollowed := true, recurses := true, apart := false, narrowed := true }
def FnExactMakeTableUptoSaid : Prop := fnExactMakeTableUptoRow.holds Try.pinned (OpenSpec.upto fnExactMakeTableSpec)

/-- 'laws.FnMakeTable', WHERE WHAT IT READS IS OF BULK AT MOST 1048576: true; the input reads as it did. -/
def fnMakeTableUptoRow : OpenClaim := { program := "ytnblocljjljebaa", sum := "4260bd6c4ba9ccef057122e6d0e929e66f5d3cacf7ea42bb80c759e5ddf5cf5d", func := "loop.example/sharedinference/laws.FnMakeTable", spec := "fnMakeTable", unfollowed := true, recurses := true, apart := false, narrowed := true }
def FnMakeTableUptoSaid : Prop := fnMakeTableUptoRow.holds Try.pinned (OpenSpec.upto fnMakeTableSpec)

end Rows
end Go.Proofs.Ytnblocljjljebaa
