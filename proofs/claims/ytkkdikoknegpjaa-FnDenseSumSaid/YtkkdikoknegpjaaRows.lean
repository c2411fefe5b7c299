/-
  No cell of these rows narrows 'for every input' (looked for: loops, veiled, ifaces, maps, wideKeys, modest, calm, conditions, laid).
  DERIVED. THE GIVEN ROWS OF THIS SEAT. 7 by the template 'for every input the law returns true; each argument reads behind the call as it read before'; 0 by the template 'total and deterministic' (their statements: YtkkdikoknegpjaaTotals.lean).
  GIVEN WITH THE SEED: the statements are not yours to turn. If you find one false, say at which input.
  Laid BY PROGRAM, IN A SANDBOX (cutbox-rows.mjs): the forced cells as the released guide's own fill.sh prints them over the translation 02485d082346444b… (all of the seat's roots in one cut). By AI agents, Wed Nov 11 2026. No macro, syntax, notation, axiom, sorry.
-/
import Derived.Test.YtkkdikoknegpjaaChecked
import GoSem.Claim
import GoSem.ClaimJoined
import GoSem.ClaimMapViews
import Derived.JoinedTies
import Derived.KernelRfl
namespace Go.Proofs.Ytkkdikoknegpjaa
/- THE CELL 'sum', in the pinned program and in every row, IS THE sha256 OF THE DUMP (.gsa) THAT YtkkdikoknegpjaaProg.lean LOADS. Nothing in Lean hashes anything: it is a label: what it is worth is what the hold of that sum in a sandbox is worth. -/
noncomputable def Try.pinned : Pinned := { name := "ytkkdikoknegpjaa", sum := "02485d082346444be9a74c71543de0a4a002acf3c4800baa375de59326529130", checked := Try.checked }
namespace Rows
def none {H : Type} : Left H := { results := [], args := [] }

/-- 'laws.FnExactMulSharedMatrices': WHATEVER THE INPUT: true; the input reads as it did. -/
def fnExactMulSharedMatricesSpec : ChangeSpec := { name := "fnExactMulSharedMatrices", fn := fun _ => fun
  | [d1, d2, d3] => { results := [.lit (.bool true)], args := [d1, d2, d3] }
  | _ => none }
def fnExactMulSharedMatricesRow : OpenClaim := { program := "ytkkdikoknegpjaa", sum := "02485d082346444be9a74c71543de0a4a002acf3c4800baa375de59326529130", func := "loop.example/sharedinference/laws.FnExactMulSharedMatrices", spec := "fnExactMulSharedMatrices", unfollowed := true, recurses := true, apart := false }
def FnExactMulSharedMatricesSaid : Prop := fnExactMulSharedMatricesRow.holds Try.pinned (OpenSpec.ofChange fnExactMulSharedMatricesSpec)

/-- ITS FALSE NEIGHBOUR: 'it returns false'. Refute it at one input. -/
def fnExactMulSharedMatricesWrong : ChangeSpec := { name := "fnExactMulSharedMatrices", fn := fun _ => fun
  | [d1, d2, d3] => { results := [.lit (.bool false)], args := [d1, d2, d3] }
  | _ => none }
def FnExactMulSharedMatricesWrongFalsely : Prop := fnExactMulSharedMatricesRow.holds Try.pinned (OpenSpec.ofChange fnExactMulSharedMatricesWrong)

/-- 'laws.FnMulSharedMatrices': WHATEVER THE INPUT: true; the input reads as it did. -/
def fnMulSharedMatricesSpec : ChangeSpec := { name := "fnMulSharedMatrices", fn := fun _ => fun
  | [d] => { results := [.lit (.bool true)], args := [d] }
  | _ => none }
def fnMulSharedMatricesRow : OpenClaim := { program := "ytkkdikoknegpjaa", sum := "02485d082346444be9a74c71543de0a4a002acf3c4800baa375de59326529130", func := "loop.example/sharedinference/laws.FnMulSharedMatrices", spec := "fnMulSharedMatrices", unfollowed := true, recurses := true, apart := false }
def FnMulSharedMatricesSaid : Prop := fnMulSharedMatricesRow.holds Try.pinned (OpenSpec.ofChange fnMulSharedMatricesSpec)

/-- ITS FALSE NEIGHBOUR: 'it returns false'. Refute it at one input. -/
def fnMulSharedMatricesWrong : ChangeSpec := { name := "fnMulSharedMatrices", fn := fun _ => fun
  | [d] => { results := [.lit (.bool false)], args := [d] }
  | _ => none }
def FnMulSharedMatricesWrongFalsely : Prop := fnMulSharedMatricesRow.holds Try.pinned (OpenSpec.ofChange fnMulSharedMatricesWrong)

/-- 'laws.FnExactProductShared': WHATEVER THE INPUT: true; the input reads as it did. -/
def fnExactProductSharedSpec : ChangeSpec := { name := "fnExactProductShared", fn := fun _ => fun
  | [d1, d2, d3] => { results := [.lit (.bool true)], args := [d1, d2, d3] }
  | _ => none }
def fnExactProductSharedRow : OpenClaim := { program := "ytkkdikoknegpjaa", sum := "02485d082346444be9a74c71543de0a4a002acf3c4800baa375de59326529130", func := "loop.example/sharedinference/laws.FnExactProductShared", spec := "fnExactProductShared", unfollowed := true, recurses := true, apart := false }
def FnExactProductSharedSaid : Prop := fnExactProductSharedRow.holds Try.pinned (OpenSpec.ofChange fnExactProductSharedSpec)

/-- ITS FALSE NEIGHBOUR: 'it returns false'. Refute it at one input. -/
def fnExactProductSharedWrong : ChangeSpec := { name := "fnExactProductShared", fn := fun _ => fun
  | [d1, d2, d3] => { results := [.lit (.bool false)], args := [d1, d2, d3] }
  | _ => none }
def FnExactProductSharedWrongFalsely : Prop := fnExactProductSharedRow.holds Try.pinned (OpenSpec.ofChange fnExactProductSharedWrong)

/-- 'laws.FnProductShared': WHATEVER THE INPUT: true; the input reads as it did. -/
def fnProductSharedSpec : ChangeSpec := { name := "fnProductShared", fn := fun _ => fun
  | [d] => { results := [.lit (.bool true)], args := [d] }
  | _ => none }
def fnProductSharedRow : OpenClaim := { program := "ytkkdikoknegpjaa", sum := "02485d082346444be9a74c71543de0a4a002acf3c4800baa375de59326529130", func := "loop.example/sharedinference/laws.FnProductShared", spec := "fnProductShared", unfollowed := true, recurses := true, apart := false }
def FnProductSharedSaid : Prop := fnProductSharedRow.holds Try.pinned (OpenSpec.ofChange fnProductSharedSpec)

/-- ITS FALSE NEIGHBOUR: 'it returns false'. Refute it at one input. -/
def fnProductSharedWrong : ChangeSpec := { name := "fnProductShared", fn := fun _ => fun
  | [d] => { results := [.lit (.bool false)], args := [d] }
  | _ => none }
def FnProductSharedWrongFalsely : Prop := fnProductSharedRow.holds Try.pinned (OpenSpec.ofChange fnProductSharedWrong)

/-- 'laws.FnDenseSum': WHATEVER THE INPUT: true; the input reads as it did. -/
def fnDenseSumSpec : ChangeSpec := { name := "fnDenseSum", fn := fun _ => fun
  | [d] => { results := [.lit (.bool true)], args := [d] }
  | _ => none }
def fnDenseSumRow : OpenClaim := { program := "ytkkdikoknegpjaa", sum := "02485d082346444be9a74c71543de0a4a002acf3c4800baa375de59326529130", func := "loop.example/sharedinference/laws.FnDenseSum", spec := "fnDenseSum", unfollowed := true, recurses := true, apart := false }
def FnDenseSumSaid : Prop := fnDenseSumRow.holds Try.pinned (OpenSpec.ofChange fnDenseSumSpec)

/-- ITS FALSE NEIGHBOUR: 'it returns false'. Refute it at one input. -/
def fnDenseSumWrong : ChangeSpec := { name := "fnDenseSum", fn := fun _ => fun
  | [d] => { results := [.lit (.bool false)], args := [d] }
  | _ => none }
def FnDenseSumWrongFalsely : Prop := fnDenseSumRow.holds Try.pinned (OpenSpec.ofChange fnDenseSumWrong)

/-- 'laws.FnExactMapShared': WHATEVER THE INPUT: true; the input reads as it did. -/
def fnExactMapSharedSpec : ChangeSpec := { name := "fnExactMapShared", fn := fun _ => fun
  | [d1, d2, d3] => { results := [.lit (.bool true)], args := [d1, d2, d3] }
  | _ => none }
def fnExactMapSharedRow : OpenClaim := { program := "ytkkdikoknegpjaa", sum := "02485d082346444be9a74c71543de0a4a002acf3c4800baa375de59326529130", func := "loop.example/sharedinference/laws.FnExactMapShared", spec := "fnExactMapShared", unfollowed := true, recurses := true, apart := false }
def FnExactMapSharedSaid : Prop := fnExactMapSharedRow.holds Try.pinned (OpenSpec.ofChange fnExactMapSharedSpec)

/-- ITS FALSE NEIGHBOUR: 'it returns false'. Refute it at one input. -/
def fnExactMapSharedWrong : ChangeSpec := { name := "fnExactMapShared", fn := fun _ => fun
  | [d1, d2, d3] => { results := [.lit (.bool false)], args := [d1, d2, d3] }
  | _ => none }
def FnExactMapSharedWrongFalsely : Prop := fnExactMapSharedRow.holds Try.pinned (OpenSpec.ofChange fnExactMapSharedWrong)

/-- 'laws.FnMapShared': WHATEVER THE INPUT: true; the input reads as it did. -/
def fnMapSharedSpec : ChangeSpec := { name := "fnMapShared", fn := fun _ => fun
  | [d] => { results := [.lit (.bool true)], args := [d] }
  | _ => none }
def fnMapSharedRow : OpenClaim := { program := "ytkkdikoknegpjaa", sum := "02485d082346444be9a74c71543de0a4a002acf3c4800baa375de59326529130", func := "loop.example/sharedinference/laws.FnMapShared", spec := "fnMapShared", unfollowed := true, recurses := true, apart := false }
def FnMapSharedSaid : Prop := fnMapSharedRow.holds Try.pinned (OpenSpec.ofChange fnMapSharedSpec)

/-- ITS FALSE NEIGHBOUR: 'it returns false'. Refute it at one input. -/
def fnMapSharedWrong : ChangeSpec := { name := "fnMapShared", fn := fun _ => fun
  | [d] => { results := [.lit (.bool false)], args := [d] }
  | _ => none }
def FnMapSharedWrongFalsely : Prop := fnMapSharedRow.holds Try.pinned (OpenSpec.ofChange fnMapSharedWrong)

/- THE SECOND FORM. 'bulk': how many values and letters a reading holds, each counted each time it is reached (what is shared counts as often as it is met; a slice's spare places count too). A statement '..UptoSaid' is the law's where the arguments, and the package variables that the reading takes, are together of bulk at most 1048576: NARROWER than '..Said'. Prove '..Said' where nothing that the law and all that it calls make is longer than what came in: it says more and counts as full. Else prove '..UptoSaid'. A law counts once. -/
mutual
def uptoBulk {H : Type} : DataW H → Nat
  | .lit (.string bytes) => bytes.length + 1
  | .lit _ => 1
  | .nil => 1
  | .ptr d => uptoBulk d + 1
  | .slice elems spare => uptoBulkAll elems + uptoBulkAll spare + 1
  | .agg parts => uptoBulkAll parts + 1
  | .iface _ d => uptoBulk d + 1
  | .map entries => uptoBulkEntries entries + 1
  | .held _ => 1
def uptoBulkAll {H : Type} : List (DataW H) → Nat
  | [] => 0
  | d :: r => uptoBulk d + uptoBulkAll r
def uptoBulkEntries {H : Type} : List (Lit × DataW H) → Nat
  | [] => 0
  | x :: r => uptoBulkEntry x + uptoBulkEntries r
def uptoBulkEntry {H : Type} : Lit × DataW H → Nat
  | (.string bytes, d) => bytes.length + uptoBulk d + 1
  | (_, d) => uptoBulk d + 1
 end
def uptoSmall : (H : Type) → List (DataW H) → Bool := fun _ ds => decide (uptoBulkAll ds ≤ 1048576)
def OpenSpec.upto (s : _root_.Go.ChangeSpec) : _root_.Go.OpenSpec := { _root_.Go.OpenSpec.ofChange s with cond := some uptoSmall }

/-- 'laws.FnExactMulSharedMatrices', WHERE WHAT IT READS IS OF BULK AT MOST 1048576: true; the input reads as it did. -/
def fnExactMulSharedMatricesUptoRow : OpenClaim := { program := "ytkkdikoknegpjaa", sum := "02485d082346444be9a74c71543de0a4a002acf3c4800baa375de59326529130", func := "loop.example/sharedinference/laws.FnExactMulSharedMatrices", spec := "fnExactMulSharedMatrices", unfollowed := true, recurses := true, apart := false, narrowed := true }
def FnExactMulSharedMatricesUptoSaid : Prop := fnExactMulSharedMatricesUptoRow.holds Try.pinned (OpenSpec.upto fnExactMulSharedMatricesSpec)

/-- 'laws.FnMulSharedMatrices', WHERE WHAT IT READS IS OF BULK AT MOST 1048576: true; the input reads as it did. -/
def fnMulSharedMatricesUptoRow : OpenClaim := { program := "ytkkdikoknegpjaa", sum := "02485d082346444be9a74c71543de0a4a002acf3c4800baa375de59326529130", func := "loop.example/sharedinference/laws.FnMulSharedMatrices", spec := "fnMulSharedMatrices", unfollowed := true, recurses := true, apart := false, narrowed := true }
def FnMulSharedMatricesUptoSaid : Prop := fnMulSharedMatricesUptoRow.holds Try.pinned (OpenSpec.upto fnMulSharedMatricesSpec)

/-- 'laws.FnExactProductShared', WHERE WHAT IT READS IS OF BULK AT MOST 1048576: true; the input reads as it did. -/
def fnExactProductSharedUptoRow : OpenClaim := { program := "ytkkdikoknegpjaa", sum := "02485d082346444be9a74c71543de0a4a002acf3c4800baa375de59326529130", func := "loop.example/sharedinference/laws.FnExactProductShared", spec := "fnExactProductShared", unfollowed := true, recurses := true, apart := false, narrowed := true }
def FnExactProductSharedUptoSaid : Prop := fnExactProductSharedUptoRow.holds Try.pinned (OpenSpec.upto fnExactProductSharedSpec)

/-- 'laws.FnProductShared', WHERE WHAT IT READS IS OF BULK AT MOST 1048576: true; the input reads as it did. -/
def fnProductSharedUptoRow : OpenClaim := { program := "ytkkdikoknegpjaa", sum := "02485d082346444be9a74c71543de0a4a002acf3c4800baa375de59326529130", func := "loop.example/sharedinference/laws.FnProductShared", spec := "fnProductShared", unfollowed := true, recurses := true, apart := false, narrowed := true }
def FnProductSharedUptoSaid : Prop := fnProductSharedUptoRow.holds Try.pinned (OpenSpec.upto fnProductSharedSpec)

/-- 'laws.FnDenseSum', WHERE WHAT IT READS IS OF BULK AT MOST 1048576: true; the input reads as it did. -/
def fnDenseSumUptoRow : OpenClaim := { program := "ytkkdikoknegpjaa", sum := "02485d082346444be9a74c71543de0a4a002acf3c4800baa375de59326529130", func := "loop.example/sharedinference/laws.FnDenseSum", spec := "fnDenseSum", unfollowed := true, recurses := true, apart := false, narrowed := true }
def FnDenseSumUptoSaid : Prop := fnDenseSumUptoRow.holds Try.pinned (OpenSpec.upto fnDenseSumSpec)

/-- 'laws.FnExactMapShared', WHERE WHAT IT READS IS OF BULK AT MOST 1048576: true; the input reads as it did. -/
def fnExactMapSharedUptoRow : OpenClaim := { program := "ytkkdikoknegpjaa", sum := "02485d082346444be9a74c71543de0a4a002acf3c4800baa375de59326529130", func := "loop.example/sharedinference/laws.FnExactMapShared", spec := "fnExactMapShared", unfollowed := true, recurses := true, apart := false, narrowed := true }
def FnExactMapSharedUptoSaid : Prop := fnExactMapSharedUptoRow.holds Try.pinned (OpenSpec.upto fnExactMapSharedSpec)

/-- 'laws.FnMapShared', WHERE WHAT IT READS IS OF BULK AT MOST 1048576: true; the input reads as it did. -/
def fnMapSharedUptoRow : OpenClaim := { program := "ytkkdikoknegpjaa", sum := "02485d082346444be9a74c71543de0a4a002acf3c4800baa375de59326529130", func := "loop.example/sharedinference/laws.FnMapShared", spec := "fnMapShared", unfollowed := true, recurses := true, apart := false, narrowed := true }
def FnMapSharedUptoSaid : Prop := fnMapSharedUptoRow.holds Try.pinned (OpenSpec.upto fnMapSharedSpec)

end Rows
end Go.Proofs.Ytkkdikoknegpjaa
