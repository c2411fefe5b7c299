/-
  No cell of these rows narrows 'for every input' (looked for: loops, veiled, ifaces, maps, wideKeys, modest, calm, conditions, laid).
  DERIVED. THE GIVEN ROWS OF THIS SEAT. 3 by the template 'for every input the law returns true; each argument reads behind the call as it read before'; 0 by the template 'total and deterministic' (their statements: YtpbnbhiffnnliaaTotals.lean).
  GIVEN WITH THE SEED: the statements are not yours to turn. If you find one false, say at which input.
  Laid BY PROGRAM, IN A SANDBOX (cutbox-rows.mjs): the forced cells as the released guide's own fill.sh prints them over the translation f2570305c819c7bf… (all of the seat's roots in one cut). By AI agents, Wed Nov 11 2026. No macro, syntax, notation, axiom, sorry.
-/
import Derived.Test.YtpbnbhiffnnliaaChecked
import GoSem.Claim
import GoSem.ClaimJoined
import GoSem.ClaimMapViews
import Derived.JoinedTies
import Derived.KernelRfl
namespace Go.Proofs.Ytpbnbhiffnnliaa
/- THE CELL 'sum', in the pinned program and in every row, IS THE sha256 OF THE DUMP (.gsa) THAT YtpbnbhiffnnliaaProg.lean LOADS. Nothing in Lean hashes anything: it is a label: what it is worth is what the hold of that sum in a sandbox is worth. -/
noncomputable def Try.pinned : Pinned := { name := "ytpbnbhiffnnliaa", sum := "f2570305c819c7bf7d7353f9297da8c57d67314492916ae17990067fde522487", checked := Try.checked }
namespace Rows
def none {H : Type} : Left H := { results := [], args := [] }

/-- 'laws.FnPlainDense': WHATEVER THE INPUT: true; the input reads as it did. -/
def fnPlainDenseSpec : ChangeSpec := { name := "fnPlainDense", fn := fun _ => fun
  | [d] => { results := [.lit (.bool true)], args := [d] }
  | _ => none }
def fnPlainDenseRow : OpenClaim := { program := "ytpbnbhiffnnliaa", sum := "f2570305c819c7bf7d7353f9297da8c57d67314492916ae17990067fde522487", func := "loop.example/sharedinference/laws.FnPlainDense", spec := "fnPlainDense", unfollowed := true, recurses := true, apart := false }
def FnPlainDenseSaid : Prop := fnPlainDenseRow.holds Try.pinned (OpenSpec.ofChange fnPlainDenseSpec)

/-- ITS FALSE NEIGHBOUR: 'it returns false'. Refute it at one input. -/
def fnPlainDenseWrong : ChangeSpec := { name := "fnPlainDense", fn := fun _ => fun
  | [d] => { results := [.lit (.bool false)], args := [d] }
  | _ => none }
def FnPlainDenseWrongFalsely : Prop := fnPlainDenseRow.holds Try.pinned (OpenSpec.ofChange fnPlainDenseWrong)

/-- 'laws.FnExactLayerValid': WHATEVER THE INPUT: true; the input reads as it did. -/
def fnExactLayerValidSpec : ChangeSpec := { name := "fnExactLayerValid", fn := fun _ => fun
  | [d] => { results := [.lit (.bool true)], args := [d] }
  | _ => none }
def fnExactLayerValidRow : OpenClaim := { program := "ytpbnbhiffnnliaa", sum := "f2570305c819c7bf7d7353f9297da8c57d67314492916ae17990067fde522487", func := "loop.example/sharedinference/laws.FnExactLayerValid", spec := "fnExactLayerValid", apart := false }
def FnExactLayerValidSaid : Prop := fnExactLayerValidRow.holds Try.pinned (OpenSpec.ofChange fnExactLayerValidSpec)

/-- ITS FALSE NEIGHBOUR: 'it returns false'. Refute it at one input. -/
def fnExactLayerValidWrong : ChangeSpec := { name := "fnExactLayerValid", fn := fun _ => fun
  | [d] => { results := [.lit (.bool false)], args := [d] }
  | _ => none }
def FnExactLayerValidWrongFalsely : Prop := fnExactLayerValidRow.holds Try.pinned (OpenSpec.ofChange fnExactLayerValidWrong)

/-- 'laws.FnLayerValid': WHATEVER THE INPUT: true; the input reads as it did. -/
def fnLayerValidSpec : ChangeSpec := { name := "fnLayerValid", fn := fun _ => fun
  | [d] => { results := [.lit (.bool true)], args := [d] }
  | _ => none }
def fnLayerValidRow : OpenClaim := { program := "ytpbnbhiffnnliaa", sum := "f2570305c819c7bf7d7353f9297da8c57d67314492916ae17990067fde522487", func := "loop.example/sharedinference/laws.FnLayerValid", spec := "fnLayerValid", apart := false }
def FnLayerValidSaid : Prop := fnLayerValidRow.holds Try.pinned (OpenSpec.ofChange fnLayerValidSpec)

/-- ITS FALSE NEIGHBOUR: 'it returns false'. Refute it at one input. -/
def fnLayerValidWrong : ChangeSpec := { name := "fnLayerValid", fn := fun _ => fun
  | [d] => { results := [.lit (.bool false)], args := [d] }
  | _ => none }
def FnLayerValidWrongFalsely : Prop := fnLayerValidRow.holds Try.pinned (OpenSpec.ofChange fnLayerValidWrong)

/- THE SECOND FORM. 'bulk': how many values and letters a reading holds, each counted each time it is reached (what is shared counts as often as it is met; a slice's spare places count too). A statement '..UptoSaid' is the law's where the arguments, and the package variables that the reading takes, are together of bulk at most 1048576: NARROWER than '..Said'. Prove '..Said' where nothing that the law and all that it calls make is longer than what came in: it says more and counts as full. Else prove '..UptoSaid'. A law counts once. -/
mutual
def uptoBulk {H : Type} : DataW H → Nat
  | .lit (.string bytes) => bytes.length + 1
  | .lit _ => 1
  | .nil => 1
  | .ptr d => uptoBulk d + 1
  | .slice elems spare => uptoBulkAll elems + uptoBulkAll spare + 1
  | .agg parts => uptoBulkAll parts + 1
  | .iface _ d => uptoBulk d + 1
  | .map entries => uptoBulkEntries entries + 1
  | .held _ => 1
def uptoBulkAll {H : Type} : List (DataW H) → Nat
  | [] => 0
  | d :: r => uptoBulk d + uptoBulkAll r
def uptoBulkEntries {H : Type} : List (Lit × DataW H) → Nat
  | [] => 0
  | x :: r => uptoBulkEntry x + uptoBulkEntries r
def uptoBulkEntry {H : Type} : Lit × DataW H → Nat
  | (.string bytes, d) => bytes.length + uptoBulk d + 1
  | (_, d) => uptoBulk d + 1
 end
def uptoSmall : (H : Type) → List (DataW H) → Bool := fun _ ds => decide (uptoBulkAll ds ≤ 1048576)
def OpenSpec.upto (s : _root_.Go.ChangeSpec) : _root_.Go.OpenSpec := { _root_.Go.OpenSpec.ofChange s with cond := some uptoSmall }

/-- 'laws.FnPlainDense', WHERE WHAT IT READS IS OF BULK AT MOST 1048576: true; the input reads as it did. -/
def fnPlainDenseUptoRow : OpenClaim := { program := "ytpbnbhiffnnliaa", sum := "f2570305c819c7bf7d7353f9297da8c57d67314492916ae17990067fde522487", func := "loop.example/sharedinference/laws.FnPlainDense", spec := "fnPlainDense", unfollowed := true, recurses := true, apart := false, narrowed := true }
def FnPlainDenseUptoSaid : Prop := fnPlainDenseUptoRow.holds Try.pinned (OpenSpec.upto fnPlainDenseSpec)

/-- 'laws.FnExactLayerValid', WHERE WHAT IT READS IS OF BULK AT MOST 1048576: true; the input reads as it did. -/
def fnExactLayerValidUptoRow : OpenClaim := { program := "ytpbnbhiffnnliaa", sum := "f2570305c819c7bf7d7353f9297da8c57d67314492916ae17990067fde522487", func := "loop.example/sharedinference/laws.FnExactLayerValid", spec := "fnExactLayerValid", apart := false, narrowed := true }
def FnExactLayerValidUptoSaid : Prop := fnExactLayerValidUptoRow.holds Try.pinned (OpenSpec.upto fnExactLayerValidSpec)

/-- 'laws.FnLayerValid', WHERE WHAT IT READS IS OF BULK AT MOST 1048576: true; the input reads as it did. -/
def fnLayerValidUptoRow : OpenClaim := { program := "ytpbnbhiffnnliaa", sum := "f2570305c819c7bf7d7353f9297da8c57d67314492916ae17990067fde522487", func := "loop.example/sharedinference/laws.FnLayerValid", spec := "fnLayerValid", apart := false, narrowed := true }
def FnLayerValidUptoSaid : Prop := fnLayerValidUptoRow.holds Try.pinned (OpenSpec.upto fnLayerValidSpec)

end Rows
end Go.Proofs.Ytpbnbhiffnnliaa
