/-
  No cell of these rows narrows 'for every input' (looked for: loops, veiled, ifaces, maps, wideKeys, modest, calm, conditions, laid).
  DERIVED. THE GIVEN ROWS OF THIS SEAT. 4 by the template 'for every input the law returns true; each argument reads behind the call as it read before'; 0 by the template 'total and deterministic' (their statements: YtgbkpledbjkjoaaTotals.lean).
  GIVEN WITH THE SEED: the statements are not yours to turn. If you find one false, say at which input.
  Laid BY PROGRAM, IN A SANDBOX (cutbox-rows.mjs): the forced cells as the released guide's own fill.sh prints them over the translation ec2548b4ed48613d… (all of the seat's roots in one cut). By AI agents, Wed Nov 11 2026. No macro, syntax, notation, axiom, sorry.
-/
import Derived.Test.YtgbkpledbjkjoaaChecked
import GoSem.Claim
import GoSem.ClaimJoined
import GoSem.ClaimMapViews
import Derived.JoinedTies
import Derived.KernelRfl
namespace Go.Proofs.Ytgbkpledbjkjoaa
/- THE CELL 'sum', in the pinned program and in every row, IS THE sha256 OF THE DUMP (.gsa) THAT YtgbkpledbjkjoaaProg.lean LOADS. Nothing in Lean hashes anything: it is a label: what it is worth is what the hold of that sum in a sandbox is worth. -/
noncomputable def Try.pinned : Pinned := { name := "ytgbkpledbjkjoaa", sum := "ec2548b4ed48613d2d879d7988b866efa46090e44b77640d1a30ae3c6d8c43de", checked := Try.checked }
namespace Rows
def none {H : Type} : Left H := { results := [], args := [] }

/-- 'laws.FnExactSegmentSize': WHATEVER THE INPUT: true; the input reads as it did. -/
def fnExactSegmentSizeSpec : ChangeSpec := { name := "fnExactSegmentSize", fn := fun _ => fun
  | [d1, d2] => { results := [.lit (.bool true)], args := [d1, d2] }
  | _ => none }
def fnExactSegmentSizeRow : OpenClaim := { program := "ytgbkpledbjkjoaa", sum := "ec2548b4ed48613d2d879d7988b866efa46090e44b77640d1a30ae3c6d8c43de", func := "loop.example/g00202/laws.FnExactSegmentSize", spec := "fnExactSegmentSize", apart := false }
def FnExactSegmentSizeSaid : Prop := fnExactSegmentSizeRow.holds Try.pinned (OpenSpec.ofChange fnExactSegmentSizeSpec)

/-- ITS FALSE NEIGHBOUR: 'it returns false'. Refute it at one input. -/
def fnExactSegmentSizeWrong : ChangeSpec := { name := "fnExactSegmentSize", fn := fun _ => fun
  | [d1, d2] => { results := [.lit (.bool false)], args := [d1, d2] }
  | _ => none }
def FnExactSegmentSizeWrongFalsely : Prop := fnExactSegmentSizeRow.holds Try.pinned (OpenSpec.ofChange fnExactSegmentSizeWrong)

/-- 'laws.FnExactPathsOK': WHATEVER THE INPUT: true; the input reads as it did. -/
def fnExactPathsOKSpec : ChangeSpec := { name := "fnExactPathsOK", fn := fun _ => fun
  | [d] => { results := [.lit (.bool true)], args := [d] }
  | _ => none }
def fnExactPathsOKRow : OpenClaim := { program := "ytgbkpledbjkjoaa", sum := "ec2548b4ed48613d2d879d7988b866efa46090e44b77640d1a30ae3c6d8c43de", func := "loop.example/g00202/laws.FnExactPathsOK", spec := "fnExactPathsOK", unfollowed := true, recurses := true, apart := false }
def FnExactPathsOKSaid : Prop := fnExactPathsOKRow.holds Try.pinned (OpenSpec.ofChange fnExactPathsOKSpec)

/-- ITS FALSE NEIGHBOUR: 'it returns false'. Refute it at one input. -/
def fnExactPathsOKWrong : ChangeSpec := { name := "fnExactPathsOK", fn := fun _ => fun
  | [d] => { results := [.lit (.bool false)], args := [d] }
  | _ => none }
def FnExactPathsOKWrongFalsely : Prop := fnExactPathsOKRow.holds Try.pinned (OpenSpec.ofChange fnExactPathsOKWrong)

/-- 'laws.FnExactExpirePaths': WHATEVER THE INPUT: true; the input reads as it did. -/
def fnExactExpirePathsSpec : ChangeSpec := { name := "fnExactExpirePaths", fn := fun _ => fun
  | [d1, d2] => { results := [.lit (.bool true)], args := [d1, d2] }
  | _ => none }
def fnExactExpirePathsRow : OpenClaim := { program := "ytgbkpledbjkjoaa", sum := "ec2548b4ed48613d2d879d7988b866efa46090e44b77640d1a30ae3c6d8c43de", func := "loop.example/g00202/laws.FnExactExpirePaths", spec := "fnExactExpirePaths", unfollowed := true, recurses := true, apart := false }
def FnExactExpirePathsSaid : Prop := fnExactExpirePathsRow.holds Try.pinned (OpenSpec.ofChange fnExactExpirePathsSpec)

/-- ITS FALSE NEIGHBOUR: 'it returns false'. Refute it at one input. -/
def fnExactExpirePathsWrong : ChangeSpec := { name := "fnExactExpirePaths", fn := fun _ => fun
  | [d1, d2] => { results := [.lit (.bool false)], args := [d1, d2] }
  | _ => none }
def FnExactExpirePathsWrongFalsely : Prop := fnExactExpirePathsRow.holds Try.pinned (OpenSpec.ofChange fnExactExpirePathsWrong)

/-- 'laws.FnPaths': WHATEVER THE INPUT: true; the input reads as it did. -/
def fnPathsSpec : ChangeSpec := { name := "fnPaths", fn := fun _ => fun
  | [d1, d2] => { results := [.lit (.bool true)], args := [d1, d2] }
  | _ => none }
def fnPathsRow : OpenClaim := { program := "ytgbkpledbjkjoaa", sum := "ec2548b4ed48613d2d879d7988b866efa46090e44b77640d1a30ae3c6d8c43de", func := "loop.example/g00202/laws.FnPaths", spec := "fnPaths", unfollowed := true, recurses := true, apart := false }
def FnPathsSaid : Prop := fnPathsRow.holds Try.pinned (OpenSpec.ofChange fnPathsSpec)

/-- ITS FALSE NEIGHBOUR: 'it returns false'. Refute it at one input. -/
def fnPathsWrong : ChangeSpec := { name := "fnPaths", fn := fun _ => fun
  | [d1, d2] => { results := [.lit (.bool false)], args := [d1, d2] }
  | _ => none }
def FnPathsWrongFalsely : Prop := fnPathsRow.holds Try.pinned (OpenSpec.ofChange fnPathsWrong)

/- THE SECOND FORM. 'bulk': how many values and letters a reading holds, each counted each time it is reached (what is shared counts as often as it is met; a slice's spare places count too). A statement '..UptoSaid' is the law's where the arguments, and the package variables that the reading takes, are together of bulk at most 1048576: NARROWER than '..Said'. Prove '..Said' where nothing that the law and all that it calls make is longer than what came in: it says more and counts as full. Else prove '..UptoSaid'. A law counts once. -/
mutual
def uptoBulk {H : Type} : DataW H → Nat
  | .lit (.string bytes) => bytes.length + 1
  | .lit _ => 1
  | .nil => 1
  | .ptr d => uptoBulk d + 1
  | .slice elems spare => uptoBulkAll elems + uptoBulkAll spare + 1
  | .agg parts => uptoBulkAll parts + 1
  | .iface _ d => uptoBulk d + 1
  | .map entries => uptoBulkEntries entries + 1
  | .held _ => 1
def uptoBulkAll {H : Type} : List (DataW H) → Nat
  | [] => 0
  | d :: r => uptoBulk d + uptoBulkAll r
def uptoBulkEntries {H : Type} : List (Lit × DataW H) → Nat
  | [] => 0
  | x :: r => uptoBulkEntry x + uptoBulkEntries r
def uptoBulkEntry {H : Type} : Lit × DataW H → Nat
  | (.string bytes, d) => bytes.length + uptoBulk d + 1
  | (_, d) => uptoBulk d + 1
 end
def uptoSmall : (H : Type) → List (DataW H) → Bool := fun _ ds => decide (uptoBulkAll ds ≤ 1048576)
def OpenSpec.upto (s : _root_.Go.ChangeSpec) : _root_.Go.OpenSpec := { _root_.Go.OpenSpec.ofChange s with cond := some uptoSmall }

/-- 'laws.FnExactSegmentSize', WHERE WHAT IT READS IS OF BULK AT MOST 1048576: true; the input reads as it did. -/
def fnExactSegmentSizeUptoRow : OpenClaim := { program := "ytgbkpledbjkjoaa", sum := "ec2548b4ed48613d2d879d7988b866efa46090e44b77640d1a30ae3c6d8c43de", func := "loop.example/g00202/laws.FnExactSegmentSize", spec := "fnExactSegmentSize", apart := false, narrowed := true }
def FnExactSegmentSizeUptoSaid : Prop := fnExactSegmentSizeUptoRow.holds Try.pinned (OpenSpec.upto fnExactSegmentSizeSpec)

/-- 'laws.FnExactPathsOK', WHERE WHAT IT READS IS OF BULK AT MOST 1048576: true; the input reads as it did. -/
def fnExactPathsOKUptoRow : OpenClaim := { program := "ytgbkpledbjkjoaa", sum := "ec2548b4ed48613d2d879d7988b866efa46090e44b77640d1a30ae3c6d8c43de", func := "loop.example/g00202/laws.FnExactPathsOK", spec := "fnExactPathsOK", unfollowed := true, recurses := true, apart := false, narrowed := true }
def FnExactPathsOKUptoSaid : Prop := fnExactPathsOKUptoRow.holds Try.pinned (OpenSpec.upto fnExactPathsOKSpec)

/-- 'laws.FnExactExpirePaths', WHERE WHAT IT READS IS OF BULK AT MOST 1048576: true; the input reads as it did. -/
def fnExactExpirePathsUptoRow : OpenClaim := { program := "ytgbkpledbjkjoaa", sum := "ec2548b4ed48613d2d879d7988b866efa46090e44b77640d1a30ae3c6d8c43de", func := "loop.example/g00202/laws.FnExactExpirePaths", spec := "fnExactExpirePaths", unfollowed := true, recurses := true, apart := false, narrowed := true }
def FnExactExpirePathsUptoSaid : Prop := fnExactExpirePathsUptoRow.holds Try.pinned (OpenSpec.upto fnExactExpirePathsSpec)

/-- 'laws.FnPaths', WHERE WHAT IT READS IS OF BULK AT MOST 1048576: true; the input reads as it did. -/
def fnPathsUptoRow : OpenClaim := { program := "ytgbkpledbjkjoaa", sum := "ec2548b4ed48613d2d879d7988b866efa46090e44b77640d1a30ae3c6d8c43de", func := "loop.example/g00202/laws.FnPaths", spec := "fnPaths", unfollowed := true, recurses := true, apart := false, narrowed := true }
def FnPathsUptoSaid : Prop := fnPathsUptoRow.holds Try.pinned (OpenSpec.upto fnPathsSpec)

end Rows
end Go.Proofs.Ytgbkpledbjkjoaa
