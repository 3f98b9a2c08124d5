/-
  No cell of these rows narrows 'for every input' (looked for: loops, veiled, ifaces, maps, wideKeys, modest, calm, conditions, laid).
  DERIVED. THE GIVEN ROWS OF THIS SEAT. 4 by the template 'for every input the law returns true; each argument reads behind the call as it read before'; 0 by the template 'total and deterministic' (their statements: YtecjjkmheionoaaTotals.lean).
  GIVEN WITH THE SEED: the statements are not yours to turn. If you find one false, say at which input.
  Laid BY PROGRAM, IN A SANDBOX (cutbox-rows.mjs): the forced cells as the released guide's own fill.sh prints them over the translation 67a3cec1efc9dda8… (all of the seat's roots in one cut). By AI agents, Wed Nov 11 2026. No macro, syntax, notation, axiom, sorry.
-/
import Derived.Test.YtecjjkmheionoaaChecked
import GoSem.Claim
import GoSem.ClaimJoined
import GoSem.ClaimMapViews
import Derived.JoinedTies
import Derived.KernelRfl
namespace Go.Proofs.Ytecjjkmheionoaa
/- THE CELL 'sum', in the pinned program and in every row, IS THE sha256 OF THE DUMP (.gsa) THAT YtecjjkmheionoaaProg.lean LOADS. Nothing in Lean hashes anything: it is a label: what it is worth is what the hold of that sum in a sandbox is worth. -/
noncomputable def Try.pinned : Pinned := { name := "ytecjjkmheionoaa", sum := "67a3cec1efc9dda8b3557f8ac546a4cb2b8fdc3c8a1a16a8cf21b2628238c313", checked := Try.checked }
namespace Rows
def none {H : Type} : Left H := { results := [], args := [] }

/-- 'laws.FnExactSpreadTable': WHATEVER THE INPUT: true; the input reads as it did. -/
def fnExactSpreadTableSpec : ChangeSpec := { name := "fnExactSpreadTable", fn := fun _ => fun
  | [d1, d2] => { results := [.lit (.bool true)], args := [d1, d2] }
  | _ => none }
def fnExactSpreadTableRow : OpenClaim := { program := "ytecjjkmheionoaa", sum := "67a3cec1efc9dda8b3557f8ac546a4cb2b8fdc3c8a1a16a8cf21b2628238c313", func := "loop.example/g00202/laws.FnExactSpreadTable", spec := "fnExactSpreadTable", apart := false }
def FnExactSpreadTableSaid : Prop := fnExactSpreadTableRow.holds Try.pinned (OpenSpec.ofChange fnExactSpreadTableSpec)

/-- ITS FALSE NEIGHBOUR: 'it returns false'. Refute it at one input. -/
def fnExactSpreadTableWrong : ChangeSpec := { name := "fnExactSpreadTable", fn := fun _ => fun
  | [d1, d2] => { results := [.lit (.bool false)], args := [d1, d2] }
  | _ => none }
def FnExactSpreadTableWrongFalsely : Prop := fnExactSpreadTableRow.holds Try.pinned (OpenSpec.ofChange fnExactSpreadTableWrong)

/-- 'laws.FnExactSteerQueue': WHATEVER THE INPUT: true; the input reads as it did. -/
def fnExactSteerQueueSpec : ChangeSpec := { name := "fnExactSteerQueue", fn := fun _ => fun
  | [d1, d2] => { results := [.lit (.bool true)], args := [d1, d2] }
  | _ => none }
def fnExactSteerQueueRow : OpenClaim := { program := "ytecjjkmheionoaa", sum := "67a3cec1efc9dda8b3557f8ac546a4cb2b8fdc3c8a1a16a8cf21b2628238c313", func := "loop.example/g00202/laws.FnExactSteerQueue", spec := "fnExactSteerQueue", unfollowed := true, recurses := true, apart := false }
def FnExactSteerQueueSaid : Prop := fnExactSteerQueueRow.holds Try.pinned (OpenSpec.ofChange fnExactSteerQueueSpec)

/-- ITS FALSE NEIGHBOUR: 'it returns false'. Refute it at one input. -/
def fnExactSteerQueueWrong : ChangeSpec := { name := "fnExactSteerQueue", fn := fun _ => fun
  | [d1, d2] => { results := [.lit (.bool false)], args := [d1, d2] }
  | _ => none }
def FnExactSteerQueueWrongFalsely : Prop := fnExactSteerQueueRow.holds Try.pinned (OpenSpec.ofChange fnExactSteerQueueWrong)

/-- 'laws.FnSteers': WHATEVER THE INPUT: true; the input reads as it did. -/
def fnSteersSpec : ChangeSpec := { name := "fnSteers", fn := fun _ => fun
  | [d1, d2] => { results := [.lit (.bool true)], args := [d1, d2] }
  | _ => none }
def fnSteersRow : OpenClaim := { program := "ytecjjkmheionoaa", sum := "67a3cec1efc9dda8b3557f8ac546a4cb2b8fdc3c8a1a16a8cf21b2628238c313", func := "loop.example/g00202/laws.FnSteers", spec := "fnSteers", unfollowed := true, recurses := true, apart := false }
def FnSteersSaid : Prop := fnSteersRow.holds Try.pinned (OpenSpec.ofChange fnSteersSpec)

/-- ITS FALSE NEIGHBOUR: 'it returns false'. Refute it at one input. -/
def fnSteersWrong : ChangeSpec := { name := "fnSteers", fn := fun _ => fun
  | [d1, d2] => { results := [.lit (.bool false)], args := [d1, d2] }
  | _ => none }
def FnSteersWrongFalsely : Prop := fnSteersRow.holds Try.pinned (OpenSpec.ofChange fnSteersWrong)

/-- 'laws.FnToeplitz': WHATEVER THE INPUT: true; the input reads as it did. -/
def fnToeplitzSpec : ChangeSpec := { name := "fnToeplitz", fn := fun _ => fun
  | [d1, d2] => { results := [.lit (.bool true)], args := [d1, d2] }
  | _ => none }
def fnToeplitzRow : OpenClaim := { program := "ytecjjkmheionoaa", sum := "67a3cec1efc9dda8b3557f8ac546a4cb2b8fdc3c8a1a16a8cf21b2628238c313", func := "loop.example/g00202/laws.FnToeplitz", spec := "fnToeplitz", apart := false }
def FnToeplitzSaid : Prop := fnToeplitzRow.holds Try.pinned (OpenSpec.ofChange fnToeplitzSpec)

/-- ITS FALSE NEIGHBOUR: 'it returns false'. Refute it at one input. -/
def fnToeplitzWrong : ChangeSpec := { name := "fnToeplitz", fn := fun _ => fun
  | [d1, d2] => { results := [.lit (.bool false)], args := [d1, d2] }
  | _ => none }
def FnToeplitzWrongFalsely : Prop := fnToeplitzRow.holds Try.pinned (OpenSpec.ofChange fnToeplitzWrong)

/- THE SECOND FORM. 'bulk': how many values and letters a reading holds, each counted each time it is reached (what is shared counts as often as it is met; a slice's spare places count too). A statement '..UptoSaid' is the law's where the arguments, and the package variables that the reading takes, are together of bulk at most 1048576: NARROWER than '..Said'. Prove '..Said' where nothing that the law and all that it calls make is longer than what came in: it says more and counts as full. Else prove '..UptoSaid'. A law counts once. -/
mutual
def uptoBulk {H : Type} : DataW H → Nat
  | .lit (.string bytes) => bytes.length + 1
  | .lit _ => 1
  | .nil => 1
  | .ptr d => uptoBulk d + 1
  | .slice elems spare => uptoBulkAll elems + uptoBulkAll spare + 1
  | .agg parts => uptoBulkAll parts + 1
  | .iface _ d => uptoBulk d + 1
  | .map entries => uptoBulkEntries entries + 1
  | .held _ => 1
def uptoBulkAll {H : Type} : List (DataW H) → Nat
  | [] => 0
  | d :: r => uptoBulk d + uptoBulkAll r
def uptoBulkEntries {H : Type} : List (Lit × DataW H) → Nat
  | [] => 0
  | x :: r => uptoBulkEntry x + uptoBulkEntries r
def uptoBulkEntry {H : Type} : Lit × DataW H → Nat
  | (.string bytes, d) => bytes.length + uptoBulk d + 1
  | (_, d) => uptoBulk d + 1
 end
def uptoSmall : (H : Type) → List (DataW H) → Bool := fun _ ds => decide (uptoBulkAll ds ≤ 1048576)
def OpenSpec.upto (s : _root_.Go.ChangeSpec) : _root_.Go.OpenSpec := { _root_.Go.OpenSpec.ofChange s with cond := some uptoSmall }

/-- 'laws.FnExactSpreadTable', WHERE WHAT IT READS IS OF BULK AT MOST 1048576: true; the input reads as it did. -/
def fnExactSpreadTableUptoRow : OpenClaim := { program := "ytecjjkmheionoaa", sum := "67a3cec1efc9dda8b3557f8ac546a4cb2b8fdc3c8a1a16a8cf21b2628238c313", func := "loop.example/g00202/laws.FnExactSpreadTable", spec := "fnExactSpreadTable", apart := false, narrowed := true }
def FnExactSpreadTableUptoSaid : Prop := fnExactSpreadTableUptoRow.holds Try.pinned (OpenSpec.upto fnExactSpreadTableSpec)

/-- 'laws.FnExactSteerQueue', WHERE WHAT IT READS IS OF BULK AT MOST 1048576: true; the input reads as it did. -/
def fnExactSteerQueueUptoRow : OpenClaim := { program := "ytecjjkmheionoaa", sum := "67a3cec1efc9dda8b3557f8ac546a4cb2b8fdc3c8a1a16a8cf21b2628238c313", func := "loop.example/g00202/laws.FnExactSteerQueue", spec := "fnExactSteerQueue", unfollowed := true, recurses := true, apart := false, narrowed := true }
def FnExactSteerQueueUptoSaid : Prop := fnExactSteerQueueUptoRow.holds Try.pinned (OpenSpec.upto fnExactSteerQueueSpec)

/-- 'laws.FnSteers', WHERE WHAT IT READS IS OF BULK AT MOST 1048576: true; the input reads as it did. -/
def fnSteersUptoRow : OpenClaim := { program := "ytecjjkmheionoaa", sum := "67a3cec1efc9dda8b3557f8ac546a4cb2b8fdc3c8a1a16a8cf21b2628238c313", func := "loop.example/g00202/laws.FnSteers", spec := "fnSteers", unfollowed := true, recurses := true, apart := false, narrowed := true }
def FnSteersUptoSaid : Prop := fnSteersUptoRow.holds Try.pinned (OpenSpec.upto fnSteersSpec)

/-- 'laws.FnToeplitz', WHERE WHAT IT READS IS OF BULK AT MOST 1048576: true; the input reads as it did. -/
def fnToeplitzUptoRow : OpenClaim := { program := "ytecjjkmheionoaa", sum := "67a3cec1efc9dda8b3557f8ac546a4cb2b8fdc3c8a1a16a8cf21b2628238c313", func := "loop.example/g00202/laws.FnToeplitz", spec := "fnToeplitz", apart := false, narrowed := true }
def FnToeplitzUptoSaid : Prop := fnToeplitzUptoRow.holds Try.pinned (OpenSpec.upto fnToeplitzSpec)

end Rows
end Go.Proofs.Ytecjjkmheionoaa
