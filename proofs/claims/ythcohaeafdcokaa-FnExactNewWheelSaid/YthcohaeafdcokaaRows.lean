/-
  No cell of these rows narrows 'for every input' (looked for: loops, veiled, ifaces, maps, wideKeys, modest, calm, conditions, laid).
  DERIVED. THE GIVEN ROWS OF THIS SEAT. 7 by the template 'for every input the law returns true; each argument reads behind the call as it read before'; 0 by the template 'total and deterministic' (their statements: YthcohaeafdcokaaTotals.lean).
  GIVEN WITH THE SEED: the statements are not yours to turn. If you find one false, say at which input.
  Laid BY PROGRAM, IN A SANDBOX (cutbox-rows.mjs): the forced cells as the released guide's own fill.sh prints them over the translation 23f0408deb004308… (all of the seat's roots in one cut). By AI agents, Wed Nov 11 2026. No macro, syntax, notation, axiom, sorry.
-/
import Derived.Test.YthcohaeafdcokaaChecked
import GoSem.Claim
import GoSem.ClaimJoined
import GoSem.ClaimMapViews
import Derived.JoinedTies
import Derived.KernelRfl
namespace Go.Proofs.Ythcohaeafdcokaa
/- THE CELL 'sum', in the pinned program and in every row, IS THE sha256 OF THE DUMP (.gsa) THAT YthcohaeafdcokaaProg.lean LOADS. Nothing in Lean hashes anything: it is a label: what it is worth is what the hold of that sum in a sandbox is worth. -/
noncomputable def Try.pinned : Pinned := { name := "ythcohaeafdcokaa", sum := "23f0408deb0043086643b6026af6f504fbd43972b15bba0e8ad42715db625d13", checked := Try.checked }
namespace Rows
def none {H : Type} : Left H := { results := [], args := [] }

/-- 'laws.FnExactNewRing': WHATEVER THE INPUT: true; the input reads as it did. -/
def fnExactNewRingSpec : ChangeSpec := { name := "fnExactNewRing", fn := fun _ => fun
  | [d1, d2] => { results := [.lit (.bool true)], args := [d1, d2] }
  | _ => none }
def fnExactNewRingRow : OpenClaim := { program := "ythcohaeafdcokaa", sum := "23f0408deb0043086643b6026af6f504fbd43972b15bba0e8ad42715db625d13", func := "loop.example/g00202/laws.FnExactNewRing", spec := "fnExactNewRing", apart := false }
def FnExactNewRingSaid : Prop := fnExactNewRingRow.holds Try.pinned (OpenSpec.ofChange fnExactNewRingSpec)

/-- ITS FALSE NEIGHBOUR: 'it returns false'. Refute it at one input. -/
def fnExactNewRingWrong : ChangeSpec := { name := "fnExactNewRing", fn := fun _ => fun
  | [d1, d2] => { results := [.lit (.bool false)], args := [d1, d2] }
  | _ => none }
def FnExactNewRingWrongFalsely : Prop := fnExactNewRingRow.holds Try.pinned (OpenSpec.ofChange fnExactNewRingWrong)

/-- 'laws.FnExactPairOK': WHATEVER THE INPUT: true; the input reads as it did. -/
def fnExactPairOKSpec : ChangeSpec := { name := "fnExactPairOK", fn := fun _ => fun
  | [d] => { results := [.lit (.bool true)], args := [d] }
  | _ => none }
def fnExactPairOKRow : OpenClaim := { program := "ythcohaeafdcokaa", sum := "23f0408deb0043086643b6026af6f504fbd43972b15bba0e8ad42715db625d13", func := "loop.example/g00202/laws.FnExactPairOK", spec := "fnExactPairOK", unfollowed := true, recurses := true, apart := false }
def FnExactPairOKSaid : Prop := fnExactPairOKRow.holds Try.pinned (OpenSpec.ofChange fnExactPairOKSpec)

/-- ITS FALSE NEIGHBOUR: 'it returns false'. Refute it at one input. -/
def fnExactPairOKWrong : ChangeSpec := { name := "fnExactPairOK", fn := fun _ => fun
  | [d] => { results := [.lit (.bool false)], args := [d] }
  | _ => none }
def FnExactPairOKWrongFalsely : Prop := fnExactPairOKRow.holds Try.pinned (OpenSpec.ofChange fnExactPairOKWrong)

/-- 'laws.FnExactRingOK': WHATEVER THE INPUT: true; the input reads as it did. -/
def fnExactRingOKSpec : ChangeSpec := { name := "fnExactRingOK", fn := fun _ => fun
  | [d] => { results := [.lit (.bool true)], args := [d] }
  | _ => none }
def fnExactRingOKRow : OpenClaim := { program := "ythcohaeafdcokaa", sum := "23f0408deb0043086643b6026af6f504fbd43972b15bba0e8ad42715db625d13", func := "loop.example/g00202/laws.FnExactRingOK", spec := "fnExactRingOK", apart := false }
def FnExactRingOKSaid : Prop := fnExactRingOKRow.holds Try.pinned (OpenSpec.ofChange fnExactRingOKSpec)

/-- ITS FALSE NEIGHBOUR: 'it returns false'. Refute it at one input. -/
def fnExactRingOKWrong : ChangeSpec := { name := "fnExactRingOK", fn := fun _ => fun
  | [d] => { results := [.lit (.bool false)], args := [d] }
  | _ => none }
def FnExactRingOKWrongFalsely : Prop := fnExactRingOKRow.holds Try.pinned (OpenSpec.ofChange fnExactRingOKWrong)

/-- 'laws.FnExactNewPool': WHATEVER THE INPUT: true; the input reads as it did. -/
def fnExactNewPoolSpec : ChangeSpec := { name := "fnExactNewPool", fn := fun _ => fun
  | [d] => { results := [.lit (.bool true)], args := [d] }
  | _ => none }
def fnExactNewPoolRow : OpenClaim := { program := "ythcohaeafdcokaa", sum := "23f0408deb0043086643b6026af6f504fbd43972b15bba0e8ad42715db625d13", func := "loop.example/g00202/laws.FnExactNewPool", spec := "fnExactNewPool", apart := false }
def FnExactNewPoolSaid : Prop := fnExactNewPoolRow.holds Try.pinned (OpenSpec.ofChange fnExactNewPoolSpec)

/-- ITS FALSE NEIGHBOUR: 'it returns false'. Refute it at one input. -/
def fnExactNewPoolWrong : ChangeSpec := { name := "fnExactNewPool", fn := fun _ => fun
  | [d] => { results := [.lit (.bool false)], args := [d] }
  | _ => none }
def FnExactNewPoolWrongFalsely : Prop := fnExactNewPoolRow.holds Try.pinned (OpenSpec.ofChange fnExactNewPoolWrong)

/-- 'laws.FnExactPoolOK': WHATEVER THE INPUT: true; the input reads as it did. -/
def fnExactPoolOKSpec : ChangeSpec := { name := "fnExactPoolOK", fn := fun _ => fun
  | [d] => { results := [.lit (.bool true)], args := [d] }
  | _ => none }
def fnExactPoolOKRow : OpenClaim := { program := "ythcohaeafdcokaa", sum := "23f0408deb0043086643b6026af6f504fbd43972b15bba0e8ad42715db625d13", func := "loop.example/g00202/laws.FnExactPoolOK", spec := "fnExactPoolOK", apart := false }
def FnExactPoolOKSaid : Prop := fnExactPoolOKRow.holds Try.pinned (OpenSpec.ofChange fnExactPoolOKSpec)

/-- ITS FALSE NEIGHBOUR: 'it returns false'. Refute it at one input. -/
def fnExactPoolOKWrong : ChangeSpec := { name := "fnExactPoolOK", fn := fun _ => fun
  | [d] => { results := [.lit (.bool false)], args := [d] }
  | _ => none }
def FnExactPoolOKWrongFalsely : Prop := fnExactPoolOKRow.holds Try.pinned (OpenSpec.ofChange fnExactPoolOKWrong)

/-- 'laws.FnExactPoolHeld': WHATEVER THE INPUT: true; the input reads as it did. -/
def fnExactPoolHeldSpec : ChangeSpec := { name := "fnExactPoolHeld", fn := fun _ => fun
  | [d1, d2] => { results := [.lit (.bool true)], args := [d1, d2] }
  | _ => none }
def fnExactPoolHeldRow : OpenClaim := { program := "ythcohaeafdcokaa", sum := "23f0408deb0043086643b6026af6f504fbd43972b15bba0e8ad42715db625d13", func := "loop.example/g00202/laws.FnExactPoolHeld", spec := "fnExactPoolHeld", apart := false }
def FnExactPoolHeldSaid : Prop := fnExactPoolHeldRow.holds Try.pinned (OpenSpec.ofChange fnExactPoolHeldSpec)

/-- ITS FALSE NEIGHBOUR: 'it returns false'. Refute it at one input. -/
def fnExactPoolHeldWrong : ChangeSpec := { name := "fnExactPoolHeld", fn := fun _ => fun
  | [d1, d2] => { results := [.lit (.bool false)], args := [d1, d2] }
  | _ => none }
def FnExactPoolHeldWrongFalsely : Prop := fnExactPoolHeldRow.holds Try.pinned (OpenSpec.ofChange fnExactPoolHeldWrong)

/-- 'laws.FnExactNewWheel': WHATEVER THE INPUT: true; the input reads as it did. -/
def fnExactNewWheelSpec : ChangeSpec := { name := "fnExactNewWheel", fn := fun _ => fun
  | [] => { results := [.lit (.bool true)], args := [] }
  | _ => none }
def fnExactNewWheelRow : OpenClaim := { program := "ythcohaeafdcokaa", sum := "23f0408deb0043086643b6026af6f504fbd43972b15bba0e8ad42715db625d13", func := "loop.example/g00202/laws.FnExactNewWheel", spec := "fnExactNewWheel", apart := false }
def FnExactNewWheelSaid : Prop := fnExactNewWheelRow.holds Try.pinned (OpenSpec.ofChange fnExactNewWheelSpec)

/-- ITS FALSE NEIGHBOUR: 'it returns false'. Refute it at one input. -/
def fnExactNewWheelWrong : ChangeSpec := { name := "fnExactNewWheel", fn := fun _ => fun
  | [] => { results := [.lit (.bool false)], args := [] }
  | _ => none }
def FnExactNewWheelWrongFalsely : Prop := fnExactNewWheelRow.holds Try.pinned (OpenSpec.ofChange fnExactNewWheelWrong)

/- THE SECOND FORM. 'bulk': how many values and letters a reading holds, each counted each time it is reached (what is shared counts as often as it is met; a slice's spare places count too). A statement '..UptoSaid' is the law's where the arguments, and the package variables that the reading takes, are together of bulk at most 1048576: NARROWER than '..Said'. Prove '..Said' where nothing that the law and all that it calls make is longer than what came in: it says more and counts as full. Else prove '..UptoSaid'. A law counts once. -/
mutual
def uptoBulk {H : Type} : DataW H → Nat
  | .lit (.string bytes) => bytes.length + 1
  | .lit _ => 1
  | .nil => 1
  | .ptr d => uptoBulk d + 1
  | .slice elems spare => uptoBulkAll elems + uptoBulkAll spare + 1
  | .agg parts => uptoBulkAll parts + 1
  | .iface _ d => uptoBulk d + 1
  | .map entries => uptoBulkEntries entries + 1
  | .held _ => 1
def uptoBulkAll {H : Type} : List (DataW H) → Nat
  | [] => 0
  | d :: r => uptoBulk d + uptoBulkAll r
def uptoBulkEntries {H : Type} : List (Lit × DataW H) → Nat
  | [] => 0
  | x :: r => uptoBulkEntry x + uptoBulkEntries r
def uptoBulkEntry {H : Type} : Lit × DataW H → Nat
  | (.string bytes, d) => bytes.length + uptoBulk d + 1
  | (_, d) => uptoBulk d + 1
 end
def uptoSmall : (H : Type) → List (DataW H) → Bool := fun _ ds => decide (uptoBulkAll ds ≤ 1048576)
def OpenSpec.upto (s : _root_.Go.ChangeSpec) : _root_.Go.OpenSpec := { _root_.Go.OpenSpec.ofChange s with cond := some uptoSmall }

/-- 'laws.FnExactNewRing', WHERE WHAT IT READS IS OF BULK AT MOST 1048576: true; the input reads as it did. -/
def fnExactNewRingUptoRow : OpenClaim := { program := "ythcohaeafdcokaa", sum := "23f0408deb0043086643b6026af6f504fbd43972b15bba0e8ad42715db625d13", func := "loop.example/g00202/laws.FnExactNewRing", spec := "fnExactNewRing", apart := false, narrowed := true }
def FnExactNewRingUptoSaid : Prop := fnExactNewRingUptoRow.holds Try.pinned (OpenSpec.upto fnExactNewRingSpec)

/-- 'laws.FnExactPairOK', WHERE WHAT IT READS IS OF BULK AT MOST 1048576: true; the input reads as it did. -/
def fnExactPairOKUptoRow : OpenClaim := { program := "ythcohaeafdcokaa", sum := "23f0408deb0043086643b6026af6f504fbd43972b15bba0e8ad42715db625d13", func := "loop.example/g00202/laws.FnExactPairOK", spec := "fnExactPairOK", unfollowed := true, recurses := true, apart := false, narrowed := true }
def FnExactPairOKUptoSaid : Prop := fnExactPairOKUptoRow.holds Try.pinned (OpenSpec.upto fnExactPairOKSpec)

/-- 'laws.FnExactRingOK', WHERE WHAT IT READS IS OF BULK AT MOST 1048576: true; the input reads as it did. -/
def fnExactRingOKUptoRow : OpenClaim := { program := "ythcohaeafdcokaa", sum := "23f0408deb0043086643b6026af6f504fbd43972b15bba0e8ad42715db625d13", func := "loop.example/g00202/laws.FnExactRingOK", spec := "fnExactRingOK", apart := false, narrowed := true }
def FnExactRingOKUptoSaid : Prop := fnExactRingOKUptoRow.holds Try.pinned (OpenSpec.upto fnExactRingOKSpec)

/-- 'laws.FnExactNewPool', WHERE WHAT IT READS IS OF BULK AT MOST 1048576: true; the input reads as it did. -/
def fnExactNewPoolUptoRow : OpenClaim := { program := "ythcohaeafdcokaa", sum := "23f0408deb0043086643b6026af6f504fbd43972b15bba0e8ad42715db625d13", func := "loop.example/g00202/laws.FnExactNewPool", spec := "fnExactNewPool", apart := false, narrowed := true }
def FnExactNewPoolUptoSaid : Prop := fnExactNewPoolUptoRow.holds Try.pinned (OpenSpec.upto fnExactNewPoolSpec)

/-- 'laws.FnExactPoolOK', WHERE WHAT IT READS IS OF BULK AT MOST 1048576: true; the input reads as it did. -/
def fnExactPoolOKUptoRow : OpenClaim := { program := "ythcohaeafdcokaa", sum := "23f0408deb0043086643b6026af6f504fbd43972b15bba0e8ad42715db625d13", func := "loop.example/g00202/laws.FnExactPoolOK", spec := "fnExactPoolOK", apart := false, narrowed := true }
def FnExactPoolOKUptoSaid : Prop := fnExactPoolOKUptoRow.holds Try.pinned (OpenSpec.upto fnExactPoolOKSpec)

/-- 'laws.FnExactPoolHeld', WHERE WHAT IT READS IS OF BULK AT MOST 1048576: true; the input reads as it did. -/
def fnExactPoolHeldUptoRow : OpenClaim := { program := "ythcohaeafdcokaa", sum := "23f0408deb0043086643b6026af6f504fbd43972b15bba0e8ad42715db625d13", func := "loop.example/g00202/laws.FnExactPoolHeld", spec := "fnExactPoolHeld", apart := false, narrowed := true }
def FnExactPoolHeldUptoSaid : Prop := fnExactPoolHeldUptoRow.holds Try.pinned (OpenSpec.upto fnExactPoolHeldSpec)

/-- 'laws.FnExactNewWheel', WHERE WHAT IT READS IS OF BULK AT MOST 1048576: true; the input reads as it did. -/
def fnExactNewWheelUptoRow : OpenClaim := { program := "ythcohaeafdcokaa", sum := "23f0408deb0043086643b6026af6f504fbd43972b15bba0e8ad42715db625d13", func := "loop.example/g00202/laws.FnExactNewWheel", spec := "fnExactNewWheel", apart := false, narrowed := true }
def FnExactNewWheelUptoSaid : Prop := fnExactNewWheelUptoRow.holds Try.pinned (OpenSpec.upto fnExactNewWheelSpec)

end Rows
end Go.Proofs.Ythcohaeafdcokaa
