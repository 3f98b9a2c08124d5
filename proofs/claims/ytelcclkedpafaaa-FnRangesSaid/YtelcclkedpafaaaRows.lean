/-
  No cell of these rows narrows 'for every input' (looked for: loops, veiled, ifaces, maps, wideKeys, modest, calm, conditions, laid).
  DERIVED. THE GIVEN ROWS OF THIS SEAT. 10 by the template 'for every input the law returns true; each argument reads behind the call as it read before'; 0 by the template 'total and deterministic' (their statements: YtelcclkedpafaaaTotals.lean).
  GIVEN WITH THE SEED: the statements are not yours to turn. If you find one false, say at which input.
  Laid BY PROGRAM, IN A SANDBOX (cutbox-rows.mjs): the forced cells as the released guide's own fill.sh prints them over the translation b7ce46666ada806e… (all of the seat's roots in one cut). By AI agents, Wed Nov 11 2026. No macro, syntax, notation, axiom, sorry.
-/
import Derived.Test.YtelcclkedpafaaaChecked
import GoSem.Claim
import GoSem.ClaimJoined
import GoSem.ClaimMapViews
import Derived.JoinedTies
import Derived.KernelRfl
namespace Go.Proofs.Ytelcclkedpafaaa
/- THE CELL 'sum', in the pinned program and in every row, IS THE sha256 OF THE DUMP (.gsa) THAT YtelcclkedpafaaaProg.lean LOADS. Nothing in Lean hashes anything: it is a label: what it is worth is what the hold of that sum in a sandbox is worth. -/
noncomputable def Try.pinned : Pinned := { name := "ytelcclkedpafaaa", sum := "b7ce46666ada806ec59b5d994b60f6e5c4be4c3cc62604327278ec726a4b1daa", checked := Try.checked }
namespace Rows
def none {H : Type} : Left H := { results := [], args := [] }

/-- 'laws.FnExactRangesOK': WHATEVER THE INPUT: true; the input reads as it did. -/
def fnExactRangesOKSpec : ChangeSpec := { name := "fnExactRangesOK", fn := fun _ => fun
  | [d] => { results := [.lit (.bool true)], args := [d] }
  | _ => none }
def fnExactRangesOKRow : OpenClaim := { program := "ytelcclkedpafaaa", sum := "b7ce46666ada806ec59b5d994b60f6e5c4be4c3cc62604327278ec726a4b1daa", func := "loop.example/g00202/laws.FnExactRangesOK", spec := "fnExactRangesOK", apart := false }
def FnExactRangesOKSaid : Prop := fnExactRangesOKRow.holds Try.pinned (OpenSpec.ofChange fnExactRangesOKSpec)

/-- ITS FALSE NEIGHBOUR: 'it returns false'. Refute it at one input. -/
def fnExactRangesOKWrong : ChangeSpec := { name := "fnExactRangesOK", fn := fun _ => fun
  | [d] => { results := [.lit (.bool false)], args := [d] }
  | _ => none }
def FnExactRangesOKWrongFalsely : Prop := fnExactRangesOKRow.holds Try.pinned (OpenSpec.ofChange fnExactRangesOKWrong)

/-- 'laws.FnExactRangesHas': WHATEVER THE INPUT: true; the input reads as it did. -/
def fnExactRangesHasSpec : ChangeSpec := { name := "fnExactRangesHas", fn := fun _ => fun
  | [d1, d2] => { results := [.lit (.bool true)], args := [d1, d2] }
  | _ => none }
def fnExactRangesHasRow : OpenClaim := { program := "ytelcclkedpafaaa", sum := "b7ce46666ada806ec59b5d994b60f6e5c4be4c3cc62604327278ec726a4b1daa", func := "loop.example/g00202/laws.FnExactRangesHas", spec := "fnExactRangesHas", unfollowed := true, recurses := true, apart := false }
def FnExactRangesHasSaid : Prop := fnExactRangesHasRow.holds Try.pinned (OpenSpec.ofChange fnExactRangesHasSpec)

/-- ITS FALSE NEIGHBOUR: 'it returns false'. Refute it at one input. -/
def fnExactRangesHasWrong : ChangeSpec := { name := "fnExactRangesHas", fn := fun _ => fun
  | [d1, d2] => { results := [.lit (.bool false)], args := [d1, d2] }
  | _ => none }
def FnExactRangesHasWrongFalsely : Prop := fnExactRangesHasRow.holds Try.pinned (OpenSpec.ofChange fnExactRangesHasWrong)

/-- 'laws.FnExactLostBelow': WHATEVER THE INPUT: true; the input reads as it did. -/
def fnExactLostBelowSpec : ChangeSpec := { name := "fnExactLostBelow", fn := fun _ => fun
  | [d1, d2, d3] => { results := [.lit (.bool true)], args := [d1, d2, d3] }
  | _ => none }
def fnExactLostBelowRow : OpenClaim := { program := "ytelcclkedpafaaa", sum := "b7ce46666ada806ec59b5d994b60f6e5c4be4c3cc62604327278ec726a4b1daa", func := "loop.example/g00202/laws.FnExactLostBelow", spec := "fnExactLostBelow", apart := false }
def FnExactLostBelowSaid : Prop := fnExactLostBelowRow.holds Try.pinned (OpenSpec.ofChange fnExactLostBelowSpec)

/-- ITS FALSE NEIGHBOUR: 'it returns false'. Refute it at one input. -/
def fnExactLostBelowWrong : ChangeSpec := { name := "fnExactLostBelow", fn := fun _ => fun
  | [d1, d2, d3] => { results := [.lit (.bool false)], args := [d1, d2, d3] }
  | _ => none }
def FnExactLostBelowWrongFalsely : Prop := fnExactLostBelowRow.holds Try.pinned (OpenSpec.ofChange fnExactLostBelowWrong)

/-- 'laws.FnExactRangesCut': WHATEVER THE INPUT: true; the input reads as it did. -/
def fnExactRangesCutSpec : ChangeSpec := { name := "fnExactRangesCut", fn := fun _ => fun
  | [d1, d2] => { results := [.lit (.bool true)], args := [d1, d2] }
  | _ => none }
def fnExactRangesCutRow : OpenClaim := { program := "ytelcclkedpafaaa", sum := "b7ce46666ada806ec59b5d994b60f6e5c4be4c3cc62604327278ec726a4b1daa", func := "loop.example/g00202/laws.FnExactRangesCut", spec := "fnExactRangesCut", apart := false }
def FnExactRangesCutSaid : Prop := fnExactRangesCutRow.holds Try.pinned (OpenSpec.ofChange fnExactRangesCutSpec)

/-- ITS FALSE NEIGHBOUR: 'it returns false'. Refute it at one input. -/
def fnExactRangesCutWrong : ChangeSpec := { name := "fnExactRangesCut", fn := fun _ => fun
  | [d1, d2] => { results := [.lit (.bool false)], args := [d1, d2] }
  | _ => none }
def FnExactRangesCutWrongFalsely : Prop := fnExactRangesCutRow.holds Try.pinned (OpenSpec.ofChange fnExactRangesCutWrong)

/-- 'laws.FnExactRangesHole': WHATEVER THE INPUT: true; the input reads as it did. -/
def fnExactRangesHoleSpec : ChangeSpec := { name := "fnExactRangesHole", fn := fun _ => fun
  | [d1, d2, d3] => { results := [.lit (.bool true)], args := [d1, d2, d3] }
  | _ => none }
def fnExactRangesHoleRow : OpenClaim := { program := "ytelcclkedpafaaa", sum := "b7ce46666ada806ec59b5d994b60f6e5c4be4c3cc62604327278ec726a4b1daa", func := "loop.example/g00202/laws.FnExactRangesHole", spec := "fnExactRangesHole", apart := false }
def FnExactRangesHoleSaid : Prop := fnExactRangesHoleRow.holds Try.pinned (OpenSpec.ofChange fnExactRangesHoleSpec)

/-- ITS FALSE NEIGHBOUR: 'it returns false'. Refute it at one input. -/
def fnExactRangesHoleWrong : ChangeSpec := { name := "fnExactRangesHole", fn := fun _ => fun
  | [d1, d2, d3] => { results := [.lit (.bool false)], args := [d1, d2, d3] }
  | _ => none }
def FnExactRangesHoleWrongFalsely : Prop := fnExactRangesHoleRow.holds Try.pinned (OpenSpec.ofChange fnExactRangesHoleWrong)

/-- 'laws.FnExactRangesAdd': WHATEVER THE INPUT: true; the input reads as it did. -/
def fnExactRangesAddSpec : ChangeSpec := { name := "fnExactRangesAdd", fn := fun _ => fun
  | [d1, d2, d3] => { results := [.lit (.bool true)], args := [d1, d2, d3] }
  | _ => none }
def fnExactRangesAddRow : OpenClaim := { program := "ytelcclkedpafaaa", sum := "b7ce46666ada806ec59b5d994b60f6e5c4be4c3cc62604327278ec726a4b1daa", func := "loop.example/g00202/laws.FnExactRangesAdd", spec := "fnExactRangesAdd", apart := false }
def FnExactRangesAddSaid : Prop := fnExactRangesAddRow.holds Try.pinned (OpenSpec.ofChange fnExactRangesAddSpec)

/-- ITS FALSE NEIGHBOUR: 'it returns false'. Refute it at one input. -/
def fnExactRangesAddWrong : ChangeSpec := { name := "fnExactRangesAdd", fn := fun _ => fun
  | [d1, d2, d3] => { results := [.lit (.bool false)], args := [d1, d2, d3] }
  | _ => none }
def FnExactRangesAddWrongFalsely : Prop := fnExactRangesAddRow.holds Try.pinned (OpenSpec.ofChange fnExactRangesAddWrong)

/-- 'laws.FnHoles': WHATEVER THE INPUT: true; the input reads as it did. -/
def fnHolesSpec : ChangeSpec := { name := "fnHoles", fn := fun _ => fun
  | [d1, d2] => { results := [.lit (.bool true)], args := [d1, d2] }
  | _ => none }
def fnHolesRow : OpenClaim := { program := "ytelcclkedpafaaa", sum := "b7ce46666ada806ec59b5d994b60f6e5c4be4c3cc62604327278ec726a4b1daa", func := "loop.example/g00202/laws.FnHoles", spec := "fnHoles", apart := false }
def FnHolesSaid : Prop := fnHolesRow.holds Try.pinned (OpenSpec.ofChange fnHolesSpec)

/-- ITS FALSE NEIGHBOUR: 'it returns false'. Refute it at one input. -/
def fnHolesWrong : ChangeSpec := { name := "fnHoles", fn := fun _ => fun
  | [d1, d2] => { results := [.lit (.bool false)], args := [d1, d2] }
  | _ => none }
def FnHolesWrongFalsely : Prop := fnHolesRow.holds Try.pinned (OpenSpec.ofChange fnHolesWrong)

/-- 'laws.FnExactSackBlocks': WHATEVER THE INPUT: true; the input reads as it did. -/
def fnExactSackBlocksSpec : ChangeSpec := { name := "fnExactSackBlocks", fn := fun _ => fun
  | [d1, d2] => { results := [.lit (.bool true)], args := [d1, d2] }
  | _ => none }
def fnExactSackBlocksRow : OpenClaim := { program := "ytelcclkedpafaaa", sum := "b7ce46666ada806ec59b5d994b60f6e5c4be4c3cc62604327278ec726a4b1daa", func := "loop.example/g00202/laws.FnExactSackBlocks", spec := "fnExactSackBlocks", unfollowed := true, recurses := true, apart := false }
def FnExactSackBlocksSaid : Prop := fnExactSackBlocksRow.holds Try.pinned (OpenSpec.ofChange fnExactSackBlocksSpec)

/-- ITS FALSE NEIGHBOUR: 'it returns false'. Refute it at one input. -/
def fnExactSackBlocksWrong : ChangeSpec := { name := "fnExactSackBlocks", fn := fun _ => fun
  | [d1, d2] => { results := [.lit (.bool false)], args := [d1, d2] }
  | _ => none }
def FnExactSackBlocksWrongFalsely : Prop := fnExactSackBlocksRow.holds Try.pinned (OpenSpec.ofChange fnExactSackBlocksWrong)

/-- 'laws.FnRanges': WHATEVER THE INPUT: true; the input reads as it did. -/
def fnRangesSpec : ChangeSpec := { name := "fnRanges", fn := fun _ => fun
  | [d1, d2] => { results := [.lit (.bool true)], args := [d1, d2] }
  | _ => none }
def fnRangesRow : OpenClaim := { program := "ytelcclkedpafaaa", sum := "b7ce46666ada806ec59b5d994b60f6e5c4be4c3cc62604327278ec726a4b1daa", func := "loop.example/g00202/laws.FnRanges", spec := "fnRanges", unfollowed := true, recurses := true, apart := false }
def FnRangesSaid : Prop := fnRangesRow.holds Try.pinned (OpenSpec.ofChange fnRangesSpec)

/-- ITS FALSE NEIGHBOUR: 'it returns false'. Refute it at one input. -/
def fnRangesWrong : ChangeSpec := { name := "fnRanges", fn := fun _ => fun
  | [d1, d2] => { results := [.lit (.bool false)], args := [d1, d2] }
  | _ => none }
def FnRangesWrongFalsely : Prop := fnRangesRow.holds Try.pinned (OpenSpec.ofChange fnRangesWrong)

/-- 'laws.FnSack': WHATEVER THE INPUT: true; the input reads as it did. -/
def fnSackSpec : ChangeSpec := { name := "fnSack", fn := fun _ => fun
  | [d1, d2] => { results := [.lit (.bool true)], args := [d1, d2] }
  | _ => none }
def fnSackRow : OpenClaim := { program := "ytelcclkedpafaaa", sum := "b7ce46666ada806ec59b5d994b60f6e5c4be4c3cc62604327278ec726a4b1daa", func := "loop.example/g00202/laws.FnSack", spec := "fnSack", unfollowed := true, recurses := true, apart := false }
def FnSackSaid : Prop := fnSackRow.holds Try.pinned (OpenSpec.ofChange fnSackSpec)

/-- ITS FALSE NEIGHBOUR: 'it returns false'. Refute it at one input. -/
def fnSackWrong : ChangeSpec := { name := "fnSack", fn := fun _ => fun
  | [d1, d2] => { results := [.lit (.bool false)], args := [d1, d2] }
  | _ => none }
def FnSackWrongFalsely : Prop := fnSackRow.holds Try.pinned (OpenSpec.ofChange fnSackWrong)

/- THE SECOND FORM. 'bulk': how many values and letters a reading holds, each counted each time it is reached (what is shared counts as often as it is met; a slice's spare places count too). A statement '..UptoSaid' is the law's where the arguments, and the package variables that the reading takes, are together of bulk at most 1048576: NARROWER than '..Said'. Prove '..Said' where nothing that the law and all that it calls make is longer than what came in: it says more and counts as full. Else prove '..UptoSaid'. A law counts once. -/
mutual
def uptoBulk {H : Type} : DataW H → Nat
  | .lit (.string bytes) => bytes.length + 1
  | .lit _ => 1
  | .nil => 1
  | .ptr d => uptoBulk d + 1
  | .slice elems spare => uptoBulkAll elems + uptoBulkAll spare + 1
  | .agg parts => uptoBulkAll parts + 1
  | .iface _ d => uptoBulk d + 1
  | .map entries => uptoBulkEntries entries + 1
  | .held _ => 1
def uptoBulkAll {H : Type} : List (DataW H) → Nat
  | [] => 0
  | d :: r => uptoBulk d + uptoBulkAll r
def uptoBulkEntries {H : Type} : List (Lit × DataW H) → Nat
  | [] => 0
  | x :: r => uptoBulkEntry x + uptoBulkEntries r
def uptoBulkEntry {H : Type} : Lit × DataW H → Nat
  | (.string bytes, d) => bytes.length + uptoBulk d + 1
  | (_, d) => uptoBulk d + 1
 end
def uptoSmall : (H : Type) → List (DataW H) → Bool := fun _ ds => decide (uptoBulkAll ds ≤ 1048576)
def OpenSpec.upto (s : _root_.Go.ChangeSpec) : _root_.Go.OpenSpec := { _root_.Go.OpenSpec.ofChange s with cond := some uptoSmall }

/-- 'laws.FnExactRangesOK', WHERE WHAT IT READS IS OF BULK AT MOST 1048576: true; the input reads as it did. -/
def fnExactRangesOKUptoRow : OpenClaim := { program := "ytelcclkedpafaaa", sum := "b7ce46666ada806ec59b5d994b60f6e5c4be4c3cc62604327278ec726a4b1daa", func := "loop.example/g00202/laws.FnExactRangesOK", spec := "fnExactRangesOK", apart := false, narrowed := true }
def FnExactRangesOKUptoSaid : Prop := fnExactRangesOKUptoRow.holds Try.pinned (OpenSpec.upto fnExactRangesOKSpec)

/-- 'laws.FnExactRangesHas', WHERE WHAT IT READS IS OF BULK AT MOST 1048576: true; the input reads as it did. -/
def fnExactRangesHasUptoRow : OpenClaim := { program := "ytelcclkedpafaaa", sum := "b7ce46666ada806ec59b5d994b60f6e5c4be4c3cc62604327278ec726a4b1daa", func := "loop.example/g00202/laws.FnExactRangesHas", spec := "fnExactRangesHas", unfollowed := true, recurses := true, apart := false, narrowed := true }
def FnExactRangesHasUptoSaid : Prop := fnExactRangesHasUptoRow.holds Try.pinned (OpenSpec.upto fnExactRangesHasSpec)

/-- 'laws.FnExactLostBelow', WHERE WHAT IT READS IS OF BULK AT MOST 1048576: true; the input reads as it did. -/
def fnExactLostBelowUptoRow : OpenClaim := { program := "ytelcclkedpafaaa", sum := "b7ce46666ada806ec59b5d994b60f6e5c4be4c3cc62604327278ec726a4b1daa", func := "loop.example/g00202/laws.FnExactLostBelow", spec := "fnExactLostBelow", apart := false, narrowed := true }
def FnExactLostBelowUptoSaid : Prop := fnExactLostBelowUptoRow.holds Try.pinned (OpenSpec.upto fnExactLostBelowSpec)

/-- 'laws.FnExactRangesCut', WHERE WHAT IT READS IS OF BULK AT MOST 1048576: true; the input reads as it did. -/
def fnExactRangesCutUptoRow : OpenClaim := { program := "ytelcclkedpafaaa", sum := "b7ce46666ada806ec59b5d994b60f6e5c4be4c3cc62604327278ec726a4b1daa", func := "loop.example/g00202/laws.FnExactRangesCut", spec := "fnExactRangesCut", apart := false, narrowed := true }
def FnExactRangesCutUptoSaid : Prop := fnExactRangesCutUptoRow.holds Try.pinned (OpenSpec.upto fnExactRangesCutSpec)

/-- 'laws.FnExactRangesHole', WHERE WHAT IT READS IS OF BULK AT MOST 1048576: true; the input reads as it did. -/
def fnExactRangesHoleUptoRow : OpenClaim := { program := "ytelcclkedpafaaa", sum := "b7ce46666ada806ec59b5d994b60f6e5c4be4c3cc62604327278ec726a4b1daa", func := "loop.example/g00202/laws.FnExactRangesHole", spec := "fnExactRangesHole", apart := false, narrowed := true }
def FnExactRangesHoleUptoSaid : Prop := fnExactRangesHoleUptoRow.holds Try.pinned (OpenSpec.upto fnExactRangesHoleSpec)

/-- 'laws.FnExactRangesAdd', WHERE WHAT IT READS IS OF BULK AT MOST 1048576: true; the input reads as it did. -/
def fnExactRangesAddUptoRow : OpenClaim := { program := "ytelcclkedpafaaa", sum := "b7ce46666ada806ec59b5d994b60f6e5c4be4c3cc62604327278ec726a4b1daa", func := "loop.example/g00202/laws.FnExactRangesAdd", spec := "fnExactRangesAdd", apart := false, narrowed := true }
def FnExactRangesAddUptoSaid : Prop := fnExactRangesAddUptoRow.holds Try.pinned (OpenSpec.upto fnExactRangesAddSpec)

/-- 'laws.FnHoles', WHERE WHAT IT READS IS OF BULK AT MOST 1048576: true; the input reads as it did. -/
def fnHolesUptoRow : OpenClaim := { program := "ytelcclkedpafaaa", sum := "b7ce46666ada806ec59b5d994b60f6e5c4be4c3cc62604327278ec726a4b1daa", func := "loop.example/g00202/laws.FnHoles", spec := "fnHoles", apart := false, narrowed := true }
def FnHolesUptoSaid : Prop := fnHolesUptoRow.holds Try.pinned (OpenSpec.upto fnHolesSpec)

/-- 'laws.FnExactSackBlocks', WHERE WHAT IT READS IS OF BULK AT MOST 1048576: true; the input reads as it did. -/
def fnExactSackBlocksUptoRow : OpenClaim := { program := "ytelcclkedpafaaa", sum := "b7ce46666ada806ec59b5d994b60f6e5c4be4c3cc62604327278ec726a4b1daa", func := "loop.example/g00202/laws.FnExactSackBlocks", spec := "fnExactSackBlocks", unfollowed := true, recurses := true, apart := false, narrowed := true }
def FnExactSackBlocksUptoSaid : Prop := fnExactSackBlocksUptoRow.holds Try.pinned (OpenSpec.upto fnExactSackBlocksSpec)

/-- 'laws.FnRanges', WHERE WHAT IT READS IS OF BULK AT MOST 1048576: true; the input reads as it did. -/
def fnRangesUptoRow : OpenClaim := { program := "ytelcclkedpafaaa", sum := "b7ce46666ada806ec59b5d994b60f6e5c4be4c3cc62604327278ec726a4b1daa", func := "loop.example/g00202/laws.FnRanges", spec := "fnRanges", unfollowed := true, recurses := true, apart := false, narrowed := true }
def FnRangesUptoSaid : Prop := fnRangesUptoRow.holds Try.pinned (OpenSpec.upto fnRangesSpec)

/-- 'laws.FnSack', WHERE WHAT IT READS IS OF BULK AT MOST 1048576: true; the input reads as it did. -/
def fnSackUptoRow : OpenClaim := { program := "ytelcclkedpafaaa", sum := "b7ce46666ada806ec59b5d994b60f6e5c4be4c3cc62604327278ec726a4b1daa", func := "loop.example/g00202/laws.FnSack", spec := "fnSack", unfollowed := true, recurses := true, apart := false, narrowed := true }
def FnSackUptoSaid : Prop := fnSackUptoRow.holds Try.pinned (OpenSpec.upto fnSackSpec)

end Rows
end Go.Proofs.Ytelcclkedpafaaa
