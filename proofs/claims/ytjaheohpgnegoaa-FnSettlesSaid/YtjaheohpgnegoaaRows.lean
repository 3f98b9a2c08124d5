/-
  No cell of these rows narrows 'for every input' (looked for: loops, veiled, ifaces, maps, wideKeys, modest, calm, conditions, laid).
  DERIVED. THE GIVEN ROWS OF THIS SEAT. 6 by the template 'for every input the law returns true; each argument reads behind the call as it read before'; 0 by the template 'total and deterministic' (their statements: YtjaheohpgnegoaaTotals.lean).
  GIVEN WITH THE SEED: the statements are not yours to turn. If you find one false, say at which input.
  Laid BY PROGRAM, IN A SANDBOX (cutbox-rows.mjs): the forced cells as the released guide's own fill.sh prints them over the translation 1e2c3b6cca91bf4f… (all of the seat's roots in one cut). By AI agents, Wed Nov 11 2026. No macro, syntax, notation, axiom, sorry.
-/
import Derived.Test.YtjaheohpgnegoaaChecked
import GoSem.Claim
import GoSem.ClaimJoined
import GoSem.ClaimMapViews
import Derived.JoinedTies
import Derived.KernelRfl
namespace Go.Proofs.Ytjaheohpgnegoaa
/- THE CELL 'sum', in the pinned program and in every row, IS THE sha256 OF THE DUMP (.gsa) THAT YtjaheohpgnegoaaProg.lean LOADS. Nothing in Lean hashes anything: it is a label: what it is worth is what the hold of that sum in a sandbox is worth. -/
noncomputable def Try.pinned : Pinned := { name := "ytjaheohpgnegoaa", sum := "1e2c3b6cca91bf4f1cd03e05304599cb65f8dec297fa5d431f5a13c781aad317", checked := Try.checked }
namespace Rows
def none {H : Type} : Left H := { results := [], args := [] }

/-- 'laws.FnExactTimingOK': WHATEVER THE INPUT: true; the input reads as it did. -/
def fnExactTimingOKSpec : ChangeSpec := { name := "fnExactTimingOK", fn := fun _ => fun
  | [d] => { results := [.lit (.bool true)], args := [d] }
  | _ => none }
def fnExactTimingOKRow : OpenClaim := { program := "ytjaheohpgnegoaa", sum := "1e2c3b6cca91bf4f1cd03e05304599cb65f8dec297fa5d431f5a13c781aad317", func := "loop.example/g00202/laws.FnExactTimingOK", spec := "fnExactTimingOK", apart := false }
def FnExactTimingOKSaid : Prop := fnExactTimingOKRow.holds Try.pinned (OpenSpec.ofChange fnExactTimingOKSpec)

/-- ITS FALSE NEIGHBOUR: 'it returns false'. Refute it at one input. -/
def fnExactTimingOKWrong : ChangeSpec := { name := "fnExactTimingOK", fn := fun _ => fun
  | [d] => { results := [.lit (.bool false)], args := [d] }
  | _ => none }
def FnExactTimingOKWrongFalsely : Prop := fnExactTimingOKRow.holds Try.pinned (OpenSpec.ofChange fnExactTimingOKWrong)

/-- 'laws.FnExactRto': WHATEVER THE INPUT: true; the input reads as it did. -/
def fnExactRtoSpec : ChangeSpec := { name := "fnExactRto", fn := fun _ => fun
  | [d] => { results := [.lit (.bool true)], args := [d] }
  | _ => none }
def fnExactRtoRow : OpenClaim := { program := "ytjaheohpgnegoaa", sum := "1e2c3b6cca91bf4f1cd03e05304599cb65f8dec297fa5d431f5a13c781aad317", func := "loop.example/g00202/laws.FnExactRto", spec := "fnExactRto", apart := false }
def FnExactRtoSaid : Prop := fnExactRtoRow.holds Try.pinned (OpenSpec.ofChange fnExactRtoSpec)

/-- ITS FALSE NEIGHBOUR: 'it returns false'. Refute it at one input. -/
def fnExactRtoWrong : ChangeSpec := { name := "fnExactRto", fn := fun _ => fun
  | [d] => { results := [.lit (.bool false)], args := [d] }
  | _ => none }
def FnExactRtoWrongFalsely : Prop := fnExactRtoRow.holds Try.pinned (OpenSpec.ofChange fnExactRtoWrong)

/-- 'laws.FnExactBackOff': WHATEVER THE INPUT: true; the input reads as it did. -/
def fnExactBackOffSpec : ChangeSpec := { name := "fnExactBackOff", fn := fun _ => fun
  | [d] => { results := [.lit (.bool true)], args := [d] }
  | _ => none }
def fnExactBackOffRow : OpenClaim := { program := "ytjaheohpgnegoaa", sum := "1e2c3b6cca91bf4f1cd03e05304599cb65f8dec297fa5d431f5a13c781aad317", func := "loop.example/g00202/laws.FnExactBackOff", spec := "fnExactBackOff", apart := false }
def FnExactBackOffSaid : Prop := fnExactBackOffRow.holds Try.pinned (OpenSpec.ofChange fnExactBackOffSpec)

/-- ITS FALSE NEIGHBOUR: 'it returns false'. Refute it at one input. -/
def fnExactBackOffWrong : ChangeSpec := { name := "fnExactBackOff", fn := fun _ => fun
  | [d] => { results := [.lit (.bool false)], args := [d] }
  | _ => none }
def FnExactBackOffWrongFalsely : Prop := fnExactBackOffRow.holds Try.pinned (OpenSpec.ofChange fnExactBackOffWrong)

/-- 'laws.FnExactSample': WHATEVER THE INPUT: true; the input reads as it did. -/
def fnExactSampleSpec : ChangeSpec := { name := "fnExactSample", fn := fun _ => fun
  | [d1, d2, d3] => { results := [.lit (.bool true)], args := [d1, d2, d3] }
  | _ => none }
def fnExactSampleRow : OpenClaim := { program := "ytjaheohpgnegoaa", sum := "1e2c3b6cca91bf4f1cd03e05304599cb65f8dec297fa5d431f5a13c781aad317", func := "loop.example/g00202/laws.FnExactSample", spec := "fnExactSample", apart := false }
def FnExactSampleSaid : Prop := fnExactSampleRow.holds Try.pinned (OpenSpec.ofChange fnExactSampleSpec)

/-- ITS FALSE NEIGHBOUR: 'it returns false'. Refute it at one input. -/
def fnExactSampleWrong : ChangeSpec := { name := "fnExactSample", fn := fun _ => fun
  | [d1, d2, d3] => { results := [.lit (.bool false)], args := [d1, d2, d3] }
  | _ => none }
def FnExactSampleWrongFalsely : Prop := fnExactSampleRow.holds Try.pinned (OpenSpec.ofChange fnExactSampleWrong)

/-- 'laws.FnSettles': WHATEVER THE INPUT: true; the input reads as it did. -/
def fnSettlesSpec : ChangeSpec := { name := "fnSettles", fn := fun _ => fun
  | [d1, d2] => { results := [.lit (.bool true)], args := [d1, d2] }
  | _ => none }
def fnSettlesRow : OpenClaim := { program := "ytjaheohpgnegoaa", sum := "1e2c3b6cca91bf4f1cd03e05304599cb65f8dec297fa5d431f5a13c781aad317", func := "loop.example/g00202/laws.FnSettles", spec := "fnSettles", apart := false }
def FnSettlesSaid : Prop := fnSettlesRow.holds Try.pinned (OpenSpec.ofChange fnSettlesSpec)

/-- ITS FALSE NEIGHBOUR: 'it returns false'. Refute it at one input. -/
def fnSettlesWrong : ChangeSpec := { name := "fnSettles", fn := fun _ => fun
  | [d1, d2] => { results := [.lit (.bool false)], args := [d1, d2] }
  | _ => none }
def FnSettlesWrongFalsely : Prop := fnSettlesRow.holds Try.pinned (OpenSpec.ofChange fnSettlesWrong)

/-- 'laws.FnRto': WHATEVER THE INPUT: true; the input reads as it did. -/
def fnRtoSpec : ChangeSpec := { name := "fnRto", fn := fun _ => fun
  | [d1, d2] => { results := [.lit (.bool true)], args := [d1, d2] }
  | _ => none }
def fnRtoRow : OpenClaim := { program := "ytjaheohpgnegoaa", sum := "1e2c3b6cca91bf4f1cd03e05304599cb65f8dec297fa5d431f5a13c781aad317", func := "loop.example/g00202/laws.FnRto", spec := "fnRto", apart := false }
def FnRtoSaid : Prop := fnRtoRow.holds Try.pinned (OpenSpec.ofChange fnRtoSpec)

/-- ITS FALSE NEIGHBOUR: 'it returns false'. Refute it at one input. -/
def fnRtoWrong : ChangeSpec := { name := "fnRto", fn := fun _ => fun
  | [d1, d2] => { results := [.lit (.bool false)], args := [d1, d2] }
  | _ => none }
def FnRtoWrongFalsely : Prop := fnRtoRow.holds Try.pinned (OpenSpec.ofChange fnRtoWrong)

/- THE SECOND FORM. 'bulk': how many values and letters a reading holds, each counted each time it is reached (what is shared counts as often as it is met; a slice's spare places count too). A statement '..UptoSaid' is the law's where the arguments, and the package variables that the reading takes, are together of bulk at most 1048576: NARROWER than '..Said'. Prove '..Said' where nothing that the law and all that it calls make is longer than what came in: it says more and counts as full. Else prove '..UptoSaid'. A law counts once. -/
mutual
def uptoBulk {H : Type} : DataW H → Nat
  | .lit (.string bytes) => bytes.length + 1
  | .lit _ => 1
  | .nil => 1
  | .ptr d => uptoBulk d + 1
  | .slice elems spare => uptoBulkAll elems + uptoBulkAll spare + 1
  | .agg parts => uptoBulkAll parts + 1
  | .iface _ d => uptoBulk d + 1
  | .map entries => uptoBulkEntries entries + 1
  | .held _ => 1
def uptoBulkAll {H : Type} : List (DataW H) → Nat
  | [] => 0
  | d :: r => uptoBulk d + uptoBulkAll r
def uptoBulkEntries {H : Type} : List (Lit × DataW H) → Nat
  | [] => 0
  | x :: r => uptoBulkEntry x + uptoBulkEntries r
def uptoBulkEntry {H : Type} : Lit × DataW H → Nat
  | (.string bytes, d) => bytes.length + uptoBulk d + 1
  | (_, d) => uptoBulk d + 1
 end
def uptoSmall : (H : Type) → List (DataW H) → Bool := fun _ ds => decide (uptoBulkAll ds ≤ 1048576)
def OpenSpec.upto (s : _root_.Go.ChangeSpec) : _root_.Go.OpenSpec := { _root_.Go.OpenSpec.ofChange s with cond := some uptoSmall }

/-- 'laws.FnExactTimingOK', WHERE WHAT IT READS IS OF BULK AT MOST 1048576: true; the input reads as it did. -/
def fnExactTimingOKUptoRow : OpenClaim := { program := "ytjaheohpgnegoaa", sum := "1e2c3b6cca91bf4f1cd03e05304599cb65f8dec297fa5d431f5a13c781aad317", func := "loop.example/g00202/laws.FnExactTimingOK", spec := "fnExactTimingOK", apart := false, narrowed := true }
def FnExactTimingOKUptoSaid : Prop := fnExactTimingOKUptoRow.holds Try.pinned (OpenSpec.upto fnExactTimingOKSpec)

/-- 'laws.FnExactRto', WHERE WHAT IT READS IS OF BULK AT MOST 1048576: true; the input reads as it did. -/
def fnExactRtoUptoRow : OpenClaim := { program := "ytjaheohpgnegoaa", sum := "1e2c3b6cca91bf4f1cd03e05304599cb65f8dec297fa5d431f5a13c781aad317", func := "loop.example/g00202/laws.FnExactRto", spec := "fnExactRto", apart := false, narrowed := true }
def FnExactRtoUptoSaid : Prop := fnExactRtoUptoRow.holds Try.pinned (OpenSpec.upto fnExactRtoSpec)

/-- 'laws.FnExactBackOff', WHERE WHAT IT READS IS OF BULK AT MOST 1048576: true; the input reads as it did. -/
def fnExactBackOffUptoRow : OpenClaim := { program := "ytjaheohpgnegoaa", sum := "1e2c3b6cca91bf4f1cd03e05304599cb65f8dec297fa5d431f5a13c781aad317", func := "loop.example/g00202/laws.FnExactBackOff", spec := "fnExactBackOff", apart := false, narrowed := true }
def FnExactBackOffUptoSaid : Prop := fnExactBackOffUptoRow.holds Try.pinned (OpenSpec.upto fnExactBackOffSpec)

/-- 'laws.FnExactSample', WHERE WHAT IT READS IS OF BULK AT MOST 1048576: true; the input reads as it did. -/
def fnExactSampleUptoRow : OpenClaim := { program := "ytjaheohpgnegoaa", sum := "1e2c3b6cca91bf4f1cd03e05304599cb65f8dec297fa5d431f5a13c781aad317", func := "loop.example/g00202/laws.FnExactSample", spec := "fnExactSample", apart := false, narrowed := true }
def FnExactSampleUptoSaid : Prop := fnExactSampleUptoRow.holds Try.pinned (OpenSpec.upto fnExactSampleSpec)

/-- 'laws.FnSettles', WHERE WHAT IT READS IS OF BULK AT MOST 1048576: true; the input reads as it did. -/
def fnSettlesUptoRow : OpenClaim := { program := "ytjaheohpgnegoaa", sum := "1e2c3b6cca91bf4f1cd03e05304599cb65f8dec297fa5d431f5a13c781aad317", func := "loop.example/g00202/laws.FnSettles", spec := "fnSettles", apart := false, narrowed := true }
def FnSettlesUptoSaid : Prop := fnSettlesUptoRow.holds Try.pinned (OpenSpec.upto fnSettlesSpec)

/-- 'laws.FnRto', WHERE WHAT IT READS IS OF BULK AT MOST 1048576: true; the input reads as it did. -/
def fnRtoUptoRow : OpenClaim := { program := "ytjaheohpgnegoaa", sum := "1e2c3b6cca91bf4f1cd03e05304599cb65f8dec297fa5d431f5a13c781aad317", func := "loop.example/g00202/laws.FnRto", spec := "fnRto", apart := false, narrowed := true }
def FnRtoUptoSaid : Prop := fnRtoUptoRow.holds Try.pinned (OpenSpec.upto fnRtoSpec)

end Rows
end Go.Proofs.Ytjaheohpgnegoaa
