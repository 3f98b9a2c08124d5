/-
  No cell of these rows narrows 'for every input' (looked for: loops, veiled, ifaces, maps, wideKeys, modest, calm, conditions, laid).
  DERIVED. THE GIVEN ROWS OF THIS SEAT. 8 by the template 'for every input the law returns true; each argument reads behind the call as it read before'; 0 by the template 'total and deterministic' (their statements: YtfjpfjofogbpgaaTotals.lean).
  GIVEN WITH THE SEED: the statements are not yours to turn. If you find one false, say at which input.
  Laid BY PROGRAM, IN A SANDBOX (cutbox-rows.mjs): the forced cells as the released guide's own fill.sh prints them over the translation d5b28d83f4bb7fc7… (all of the seat's roots in one cut). By AI agents, Wed Nov 11 2026. No macro, syntax, notation, axiom, sorry.
-/
import Derived.Test.YtfjpfjofogbpgaaChecked
import GoSem.Claim
import GoSem.ClaimJoined
import GoSem.ClaimMapViews
import Derived.JoinedTies
import Derived.KernelRfl
namespace Go.Proofs.Ytfjpfjofogbpgaa
/- THE CELL 'sum', in the pinned program and in every row, IS THE sha256 OF THE DUMP (.gsa) THAT YtfjpfjofogbpgaaProg.lean LOADS. Nothing in Lean hashes anything: it is a label: what it is worth is what the hold of that sum in a sandbox is worth. -/
noncomputable def Try.pinned : Pinned := { name := "ytfjpfjofogbpgaa", sum := "d5b28d83f4bb7fc78409b75f98938069bc62960ae4d8f43a0af4db5a1b62f92a", checked := Try.checked }
namespace Rows
def none {H : Type} : Left H := { results := [], args := [] }

/-- 'laws.FnExactBucketOK': WHATEVER THE INPUT: true; the input reads as it did. -/
def fnExactBucketOKSpec : ChangeSpec := { name := "fnExactBucketOK", fn := fun _ => fun
  | [d] => { results := [.lit (.bool true)], args := [d] }
  | _ => none }
def fnExactBucketOKRow : OpenClaim := { program := "ytfjpfjofogbpgaa", sum := "d5b28d83f4bb7fc78409b75f98938069bc62960ae4d8f43a0af4db5a1b62f92a", func := "loop.example/g00202/laws.FnExactBucketOK", spec := "fnExactBucketOK", apart := false }
def FnExactBucketOKSaid : Prop := fnExactBucketOKRow.holds Try.pinned (OpenSpec.ofChange fnExactBucketOKSpec)

/-- ITS FALSE NEIGHBOUR: 'it returns false'. Refute it at one input. -/
def fnExactBucketOKWrong : ChangeSpec := { name := "fnExactBucketOK", fn := fun _ => fun
  | [d] => { results := [.lit (.bool false)], args := [d] }
  | _ => none }
def FnExactBucketOKWrongFalsely : Prop := fnExactBucketOKRow.holds Try.pinned (OpenSpec.ofChange fnExactBucketOKWrong)

/-- 'laws.FnExactNewBucket': WHATEVER THE INPUT: true; the input reads as it did. -/
def fnExactNewBucketSpec : ChangeSpec := { name := "fnExactNewBucket", fn := fun _ => fun
  | [d1, d2] => { results := [.lit (.bool true)], args := [d1, d2] }
  | _ => none }
def fnExactNewBucketRow : OpenClaim := { program := "ytfjpfjofogbpgaa", sum := "d5b28d83f4bb7fc78409b75f98938069bc62960ae4d8f43a0af4db5a1b62f92a", func := "loop.example/g00202/laws.FnExactNewBucket", spec := "fnExactNewBucket", apart := false }
def FnExactNewBucketSaid : Prop := fnExactNewBucketRow.holds Try.pinned (OpenSpec.ofChange fnExactNewBucketSpec)

/-- ITS FALSE NEIGHBOUR: 'it returns false'. Refute it at one input. -/
def fnExactNewBucketWrong : ChangeSpec := { name := "fnExactNewBucket", fn := fun _ => fun
  | [d1, d2] => { results := [.lit (.bool false)], args := [d1, d2] }
  | _ => none }
def FnExactNewBucketWrongFalsely : Prop := fnExactNewBucketRow.holds Try.pinned (OpenSpec.ofChange fnExactNewBucketWrong)

/-- 'laws.FnExactBucketWhen': WHATEVER THE INPUT: true; the input reads as it did. -/
def fnExactBucketWhenSpec : ChangeSpec := { name := "fnExactBucketWhen", fn := fun _ => fun
  | [d1, d2] => { results := [.lit (.bool true)], args := [d1, d2] }
  | _ => none }
def fnExactBucketWhenRow : OpenClaim := { program := "ytfjpfjofogbpgaa", sum := "d5b28d83f4bb7fc78409b75f98938069bc62960ae4d8f43a0af4db5a1b62f92a", func := "loop.example/g00202/laws.FnExactBucketWhen", spec := "fnExactBucketWhen", apart := false }
def FnExactBucketWhenSaid : Prop := fnExactBucketWhenRow.holds Try.pinned (OpenSpec.ofChange fnExactBucketWhenSpec)

/-- ITS FALSE NEIGHBOUR: 'it returns false'. Refute it at one input. -/
def fnExactBucketWhenWrong : ChangeSpec := { name := "fnExactBucketWhen", fn := fun _ => fun
  | [d1, d2] => { results := [.lit (.bool false)], args := [d1, d2] }
  | _ => none }
def FnExactBucketWhenWrongFalsely : Prop := fnExactBucketWhenRow.holds Try.pinned (OpenSpec.ofChange fnExactBucketWhenWrong)

/-- 'laws.FnExactBucketWait': WHATEVER THE INPUT: true; the input reads as it did. -/
def fnExactBucketWaitSpec : ChangeSpec := { name := "fnExactBucketWait", fn := fun _ => fun
  | [d1, d2] => { results := [.lit (.bool true)], args := [d1, d2] }
  | _ => none }
def fnExactBucketWaitRow : OpenClaim := { program := "ytfjpfjofogbpgaa", sum := "d5b28d83f4bb7fc78409b75f98938069bc62960ae4d8f43a0af4db5a1b62f92a", func := "loop.example/g00202/laws.FnExactBucketWait", spec := "fnExactBucketWait", apart := false }
def FnExactBucketWaitSaid : Prop := fnExactBucketWaitRow.holds Try.pinned (OpenSpec.ofChange fnExactBucketWaitSpec)

/-- ITS FALSE NEIGHBOUR: 'it returns false'. Refute it at one input. -/
def fnExactBucketWaitWrong : ChangeSpec := { name := "fnExactBucketWait", fn := fun _ => fun
  | [d1, d2] => { results := [.lit (.bool false)], args := [d1, d2] }
  | _ => none }
def FnExactBucketWaitWrongFalsely : Prop := fnExactBucketWaitRow.holds Try.pinned (OpenSpec.ofChange fnExactBucketWaitWrong)

/-- 'laws.FnExactBucketTake': WHATEVER THE INPUT: true; the input reads as it did. -/
def fnExactBucketTakeSpec : ChangeSpec := { name := "fnExactBucketTake", fn := fun _ => fun
  | [d1, d2] => { results := [.lit (.bool true)], args := [d1, d2] }
  | _ => none }
def fnExactBucketTakeRow : OpenClaim := { program := "ytfjpfjofogbpgaa", sum := "d5b28d83f4bb7fc78409b75f98938069bc62960ae4d8f43a0af4db5a1b62f92a", func := "loop.example/g00202/laws.FnExactBucketTake", spec := "fnExactBucketTake", apart := false }
def FnExactBucketTakeSaid : Prop := fnExactBucketTakeRow.holds Try.pinned (OpenSpec.ofChange fnExactBucketTakeSpec)

/-- ITS FALSE NEIGHBOUR: 'it returns false'. Refute it at one input. -/
def fnExactBucketTakeWrong : ChangeSpec := { name := "fnExactBucketTake", fn := fun _ => fun
  | [d1, d2] => { results := [.lit (.bool false)], args := [d1, d2] }
  | _ => none }
def FnExactBucketTakeWrongFalsely : Prop := fnExactBucketTakeRow.holds Try.pinned (OpenSpec.ofChange fnExactBucketTakeWrong)

/-- 'laws.FnWhen': WHATEVER THE INPUT: true; the input reads as it did. -/
def fnWhenSpec : ChangeSpec := { name := "fnWhen", fn := fun _ => fun
  | [d1, d2] => { results := [.lit (.bool true)], args := [d1, d2] }
  | _ => none }
def fnWhenRow : OpenClaim := { program := "ytfjpfjofogbpgaa", sum := "d5b28d83f4bb7fc78409b75f98938069bc62960ae4d8f43a0af4db5a1b62f92a", func := "loop.example/g00202/laws.FnWhen", spec := "fnWhen", apart := false }
def FnWhenSaid : Prop := fnWhenRow.holds Try.pinned (OpenSpec.ofChange fnWhenSpec)

/-- ITS FALSE NEIGHBOUR: 'it returns false'. Refute it at one input. -/
def fnWhenWrong : ChangeSpec := { name := "fnWhen", fn := fun _ => fun
  | [d1, d2] => { results := [.lit (.bool false)], args := [d1, d2] }
  | _ => none }
def FnWhenWrongFalsely : Prop := fnWhenRow.holds Try.pinned (OpenSpec.ofChange fnWhenWrong)

/-- 'laws.FnEnvelope': WHATEVER THE INPUT: true; the input reads as it did. -/
def fnEnvelopeSpec : ChangeSpec := { name := "fnEnvelope", fn := fun _ => fun
  | [d1, d2] => { results := [.lit (.bool true)], args := [d1, d2] }
  | _ => none }
def fnEnvelopeRow : OpenClaim := { program := "ytfjpfjofogbpgaa", sum := "d5b28d83f4bb7fc78409b75f98938069bc62960ae4d8f43a0af4db5a1b62f92a", func := "loop.example/g00202/laws.FnEnvelope", spec := "fnEnvelope", apart := false }
def FnEnvelopeSaid : Prop := fnEnvelopeRow.holds Try.pinned (OpenSpec.ofChange fnEnvelopeSpec)

/-- ITS FALSE NEIGHBOUR: 'it returns false'. Refute it at one input. -/
def fnEnvelopeWrong : ChangeSpec := { name := "fnEnvelope", fn := fun _ => fun
  | [d1, d2] => { results := [.lit (.bool false)], args := [d1, d2] }
  | _ => none }
def FnEnvelopeWrongFalsely : Prop := fnEnvelopeRow.holds Try.pinned (OpenSpec.ofChange fnEnvelopeWrong)

/-- 'laws.FnExactBucketRun': WHATEVER THE INPUT: true; the input reads as it did. -/
def fnExactBucketRunSpec : ChangeSpec := { name := "fnExactBucketRun", fn := fun _ => fun
  | [d1, d2] => { results := [.lit (.bool true)], args := [d1, d2] }
  | _ => none }
def fnExactBucketRunRow : OpenClaim := { program := "ytfjpfjofogbpgaa", sum := "d5b28d83f4bb7fc78409b75f98938069bc62960ae4d8f43a0af4db5a1b62f92a", func := "loop.example/g00202/laws.FnExactBucketRun", spec := "fnExactBucketRun", apart := false }
def FnExactBucketRunSaid : Prop := fnExactBucketRunRow.holds Try.pinned (OpenSpec.ofChange fnExactBucketRunSpec)

/-- ITS FALSE NEIGHBOUR: 'it returns false'. Refute it at one input. -/
def fnExactBucketRunWrong : ChangeSpec := { name := "fnExactBucketRun", fn := fun _ => fun
  | [d1, d2] => { results := [.lit (.bool false)], args := [d1, d2] }
  | _ => none }
def FnExactBucketRunWrongFalsely : Prop := fnExactBucketRunRow.holds Try.pinned (OpenSpec.ofChange fnExactBucketRunWrong)

/- THE SECOND FORM. 'bulk': how many values and letters a reading holds, each counted each time it is reached (what is shared counts as often as it is met; a slice's spare places count too). A statement '..UptoSaid' is the law's where the arguments, and the package variables that the reading takes, are together of bulk at most 1048576: NARROWER than '..Said'. Prove '..Said' where nothing that the law and all that it calls make is longer than what came in: it says more and counts as full. Else prove '..UptoSaid'. A law counts once. -/
mutual
def uptoBulk {H : Type} : DataW H → Nat
  | .lit (.string bytes) => bytes.length + 1
  | .lit _ => 1
  | .nil => 1
  | .ptr d => uptoBulk d + 1
  | .slice elems spare => uptoBulkAll elems + uptoBulkAll spare + 1
  | .agg parts => uptoBulkAll parts + 1
  | .iface _ d => uptoBulk d + 1
  | .map entries => uptoBulkEntries entries + 1
  | .held _ => 1
def uptoBulkAll {H : Type} : List (DataW H) → Nat
  | [] => 0
  | d :: r => uptoBulk d + uptoBulkAll r
def uptoBulkEntries {H : Type} : List (Lit × DataW H) → Nat
  | [] => 0
  | x :: r => uptoBulkEntry x + uptoBulkEntries r
def uptoBulkEntry {H : Type} : Lit × DataW H → Nat
  | (.string bytes, d) => bytes.length + uptoBulk d + 1
  | (_, d) => uptoBulk d + 1
 end
def uptoSmall : (H : Type) → List (DataW H) → Bool := fun _ ds => decide (uptoBulkAll ds ≤ 1048576)
def OpenSpec.upto (s : _root_.Go.ChangeSpec) : _root_.Go.OpenSpec := { _root_.Go.OpenSpec.ofChange s with cond := some uptoSmall }

/-- 'laws.FnExactBucketOK', WHERE WHAT IT READS IS OF BULK AT MOST 1048576: true; the input reads as it did. -/
def fnExactBucketOKUptoRow : OpenClaim := { program := "ytfjpfjofogbpgaa", sum := "d5b28d83f4bb7fc78409b75f98938069bc62960ae4d8f43a0af4db5a1b62f92a", func := "loop.example/g00202/laws.FnExactBucketOK", spec := "fnExactBucketOK", apart := false, narrowed := true }
def FnExactBucketOKUptoSaid : Prop := fnExactBucketOKUptoRow.holds Try.pinned (OpenSpec.upto fnExactBucketOKSpec)

/-- 'laws.FnExactNewBucket', WHERE WHAT IT READS IS OF BULK AT MOST 1048576: true; the input reads as it did. -/
def fnExactNewBucketUptoRow : OpenClaim := { program := "ytfjpfjofogbpgaa", sum := "d5b28d83f4bb7fc78409b75f98938069bc62960ae4d8f43a0af4db5a1b62f92a", func := "loop.example/g00202/laws.FnExactNewBucket", spec := "fnExactNewBucket", apart := false, narrowed := true }
def FnExactNewBucketUptoSaid : Prop := fnExactNewBucketUptoRow.holds Try.pinned (OpenSpec.upto fnExactNewBucketSpec)

/-- 'laws.FnExactBucketWhen', WHERE WHAT IT READS IS OF BULK AT MOST 1048576: true; the input reads as it did. -/
def fnExactBucketWhenUptoRow : OpenClaim := { program := "ytfjpfjofogbpgaa", sum := "d5b28d83f4bb7fc78409b75f98938069bc62960ae4d8f43a0af4db5a1b62f92a", func := "loop.example/g00202/laws.FnExactBucketWhen", spec := "fnExactBucketWhen", apart := false, narrowed := true }
def FnExactBucketWhenUptoSaid : Prop := fnExactBucketWhenUptoRow.holds Try.pinned (OpenSpec.upto fnExactBucketWhenSpec)

/-- 'laws.FnExactBucketWait', WHERE WHAT IT READS IS OF BULK AT MOST 1048576: true; the input reads as it did. -/
def fnExactBucketWaitUptoRow : OpenClaim := { program := "ytfjpfjofogbpgaa", sum := "d5b28d83f4bb7fc78409b75f98938069bc62960ae4d8f43a0af4db5a1b62f92a", func := "loop.example/g00202/laws.FnExactBucketWait", spec := "fnExactBucketWait", apart := false, narrowed := true }
def FnExactBucketWaitUptoSaid : Prop := fnExactBucketWaitUptoRow.holds Try.pinned (OpenSpec.upto fnExactBucketWaitSpec)

/-- 'laws.FnExactBucketTake', WHERE WHAT IT READS IS OF BULK AT MOST 1048576: true; the input reads as it did. -/
def fnExactBucketTakeUptoRow : OpenClaim := { program := "ytfjpfjofogbpgaa", sum := "d5b28d83f4bb7fc78409b75f98938069bc62960ae4d8f43a0af4db5a1b62f92a", func := "loop.example/g00202/laws.FnExactBucketTake", spec := "fnExactBucketTake", apart := false, narrowed := true }
def FnExactBucketTakeUptoSaid : Prop := fnExactBucketTakeUptoRow.holds Try.pinned (OpenSpec.upto fnExactBucketTakeSpec)

/-- 'laws.FnWhen', WHERE WHAT IT READS IS OF BULK AT MOST 1048576: true; the input reads as it did. -/
def fnWhenUptoRow : OpenClaim := { program := "ytfjpfjofogbpgaa", sum := "d5b28d83f4bb7fc78409b75f98938069bc62960ae4d8f43a0af4db5a1b62f92a", func := "loop.example/g00202/laws.FnWhen", spec := "fnWhen", apart := false, narrowed := true }
def FnWhenUptoSaid : Prop := fnWhenUptoRow.holds Try.pinned (OpenSpec.upto fnWhenSpec)

/-- 'laws.FnEnvelope', WHERE WHAT IT READS IS OF BULK AT MOST 1048576: true; the input reads as it did. -/
def fnEnvelopeUptoRow : OpenClaim := { program := "ytfjpfjofogbpgaa", sum := "d5b28d83f4bb7fc78409b75f98938069bc62960ae4d8f43a0af4db5a1b62f92a", func := "loop.example/g00202/laws.FnEnvelope", spec := "fnEnvelope", apart := false, narrowed := true }
def FnEnvelopeUptoSaid : Prop := fnEnvelopeUptoRow.holds Try.pinned (OpenSpec.upto fnEnvelopeSpec)

/-- 'laws.FnExactBucketRun', WHERE WHAT IT READS IS OF BULK AT MOST 1048576: true; the input reads as it did. -/
def fnExactBucketRunUptoRow : OpenClaim := { program := "ytfjpfjofogbpgaa", sum := "d5b28d83f4bb7fc78409b75f98938069bc62960ae4d8f43a0af4db5a1b62f92a", func := "loop.example/g00202/laws.FnExactBucketRun", spec := "fnExactBucketRun", apart := false, narrowed := true }
def FnExactBucketRunUptoSaid : Prop := fnExactBucketRunUptoRow.holds Try.pinned (OpenSpec.upto fnExactBucketRunSpec)

end Rows
end Go.Proofs.Ytfjpfjofogbpgaa
