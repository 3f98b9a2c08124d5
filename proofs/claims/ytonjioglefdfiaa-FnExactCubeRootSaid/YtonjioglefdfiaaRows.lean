/-
  No cell of these rows narrows 'for every input' (looked for: loops, veiled, ifaces, maps, wideKeys, modest, calm, conditions, laid).
  DERIVED. THE GIVEN ROWS OF THIS SEAT. 6 by the template 'for every input the law returns true; each argument reads behind the call as it read before'; 0 by the template 'total and deterministic' (their statements: YtonjioglefdfiaaTotals.lean).
  GIVEN WITH THE SEED: the statements are not yours to turn. If you find one false, say at which input.
  Laid BY PROGRAM, IN A SANDBOX (cutbox-rows.mjs): the forced cells as the released guide's own fill.sh prints them over the translation 33a8e55b2c00c100… (all of the seat's roots in one cut). By AI agents, Wed Nov 11 2026. No macro, syntax, notation, axiom, sorry.
-/
import Derived.Test.YtonjioglefdfiaaChecked
import GoSem.Claim
import GoSem.ClaimJoined
import GoSem.ClaimMapViews
import Derived.JoinedTies
import Derived.KernelRfl
namespace Go.Proofs.Ytonjioglefdfiaa
/- THE CELL 'sum', in the pinned program and in every row, IS THE sha256 OF THE DUMP (.gsa) THAT YtonjioglefdfiaaProg.lean LOADS. Nothing in Lean hashes anything: it is a label: what it is worth is what the hold of that sum in a sandbox is worth. -/
noncomputable def Try.pinned : Pinned := { name := "ytonjioglefdfiaa", sum := "33a8e55b2c00c1006d9325a81fd4bdcfb90d424153514c69ca56a6ac4fda30d2", checked := Try.checked }
namespace Rows
def none {H : Type} : Left H := { results := [], args := [] }

/-- 'laws.FnExactCubicOK': WHATEVER THE INPUT: true; the input reads as it did. -/
def fnExactCubicOKSpec : ChangeSpec := { name := "fnExactCubicOK", fn := fun _ => fun
  | [d] => { results := [.lit (.bool true)], args := [d] }
  | _ => none }
def fnExactCubicOKRow : OpenClaim := { program := "ytonjioglefdfiaa", sum := "33a8e55b2c00c1006d9325a81fd4bdcfb90d424153514c69ca56a6ac4fda30d2", func := "loop.example/g00202/laws.FnExactCubicOK", spec := "fnExactCubicOK", apart := false }
def FnExactCubicOKSaid : Prop := fnExactCubicOKRow.holds Try.pinned (OpenSpec.ofChange fnExactCubicOKSpec)

/-- ITS FALSE NEIGHBOUR: 'it returns false'. Refute it at one input. -/
def fnExactCubicOKWrong : ChangeSpec := { name := "fnExactCubicOK", fn := fun _ => fun
  | [d] => { results := [.lit (.bool false)], args := [d] }
  | _ => none }
def FnExactCubicOKWrongFalsely : Prop := fnExactCubicOKRow.holds Try.pinned (OpenSpec.ofChange fnExactCubicOKWrong)

/-- 'laws.FnExactNewCubic': WHATEVER THE INPUT: true; the input reads as it did. -/
def fnExactNewCubicSpec : ChangeSpec := { name := "fnExactNewCubic", fn := fun _ => fun
  | [] => { results := [.lit (.bool true)], args := [] }
  | _ => none }
def fnExactNewCubicRow : OpenClaim := { program := "ytonjioglefdfiaa", sum := "33a8e55b2c00c1006d9325a81fd4bdcfb90d424153514c69ca56a6ac4fda30d2", func := "loop.example/g00202/laws.FnExactNewCubic", spec := "fnExactNewCubic", apart := false }
def FnExactNewCubicSaid : Prop := fnExactNewCubicRow.holds Try.pinned (OpenSpec.ofChange fnExactNewCubicSpec)

/-- ITS FALSE NEIGHBOUR: 'it returns false'. Refute it at one input. -/
def fnExactNewCubicWrong : ChangeSpec := { name := "fnExactNewCubic", fn := fun _ => fun
  | [] => { results := [.lit (.bool false)], args := [] }
  | _ => none }
def FnExactNewCubicWrongFalsely : Prop := fnExactNewCubicRow.holds Try.pinned (OpenSpec.ofChange fnExactNewCubicWrong)

/-- 'laws.FnExactCubicAt': WHATEVER THE INPUT: true; the input reads as it did. -/
def fnExactCubicAtSpec : ChangeSpec := { name := "fnExactCubicAt", fn := fun _ => fun
  | [d1, d2, d3] => { results := [.lit (.bool true)], args := [d1, d2, d3] }
  | _ => none }
def fnExactCubicAtRow : OpenClaim := { program := "ytonjioglefdfiaa", sum := "33a8e55b2c00c1006d9325a81fd4bdcfb90d424153514c69ca56a6ac4fda30d2", func := "loop.example/g00202/laws.FnExactCubicAt", spec := "fnExactCubicAt", apart := false }
def FnExactCubicAtSaid : Prop := fnExactCubicAtRow.holds Try.pinned (OpenSpec.ofChange fnExactCubicAtSpec)

/-- ITS FALSE NEIGHBOUR: 'it returns false'. Refute it at one input. -/
def fnExactCubicAtWrong : ChangeSpec := { name := "fnExactCubicAt", fn := fun _ => fun
  | [d1, d2, d3] => { results := [.lit (.bool false)], args := [d1, d2, d3] }
  | _ => none }
def FnExactCubicAtWrongFalsely : Prop := fnExactCubicAtRow.holds Try.pinned (OpenSpec.ofChange fnExactCubicAtWrong)

/-- 'laws.FnCubic': WHATEVER THE INPUT: true; the input reads as it did. -/
def fnCubicSpec : ChangeSpec := { name := "fnCubic", fn := fun _ => fun
  | [d1, d2] => { results := [.lit (.bool true)], args := [d1, d2] }
  | _ => none }
def fnCubicRow : OpenClaim := { program := "ytonjioglefdfiaa", sum := "33a8e55b2c00c1006d9325a81fd4bdcfb90d424153514c69ca56a6ac4fda30d2", func := "loop.example/g00202/laws.FnCubic", spec := "fnCubic", apart := false }
def FnCubicSaid : Prop := fnCubicRow.holds Try.pinned (OpenSpec.ofChange fnCubicSpec)

/-- ITS FALSE NEIGHBOUR: 'it returns false'. Refute it at one input. -/
def fnCubicWrong : ChangeSpec := { name := "fnCubic", fn := fun _ => fun
  | [d1, d2] => { results := [.lit (.bool false)], args := [d1, d2] }
  | _ => none }
def FnCubicWrongFalsely : Prop := fnCubicRow.holds Try.pinned (OpenSpec.ofChange fnCubicWrong)

/-- 'laws.FnExactCubeRoot': WHATEVER THE INPUT: true; the input reads as it did. -/
def fnExactCubeRootSpec : ChangeSpec := { name := "fnExactCubeRoot", fn := fun _ => fun
  | [d] => { results := [.lit (.bool true)], args := [d] }
  | _ => none }
def fnExactCubeRootRow : OpenClaim := { program := "ytonjioglefdfiaa", sum := "33a8e55b2c00c1006d9325a81fd4bdcfb90d424153514c69ca56a6ac4fda30d2", func := "loop.example/g00202/laws.FnExactCubeRoot", spec := "fnExactCubeRoot", apart := false }
def FnExactCubeRootSaid : Prop := fnExactCubeRootRow.holds Try.pinned (OpenSpec.ofChange fnExactCubeRootSpec)

/-- ITS FALSE NEIGHBOUR: 'it returns false'. Refute it at one input. -/
def fnExactCubeRootWrong : ChangeSpec := { name := "fnExactCubeRoot", fn := fun _ => fun
  | [d] => { results := [.lit (.bool false)], args := [d] }
  | _ => none }
def FnExactCubeRootWrongFalsely : Prop := fnExactCubeRootRow.holds Try.pinned (OpenSpec.ofChange fnExactCubeRootWrong)

/-- 'laws.FnRoot': WHATEVER THE INPUT: true; the input reads as it did. -/
def fnRootSpec : ChangeSpec := { name := "fnRoot", fn := fun _ => fun
  | [d1, d2] => { results := [.lit (.bool true)], args := [d1, d2] }
  | _ => none }
def fnRootRow : OpenClaim := { program := "ytonjioglefdfiaa", sum := "33a8e55b2c00c1006d9325a81fd4bdcfb90d424153514c69ca56a6ac4fda30d2", func := "loop.example/g00202/laws.FnRoot", spec := "fnRoot", apart := false }
def FnRootSaid : Prop := fnRootRow.holds Try.pinned (OpenSpec.ofChange fnRootSpec)

/-- ITS FALSE NEIGHBOUR: 'it returns false'. Refute it at one input. -/
def fnRootWrong : ChangeSpec := { name := "fnRoot", fn := fun _ => fun
  | [d1, d2] => { results := [.lit (.bool false)], args := [d1, d2] }
  | _ => none }
def FnRootWrongFalsely : Prop := fnRootRow.holds Try.pinned (OpenSpec.ofChange fnRootWrong)

/- THE SECOND FORM. 'bulk': how many values and letters a reading holds, each counted each time it is reached (what is shared counts as often as it is met; a slice's spare places count too). A statement '..UptoSaid' is the law's where the arguments, and the package variables that the reading takes, are together of bulk at most 1048576: NARROWER than '..Said'. Prove '..Said' where nothing that the law and all that it calls make is longer than what came in: it says more and counts as full. Else prove '..UptoSaid'. A law counts once. -/
mutual
def uptoBulk {H : Type} : DataW H → Nat
  | .lit (.string bytes) => bytes.length + 1
  | .lit _ => 1
  | .nil => 1
  | .ptr d => uptoBulk d + 1
  | .slice elems spare => uptoBulkAll elems + uptoBulkAll spare + 1
  | .agg parts => uptoBulkAll parts + 1
  | .iface _ d => uptoBulk d + 1
  | .map entries => uptoBulkEntries entries + 1
  | .held _ => 1
def uptoBulkAll {H : Type} : List (DataW H) → Nat
  | [] => 0
  | d :: r => uptoBulk d + uptoBulkAll r
def uptoBulkEntries {H : Type} : List (Lit × DataW H) → Nat
  | [] => 0
  | x :: r => uptoBulkEntry x + uptoBulkEntries r
def uptoBulkEntry {H : Type} : Lit × DataW H → Nat
  | (.string bytes, d) => bytes.length + uptoBulk d + 1
  | (_, d) => uptoBulk d + 1
 end
def uptoSmall : (H : Type) → List (DataW H) → Bool := fun _ ds => decide (uptoBulkAll ds ≤ 1048576)
def OpenSpec.upto (s : _root_.Go.ChangeSpec) : _root_.Go.OpenSpec := { _root_.Go.OpenSpec.ofChange s with cond := some uptoSmall }

/-- 'laws.FnExactCubicOK', WHERE WHAT IT READS IS OF BULK AT MOST 1048576: true; the input reads as it did. -/
def fnExactCubicOKUptoRow : OpenClaim := { program := "ytonjioglefdfiaa", sum := "33a8e55b2c00c1006d9325a81fd4bdcfb90d424153514c69ca56a6ac4fda30d2", func := "loop.example/g00202/laws.FnExactCubicOK", spec := "fnExactCubicOK", apart := false, narrowed := true }
def FnExactCubicOKUptoSaid : Prop := fnExactCubicOKUptoRow.holds Try.pinned (OpenSpec.upto fnExactCubicOKSpec)

/-- 'laws.FnExactNewCubic', WHERE WHAT IT READS IS OF BULK AT MOST 1048576: true; the input reads as it did. -/
def fnExactNewCubicUptoRow : OpenClaim := { program := "ytonjioglefdfiaa", sum := "33a8e55b2c00c1006d9325a81fd4bdcfb90d424153514c69ca56a6ac4fda30d2", func := "loop.example/g00202/laws.FnExactNewCubic", spec := "fnExactNewCubic", apart := false, narrowed := true }
def FnExactNewCubicUptoSaid : Prop := fnExactNewCubicUptoRow.holds Try.pinned (OpenSpec.upto fnExactNewCubicSpec)

/-- 'laws.FnExactCubicAt', WHERE WHAT IT READS IS OF BULK AT MOST 1048576: true; the input reads as it did. -/
def fnExactCubicAtUptoRow : OpenClaim := { program := "ytonjioglefdfiaa", sum := "33a8e55b2c00c1006d9325a81fd4bdcfb90d424153514c69ca56a6ac4fda30d2", func := "loop.example/g00202/laws.FnExactCubicAt", spec := "fnExactCubicAt", apart := false, narrowed := true }
def FnExactCubicAtUptoSaid : Prop := fnExactCubicAtUptoRow.holds Try.pinned (OpenSpec.upto fnExactCubicAtSpec)

/-- 'laws.FnCubic', WHERE WHAT IT READS IS OF BULK AT MOST 1048576: true; the input reads as it did. -/
def fnCubicUptoRow : OpenClaim := { program := "ytonjioglefdfiaa", sum := "33a8e55b2c00c1006d9325a81fd4bdcfb90d424153514c69ca56a6ac4fda30d2", func := "loop.example/g00202/laws.FnCubic", spec := "fnCubic", apart := false, narrowed := true }
def FnCubicUptoSaid : Prop := fnCubicUptoRow.holds Try.pinned (OpenSpec.upto fnCubicSpec)

/-- 'laws.FnExactCubeRoot', WHERE WHAT IT READS IS OF BULK AT MOST 1048576: true; the input reads as it did. -/
def fnExactCubeRootUptoRow : OpenClaim := { program := "ytonjioglefdfiaa", sum := "33a8e55b2c00c1006d9325a81fd4bdcfb90d424153514c69ca56a6ac4fda30d2", func := "loop.example/g00202/laws.FnExactCubeRoot", spec := "fnExactCubeRoot", apart := false, narrowed := true }
def FnExactCubeRootUptoSaid : Prop := fnExactCubeRootUptoRow.holds Try.pinned (OpenSpec.upto fnExactCubeRootSpec)

/-- 'laws.FnRoot', WHERE WHAT IT READS IS OF BULK AT MOST 1048576: true; the input reads as it did. -/
def fnRootUptoRow : OpenClaim := { program := "ytonjioglefdfiaa", sum := "33a8e55b2c00c1006d9325a81fd4bdcfb90d424153514c69ca56a6ac4fda30d2", func := "loop.example/g00202/laws.FnRoot", spec := "fnRoot", apart := false, narrowed := true }
def FnRootUptoSaid : Prop := fnRootUptoRow.holds Try.pinned (OpenSpec.upto fnRootSpec)

end Rows
end Go.Proofs.Ytonjioglefdfiaa
