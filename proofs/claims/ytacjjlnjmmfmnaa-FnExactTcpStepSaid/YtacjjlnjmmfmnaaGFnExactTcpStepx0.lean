-- OWN TEXT of FnExactTcpStep: made by own_print.sh, finished by hand
import Derived.Test.YtacjjlnjmmfmnaaProg
import Derived.Shelf.Abstract
import Derived.Below
import Derived.Deep.Draws
import Derived.Deep.AppendLies
import Derived.Maps.AppendAt
import Derived.OwnWalk
import Derived.Laws.BytesArg
import Derived.Laws.MakeOwn
import Derived.Laws.OwnMore
import Derived.Deep.OwnRows
import Derived.Tactics
import Derived.Lib.ConvBytes
import Derived.Laws.Slices
import Derived.WalkKit
import Derived.KernelRfl
import Derived.RowKit3
import Derived.Deep.LoopGhost
import Derived.Deep.QuietTactic
import Derived.BigQuiet
import Derived.WideLaws
import Derived.Deep.DeepCutAuto
import Derived.Deep.CutBlock
import Derived.Deep.RegionHeld3
import Derived.Laws.Rows
import Derived.Lib.AppendStr
import Derived.ArgAppend
import Derived.Laws.IdiomCopy
import Derived.OrdersHeld
import Derived.Laws.BitsLemmas
import Derived.RowKit
import Derived.Test.YtacjjlnjmmfmnaaWWords
import Derived.Test.YtacjjlnjmmfmnaaWLast
import Derived.Test.YtacjjlnjmmfmnaaWTab
import Derived.Test.YtacjjlnjmmfmnaaWFour
import Derived.Test.YtacjjlnjmmfmnaaWQPut
import Derived.Test.YtacjjlnjmmfmnaaWApart
import Derived.Test.YtacjjlnjmmfmnaaWArr
import Derived.Test.YtacjjlnjmmfmnaaWZeros
import Derived.Test.YtacjjlnjmmfmnaaWFoot
import Derived.Test.YtacjjlnjmmfmnaaWKept
import Derived.Test.YtacjjlnjmmfmnaaWShare
import Derived.Test.YtacjjlnjmmfmnaaWN
import Derived.Test.YtacjjlnjmmfmnaaWFootNe
import Derived.Test.YtacjjlnjmmfmnaaWAt
import Derived.Test.YtacjjlnjmmfmnaaWEqStruct
import Derived.Test.YtacjjlnjmmfmnaaWRepsOne
import Derived.Test.YtacjjlnjmmfmnaaWInv
import Derived.Test.YtacjjlnjmmfmnaaWInvWords
import Derived.Test.YtacjjlnjmmfmnaaWGuard
import Derived.Test.YtacjjlnjmmfmnaaWNEv
import Derived.Test.YtacjjlnjmmfmnaaWMore
namespace Go.Proofs.Ytacjjlnjmmfmnaa.PFnExactTcpStep
open Go.RowKit Go.Proofs.YtacjjlnjmmfmnaaW.PrintWords Go.Proofs.YtacjjlnjmmfmnaaW.PrintLast Go.Proofs.YtacjjlnjmmfmnaaW.PrintMore
attribute [local go_sem] max2_int min2_int max_two min_two max_three min_three max_four min_four   -- for this text's walks alone
set_option linter.unusedVariables false
set_option linter.unusedSimpArgs false



def errW : Option Int → Value
  | none => .nilIface
  | some c => .iface 0 (.int .i64 c)
theorem errW_none : errW none = .nilIface := rfl
theorem errW_some (c : Int) : errW (some c) = .iface 0 (.int .i64 c) := rfl

theorem info3 : (Try.prog.info? 3).map (fun i => (i.zero, i.size, i.bytes)) = some (some (.int .i64 0), 1, 8) := by kernel_rfl
-- the values' own types

end Go.Proofs.Ytacjjlnjmmfmnaa.PFnExactTcpStep
