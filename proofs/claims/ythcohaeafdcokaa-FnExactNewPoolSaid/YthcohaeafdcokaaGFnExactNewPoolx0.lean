-- OWN TEXT of FnExactNewPool: made by own_print.sh, finished by hand
import Derived.Test.YthcohaeafdcokaaProg
import Derived.Shelf.Abstract
import Derived.Below
import Derived.Deep.Draws
import Derived.Deep.AppendLies
import Derived.Maps.AppendAt
import Derived.OwnWalk
import Derived.Laws.BytesArg
import Derived.Laws.MakeOwn
import Derived.Laws.OwnMore
import Derived.Deep.OwnRows
import Derived.Tactics
import Derived.Lib.ConvBytes
import Derived.Laws.Slices
import Derived.WalkKit
import Derived.KernelRfl
import Derived.RowKit3
import Derived.Deep.LoopGhost
import Derived.Deep.QuietTactic
import Derived.BigQuiet
import Derived.WideLaws
import Derived.Deep.DeepCutAuto
import Derived.Deep.CutBlock
import Derived.Deep.RegionHeld3
import Derived.Laws.Rows
import Derived.Lib.AppendStr
import Derived.ArgAppend
import Derived.Laws.IdiomCopy
import Derived.OrdersHeld
import Derived.Laws.BitsLemmas
import Derived.RowKit
import Derived.Test.YthcohaeafdcokaaWWords
import Derived.Test.YthcohaeafdcokaaWLast
import Derived.Test.YthcohaeafdcokaaWTab
import Derived.Test.YthcohaeafdcokaaWFour
import Derived.Test.YthcohaeafdcokaaWQPut
import Derived.Test.YthcohaeafdcokaaWApart
import Derived.Test.YthcohaeafdcokaaWArr
import Derived.Test.YthcohaeafdcokaaWZeros
import Derived.Test.YthcohaeafdcokaaWFoot
import Derived.Test.YthcohaeafdcokaaWKept
import Derived.Test.YthcohaeafdcokaaWShare
import Derived.Test.YthcohaeafdcokaaWN
import Derived.Test.YthcohaeafdcokaaWFootNe
import Derived.Test.YthcohaeafdcokaaWAt
import Derived.Test.YthcohaeafdcokaaWEqStruct
import Derived.Test.YthcohaeafdcokaaWRepsOne
import Derived.Test.YthcohaeafdcokaaWInv
import Derived.Test.YthcohaeafdcokaaWInvWords
import Derived.Test.YthcohaeafdcokaaWGuard
import Derived.Test.YthcohaeafdcokaaWNEv
import Derived.Test.YthcohaeafdcokaaWMore
namespace Go.Proofs.Ythcohaeafdcokaa.PFnExactNewPool
open Go.RowKit Go.Proofs.YthcohaeafdcokaaW.PrintWords Go.Proofs.YthcohaeafdcokaaW.PrintLast Go.Proofs.YthcohaeafdcokaaW.PrintMore
attribute [local go_sem] max2_int min2_int max_two min_two max_three min_three max_four min_four   -- for this text's walks alone
set_option linter.unusedVariables false
set_option linter.unusedSimpArgs false



def errW : Option Int → Value
  | none => .nilIface
  | some c => .iface 0 (.int .i64 c)
theorem errW_none : errW none = .nilIface := rfl
theorem errW_some (c : Int) : errW (some c) = .iface 0 (.int .i64 c) := rfl

theorem info3 : (Try.prog.info? 3).map (fun i => (i.zero, i.size, i.bytes)) = some (some (.int .i64 0), 1, 8) := by kernel_rfl
-- the values' own types

end Go.Proofs.Ythcohaeafdcokaa.PFnExactNewPool
