/- The statement FnExactNewWheel holds: a new wheel is made as the plain reading of it says. -/
import Derived.KernelRfl
import Derived.Test.YthcohaeafdcokaaAid
import Derived.Test.YthcohaeafdcokaaSayFnExactNewWheel
namespace Go.Proofs.Ythcohaeafdcokaa.Pure
set_option linter.unusedSimpArgs false
set_option linter.unusedVariables false
open Go.RowKit Go.Proofs.Ythcohaeafdcokaa.PFnExactNewWheel Go.Proofs.YthcohaeafdcokaaW.PrintWords Go.Proofs.YthcohaeafdcokaaW.PrintLast Go.Proofs.YthcohaeafdcokaaW.PrintMore Go.Proofs.Ythcohaeafdcokaa.Aid
theorem FnExactNewWheel : fnExactNewWheel.Say := ⟨60, by kernel_rfl⟩
end Go.Proofs.Ythcohaeafdcokaa.Pure
namespace Go.Proofs.Ythcohaeafdcokaa
/-- The row. -/
theorem fnExactNewWheel_holds : Rows.FnExactNewWheelSaid := fnExactNewWheel.row_of Pure.FnExactNewWheel
end Go.Proofs.Ythcohaeafdcokaa
