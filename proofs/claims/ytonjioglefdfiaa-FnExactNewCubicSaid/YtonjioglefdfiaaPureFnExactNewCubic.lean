/- A new window of the program's is the reference's, in every field. -/
import Derived.Test.YtonjioglefdfiaaAid
import Derived.Test.YtonjioglefdfiaaPFnExactNewCubicx1
namespace Go.Proofs.Ytonjioglefdfiaa.Pure
open Go.RowKit Go.Proofs.Ytonjioglefdfiaa.PFnExactNewCubic Go.Proofs.YtonjioglefdfiaaW.PrintWords Go.Proofs.YtonjioglefdfiaaW.PrintLast Go.Proofs.YtonjioglefdfiaaW.PrintMore Go.Proofs.Ytonjioglefdfiaa.Aid
theorem FnExactNewCubic : laws_FnExactNewCubic.Pure := by
  show laws_FnExactNewCubic.f = some true
  decide
end Go.Proofs.Ytonjioglefdfiaa.Pure
