-- WORDS of the print, cut down by trimwords.py to what this claim names
import Derived.Test.YtgbkpledbjkjoaaWInv
import Derived.Test.YtgbkpledbjkjoaaWFootNe
namespace Go.Proofs.YtgbkpledbjkjoaaW.PrintWords
open Go.RowKit
end Go.Proofs.YtgbkpledbjkjoaaW.PrintWords
namespace Go.Proofs.YtgbkpledbjkjoaaW.PrintLast
end Go.Proofs.YtgbkpledbjkjoaaW.PrintLast

