-- WORDS of the print, cut down by trimwords.py to what this claim names
import Derived.Test.YtgbkpledbjkjoaaWTab
namespace Go.Proofs.YtgbkpledbjkjoaaW.PrintLast
end Go.Proofs.YtgbkpledbjkjoaaW.PrintLast

