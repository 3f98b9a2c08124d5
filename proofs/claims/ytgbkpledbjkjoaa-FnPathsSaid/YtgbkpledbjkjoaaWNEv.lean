-- WORDS of the print, cut down by trimwords.py to what this claim names
import Derived.Test.YtgbkpledbjkjoaaWN
namespace Go.Proofs.YtgbkpledbjkjoaaW.PrintWords
open Go.RowKit
namespace Kd
end Kd
end Go.Proofs.YtgbkpledbjkjoaaW.PrintWords

