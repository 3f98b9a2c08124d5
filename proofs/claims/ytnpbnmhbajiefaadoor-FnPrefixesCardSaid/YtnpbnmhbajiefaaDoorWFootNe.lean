-- WORDS of the print, cut down by trimwords.py to what this claim names
import Derived.Test.YtnpbnmhbajiefaaDoorWN
namespace Go.Proofs.YtnpbnmhbajiefaaDoorW.PrintWords
open Go.RowKit
namespace Kd
end Kd
end Go.Proofs.YtnpbnmhbajiefaaDoorW.PrintWords

