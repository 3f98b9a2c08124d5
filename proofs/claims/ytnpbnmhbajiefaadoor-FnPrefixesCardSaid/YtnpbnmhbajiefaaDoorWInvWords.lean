-- WORDS of the print, cut down by trimwords.py to what this claim names
import Derived.Test.YtnpbnmhbajiefaaDoorWInv
import Derived.Test.YtnpbnmhbajiefaaDoorWFootNe
namespace Go.Proofs.YtnpbnmhbajiefaaDoorW.PrintWords
open Go.RowKit
end Go.Proofs.YtnpbnmhbajiefaaDoorW.PrintWords
namespace Go.Proofs.YtnpbnmhbajiefaaDoorW.PrintLast
end Go.Proofs.YtnpbnmhbajiefaaDoorW.PrintLast

