-- WORDS of the print, cut down by trimwords.py to what this claim names
import Derived.Test.YtnpbnmhbajiefaaDoorWWords
import Derived.Laws.StructEq
namespace Go.Proofs.YtnpbnmhbajiefaaDoorW.PrintWords
open Go.RowKit
end Go.Proofs.YtnpbnmhbajiefaaDoorW.PrintWords

