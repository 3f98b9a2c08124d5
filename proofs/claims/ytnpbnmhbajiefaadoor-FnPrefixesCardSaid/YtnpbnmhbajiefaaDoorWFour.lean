-- WORDS of the print, cut down by trimwords.py to what this claim names
import Derived.Test.YtnpbnmhbajiefaaDoorWTab
namespace Go.Proofs.YtnpbnmhbajiefaaDoorW.PrintLast
end Go.Proofs.YtnpbnmhbajiefaaDoorW.PrintLast

