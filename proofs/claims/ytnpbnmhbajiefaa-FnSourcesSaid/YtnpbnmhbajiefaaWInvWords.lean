-- WORDS of the print, cut down to what this claim names
import Derived.Test.YtnpbnmhbajiefaaWInv
import Derived.Test.YtnpbnmhbajiefaaWFootNe
namespace Go.Proofs.YtnpbnmhbajiefaaW.PrintWords
open Go.RowKit
end Go.Proofs.YtnpbnmhbajiefaaW.PrintWords
namespace Go.Proofs.YtnpbnmhbajiefaaW.PrintLast
end Go.Proofs.YtnpbnmhbajiefaaW.PrintLast
