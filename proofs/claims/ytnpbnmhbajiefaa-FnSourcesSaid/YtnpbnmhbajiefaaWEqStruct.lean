-- WORDS of the print, cut down to what this claim names
import Derived.Test.YtnpbnmhbajiefaaWWords
import Derived.Laws.StructEq
namespace Go.Proofs.YtnpbnmhbajiefaaW.PrintWords
open Go.RowKit
end Go.Proofs.YtnpbnmhbajiefaaW.PrintWords
