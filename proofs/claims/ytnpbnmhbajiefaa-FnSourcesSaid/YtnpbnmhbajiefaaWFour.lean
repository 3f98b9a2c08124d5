-- WORDS of the print, cut down to what this claim names
import Derived.Test.YtnpbnmhbajiefaaWTab
namespace Go.Proofs.YtnpbnmhbajiefaaW.PrintLast
end Go.Proofs.YtnpbnmhbajiefaaW.PrintLast
