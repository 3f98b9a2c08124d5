-- WORDS of the print, cut down to what this claim names
import Derived.Test.YtnpbnmhbajiefaaWApart
import Derived.Test.YtnpbnmhbajiefaaWArr
namespace Go.Proofs.YtnpbnmhbajiefaaW.PrintWords
open Go.RowKit
namespace Kd
end Kd
end Go.Proofs.YtnpbnmhbajiefaaW.PrintWords
