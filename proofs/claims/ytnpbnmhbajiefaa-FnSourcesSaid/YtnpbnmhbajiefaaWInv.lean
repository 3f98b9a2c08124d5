-- WORDS of the print, cut down to what this claim names
import Derived.Test.YtnpbnmhbajiefaaWTab
namespace Go.Proofs.YtnpbnmhbajiefaaW.PrintLast
/-- Number i is listed too. -/
def up (b : Nat → Bool) (i : Nat) : Nat → Bool := fun j => if j = i then true else b j
end Go.Proofs.YtnpbnmhbajiefaaW.PrintLast
