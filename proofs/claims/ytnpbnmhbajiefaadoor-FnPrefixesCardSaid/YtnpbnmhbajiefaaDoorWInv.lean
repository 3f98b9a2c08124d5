-- WORDS of the print, cut down by trimwords.py to what this claim names
import Derived.Test.YtnpbnmhbajiefaaDoorWTab
namespace Go.Proofs.YtnpbnmhbajiefaaDoorW.PrintLast
/-- Number i is listed too. -/
def up (b : Nat → Bool) (i : Nat) : Nat → Bool := fun j => if j = i then true else b j
end Go.Proofs.YtnpbnmhbajiefaaDoorW.PrintLast

