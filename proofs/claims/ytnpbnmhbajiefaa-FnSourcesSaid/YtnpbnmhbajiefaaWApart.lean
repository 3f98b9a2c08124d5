-- WORDS of the print, cut down to what this claim names
import Derived.Test.YtnpbnmhbajiefaaWWords
import Derived.Test.YtnpbnmhbajiefaaWLast
namespace Go.Proofs.YtnpbnmhbajiefaaW.PrintWords
open Go.RowKit
namespace Kd
/-- The cells themselves. -/
def raw (sz : Nat) : Kd (List Value) where
  sz := sz
  E := []
  K := fun _ x cs => cs = x ∧ cs.length = sz ∧ ∀ u ∈ cs, u.oneCell' = true
  M := fun _ _ _ x cs => cs = x ∧ cs.length = sz ∧ ∀ u ∈ cs, u.oneCell' = true
  K_len := fun h => h.2.1
  K_one := fun h => h.2.2
  K_below := fun _ h => h
  K_of_M := fun h => h
  M_mono := fun _ h => h
  M_bound := fun h => h
  M_move := fun _ h => h
  M_lower := fun _ h => h
end Kd
end Go.Proofs.YtnpbnmhbajiefaaW.PrintWords
