/- The law FnExactNewRing holds. -/
import Derived.Test.YthcohaeafdcokaaAid
import Derived.Test.YthcohaeafdcokaaSayFnExactNewRing
namespace Go.Proofs.Ythcohaeafdcokaa.Pure
set_option linter.unusedSimpArgs false
set_option linter.unusedVariables false
open Go.RowKit Go.Proofs.Ythcohaeafdcokaa.PFnExactNewRing Go.Proofs.YthcohaeafdcokaaW.PrintWords Go.Proofs.YthcohaeafdcokaaW.PrintLast Go.Proofs.YthcohaeafdcokaaW.PrintMore Go.Proofs.Ythcohaeafdcokaa.Aid
theorem inR (a b c : Int) : impl_inRange.f a b c = some (decide (b ≤ a ∧ a ≤ c)) := by
  unfold impl_inRange.f
  by_cases h : a ≥ b
  · rw [if_pos h]; simp [show b ≤ a from h]
  · rw [if_neg h]; simp; omega
theorem inS (a b c : Int) : spec_l01In.f a b c = some (decide (b ≤ a ∧ a ≤ c)) := by
  unfold spec_l01In.f
  by_cases h : a ≥ b
  · rw [if_pos h]; simp [show b ≤ a from h]
  · rw [if_neg h]; simp; omega
theorem FnExactNewRing : fnExactNewRing.Say := by
  intro a b _ _
  refine ⟨4, ?_⟩
  by_cases h1 : 1 ≤ a ∧ a ≤ 16
  · by_cases h2 : 1 ≤ b ∧ b ≤ 16
    · simp [laws_FnExactNewRing.f, spec_NewRing.f, impl_NewRing.f, inR, inS, h1, h2, laws_eqRing.f, laws_eqIntS.f, laws_eqIntS.l0, laws_FnExactNewRing.j0, laws_FnExactNewRing.j1, laws_markRing.f, laws_markIntS.f, laws_markIntS.l0, laws_heldRing.f, laws_heldIntS.f, laws_heldIntS.l0]
    · simp [laws_FnExactNewRing.f, spec_NewRing.f, impl_NewRing.f, inR, inS, h1, h2, laws_eqRing.f, laws_eqIntS.f, laws_eqIntS.l0, laws_FnExactNewRing.j0, laws_FnExactNewRing.j1, laws_markRing.f, laws_markIntS.f, laws_markIntS.l0, laws_heldRing.f, laws_heldIntS.f, laws_heldIntS.l0]
  · simp [laws_FnExactNewRing.f, spec_NewRing.f, impl_NewRing.f, inR, inS, h1, laws_eqRing.f, laws_eqIntS.f, laws_eqIntS.l0, laws_FnExactNewRing.j0, laws_FnExactNewRing.j1, laws_markRing.f, laws_markIntS.f, laws_markIntS.l0, laws_heldRing.f, laws_heldIntS.f, laws_heldIntS.l0]
end Go.Proofs.Ythcohaeafdcokaa.Pure
namespace Go.Proofs.Ythcohaeafdcokaa
/-- The row. -/
theorem fnExactNewRing_holds : Rows.FnExactNewRingSaid := fnExactNewRing.row_of Pure.FnExactNewRing
end Go.Proofs.Ythcohaeafdcokaa
