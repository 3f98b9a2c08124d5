/- The program's segment size and the reference's are the same number and code, for all ints. -/
import Derived.Test.YtgbkpledbjkjoaaAid
import Derived.Test.YtgbkpledbjkjoaaSayFnExactSegmentSize
namespace Go.Proofs.Ytgbkpledbjkjoaa.Pure
set_option linter.unusedSimpArgs false
set_option linter.unusedVariables false
open Go.RowKit Go.Proofs.Ytgbkpledbjkjoaa.PFnExactSegmentSize Go.Proofs.YtgbkpledbjkjoaaW.PrintWords Go.Proofs.YtgbkpledbjkjoaaW.PrintLast Go.Proofs.YtgbkpledbjkjoaaW.PrintMore Go.Proofs.Ytgbkpledbjkjoaa.Aid
theorem inR (a b c : Int) : impl_inRange.f a b c = some (decide (b ≤ a ∧ a ≤ c)) := by
  unfold impl_inRange.f
  by_cases h : a ≥ b
  · rw [if_pos h]; simp [show b ≤ a from h]
  · rw [if_neg h]; simp; omega
theorem inS (a b c : Int) : spec_l01In.f a b c = some (decide (b ≤ a ∧ a ≤ c)) := by
  unfold spec_l01In.f
  by_cases h : a ≥ b
  · rw [if_pos h]; simp [show b ≤ a from h]
  · rw [if_neg h]; simp; omega
theorem FnExactSegmentSize : fnExactSegmentSize.Say := by
  intro v m _ _
  refine ⟨1, ?_⟩
  simp only [laws_FnExactSegmentSize.f, spec_SegmentSize.f, impl_SegmentSize.f, inR, inS, Option.bind_some, impl_SegmentSize.j0, spec_SegmentSize.j0]
  by_cases h4 : v = 4
  · subst h4
    by_cases h : 576 ≤ m ∧ m ≤ 65535 <;> simp [h]
  · by_cases h6 : v = 6
    · subst h6
      by_cases h : 576 ≤ m ∧ m ≤ 65535 <;> simp [h]
    · simp [h4, h6]
end Go.Proofs.Ytgbkpledbjkjoaa.Pure
namespace Go.Proofs.Ytgbkpledbjkjoaa
/-- The row. -/
theorem fnExactSegmentSize_holds : Rows.FnExactSegmentSizeSaid := fnExactSegmentSize.row_of Pure.FnExactSegmentSize
end Go.Proofs.Ytgbkpledbjkjoaa
