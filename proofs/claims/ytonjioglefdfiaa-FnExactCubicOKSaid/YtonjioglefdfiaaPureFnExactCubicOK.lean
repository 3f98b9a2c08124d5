/- The program and the reference agree on whether a window is right, for all windows. -/
import Derived.Test.YtonjioglefdfiaaAid
import Derived.Test.YtonjioglefdfiaaSayFnExactCubicOK
namespace Go.Proofs.Ytonjioglefdfiaa.Pure
open Go.RowKit Go.Proofs.Ytonjioglefdfiaa.PFnExactCubicOK Go.Proofs.YtonjioglefdfiaaW.PrintWords Go.Proofs.YtonjioglefdfiaaW.PrintLast Go.Proofs.YtonjioglefdfiaaW.PrintMore Go.Proofs.Ytonjioglefdfiaa.Aid
theorem inR (a b c : Int) : impl_inRange.f a b c = some (decide (b ≤ a ∧ a ≤ c)) := by
  unfold impl_inRange.f
  by_cases h : a ≥ b
  · rw [if_pos h]; simp [show b ≤ a from h]
  · rw [if_neg h]; simp; omega
theorem inS (a b c : Int) : spec_l01In.f a b c = some (decide (b ≤ a ∧ a ≤ c)) := by
  unfold spec_l01In.f
  by_cases h : a ≥ b
  · rw [if_pos h]; simp [show b ≤ a from h]
  · rw [if_neg h]; simp; omega
theorem FnExactCubicOK : fnExactCubicOK.Say := by
  intro a b c d e f g ha hb hc hd he hf hg
  refine ⟨1, ?_⟩
  simp only [laws_FnExactCubicOK.f, laws_toCubic.f, spec_CubicOK.f, impl_CubicOK.f, inR, inS, Option.bind_some, impl_CubicOK.j0]
  generalize decide (1 ≤ a ∧ a ≤ 100000) = p0
  generalize decide (2 ≤ b ∧ b ≤ 100000) = p1
  generalize decide (0 ≤ c ∧ c ≤ 100000) = p2
  generalize decide (0 ≤ d ∧ d ≤ 1000000) = p3
  generalize decide (0 ≤ e ∧ e ≤ f) = p4
  generalize decide (0 ≤ f ∧ f ≤ 1000000) = p5
  generalize decide (0 ≤ g ∧ g ≤ 100000) = p6
  revert p0 p1 p2 p3 p4 p5 p6
  decide
end Go.Proofs.Ytonjioglefdfiaa.Pure
namespace Go.Proofs.Ytonjioglefdfiaa
/-- The row. -/
theorem fnExactCubicOK_holds : Rows.FnExactCubicOKSaid := fnExactCubicOK.row_of Pure.FnExactCubicOK
end Go.Proofs.Ytonjioglefdfiaa
