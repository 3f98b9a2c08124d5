/- The program's and the reference's number of ticks till so many may be taken are the same, with the same code, for all buckets and ints. -/
import Derived.Test.YtfjpfjofogbpgaaAid
import Derived.Test.YtfjpfjofogbpgaaSayFnExactBucketWhen
namespace Go.Proofs.Ytfjpfjofogbpgaa.Pure
set_option linter.unusedSimpArgs false
set_option linter.unusedVariables false
open Go.RowKit Go.Proofs.Ytfjpfjofogbpgaa.PFnExactBucketWhen Go.Proofs.YtfjpfjofogbpgaaW.PrintWords Go.Proofs.YtfjpfjofogbpgaaW.PrintLast Go.Proofs.YtfjpfjofogbpgaaW.PrintMore Go.Proofs.Ytfjpfjofogbpgaa.Aid
theorem inR (a b c : Int) : impl_inRange.f a b c = some (decide (b ≤ a ∧ a ≤ c)) := by
  unfold impl_inRange.f
  by_cases h : a ≥ b
  · rw [if_pos h]; simp [show b ≤ a from h]
  · rw [if_neg h]; simp; omega
theorem inS (a b c : Int) : spec_l01In.f a b c = some (decide (b ≤ a ∧ a ≤ c)) := by
  unfold spec_l01In.f
  by_cases h : a ≥ b
  · rw [if_pos h]; simp [show b ≤ a from h]
  · rw [if_neg h]; simp; omega
theorem bok_same (a b c d : Int) : impl_BucketOK.f a b c d = spec_BucketOK.f a b c d := rfl
def B (a b c d : Int) : Prop := (0 ≤ a ∧ a ≤ 1000) ∧ (1 ≤ b ∧ b ≤ 10000) ∧ (0 ≤ c ∧ c ≤ b) ∧ (0 ≤ d ∧ d ≤ 1000000)
instance (a b c d : Int) : Decidable (B a b c d) := by unfold B; infer_instance
theorem bok_s (a b c d : Int) : spec_BucketOK.f a b c d = some (decide (B a b c d)) := by
  unfold spec_BucketOK.f B
  simp only [inS, Option.bind_some]
  by_cases h1 : 0 ≤ a ∧ a ≤ 1000
  · by_cases h2 : 1 ≤ b ∧ b ≤ 10000
    · by_cases h3 : 0 ≤ c ∧ c ≤ b
      · simp [h1, h2, h3]
      · simp [h1, h2, h3]
    · simp [h1, h2]
  · simp [h1]
theorem bok_i (a b c d : Int) : impl_BucketOK.f a b c d = some (decide (B a b c d)) := by rw [bok_same, bok_s]
theorem when_same (a b c d n : Int) : impl_BucketWhen.f a b c d n = spec_BucketWhen.f a b c d n := rfl
theorem when_some (a b c d n : Int) : ∃ r, spec_BucketWhen.f a b c d n = some r := by
  unfold spec_BucketWhen.f
  simp only [bok_s, inS, Option.bind_some]
  repeat' split
  all_goals exact ⟨_, rfl⟩
theorem FnExactBucketWhen : fnExactBucketWhen.Say := by
  intro a b c d n _ _ _ _ _
  obtain ⟨r, hr⟩ := when_some a b c d n
  simp [laws_FnExactBucketWhen.f, laws_toBucket.f, when_same, hr]
end Go.Proofs.Ytfjpfjofogbpgaa.Pure
namespace Go.Proofs.Ytfjpfjofogbpgaa
/-- The row. -/
theorem fnExactBucketWhen_holds : Rows.FnExactBucketWhenSaid := fnExactBucketWhen.row_of Pure.FnExactBucketWhen
end Go.Proofs.Ytfjpfjofogbpgaa
