/- The law FnExactBucketWait holds. -/
import Derived.Test.YtfjpfjofogbpgaaAid
import Derived.Test.YtfjpfjofogbpgaaSayFnExactBucketWait
namespace Go.Proofs.Ytfjpfjofogbpgaa.Pure
set_option linter.unusedSimpArgs false
set_option linter.unusedVariables false
open Go.RowKit Go.Proofs.Ytfjpfjofogbpgaa.PFnExactBucketWait Go.Proofs.YtfjpfjofogbpgaaW.PrintWords Go.Proofs.YtfjpfjofogbpgaaW.PrintLast Go.Proofs.YtfjpfjofogbpgaaW.PrintMore Go.Proofs.Ytfjpfjofogbpgaa.Aid
theorem inR (a b c : Int) : impl_inRange.f a b c = some (decide (b ≤ a ∧ a ≤ c)) := by
  unfold impl_inRange.f
  by_cases h : a ≥ b
  · rw [if_pos h]; simp [show b ≤ a from h]
  · rw [if_neg h]; simp; omega
theorem inS (a b c : Int) : spec_l01In.f a b c = some (decide (b ≤ a ∧ a ≤ c)) := by
  unfold spec_l01In.f
  by_cases h : a ≥ b
  · rw [if_pos h]; simp [show b ≤ a from h]
  · rw [if_neg h]; simp; omega
theorem bok_same (a b c d : Int) : impl_BucketOK.f a b c d = spec_BucketOK.f a b c d := rfl
def B (a b c d : Int) : Prop := (0 ≤ a ∧ a ≤ 1000) ∧ (1 ≤ b ∧ b ≤ 10000) ∧ (0 ≤ c ∧ c ≤ b) ∧ (0 ≤ d ∧ d ≤ 1000000)
instance (a b c d : Int) : Decidable (B a b c d) := by unfold B; infer_instance
theorem bok_s (a b c d : Int) : spec_BucketOK.f a b c d = some (decide (B a b c d)) := by
  unfold spec_BucketOK.f B
  simp only [inS, Option.bind_some]
  by_cases h1 : 0 ≤ a ∧ a ≤ 1000
  · by_cases h2 : 1 ≤ b ∧ b ≤ 10000
    · by_cases h3 : 0 ≤ c ∧ c ≤ b
      · simp [h1, h2, h3]
      · simp [h1, h2, h3]
    · simp [h1, h2]
  · simp [h1]
theorem bok_i (a b c d : Int) : impl_BucketOK.f a b c d = some (decide (B a b c d)) := by rw [bok_same, bok_s]
theorem FnExactBucketWait : fnExactBucketWait.Say := by
  intro a b c d n _ _ _ _ _
  simp only [laws_FnExactBucketWait.f, laws_toBucket.f, spec_BucketWait.f, impl_BucketWait.f, bok_i, bok_s, Option.bind_some]
  by_cases h : B a b c d
  · simp only [decide_eq_true h, if_true, spec_l10Wait.f, impl_Bucket_wait.f, inR, inS, Option.bind_some]
    by_cases h2 : 0 ≤ n ∧ n ≤ wrap64 (1000000 - d)
    · simp [h2, laws_eqBucket.f]
    · simp [h2, laws_eqBucket.f]
  · simp [h, laws_eqBucket.f]
end Go.Proofs.Ytfjpfjofogbpgaa.Pure
namespace Go.Proofs.Ytfjpfjofogbpgaa
/-- The row. -/
theorem fnExactBucketWait_holds : Rows.FnExactBucketWaitSaid := fnExactBucketWait.row_of Pure.FnExactBucketWait
end Go.Proofs.Ytfjpfjofogbpgaa
