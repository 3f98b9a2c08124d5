/- The program's sample and the reference's are the same timing and code, for all timings and times. -/
import Derived.Test.YtjaheohpgnegoaaAid
import Derived.Test.YtjaheohpgnegoaaSayFnExactSample
namespace Go.Proofs.Ytjaheohpgnegoaa.Pure
open Go.RowKit Go.Proofs.Ytjaheohpgnegoaa.PFnExactSample Go.Proofs.YtjaheohpgnegoaaW.PrintWords Go.Proofs.YtjaheohpgnegoaaW.PrintLast Go.Proofs.YtjaheohpgnegoaaW.PrintMore Go.Proofs.Ytjaheohpgnegoaa.Aid
theorem inR (a b c : Int) : impl_inRange.f a b c = some (decide (b ≤ a ∧ a ≤ c)) := by
  unfold impl_inRange.f
  by_cases h : a ≥ b
  · rw [if_pos h]; simp [show b ≤ a from h]
  · rw [if_neg h]; simp; omega
theorem inS (a b c : Int) : spec_l01In.f a b c = some (decide (b ≤ a ∧ a ≤ c)) := by
  unfold spec_l01In.f
  by_cases h : a ≥ b
  · rw [if_pos h]; simp [show b ≤ a from h]
  · rw [if_neg h]; simp; omega
def T (a : Bool) (s p b : Int) : Prop := (0 ≤ b ∧ b ≤ 12) ∧ (0 ≤ s ∧ s ≤ 800000) ∧ (0 ≤ p ∧ p ≤ 800000) ∧ (a = true ∨ (s = 0 ∧ p = 0))
instance (a : Bool) (s p b : Int) : Decidable (T a s p b) := by unfold T; infer_instance
theorem ok_i (a : Bool) (s p b : Int) : impl_TimingOK.f a s p b = some (decide (T a s p b)) := by
  unfold impl_TimingOK.f T
  simp only [inR, Option.bind_some]
  by_cases h1 : 0 ≤ b ∧ b ≤ 12
  · by_cases h2 : 0 ≤ s ∧ s ≤ 800000
    · by_cases h3 : 0 ≤ p ∧ p ≤ 800000
      · cases a
        · by_cases h4 : s = 0
          · subst h4; by_cases h5 : p = 0
            · subst h5; simp [h1]
            · simp [h1, h3, h5]
          · simp [h1, h2, h3, h4]
        · simp [h1, h2, h3]
      · simp [h1, h2, h3]
    · simp [h1, h2]
  · simp [h1]
theorem ok_s (a : Bool) (s p b : Int) : spec_TimingOK.f a s p b = some (decide (T a s p b)) := by
  unfold spec_TimingOK.f T
  simp only [inS, Option.bind_some]
  by_cases h1 : 0 ≤ b ∧ b ≤ 12
  · cases a
    · by_cases h4 : s = 0
      · subst h4; by_cases h5 : p = 0
        · subst h5; simp [h1]
        · simp [h1, h5]
      · simp [h1, h4]
    · by_cases h2 : 0 ≤ s ∧ s ≤ 800000
      · by_cases h3 : 0 ≤ p ∧ p ≤ 800000
        · simp [h1, h2, h3]
        · simp [h1, h2, h3]
      · simp [h1, h2]
  · simp [h1]
theorem FnExactSample : fnExactSample.Say := by
  intro a s p b r g _ _ _ _ _ _
  simp only [laws_FnExactSample.f, laws_toTiming.f, impl_Sample.f, spec_Sample.f, spec_l16Sample.f, ok_i, ok_s, inR, inS, Option.bind_some]
  by_cases h : T a s p b
  · by_cases h2 : 0 ≤ r ∧ r ≤ 100000
    · cases g <;> cases a <;> simp [h, h2, laws_eqTiming.f]
    · simp [h, h2, laws_eqTiming.f]
  · simp [h, laws_eqTiming.f]
end Go.Proofs.Ytjaheohpgnegoaa.Pure
namespace Go.Proofs.Ytjaheohpgnegoaa
/-- The row. -/
theorem fnExactSample_holds : Rows.FnExactSampleSaid := fnExactSample.row_of Pure.FnExactSample
end Go.Proofs.Ytjaheohpgnegoaa
