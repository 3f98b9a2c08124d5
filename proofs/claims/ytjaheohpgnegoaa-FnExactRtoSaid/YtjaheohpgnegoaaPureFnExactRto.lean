/- The program's time-out and the reference's are the same number and code, for all timings. -/
import Derived.Test.YtjaheohpgnegoaaAid
import Derived.Test.YtjaheohpgnegoaaSayFnExactRto
namespace Go.Proofs.Ytjaheohpgnegoaa.Pure
set_option linter.unusedSimpArgs false
set_option linter.unusedVariables false
open Go.RowKit Go.Proofs.Ytjaheohpgnegoaa.PFnExactRto Go.Proofs.YtjaheohpgnegoaaW.PrintWords Go.Proofs.YtjaheohpgnegoaaW.PrintLast Go.Proofs.YtjaheohpgnegoaaW.PrintMore Go.Proofs.Ytjaheohpgnegoaa.Aid
theorem inR (a b c : Int) : impl_inRange.f a b c = some (decide (b ≤ a ∧ a ≤ c)) := by
  unfold impl_inRange.f
  by_cases h : a ≥ b
  · rw [if_pos h]; simp [show b ≤ a from h]
  · rw [if_neg h]; simp; omega
theorem inS (a b c : Int) : spec_l01In.f a b c = some (decide (b ≤ a ∧ a ≤ c)) := by
  unfold spec_l01In.f
  by_cases h : a ≥ b
  · rw [if_pos h]; simp [show b ≤ a from h]
  · rw [if_neg h]; simp; omega
def T (a : Bool) (s p b : Int) : Prop := (0 ≤ b ∧ b ≤ 12) ∧ (0 ≤ s ∧ s ≤ 800000) ∧ (0 ≤ p ∧ p ≤ 800000) ∧ (a = true ∨ (s = 0 ∧ p = 0))
instance (a : Bool) (s p b : Int) : Decidable (T a s p b) := by unfold T; infer_instance
theorem ok_i (a : Bool) (s p b : Int) : impl_TimingOK.f a s p b = some (decide (T a s p b)) := by
  unfold impl_TimingOK.f T
  simp only [inR, Option.bind_some]
  by_cases h1 : 0 ≤ b ∧ b ≤ 12
  · by_cases h2 : 0 ≤ s ∧ s ≤ 800000
    · by_cases h3 : 0 ≤ p ∧ p ≤ 800000
      · cases a
        · by_cases h4 : s = 0
          · subst h4; by_cases h5 : p = 0
            · subst h5; simp [h1]
            · simp [h1, h3, h5]
          · simp [h1, h2, h3, h4]
        · simp [h1, h2, h3]
      · simp [h1, h2, h3]
    · simp [h1, h2]
  · simp [h1]
theorem ok_s (a : Bool) (s p b : Int) : spec_TimingOK.f a s p b = some (decide (T a s p b)) := by
  unfold spec_TimingOK.f T
  simp only [inS, Option.bind_some]
  by_cases h1 : 0 ≤ b ∧ b ≤ 12
  · cases a
    · by_cases h4 : s = 0
      · subst h4; by_cases h5 : p = 0
        · subst h5; simp [h1]
        · simp [h1, h5]
      · simp [h1, h4]
    · by_cases h2 : 0 ≤ s ∧ s ≤ 800000
      · by_cases h3 : 0 ≤ p ∧ p ≤ 800000
        · simp [h1, h2, h3]
        · simp [h1, h2, h3]
      · simp [h1, h2]
  · simp [h1]
theorem FnExactRto : fnExactRto.Say := by
  intro a s p b _ hs hp hb
  simp only [laws_FnExactRto.f, laws_toTiming.f, impl_Rto.f, spec_Rto.f, spec_l16Rto.f, ok_i, ok_s, Option.bind_some, mn_eq, mx_eq]
  by_cases h : T a s p b
  · obtain ⟨h1, h2, h3, h4⟩ := id h
    have e : (IntKind.u64.wrap b) = b := by simp [IntKind.wrap, IntKind.bits]; omega
    cases a <;> simp [h, h1, e, Int.min_comm, Int.max_comm]
  · simp [h]
end Go.Proofs.Ytjaheohpgnegoaa.Pure
namespace Go.Proofs.Ytjaheohpgnegoaa
/-- The row. -/
theorem fnExactRto_holds : Rows.FnExactRtoSaid := fnExactRto.row_of Pure.FnExactRto
end Go.Proofs.Ytjaheohpgnegoaa
