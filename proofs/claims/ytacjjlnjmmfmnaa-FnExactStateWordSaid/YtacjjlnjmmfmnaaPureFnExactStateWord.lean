/- The program's word of a state and the reference's are the same text and code, for every int. -/
import Derived.Test.YtacjjlnjmmfmnaaAid
import Derived.Test.YtacjjlnjmmfmnaaSayFnExactStateWord
namespace Go.Proofs.Ytacjjlnjmmfmnaa.Pure
set_option linter.unusedSimpArgs false
set_option linter.unusedVariables false
open Go.RowKit Go.Proofs.Ytacjjlnjmmfmnaa.PFnExactStateWord Go.Proofs.YtacjjlnjmmfmnaaW.PrintWords Go.Proofs.YtacjjlnjmmfmnaaW.PrintLast Go.Proofs.YtacjjlnjmmfmnaaW.PrintMore Go.Proofs.Ytacjjlnjmmfmnaa.Aid
theorem inS (a b c : Int) : spec_l01In.f a b c = some (decide (b ≤ a ∧ a ≤ c)) := by
  unfold spec_l01In.f
  by_cases h : a ≥ b
  · rw [if_pos h]; simp [show b ≤ a from h]
  · rw [if_neg h]; simp; omega
theorem FnExactStateWord : fnExactStateWord.Say := by
  intro a ha
  simp only [laws_FnExactStateWord.f, spec_StateWord.f, impl_StateWord.f, inS, spec_l18Words.f, Option.bind_some]
  by_cases h : 0 ≤ a ∧ a ≤ 10
  · have : a = 0 ∨ a = 1 ∨ a = 2 ∨ a = 3 ∨ a = 4 ∨ a = 5 ∨ a = 6 ∨ a = 7 ∨ a = 8 ∨ a = 9 ∨ a = 10 := by omega
    rcases this with rfl | rfl | rfl | rfl | rfl | rfl | rfl | rfl | rfl | rfl | rfl <;> simp
  · rw [decide_eq_false h]
    simp only [Bool.false_eq_true, if_false, Option.bind_some]
    by_cases h0 : a < 0
    · rw [if_pos h0]; simp
    · rw [if_neg h0, if_pos (by simp only [List.length_cons, List.length_nil]; omega)]; simp
end Go.Proofs.Ytacjjlnjmmfmnaa.Pure
namespace Go.Proofs.Ytacjjlnjmmfmnaa
/-- The row. -/
theorem fnExactStateWord_holds : Rows.FnExactStateWordSaid := fnExactStateWord.row_of Pure.FnExactStateWord
end Go.Proofs.Ytacjjlnjmmfmnaa
