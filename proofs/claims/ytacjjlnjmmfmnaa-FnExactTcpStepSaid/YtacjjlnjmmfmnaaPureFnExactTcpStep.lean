/- The law FnExactTcpStep holds. -/
import Derived.Test.YtacjjlnjmmfmnaaAid
import Derived.Test.YtacjjlnjmmfmnaaSayFnExactTcpStep
namespace Go.Proofs.Ytacjjlnjmmfmnaa.Pure
set_option linter.unusedSimpArgs false
set_option linter.unusedVariables false
open Go.RowKit Go.Proofs.Ytacjjlnjmmfmnaa.PFnExactTcpStep Go.Proofs.YtacjjlnjmmfmnaaW.PrintWords Go.Proofs.YtacjjlnjmmfmnaaW.PrintLast Go.Proofs.YtacjjlnjmmfmnaaW.PrintMore Go.Proofs.Ytacjjlnjmmfmnaa.Aid
theorem inR (a b c : Int) : impl_inRange.f a b c = some (decide (b ≤ a ∧ a ≤ c)) := by
  unfold impl_inRange.f
  by_cases h : a ≥ b
  · rw [if_pos h]; simp [show b ≤ a from h]
  · rw [if_neg h]; simp; omega
theorem inS (a b c : Int) : spec_l01In.f a b c = some (decide (b ≤ a ∧ a ≤ c)) := by
  unfold spec_l01In.f
  by_cases h : a ≥ b
  · rw [if_pos h]; simp [show b ≤ a from h]
  · rw [if_neg h]; simp; omega
theorem tcp_s (a b f : Int) (h : ¬ (0 ≤ a ∧ a ≤ 10 ∧ 1 ≤ b ∧ b ≤ 5 ∧ 0 ≤ f ∧ f ≤ 31)) (n : Nat) : spec_TcpStep.f n a b f = some (0, [], 1) := by
  unfold spec_TcpStep.f
  rw [inS, inS, inS]
  by_cases h1 : 0 ≤ a ∧ a ≤ 10
  · by_cases h2 : 1 ≤ b ∧ b ≤ 5
    · simp [h1, h2, show ¬ (0 ≤ f ∧ f ≤ 31) by omega]
    · simp [h1, h2]
  · simp [h1]
theorem tcp_i (a b f : Int) (h : ¬ (0 ≤ a ∧ a ≤ 10 ∧ 1 ≤ b ∧ b ≤ 5 ∧ 0 ≤ f ∧ f ≤ 31)) (n : Nat) : impl_TcpStep.f (n + 1) a b f = some (0, [], 1) := by
  unfold impl_TcpStep.f
  rw [inR, inR, inR]
  by_cases h1 : 0 ≤ a ∧ a ≤ 10
  · by_cases h2 : 1 ≤ b ∧ b ≤ 5
    · simp [h1, h2, show ¬ (0 ≤ f ∧ f ≤ 31) by omega, impl_TcpStep.j0]
    · simp [h1, h2, impl_TcpStep.j0]
  · simp [h1, impl_TcpStep.j0]
theorem tcp_all : ∀ a ∈ List.range 11, ∀ b ∈ List.range 6, ∀ f ∈ List.range 32, 1 ≤ b → laws_FnExactTcpStep.f 20 (a : Int) (b : Int) (f : Int) = some true := by decide +kernel
theorem FnExactTcpStep : fnExactTcpStep.Say := by
  intro a b f _ _ _
  refine ⟨20, ?_⟩
  by_cases h : 0 ≤ a ∧ a ≤ 10 ∧ 1 ≤ b ∧ b ≤ 5 ∧ 0 ≤ f ∧ f ≤ 31
  · obtain ⟨x, rfl⟩ : ∃ x : Nat, a = x := ⟨a.toNat, by omega⟩
    obtain ⟨y, rfl⟩ : ∃ y : Nat, b = y := ⟨b.toNat, by omega⟩
    obtain ⟨z, rfl⟩ : ∃ z : Nat, f = z := ⟨f.toNat, by omega⟩
    exact tcp_all x (List.mem_range.2 (by omega)) y (List.mem_range.2 (by omega)) z (List.mem_range.2 (by omega)) (by omega)
  · simp [laws_FnExactTcpStep.f, laws_toEvent.f, tcp_s a b f h, show impl_TcpStep.f 20 a b f = some (0, [], 1) from tcp_i a b f h 19, show impl_TcpStep.f 19 a b f = some (0, [], 1) from tcp_i a b f h 18, laws_eqIntS.f, laws_eqIntS.l0, laws_FnExactTcpStep.j0, laws_FnExactTcpStep.j1, laws_markIntS.f, laws_markIntS.l0, laws_heldIntS.f, laws_heldIntS.l0]
end Go.Proofs.Ytacjjlnjmmfmnaa.Pure
namespace Go.Proofs.Ytacjjlnjmmfmnaa
/-- The row. -/
theorem fnExactTcpStep_holds : Rows.FnExactTcpStepSaid := fnExactTcpStep.row_of Pure.FnExactTcpStep
end Go.Proofs.Ytacjjlnjmmfmnaa
