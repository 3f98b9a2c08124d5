/- The law FnExactPairOK holds. -/
import Derived.Test.YthcohaeafdcokaaAid
import Derived.Test.YthcohaeafdcokaaSayFnExactPairOK
namespace Go.Proofs.Ythcohaeafdcokaa.Pure
set_option linter.unusedSimpArgs false
set_option linter.unusedVariables false
open Go.RowKit Go.Proofs.Ythcohaeafdcokaa.PFnExactPairOK Go.Proofs.YthcohaeafdcokaaW.PrintWords Go.Proofs.YthcohaeafdcokaaW.PrintLast Go.Proofs.YthcohaeafdcokaaW.PrintMore Go.Proofs.Ythcohaeafdcokaa.Aid
theorem inR (a b c : Int) : impl_inRange.f a b c = some (decide (b ≤ a ∧ a ≤ c)) := by
  unfold impl_inRange.f
  by_cases h : a ≥ b
  · rw [if_pos h]; simp [show b ≤ a from h]
  · rw [if_neg h]; simp; omega
theorem inS (a b c : Int) : spec_l01In.f a b c = some (decide (b ≤ a ∧ a ≤ c)) := by
  unfold spec_l01In.f
  by_cases h : a ≥ b
  · rw [if_pos h]; simp [show b ≤ a from h]
  · rw [if_neg h]; simp; omega
theorem ww (i : Nat) (h : i < 4000000000000000000) : wrap64 ((i : Int) + 1) = ((i + 1 : Nat) : Int) := by rw [w64 (by omega) (by omega)]; simp
theorem set_mid {α : Type} (A R : List α) (z v : α) : (A ++ z :: R).set A.length v = A ++ v :: R := by
  simp [List.set_append]
theorem rdi {l : List Int} {i : Nat} (h : i < l.length) : rd l (i : Int) = l[i] := by simp [rd, List.getD_eq_getElem?_getD, h]
theorem toI_l0 (l : List Int) (hl : l.length ≤ 2000000) (d : Nat) : ∀ (k i : Nat), l.length = i + d → d < k → laws_toIntS.l0 k l (l.take i ++ List.replicate d 0) (i : Int) = some l := by
  induction d with
  | zero =>
    intro k i hi hk
    obtain ⟨k, rfl⟩ : ∃ m, k = m + 1 := ⟨k - 1, by omega⟩
    simp only [laws_toIntS.l0]
    rw [if_neg (by omega), List.take_of_length_le (by omega)]
    simp
  | succ d ih =>
    intro k i hi hk
    obtain ⟨k, rfl⟩ : ∃ m, k = m + 1 := ⟨k - 1, by omega⟩
    simp only [laws_toIntS.l0]
    rw [if_pos (by omega), if_pos (by omega), if_pos (by simp; omega), ww i (by omega), rdi (by omega)]
    have e : ((l.take i ++ List.replicate (d + 1) 0).set ((i : Int).toNat) l[i]) = l.take (i + 1) ++ List.replicate d 0 := by
      rw [Int.toNat_natCast, List.replicate_succ]
      have := set_mid (l.take i) (List.replicate d 0) 0 l[i]
      rw [show (l.take i).length = i by simp; omega] at this
      rw [List.take_succ_eq_append_getElem (by omega), List.append_assoc, List.singleton_append]
      exact this
    rw [e]
    exact ih k (i + 1) (by omega) (by omega)
theorem toI_ok (l : List Int) (hl : l.length ≤ 2000000) (k : Nat) (hk : l.length < k) : laws_toIntS.f k l = some l := by
  unfold laws_toIntS.f
  rw [if_pos (by omega), if_pos (by omega)]
  have := toI_l0 l hl l.length k 0 (by omega) hk
  simpa using this
theorem eqI_l0 (l : List Int) (hl : l.length ≤ 2000000) (d : Nat) : ∀ (k i : Nat), l.length = i + d → d < k → laws_eqIntS.l0 k l l (i : Int) = some true := by
  induction d with
  | zero =>
    intro k i hi hk
    obtain ⟨k, rfl⟩ : ∃ m, k = m + 1 := ⟨k - 1, by omega⟩
    simp only [laws_eqIntS.l0]
    rw [if_neg (by omega)]
  | succ d ih =>
    intro k i hi hk
    obtain ⟨k, rfl⟩ : ∃ m, k = m + 1 := ⟨k - 1, by omega⟩
    simp only [laws_eqIntS.l0, if_true]
    rw [if_pos (by omega), if_pos (by omega), if_pos (by omega), ww i (by omega)]
    exact ih k (i + 1) (by omega) (by omega)
theorem eqI_ok (l : List Int) (hl : l.length ≤ 2000000) (k : Nat) (hk : l.length < k) : laws_eqIntS.f k l l = some true := by
  unfold laws_eqIntS.f
  rw [if_pos rfl]
  exact eqI_l0 l hl l.length k 0 (by omega) hk
def all31 (l : List Int) : Bool := l.all (fun x => decide (1 ≤ x ∧ x ≤ 31))
theorem pair_s_l0 (L : List Int) (hl : L.length ≤ 1000) (d : Nat) : ∀ (k i : Nat), L.length = i + d → spec_PairOK.l0 (k + d + 1) L (i : Int) = some (all31 (L.drop i)) := by
  induction d with
  | zero =>
    intro k i hi
    rw [spec_PairOK.l0, if_neg (by omega), List.drop_of_length_le (by omega)]; rfl
  | succ d ih =>
    intro k i hi
    rw [show k + (d + 1) + 1 = (k + d + 1) + 1 by omega, spec_PairOK.l0, if_pos (by omega), if_pos (by omega), rdi (by omega), inS, Option.bind_some, ww i (by omega), ih k (i + 1) (by omega), List.drop_eq_getElem_cons (i := i) (by omega)]
    have e : all31 (L[i] :: L.drop (i + 1)) = (decide (1 ≤ L[i] ∧ L[i] ≤ 31) && all31 (L.drop (i + 1))) := rfl
    rw [e]
    cases decide (1 ≤ L[i] ∧ L[i] ≤ 31) <;> simp
theorem ix_all (l : List Int) : ∀ i : Nat, decide (0 ≤ ixFrom (fun x : Int => !(decide (1 ≤ x ∧ x ≤ 31))) l i) = !all31 l := by
  induction l with
  | nil => intro i; rfl
  | cons x r ih =>
    intro i
    have e : ixFrom (fun x : Int => !(decide (1 ≤ x ∧ x ≤ 31))) (x :: r) i = if (!(decide (1 ≤ x ∧ x ≤ 31))) = true then (i : Int) else ixFrom (fun x : Int => !(decide (1 ≤ x ∧ x ≤ 31))) r (i + 1) := rfl
    have e2 : all31 (x :: r) = (decide (1 ≤ x ∧ x ≤ 31) && all31 r) := rfl
    rw [e, e2]
    cases decide (1 ≤ x ∧ x ≤ 31) with
    | true => rw [if_neg (show ¬ (!true) = true by decide), ih (i + 1)]; rfl
    | false => rw [if_pos (show (!false) = true from rfl), decide_eq_true (by omega)]; rfl
theorem way_i (l : List Int) : impl_wayOK.f l = some (decide ((l.length : Int) ≤ 200) && all31 l) := by
  unfold impl_wayOK.f slices_ContainsFunc_int_int.f
  rw [ix_all]
  by_cases h : (l.length : Int) ≤ 200
  · rw [if_pos h, decide_eq_true h]; simp
  · rw [if_neg h, decide_eq_false h]; rfl
def pairB (a0 a1 : Int) (l2 l3 : List Int) (a4 : Int) : Bool := decide (0 ≤ a0 ∧ a0 ≤ 10) && (decide (0 ≤ a1 ∧ a1 ≤ 10) && (decide (0 ≤ a4 ∧ a4 ≤ 1000) && ((decide ((l2.length : Int) ≤ 200) && all31 l2) && (decide ((l3.length : Int) ≤ 200) && all31 l3))))
theorem pair_i (a0 a1 : Int) (l2 l3 : List Int) (a4 : Int) (k : Nat) (hk : 1000 < k) : impl_PairOK.f k a0 a1 l2 l3 a4 = some (pairB a0 a1 l2 l3 a4) := by
  obtain ⟨k, rfl⟩ : ∃ m, k = m + 1 := ⟨k - 1, by omega⟩
  unfold impl_PairOK.f pairB
  rw [inR, inR, inR]
  simp only [Option.bind_some, impl_PairOK.j0, way_i]
  cases decide (0 ≤ a0 ∧ a0 ≤ 10)
  · simp
  cases decide (0 ≤ a1 ∧ a1 ≤ 10)
  · simp
  cases decide (0 ≤ a4 ∧ a4 ≤ 1000)
  · simp
  cases (decide ((l2.length : Int) ≤ 200) && all31 l2) <;> simp
theorem pair_s (a0 a1 : Int) (l2 l3 : List Int) (a4 : Int) (k : Nat) (hk : 1000 < k) : spec_PairOK.f k a0 a1 l2 l3 a4 = some (pairB a0 a1 l2 l3 a4) := by
  obtain ⟨k, rfl⟩ : ∃ m, k = m + 1 := ⟨k - 1, by omega⟩
  unfold spec_PairOK.f pairB
  rw [inS, inS, inS]
  simp only [Option.bind_some, spec_PairOK.j0]
  by_cases h2 : (l2.length : Int) > 200
  · rw [if_pos h2, decide_eq_false (p := (l2.length : Int) ≤ 200) (by omega)]
    cases decide (0 ≤ a0 ∧ a0 ≤ 10) <;> cases decide (0 ≤ a1 ∧ a1 ≤ 10) <;> simp
  rw [if_neg h2, decide_eq_true (p := (l2.length : Int) ≤ 200) (by omega)]
  by_cases h3 : (l3.length : Int) > 200
  · rw [if_pos h3, decide_eq_false (p := (l3.length : Int) ≤ 200) (by omega)]
    cases decide (0 ≤ a0 ∧ a0 ≤ 10) <;> cases decide (0 ≤ a1 ∧ a1 ≤ 10) <;> simp
  rw [if_neg h3, decide_eq_true (p := (l3.length : Int) ≤ 200) (by omega)]
  rw [if_pos (show ([] : List Int).length + l2.length < 17592186044416 by simp; omega), if_pos (show ([] ++ l2 : List Int).length + l3.length < 17592186044416 by simp; omega), List.nil_append]
  have e := pair_s_l0 (l2 ++ l3) (by simp; omega) (l2 ++ l3).length (k - (l2 ++ l3).length - 1) 0 (by omega)
  have hlen : (l2 ++ l3).length ≤ 400 := by simp; omega
  rw [show k - (l2 ++ l3).length - 1 + (l2 ++ l3).length + 1 = k by omega] at e
  have e' : spec_PairOK.l0 k (l2 ++ l3) 0 = some (all31 l2 && all31 l3) := by
    rw [show (0 : Int) = ((0 : Nat) : Int) from rfl, e, List.drop_zero]; simp [all31]
  rw [e']
  cases decide (0 ≤ a0 ∧ a0 ≤ 10)
  · simp
  cases decide (0 ≤ a1 ∧ a1 ≤ 10)
  · simp
  cases decide (0 ≤ a4 ∧ a4 ≤ 1000) <;> simp
theorem FnExactPairOK : fnExactPairOK.Say := by
  intro a0 a1 l2 l3 a4 _ _ ⟨m2, _⟩ ⟨m3, _⟩ _
  obtain ⟨K, hK⟩ : ∃ K : Nat, K = 2000000 := ⟨_, rfl⟩
  refine ⟨K, ?_⟩
  unfold maxLen at m2 m3
  simp only [laws_FnExactPairOK.f, laws_szPair.f, laws_szIntS.f]
  rw [w64 (x := 1048576 - (l2.length : Int)) (by omega) (by omega)]
  by_cases c : 1048576 - (l2.length : Int) < 0
  · rw [if_pos c]; simp
  rw [if_neg c, Option.bind_some, if_neg c, w64 (x := 1048576 - (l2.length : Int) - (l3.length : Int)) (by omega) (by omega)]
  by_cases c2 : 1048576 - (l2.length : Int) - (l3.length : Int) < 0
  · rw [if_pos c2]; simp
  rw [if_neg c2, Option.bind_some, if_neg c2, Option.bind_some, if_neg c2]
  have T : laws_toPair.f K a0 a1 l2 l3 a4 = some (a0, a1, l2, l3, a4) := by
    unfold laws_toPair.f
    rw [toI_ok l2 (by omega) K (by omega), toI_ok l3 (by omega) K (by omega)]; rfl
  rw [T, Option.bind_some, pair_s _ _ _ _ _ K (by omega), Option.bind_some, Option.bind_some, pair_i _ _ _ _ _ K (by omega), Option.bind_some]
  simp only [bne_self_eq_false, Bool.false_eq_true, if_false, Option.bind_some]
  unfold laws_eqPair.f
  simp only [if_true]
  rw [eqI_ok l2 (by omega) K (by omega), eqI_ok l3 (by omega) K (by omega)]
  simp
end Go.Proofs.Ythcohaeafdcokaa.Pure
namespace Go.Proofs.Ythcohaeafdcokaa
/-- The row. -/
theorem fnExactPairOK_holds : Rows.FnExactPairOKSaid := fnExactPairOK.row_of Pure.FnExactPairOK
end Go.Proofs.Ythcohaeafdcokaa
