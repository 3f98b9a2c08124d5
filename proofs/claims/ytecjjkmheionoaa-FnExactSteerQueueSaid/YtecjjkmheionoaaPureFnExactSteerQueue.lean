/- The program's queue of a hash and the reference's are the same number and code, for all tables and ints. -/
import Derived.Test.YtecjjkmheionoaaAid
import Derived.Test.YtecjjkmheionoaaSayFnExactSteerQueue
namespace Go.Proofs.Ytecjjkmheionoaa.Pure
set_option linter.unusedSimpArgs false
set_option linter.unusedVariables false
open Go.RowKit Go.Proofs.Ytecjjkmheionoaa.PFnExactSteerQueue Go.Proofs.YtecjjkmheionoaaW.PrintWords Go.Proofs.YtecjjkmheionoaaW.PrintLast Go.Proofs.YtecjjkmheionoaaW.PrintMore Go.Proofs.Ytecjjkmheionoaa.Aid
theorem inR (a b c : Int) : impl_inRange.f a b c = some (decide (b ≤ a ∧ a ≤ c)) := by
  unfold impl_inRange.f
  by_cases h : a ≥ b
  · rw [if_pos h]; simp [show b ≤ a from h]
  · rw [if_neg h]; simp; omega
theorem inS (a b c : Int) : spec_l01In.f a b c = some (decide (b ≤ a ∧ a ≤ c)) := by
  unfold spec_l01In.f
  by_cases h : a ≥ b
  · rw [if_pos h]; simp [show b ≤ a from h]
  · rw [if_neg h]; simp; omega
theorem ww (i : Nat) (h : i < 4000000000000000000) : wrap64 ((i : Int) + 1) = ((i + 1 : Nat) : Int) := by rw [w64 (by omega) (by omega)]; simp
theorem set_mid {α : Type} (A R : List α) (z v : α) : (A ++ z :: R).set A.length v = A ++ v :: R := by
  simp [List.set_append]
theorem rdi {l : List Int} {i : Nat} (h : i < l.length) : rd l (i : Int) = l[i] := by simp [rd, List.getD_eq_getElem?_getD, h]
theorem toI_l0 (l : List Int) (hl : l.length ≤ 2000000) (d : Nat) : ∀ (k i : Nat), l.length = i + d → d < k → laws_toIntS.l0 k l (l.take i ++ List.replicate d 0) (i : Int) = some l := by
  induction d with
  | zero =>
    intro k i hi hk
    obtain ⟨k, rfl⟩ : ∃ m, k = m + 1 := ⟨k - 1, by omega⟩
    simp only [laws_toIntS.l0]
    rw [if_neg (by omega), List.take_of_length_le (by omega)]
    simp
  | succ d ih =>
    intro k i hi hk
    obtain ⟨k, rfl⟩ : ∃ m, k = m + 1 := ⟨k - 1, by omega⟩
    simp only [laws_toIntS.l0]
    rw [if_pos (by omega), if_pos (by omega), if_pos (by simp; omega), ww i (by omega), rdi (by omega)]
    have e : ((l.take i ++ List.replicate (d + 1) 0).set ((i : Int).toNat) l[i]) = l.take (i + 1) ++ List.replicate d 0 := by
      rw [Int.toNat_natCast, List.replicate_succ]
      have := set_mid (l.take i) (List.replicate d 0) 0 l[i]
      rw [show (l.take i).length = i by simp; omega] at this
      rw [List.take_succ_eq_append_getElem (by omega), List.append_assoc, List.singleton_append]
      exact this
    rw [e]
    exact ih k (i + 1) (by omega) (by omega)
theorem toI_ok (l : List Int) (hl : l.length ≤ 2000000) (k : Nat) (hk : l.length < k) : laws_toIntS.f k l = some l := by
  unfold laws_toIntS.f
  rw [if_pos (by omega), if_pos (by omega)]
  have := toI_l0 l hl l.length k 0 (by omega) hk
  simpa using this
theorem eqI_l0 (l : List Int) (hl : l.length ≤ 2000000) (d : Nat) : ∀ (k i : Nat), l.length = i + d → d < k → laws_eqIntS.l0 k l l (i : Int) = some true := by
  induction d with
  | zero =>
    intro k i hi hk
    obtain ⟨k, rfl⟩ : ∃ m, k = m + 1 := ⟨k - 1, by omega⟩
    simp only [laws_eqIntS.l0]
    rw [if_neg (by omega)]
  | succ d ih =>
    intro k i hi hk
    obtain ⟨k, rfl⟩ : ∃ m, k = m + 1 := ⟨k - 1, by omega⟩
    simp only [laws_eqIntS.l0, if_true]
    rw [if_pos (by omega), if_pos (by omega), if_pos (by omega), ww i (by omega)]
    exact ih k (i + 1) (by omega) (by omega)
theorem eqI_ok (l : List Int) (hl : l.length ≤ 2000000) (k : Nat) (hk : l.length < k) : laws_eqIntS.f k l l = some true := by
  unfold laws_eqIntS.f
  rw [if_pos rfl]
  exact eqI_l0 l hl l.length k 0 (by omega) hk
def tOK (n : Int) : Bool := decide (1 ≤ n ∧ n ≤ 64) && ((Go.bits .and .i64 n (wrap64 (n - 1))) == 0)
theorem tsize (n : Int) : impl_tableSize.f n = some (tOK n) := by
  unfold impl_tableSize.f tOK
  simp only [inR, Option.bind_some]
  by_cases h : 1 ≤ n ∧ n ≤ 64 <;> simp [h]
def all15 (l : List Int) : Bool := l.all (fun x => decide (0 ≤ x ∧ x ≤ 15))
theorem ixn_all (l : List Int) : ∀ i : Nat, decide (0 ≤ ixFrom (fun x : Int => !(decide (0 ≤ x ∧ x ≤ 15))) l i) = !(all15 l) := by
  induction l with
  | nil => intro i; rfl
  | cons x r ih =>
    intro i
    have e : ixFrom (fun x : Int => !(decide (0 ≤ x ∧ x ≤ 15))) (x :: r) i = if (!(decide (0 ≤ x ∧ x ≤ 15))) = true then (i : Int) else ixFrom (fun x : Int => !(decide (0 ≤ x ∧ x ≤ 15))) r (i + 1) := rfl
    have e2 : all15 (x :: r) = (decide (0 ≤ x ∧ x ≤ 15) && all15 r) := rfl
    rw [e, e2]
    by_cases h : 0 ≤ x ∧ x ≤ 15
    · rw [decide_eq_true h, if_neg (by decide), ih (i + 1)]; simp
    · rw [decide_eq_false h, if_pos (by decide)]; simp
theorem cont_i (l : List Int) : slices_ContainsFunc_int_int.f l = some (!(all15 l)) := congrArg some (ixn_all l 0)
theorem tab_l0 (l : List Int) (hl : l.length ≤ 2000000) (d : Nat) : ∀ (k i : Nat), l.length = i + d → d < k → spec_l13Table.l0 k l (i : Int) = some (all15 (l.drop i)) := by
  induction d with
  | zero =>
    intro k i hi hk
    obtain ⟨k, rfl⟩ : ∃ m, k = m + 1 := ⟨k - 1, by omega⟩
    simp only [spec_l13Table.l0]
    rw [if_neg (by omega), List.drop_of_length_le (by omega)]; rfl
  | succ d ih =>
    intro k i hi hk
    obtain ⟨k, rfl⟩ : ∃ m, k = m + 1 := ⟨k - 1, by omega⟩
    simp only [spec_l13Table.l0, inS, Option.bind_some]
    have e2 : all15 (l[i] :: l.drop (i + 1)) = (decide (0 ≤ l[i] ∧ l[i] ≤ 15) && all15 (l.drop (i + 1))) := rfl
    rw [if_pos (by omega), if_pos (by omega), rdi (by omega), ww i (by omega), List.drop_eq_getElem_cons (i := i) (by omega), e2, ih k (i + 1) (by omega) (by omega)]
    by_cases h : 0 ≤ l[i] ∧ l[i] ≤ 15
    · rw [decide_eq_true h, if_pos rfl]; rfl
    · rw [decide_eq_false h, if_neg (by decide)]; rfl
theorem tab_s (l : List Int) (hl : l.length ≤ 2000000) (k : Nat) (hk : l.length + 1 < k) : spec_l13Table.f k l = some (tOK (l.length : Int) && all15 l) := by
  obtain ⟨k, rfl⟩ : ∃ m, k = m + 1 := ⟨k - 1, by omega⟩
  have e := tab_l0 l hl l.length k 0 (by omega) (by omega)
  simp only [List.drop_zero] at e
  have e' : spec_l13Table.l0 k l 0 = some (all15 l) := e
  unfold spec_l13Table.f tOK
  simp only [inS, Option.bind_some, spec_l13Table.j0]
  by_cases h : 1 ≤ (l.length : Int) ∧ (l.length : Int) ≤ 64
  · rw [decide_eq_true h, if_pos rfl]
    by_cases h2 : (Go.bits .and .i64 (l.length : Int) (wrap64 ((l.length : Int) - 1))) = 0
    · rw [h2]; simpa using e'
    · have h3 : ((Go.bits .and .i64 (l.length : Int) (wrap64 ((l.length : Int) - 1))) != 0) = true := by simpa using h2
      have h4 : ((Go.bits .and .i64 (l.length : Int) (wrap64 ((l.length : Int) - 1))) == 0) = false := by simpa using h2
      rw [h3, h4]; simp
  · rw [decide_eq_false h]; simp
theorem steer_both (l : List Int) (h : Int) (hl : l.length ≤ 1048576) : ∃ (r c : Int), (tOK (l.length : Int) = true → all15 l = true → 0 ≤ h ∧ h ≤ 4294967295 → c = 0 ∧ ∃ j : Nat, ∃ hj : j < l.length, r = l[j]) ∧ ∀ k, 1048600 < k → impl_SteerQueue.f k l h = some (r, c) ∧ spec_SteerQueue.f k l h = some (r, c) := by
  by_cases h0 : (l.length : Int) > 4096
  · refine ⟨0, 2, fun ht _ _ => ?_, fun k hk => by simp [impl_SteerQueue.f, spec_SteerQueue.f, h0]⟩
    simp only [tOK, Bool.and_eq_true, decide_eq_true_eq] at ht; omega
  cases ht : tOK (l.length : Int) with
  | false =>
    refine ⟨0, 1, fun h => by simp at h, fun k hk => ?_⟩
    obtain ⟨k, rfl⟩ : ∃ m, k = m + 1 := ⟨k - 1, by omega⟩
    simp only [impl_SteerQueue.f, spec_SteerQueue.f, if_neg h0, tsize, ht, tab_s l (by omega) (k + 1) (by omega), Option.bind_some, Bool.false_and, Bool.false_eq_true, if_false, impl_SteerQueue.j0, if_true, and_self]
  | true =>
    cases ha : all15 l with
    | false =>
      refine ⟨0, 1, fun _ h => by simp at h, fun k hk => ?_⟩
      obtain ⟨k, rfl⟩ : ∃ m, k = m + 1 := ⟨k - 1, by omega⟩
      simp only [impl_SteerQueue.f, spec_SteerQueue.f, if_neg h0, tsize, ht, ha, cont_i, tab_s l (by omega) (k + 1) (by omega), Option.bind_some, Bool.true_and, Bool.not_false, Bool.false_eq_true, if_false, impl_SteerQueue.j0, if_true, and_self]
    | true =>
      by_cases hh : 0 ≤ h ∧ h ≤ 4294967295
      · have h1 := ht
        simp only [tOK, Bool.and_eq_true, decide_eq_true_eq] at h1
        have m := mod_lt_len (i := h) (n := l.length) (by omega)
        refine ⟨rd l (h % (l.length : Int)), 0, fun _ _ _ => ⟨rfl, (h % (l.length : Int)).toNat, by omega, ?_⟩, fun k hk => ?_⟩
        · simp [rd, List.getD_eq_getElem?_getD, show (h % (l.length : Int)).toNat < l.length by omega]
        · obtain ⟨k, rfl⟩ : ∃ m, k = m + 1 := ⟨k - 1, by omega⟩
          simp only [impl_SteerQueue.f, spec_SteerQueue.f, if_neg h0, tsize, ht, ha, cont_i, tab_s l (by omega) (k + 1) (by omega), Option.bind_some, Bool.true_and, Bool.not_true, Bool.false_eq_true, if_false, impl_SteerQueue.j0, if_true, inR, inS, decide_eq_true hh, tmod_nonneg_eq hh.1]
          rw [if_neg (by omega), if_pos m.1, if_pos m.2]
          simp
      · refine ⟨0, 4, fun _ _ h => absurd h hh, fun k hk => ?_⟩
        obtain ⟨k, rfl⟩ : ∃ m, k = m + 1 := ⟨k - 1, by omega⟩
        simp only [impl_SteerQueue.f, spec_SteerQueue.f, if_neg h0, tsize, ht, ha, cont_i, tab_s l (by omega) (k + 1) (by omega), Option.bind_some, Bool.true_and, Bool.not_true, Bool.false_eq_true, if_false, impl_SteerQueue.j0, if_true, inR, inS, decide_eq_false hh, and_self]
theorem FnExactSteerQueue : fnExactSteerQueue.Say := by
  intro l h ⟨hm, _⟩ _
  obtain ⟨K, hK⟩ : ∃ K : Nat, K = 3000000 := ⟨_, rfl⟩
  refine ⟨K + 1, ?_⟩
  simp only [laws_FnExactSteerQueue.f]
  by_cases c : (l.length : Int) > 1048576
  · rw [if_pos c]
  rw [if_neg c]
  obtain ⟨r, co, -, hb⟩ := steer_both l h (by omega)
  rw [toI_ok l (by omega) (K + 1) (by omega)]
  simp only [Option.bind_some]
  rw [(hb (K + 1) (by omega)).1, (hb (K + 1) (by omega)).2]
  simp only [Option.bind_some, if_true, bne_self_eq_false, laws_FnExactSteerQueue.j0, Bool.false_eq_true, if_false]
  rw [toI_ok l (by omega) K (by omega)]
  simp only [Option.bind_some]
  rw [eqI_ok l (by omega) K (by omega)]
  simp
end Go.Proofs.Ytecjjkmheionoaa.Pure
namespace Go.Proofs.Ytecjjkmheionoaa
/-- The row. -/
theorem fnExactSteerQueue_holds : Rows.FnExactSteerQueueSaid := fnExactSteerQueue.row_of Pure.FnExactSteerQueue
end Go.Proofs.Ytecjjkmheionoaa
