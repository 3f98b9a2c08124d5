/- The program and the reference agree on whether ranges have a place, with the same code, for all lists of ranges and ints. -/
import Derived.Test.YtelcclkedpafaaaAid
import Derived.Test.YtelcclkedpafaaaSayFnExactRangesHas
namespace Go.Proofs.Ytelcclkedpafaaa.Pure
set_option linter.unusedSimpArgs false
set_option linter.unusedVariables false
open Go.RowKit Go.Proofs.Ytelcclkedpafaaa.PFnExactRangesHas Go.Proofs.YtelcclkedpafaaaW.PrintWords Go.Proofs.YtelcclkedpafaaaW.PrintLast Go.Proofs.YtelcclkedpafaaaW.PrintMore Go.Proofs.Ytelcclkedpafaaa.Aid
theorem inS (a b c : Int) : spec_l01In.f a b c = some (decide (b ≤ a ∧ a ≤ c)) := by
  unfold spec_l01In.f
  by_cases h : a ≥ b
  · rw [if_pos h]; simp [show b ≤ a from h]
  · rw [if_neg h]; simp; omega
theorem ww (i : Nat) (h : i < 4000000000000000000) : wrap64 ((i : Int) + 1) = ((i + 1 : Nat) : Int) := by rw [w64 (by omega) (by omega)]; simp
def cv (x : S53) : S43 := ⟨x.f0, x.f1⟩
theorem rd43 {l : List S43} {i : Nat} (h : i < l.length) : rd_T43 l (i : Int) = l[i] := by simp [rd_T43, List.getD_eq_getElem?_getD, h]
theorem rd53 {l : List S53} {i : Nat} (h : i < l.length) : rd_T53 l (i : Int) = l[i] := by simp [rd_T53, List.getD_eq_getElem?_getD, h]
theorem set_mid {α : Type} (A R : List α) (z v : α) : (A ++ z :: R).set A.length v = A ++ v :: R := by
  simp [List.set_append]
theorem toS_l0 (l : List S53) (hl : l.length ≤ 1048576) (d : Nat) : ∀ (k i : Nat), l.length = i + d → d < k → laws_toRangeS.l0 k l ((l.take i).map cv ++ List.replicate d z43) (i : Int) = some (l.map cv) := by
  induction d with
  | zero =>
    intro k i hi hk
    obtain ⟨k, rfl⟩ : ∃ m, k = m + 1 := ⟨k - 1, by omega⟩
    simp only [laws_toRangeS.l0]
    rw [if_neg (by omega), List.take_of_length_le (by omega)]
    simp
  | succ d ih =>
    intro k i hi hk
    obtain ⟨k, rfl⟩ : ∃ m, k = m + 1 := ⟨k - 1, by omega⟩
    simp only [laws_toRangeS.l0, laws_toRange.f, Option.bind_some]
    rw [if_pos (by omega), if_pos (by omega), if_pos (by simp; omega), ww i (by omega), rd53 (by omega)]
    have e : (((l.take i).map cv ++ List.replicate (d + 1) z43).set ((i : Int).toNat) (⟨l[i].f0, l[i].f1⟩ : S43)) = (l.take (i + 1)).map cv ++ List.replicate d z43 := by
      rw [Int.toNat_natCast, List.replicate_succ]
      have := set_mid ((l.take i).map cv) (List.replicate d z43) z43 (cv l[i])
      rw [show ((l.take i).map cv).length = i by simp; omega] at this
      rw [List.take_succ_eq_append_getElem (by omega)]
      simp only [List.map_append, List.map_cons, List.map_nil, List.append_assoc, List.singleton_append]
      exact this
    rw [e]
    exact ih k (i + 1) (by omega) (by omega)
theorem toS_ok (l : List S53) (hl : l.length ≤ 1048576) (k : Nat) (hk : l.length < k) : laws_toRangeS.f k l = some (l.map cv) := by
  unfold laws_toRangeS.f
  rw [if_pos (by omega), if_pos (by omega)]
  have := toS_l0 l hl l.length k 0 (by omega) hk
  simpa using this
theorem eqS_l0 (l : List S43) (hl : l.length ≤ 2000000) (d : Nat) : ∀ (k i : Nat), l.length = i + d → d < k → laws_eqRangeS.l0 k l l (i : Int) = some true := by
  induction d with
  | zero =>
    intro k i hi hk
    obtain ⟨k, rfl⟩ : ∃ m, k = m + 1 := ⟨k - 1, by omega⟩
    simp only [laws_eqRangeS.l0]
    rw [if_neg (by omega)]
  | succ d ih =>
    intro k i hi hk
    obtain ⟨k, rfl⟩ : ∃ m, k = m + 1 := ⟨k - 1, by omega⟩
    simp only [laws_eqRangeS.l0, laws_eqRange.f, if_true, Option.bind_some]
    rw [if_pos (by omega), if_pos (by omega), if_pos (by omega), ww i (by omega)]
    exact ih k (i + 1) (by omega) (by omega)
theorem eqS_ok (l : List S43) (hl : l.length ≤ 2000000) (k : Nat) (hk : l.length < k) : laws_eqRangeS.f k l l = some true := by
  unfold laws_eqRangeS.f
  rw [if_pos rfl]
  exact eqS_l0 l hl l.length k 0 (by omega) hk
def chain : Int → List S43 → Bool
  | _, [] => true
  | b, x :: r => decide (b < x.f0) && (decide (x.f0 < x.f1) && (decide (x.f1 ≤ 1000000) && chain x.f1 r))
def okB (l : List S43) : Bool := decide (l.length ≤ 16) && chain (-1) l
theorem ok_i_l0 (l : List S43) (hl : l.length ≤ 2000000) (d : Nat) : ∀ (k i : Nat) (b : Int), l.length = i + d → d < k → impl_RangesOK.l0 k b l (l.length : Int) (i : Int) = some (chain b (l.drop i)) := by
  induction d with
  | zero =>
    intro k i b hi hk
    obtain ⟨k, rfl⟩ : ∃ m, k = m + 1 := ⟨k - 1, by omega⟩
    simp only [impl_RangesOK.l0]
    rw [if_neg (by omega), List.drop_of_length_le (by omega)]; rfl
  | succ d ih =>
    intro k i b hi hk
    obtain ⟨k, rfl⟩ : ∃ m, k = m + 1 := ⟨k - 1, by omega⟩
    simp only [impl_RangesOK.l0]
    rw [if_pos (by omega), if_pos (by omega), if_pos (by omega), rd43 (by omega), ww i (by omega), List.drop_eq_getElem_cons (by omega)]
    simp only [chain]
    by_cases h1 : l[i].f0 ≤ b
    · rw [if_pos h1, decide_eq_false (by omega)]; rfl
    · rw [if_neg h1, decide_eq_true (by omega)]
      by_cases h2 : l[i].f1 ≤ l[i].f0
      · rw [if_pos h2, decide_eq_false (p := l[i].f0 < l[i].f1) (by omega)]; rfl
      · rw [if_neg h2, decide_eq_true (p := l[i].f0 < l[i].f1) (by omega)]
        by_cases h3 : l[i].f1 > 1000000
        · rw [if_pos h3, decide_eq_false (p := l[i].f1 ≤ 1000000) (by omega)]; rfl
        · rw [if_neg h3, decide_eq_true (p := l[i].f1 ≤ 1000000) (by omega), ih k (i + 1) _ (by omega) (by omega)]; rfl
theorem rok_i (l : List S43) (hl : l.length ≤ 2000000) (k : Nat) (hk : l.length < k) : impl_RangesOK.f k l = some (okB l) := by
  unfold impl_RangesOK.f okB
  by_cases h : (l.length : Int) > 16
  · rw [if_pos h, decide_eq_false (by omega)]; rfl
  · rw [if_neg h, decide_eq_true (by omega)]
    have := ok_i_l0 l hl l.length k 0 (-1) (by omega) hk
    simpa using this
theorem ok_s_l0 (l : List S43) (hl : l.length ≤ 2000000) (d : Nat) : ∀ (k i : Nat) (b : Int) (hi : l.length = i + d), d < k → -1 ≤ b → (i = 0 → b = -1) → (∀ h : 0 < i, b = (l[i - 1]'(by omega)).f1) → spec_RangesOK.l0 k l (i : Int) = some (chain b (l.drop i)) := by
  induction d with
  | zero =>
    intro k i b hi hk _ _ _
    obtain ⟨k, rfl⟩ : ∃ m, k = m + 1 := ⟨k - 1, by omega⟩
    simp only [spec_RangesOK.l0]
    rw [if_neg (by omega), List.drop_of_length_le (by omega)]; rfl
  | succ d ih =>
    intro k i b hi hk hb h0 hp
    obtain ⟨k, rfl⟩ : ∃ m, k = m + 1 := ⟨k - 1, by omega⟩
    simp only [spec_RangesOK.l0, inS, Option.bind_some]
    rw [if_pos (by omega), if_pos (by omega), rd43 (by omega), ww i (by omega), List.drop_eq_getElem_cons (by omega)]
    simp only [chain]
    have next : 0 ≤ l[i].f1 → spec_RangesOK.l0 k l ((i + 1 : Nat) : Int) = some (chain l[i].f1 (l.drop (i + 1))) := fun hf => ih k (i + 1) l[i].f1 (by omega) (by omega) (by omega) (by omega) (fun _ => by simp)
    by_cases h1 : 1 ≤ l[i].f1 ∧ l[i].f1 ≤ 1000000
    · rw [decide_eq_true h1, if_pos rfl, w64 (x := l[i].f1 - 1) (by omega) (by omega)]
      by_cases h2 : 0 ≤ l[i].f0 ∧ l[i].f0 ≤ l[i].f1 - 1
      · rw [decide_eq_true h2, if_pos rfl, decide_eq_true (p := l[i].f0 < l[i].f1) (by omega), decide_eq_true h1.2]
        by_cases hz : i = 0
        · rw [if_neg (by omega), next (by omega), decide_eq_true (p := b < l[i].f0) (by have := h0 hz; omega)]; rfl
        · rw [if_pos (by omega)]
          have e : (i : Int) - 1 = ((i - 1 : Nat) : Int) := by omega
          rw [w64 (x := (i : Int) - 1) (by omega) (by omega), e, if_pos (by omega), if_pos (by omega), rd43 (by omega), ← hp (by omega)]
          by_cases h3 : b ≥ l[i].f0
          · rw [if_pos h3, decide_eq_false (by omega)]; rfl
          · rw [if_neg h3, next (by omega), decide_eq_true (p := b < l[i].f0) (by omega)]; rfl
      · rw [decide_eq_false h2, if_neg (by decide)]
        by_cases h3 : b < l[i].f0
        · rw [decide_eq_false (p := l[i].f0 < l[i].f1) (by omega)]; simp
        · rw [decide_eq_false h3]; rfl
    · rw [decide_eq_false h1, if_neg (by decide)]
      by_cases h3 : b < l[i].f0
      · by_cases h4 : l[i].f0 < l[i].f1
        · rw [decide_eq_false (p := l[i].f1 ≤ 1000000) (by omega)]; simp
        · rw [decide_eq_false h4]; simp
      · rw [decide_eq_false h3]; rfl
theorem rok_s (l : List S43) (hl : l.length ≤ 2000000) (k : Nat) (hk : l.length < k) : spec_RangesOK.f k l = some (okB l) := by
  unfold spec_RangesOK.f okB
  by_cases h : (l.length : Int) > 16
  · rw [if_pos h, decide_eq_false (by omega)]; rfl
  · rw [if_neg h, decide_eq_true (by omega)]
    have := ok_s_l0 l hl l.length k 0 (-1) (by omega) hk (by omega) (by omega) (by omega)
    simpa using this
def pIn (a : Int) (x : S43) : Bool := decide (x.f0 ≤ a) && decide (a < x.f1)
theorem find_l0 (l : List S43) (a : Int) (hl : l.length ≤ 2000000) (d : Nat) : ∀ (k i : Nat), l.length = i + d → d < k → spec_l17Find.l0 k l a (i : Int) = some (ixFrom (pIn a) (l.drop i) i) := by
  induction d with
  | zero =>
    intro k i hi hk
    obtain ⟨k, rfl⟩ : ∃ m, k = m + 1 := ⟨k - 1, by omega⟩
    simp only [spec_l17Find.l0]
    rw [if_neg (by omega), List.drop_of_length_le (by omega)]; rfl
  | succ d ih =>
    intro k i hi hk
    obtain ⟨k, rfl⟩ : ∃ m, k = m + 1 := ⟨k - 1, by omega⟩
    simp only [spec_l17Find.l0]
    rw [if_pos (by omega), if_pos (by omega), rd43 (by omega), ww i (by omega), List.drop_eq_getElem_cons (by omega)]
    simp only [ixFrom]
    by_cases h1 : a ≥ l[i].f0
    · rw [if_pos h1]
      by_cases h2 : a < l[i].f1
      · rw [if_pos h2, if_pos (show pIn a l[i] = true by simp [pIn, h2]; exact h1)]
      · rw [if_neg h2, if_neg (show ¬ pIn a l[i] = true by simp [pIn]; omega), ih k (i + 1) (by omega) (by omega)]
    · rw [if_neg h1, if_neg (show ¬ pIn a l[i] = true by simp [pIn]; omega), ih k (i + 1) (by omega) (by omega)]
theorem find_s (l : List S43) (a : Int) (hl : l.length ≤ 2000000) (k : Nat) (hk : l.length < k) : spec_l17Find.f k l a = some (ixFrom (pIn a) l 0) := by
  have := find_l0 l a hl l.length k 0 (by omega) hk
  simpa [spec_l17Find.f] using this
theorem holder_i (l : List S43) (a : Int) : impl_holder.f l a = some (ixFrom (pIn a) l 0) := rfl
theorem has_both (l : List S43) (a : Int) (hl : l.length ≤ 2000000) : ∃ (r : Bool) (c : Int), ∀ k, l.length < k → impl_RangesHas.f k l a = some (r, c) ∧ spec_RangesHas.f k l a = some (r, c) := by
  by_cases h : (l.length : Int) > 4096
  · exact ⟨false, 2, fun k hk => by simp [impl_RangesHas.f, spec_RangesHas.f, h]⟩
  cases hq : okB l with
  | false => exact ⟨false, 1, fun k hk => by simp [impl_RangesHas.f, spec_RangesHas.f, h, rok_i l hl k hk, rok_s l hl k hk, hq]⟩
  | true =>
    refine ⟨decide (ixFrom (pIn a) l 0 ≥ 0), 0, fun k hk => ?_⟩
    simp only [impl_RangesHas.f, spec_RangesHas.f, if_neg h, rok_i l hl k hk, rok_s l hl k hk, hq, Option.bind_some, if_true, holder_i, find_s l a hl k hk, and_self]
theorem FnExactRangesHas : fnExactRangesHas.Say := by
  intro l a ⟨hm, hg⟩ _
  obtain ⟨K, hK⟩ : ∃ K : Nat, K = 2000000 := ⟨_, rfl⟩
  refine ⟨K + 1, ?_⟩
  unfold maxLen at hm
  simp only [laws_FnExactRangesHas.f, laws_szRangeS.f]
  rw [w64 (x := 1048576 - (l.length : Int)) (by omega) (by omega)]
  by_cases c : 1048576 - (l.length : Int) < 0
  · rw [if_pos c]; simp
  rw [if_neg c]
  simp only [Option.bind_some]
  have hl : (l.map cv).length ≤ 1048576 := by simp; omega
  obtain ⟨r, co, hb⟩ := has_both (l.map cv) a (by omega)
  rw [if_neg c, toS_ok l (by omega) (K + 1) (by omega)]
  simp only [Option.bind_some]
  rw [(hb (K + 1) (by omega)).1, (hb (K + 1) (by omega)).2]
  simp only [Option.bind_some, bne_self_eq_false, Bool.false_eq_true, if_false, laws_FnExactRangesHas.j0]
  rw [toS_ok l (by omega) K (by omega)]
  simp only [Option.bind_some]
  rw [eqS_ok _ (by omega) K (by omega)]
  simp
end Go.Proofs.Ytelcclkedpafaaa.Pure
namespace Go.Proofs.Ytelcclkedpafaaa
/-- The row. -/
theorem fnExactRangesHas_holds : Rows.FnExactRangesHasSaid := fnExactRangesHas.row_of Pure.FnExactRangesHas
end Go.Proofs.Ytelcclkedpafaaa
