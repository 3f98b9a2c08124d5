/- The program's place below which all is lost and the reference's are the same number and code, for all lists of ranges and ints. -/
import Derived.Test.YtelcclkedpafaaaAid
import Derived.Test.YtelcclkedpafaaaSayFnExactLostBelow
namespace Go.Proofs.Ytelcclkedpafaaa.Pure
set_option linter.unusedSimpArgs false
set_option linter.unusedVariables false
open Go.RowKit Go.Proofs.Ytelcclkedpafaaa.PFnExactLostBelow Go.Proofs.YtelcclkedpafaaaW.PrintWords Go.Proofs.YtelcclkedpafaaaW.PrintLast Go.Proofs.YtelcclkedpafaaaW.PrintMore Go.Proofs.Ytelcclkedpafaaa.Aid
theorem inR (a b c : Int) : impl_inRange.f a b c = some (decide (b ≤ a ∧ a ≤ c)) := by
  unfold impl_inRange.f
  by_cases h : a ≥ b
  · rw [if_pos h]; simp [show b ≤ a from h]
  · rw [if_neg h]; simp; omega
theorem inS (a b c : Int) : spec_l01In.f a b c = some (decide (b ≤ a ∧ a ≤ c)) := by
  unfold spec_l01In.f
  by_cases h : a ≥ b
  · rw [if_pos h]; simp [show b ≤ a from h]
  · rw [if_neg h]; simp; omega
theorem ww (i : Nat) (h : i < 4000000000000000000) : wrap64 ((i : Int) + 1) = ((i + 1 : Nat) : Int) := by rw [w64 (by omega) (by omega)]; simp
def cv (x : S53) : S43 := ⟨x.f0, x.f1⟩
theorem rd43 {l : List S43} {i : Nat} (h : i < l.length) : rd_T43 l (i : Int) = l[i] := by simp [rd_T43, List.getD_eq_getElem?_getD, h]
theorem rd53 {l : List S53} {i : Nat} (h : i < l.length) : rd_T53 l (i : Int) = l[i] := by simp [rd_T53, List.getD_eq_getElem?_getD, h]
theorem set_mid {α : Type} (A R : List α) (z v : α) : (A ++ z :: R).set A.length v = A ++ v :: R := by
  simp [List.set_append]
theorem toS_l0 (l : List S53) (hl : l.length ≤ 1048576) (d : Nat) : ∀ (k i : Nat), l.length = i + d → d < k → laws_toRangeS.l0 k l ((l.take i).map cv ++ List.replicate d z43) (i : Int) = some (l.map cv) := by
  induction d with
  | zero =>
    intro k i hi hk
    obtain ⟨k, rfl⟩ : ∃ m, k = m + 1 := ⟨k - 1, by omega⟩
    simp only [laws_toRangeS.l0]
    rw [if_neg (by omega), List.take_of_length_le (by omega)]
    simp
  | succ d ih =>
    intro k i hi hk
    obtain ⟨k, rfl⟩ : ∃ m, k = m + 1 := ⟨k - 1, by omega⟩
    simp only [laws_toRangeS.l0, laws_toRange.f, Option.bind_some]
    rw [if_pos (by omega), if_pos (by omega), if_pos (by simp; omega), ww i (by omega), rd53 (by omega)]
    have e : (((l.take i).map cv ++ List.replicate (d + 1) z43).set ((i : Int).toNat) (⟨l[i].f0, l[i].f1⟩ : S43)) = (l.take (i + 1)).map cv ++ List.replicate d z43 := by
      rw [Int.toNat_natCast, List.replicate_succ]
      have := set_mid ((l.take i).map cv) (List.replicate d z43) z43 (cv l[i])
      rw [show ((l.take i).map cv).length = i by simp; omega] at this
      rw [List.take_succ_eq_append_getElem (by omega)]
      simp only [List.map_append, List.map_cons, List.map_nil, List.append_assoc, List.singleton_append]
      exact this
    rw [e]
    exact ih k (i + 1) (by omega) (by omega)
theorem toS_ok (l : List S53) (hl : l.length ≤ 1048576) (k : Nat) (hk : l.length < k) : laws_toRangeS.f k l = some (l.map cv) := by
  unfold laws_toRangeS.f
  rw [if_pos (by omega), if_pos (by omega)]
  have := toS_l0 l hl l.length k 0 (by omega) hk
  simpa using this
theorem eqS_l0 (l : List S43) (hl : l.length ≤ 2000000) (d : Nat) : ∀ (k i : Nat), l.length = i + d → d < k → laws_eqRangeS.l0 k l l (i : Int) = some true := by
  induction d with
  | zero =>
    intro k i hi hk
    obtain ⟨k, rfl⟩ : ∃ m, k = m + 1 := ⟨k - 1, by omega⟩
    simp only [laws_eqRangeS.l0]
    rw [if_neg (by omega)]
  | succ d ih =>
    intro k i hi hk
    obtain ⟨k, rfl⟩ : ∃ m, k = m + 1 := ⟨k - 1, by omega⟩
    simp only [laws_eqRangeS.l0, laws_eqRange.f, if_true, Option.bind_some]
    rw [if_pos (by omega), if_pos (by omega), if_pos (by omega), ww i (by omega)]
    exact ih k (i + 1) (by omega) (by omega)
theorem eqS_ok (l : List S43) (hl : l.length ≤ 2000000) (k : Nat) (hk : l.length < k) : laws_eqRangeS.f k l l = some true := by
  unfold laws_eqRangeS.f
  rw [if_pos rfl]
  exact eqS_l0 l hl l.length k 0 (by omega) hk
def chain : Int → List S43 → Bool
  | _, [] => true
  | b, x :: r => decide (b < x.f0) && (decide (x.f0 < x.f1) && (decide (x.f1 ≤ 1000000) && chain x.f1 r))
def okB (l : List S43) : Bool := decide (l.length ≤ 16) && chain (-1) l
theorem ok_i_l0 (l : List S43) (hl : l.length ≤ 2000000) (d : Nat) : ∀ (k i : Nat) (b : Int), l.length = i + d → d < k → impl_RangesOK.l0 k b l (l.length : Int) (i : Int) = some (chain b (l.drop i)) := by
  induction d with
  | zero =>
    intro k i b hi hk
    obtain ⟨k, rfl⟩ : ∃ m, k = m + 1 := ⟨k - 1, by omega⟩
    simp only [impl_RangesOK.l0]
    rw [if_neg (by omega), List.drop_of_length_le (by omega)]; rfl
  | succ d ih =>
    intro k i b hi hk
    obtain ⟨k, rfl⟩ : ∃ m, k = m + 1 := ⟨k - 1, by omega⟩
    simp only [impl_RangesOK.l0]
    rw [if_pos (by omega), if_pos (by omega), if_pos (by omega), rd43 (by omega), ww i (by omega), List.drop_eq_getElem_cons (by omega)]
    simp only [chain]
    by_cases h1 : l[i].f0 ≤ b
    · rw [if_pos h1, decide_eq_false (by omega)]; rfl
    · rw [if_neg h1, decide_eq_true (by omega)]
      by_cases h2 : l[i].f1 ≤ l[i].f0
      · rw [if_pos h2, decide_eq_false (p := l[i].f0 < l[i].f1) (by omega)]; rfl
      · rw [if_neg h2, decide_eq_true (p := l[i].f0 < l[i].f1) (by omega)]
        by_cases h3 : l[i].f1 > 1000000
        · rw [if_pos h3, decide_eq_false (p := l[i].f1 ≤ 1000000) (by omega)]; rfl
        · rw [if_neg h3, decide_eq_true (p := l[i].f1 ≤ 1000000) (by omega), ih k (i + 1) _ (by omega) (by omega)]; rfl
theorem rok_i (l : List S43) (hl : l.length ≤ 2000000) (k : Nat) (hk : l.length < k) : impl_RangesOK.f k l = some (okB l) := by
  unfold impl_RangesOK.f okB
  by_cases h : (l.length : Int) > 16
  · rw [if_pos h, decide_eq_false (by omega)]; rfl
  · rw [if_neg h, decide_eq_true (by omega)]
    have := ok_i_l0 l hl l.length k 0 (-1) (by omega) hk
    simpa using this
theorem ok_s_l0 (l : List S43) (hl : l.length ≤ 2000000) (d : Nat) : ∀ (k i : Nat) (b : Int) (hi : l.length = i + d), d < k → -1 ≤ b → (i = 0 → b = -1) → (∀ h : 0 < i, b = (l[i - 1]'(by omega)).f1) → spec_RangesOK.l0 k l (i : Int) = some (chain b (l.drop i)) := by
  induction d with
  | zero =>
    intro k i b hi hk _ _ _
    obtain ⟨k, rfl⟩ : ∃ m, k = m + 1 := ⟨k - 1, by omega⟩
    simp only [spec_RangesOK.l0]
    rw [if_neg (by omega), List.drop_of_length_le (by omega)]; rfl
  | succ d ih =>
    intro k i b hi hk hb h0 hp
    obtain ⟨k, rfl⟩ : ∃ m, k = m + 1 := ⟨k - 1, by omega⟩
    simp only [spec_RangesOK.l0, inS, Option.bind_some]
    rw [if_pos (by omega), if_pos (by omega), rd43 (by omega), ww i (by omega), List.drop_eq_getElem_cons (by omega)]
    simp only [chain]
    have next : 0 ≤ l[i].f1 → spec_RangesOK.l0 k l ((i + 1 : Nat) : Int) = some (chain l[i].f1 (l.drop (i + 1))) := fun hf => ih k (i + 1) l[i].f1 (by omega) (by omega) (by omega) (by omega) (fun _ => by simp)
    by_cases h1 : 1 ≤ l[i].f1 ∧ l[i].f1 ≤ 1000000
    · rw [decide_eq_true h1, if_pos rfl, w64 (x := l[i].f1 - 1) (by omega) (by omega)]
      by_cases h2 : 0 ≤ l[i].f0 ∧ l[i].f0 ≤ l[i].f1 - 1
      · rw [decide_eq_true h2, if_pos rfl, decide_eq_true (p := l[i].f0 < l[i].f1) (by omega), decide_eq_true h1.2]
        by_cases hz : i = 0
        · rw [if_neg (by omega), next (by omega), decide_eq_true (p := b < l[i].f0) (by have := h0 hz; omega)]; rfl
        · rw [if_pos (by omega)]
          have e : (i : Int) - 1 = ((i - 1 : Nat) : Int) := by omega
          rw [w64 (x := (i : Int) - 1) (by omega) (by omega), e, if_pos (by omega), if_pos (by omega), rd43 (by omega), ← hp (by omega)]
          by_cases h3 : b ≥ l[i].f0
          · rw [if_pos h3, decide_eq_false (by omega)]; rfl
          · rw [if_neg h3, next (by omega), decide_eq_true (p := b < l[i].f0) (by omega)]; rfl
      · rw [decide_eq_false h2, if_neg (by decide)]
        by_cases h3 : b < l[i].f0
        · rw [decide_eq_false (p := l[i].f0 < l[i].f1) (by omega)]; simp
        · rw [decide_eq_false h3]; rfl
    · rw [decide_eq_false h1, if_neg (by decide)]
      by_cases h3 : b < l[i].f0
      · by_cases h4 : l[i].f0 < l[i].f1
        · rw [decide_eq_false (p := l[i].f1 ≤ 1000000) (by omega)]; simp
        · rw [decide_eq_false h4]; simp
      · rw [decide_eq_false h3]; rfl
theorem rok_s (l : List S43) (hl : l.length ≤ 2000000) (k : Nat) (hk : l.length < k) : spec_RangesOK.f k l = some (okB l) := by
  unfold spec_RangesOK.f okB
  by_cases h : (l.length : Int) > 16
  · rw [if_pos h, decide_eq_false (by omega)]; rfl
  · rw [if_neg h, decide_eq_true (by omega)]
    have := ok_s_l0 l hl l.length k 0 (-1) (by omega) hk (by omega) (by omega) (by omega)
    simpa using this
def lostL (b s : Int) (l : List S43) : Nat → Int → Int
  | 0, _ => b
  | n + 1, q => if (l.getD n z43).f1 ≤ b then b else if wrap64 ((l.length : Int) - (n : Int)) ≥ 3 then max b (l.getD n z43).f0 else if wrap64 (q + wrap64 ((l.getD n z43).f1 - max b (l.getD n z43).f0)) > wrap64 (2 * s) then max b (l.getD n z43).f0 else lostL b s l n (wrap64 (q + wrap64 ((l.getD n z43).f1 - max b (l.getD n z43).f0)))
theorem gd43 {l : List S43} {n : Nat} : rd_T43 l (n : Int) = l.getD n z43 := by simp [rd_T43]
theorem lost_s_l0 (b s : Int) (l : List S43) (hl : l.length ≤ 2000000) (n : Nat) : ∀ (k : Nat) (q : Int), n ≤ l.length → n < k → spec_LostBelow.l0 k l b s q ((n : Int) - 1) = some (lostL b s l n q, 0) := by
  induction n with
  | zero =>
    intro k q hn hk
    obtain ⟨k, rfl⟩ : ∃ m, k = m + 1 := ⟨k - 1, by omega⟩
    simp only [spec_LostBelow.l0]
    rw [if_neg (by omega)]; rfl
  | succ n ih =>
    intro k q hn hk
    obtain ⟨k, rfl⟩ : ∃ m, k = m + 1 := ⟨k - 1, by omega⟩
    simp only [spec_LostBelow.l0, lostL]
    rw [show ((n + 1 : Nat) : Int) - 1 = (n : Int) by omega, if_pos (by omega), if_pos (by omega), if_pos (by omega), gd43, mx_eq, w64 (x := (n : Int) - 1) (by omega) (by omega), ih k _ (by omega) (by omega)]
    split
    · rfl
    · split
      · rfl
      · split <;> rfl
theorem lost_i_l0 (b s : Int) (l : List S43) (hl : l.length ≤ 2000000) (n : Nat) : ∀ (k : Nat) (q : Int), n ≤ l.length → 2 * n + 1 < k → impl_LostBelow.l0 k l b s ((l.length : Int) - n) q ((n : Int) - 1) = some (lostL b s l n q, 0) := by
  induction n with
  | zero =>
    intro k q hn hk
    obtain ⟨k, rfl⟩ : ∃ m, k = m + 2 := ⟨k - 2, by omega⟩
    simp only [impl_LostBelow.l0, impl_LostBelow.j2]
    rw [if_neg (by omega)]; rfl
  | succ n ih =>
    intro k q hn hk
    obtain ⟨k, rfl⟩ : ∃ m, k = m + 1 := ⟨k - 1, by omega⟩
    obtain ⟨k, rfl⟩ : ∃ m, k = m + 1 := ⟨k - 1, by omega⟩
    rw [impl_LostBelow.l0]
    rw [show ((n + 1 : Nat) : Int) - 1 = (n : Int) by omega, if_pos (by omega), if_pos (by omega), if_pos (by omega)]
    rw [impl_LostBelow.j2]
    simp only [lostL]
    rw [if_pos (show (0 : Int) ≤ n by omega), if_pos (show (n : Int) < l.length by omega), gd43, mx_eq, w64 (x := (n : Int) - 1) (by omega) (by omega)]
    rw [w64 (x := (l.length : Int) - ((n + 1 : Nat) : Int) + 1) (by omega) (by omega), show (l.length : Int) - ((n + 1 : Nat) : Int) + 1 = (l.length : Int) - n by omega, ih k _ (by omega) (by omega), Int.max_comm (l.getD n z43).f0 b, w64 (x := (l.length : Int) - (n : Int)) (by omega) (by omega)]
    by_cases h1 : (l.getD n z43).f1 ≤ b
    · rw [decide_eq_false (by omega), if_neg (by decide), if_pos h1]
    · rw [decide_eq_true (by omega), if_pos rfl, if_neg h1]
      split
      · rfl
      · split <;> rfl
theorem lost_both' (l : List S43) (b s : Int) (hl : l.length ≤ 1048576) (hq : okB l = true) (h1 : 0 ≤ b ∧ b ≤ 1000000) (h2 : 1 ≤ s ∧ s ≤ 65535) (k : Nat) (hk : 2 * l.length + 3 < k) :
    impl_LostBelow.f k l b s = some (lostL b s l l.length 0, 0) ∧ spec_LostBelow.f k l b s = some (lostL b s l l.length 0, 0) := by
  have h16 : l.length ≤ 16 := by simp only [okB, Bool.and_eq_true, decide_eq_true_eq] at hq; exact hq.1
  obtain ⟨k, rfl⟩ : ∃ m, k = m + 1 := ⟨k - 1, by omega⟩
  have e1 := lost_i_l0 b s l (by omega) l.length k 0 (by omega) (by omega)
  have e2 := lost_s_l0 b s l (by omega) l.length k 0 (by omega) (by omega)
  rw [show (l.length : Int) - l.length = 0 by omega] at e1
  simp only [impl_LostBelow.f, spec_LostBelow.f, if_neg (show ¬ (l.length : Int) > 4096 by omega), rok_i l (by omega) (k + 1) (by omega), rok_s l (by omega) (k + 1) (by omega), hq, inR, inS, decide_eq_true h1, decide_eq_true h2, Option.bind_some, if_true, Bool.not_true, impl_LostBelow.j0, spec_LostBelow.j0, Bool.false_eq_true, if_false]
  rw [w64 (x := (l.length : Int) - 1) (by omega) (by omega)]
  exact ⟨e1, e2⟩
theorem lost_both (l : List S43) (b s : Int) (hl : l.length ≤ 1048576) : ∃ (r : Int) (c : Int), ∀ k, 3000000 < k → impl_LostBelow.f k l b s = some (r, c) ∧ spec_LostBelow.f k l b s = some (r, c) := by
  by_cases h : (l.length : Int) > 4096
  · exact ⟨0, 2, fun k hk => by simp [impl_LostBelow.f, spec_LostBelow.f, h]⟩
  cases hq : okB l with
  | false => exact ⟨0, 1, fun k hk => by simp [impl_LostBelow.f, spec_LostBelow.f, h, rok_i l (by omega) k (by omega), rok_s l (by omega) k (by omega), hq]⟩
  | true =>
    by_cases h1 : 0 ≤ b ∧ b ≤ 1000000
    · by_cases h2 : 1 ≤ s ∧ s ≤ 65535
      · exact ⟨_, _, fun k hk => lost_both' l b s hl hq h1 h2 k (by omega)⟩
      · refine ⟨0, 4, fun k hk => ?_⟩
        obtain ⟨k, rfl⟩ : ∃ m, k = m + 1 := ⟨k - 1, by omega⟩
        simp [impl_LostBelow.f, spec_LostBelow.f, h, rok_i l (by omega) (k + 1) (by omega), rok_s l (by omega) (k + 1) (by omega), hq, inR, inS, h1, h2, impl_LostBelow.j0, spec_LostBelow.j0]
    · refine ⟨0, 4, fun k hk => ?_⟩
      obtain ⟨k, rfl⟩ : ∃ m, k = m + 1 := ⟨k - 1, by omega⟩
      simp [impl_LostBelow.f, spec_LostBelow.f, h, rok_i l (by omega) (k + 1) (by omega), rok_s l (by omega) (k + 1) (by omega), hq, inR, inS, h1, impl_LostBelow.j0, spec_LostBelow.j0]
theorem FnExactLostBelow : fnExactLostBelow.Say := by
  intro l b s ⟨hm, hg⟩ _ _
  obtain ⟨K, hK⟩ : ∃ K : Nat, K = 4000000 := ⟨_, rfl⟩
  refine ⟨K + 1, ?_⟩
  unfold maxLen at hm
  simp only [laws_FnExactLostBelow.f, laws_szRangeS.f]
  rw [w64 (x := 1048576 - (l.length : Int)) (by omega) (by omega)]
  by_cases c : 1048576 - (l.length : Int) < 0
  · rw [if_pos c]; simp
  rw [if_neg c]
  simp only [Option.bind_some]
  have hl : (l.map cv).length ≤ 1048576 := by simp; omega
  obtain ⟨r, co, hb⟩ := lost_both (l.map cv) b s hl
  rw [if_neg c, toS_ok l (by omega) (K + 1) (by omega)]
  simp only [Option.bind_some]
  rw [(hb (K + 1) (by omega)).1, (hb (K + 1) (by omega)).2]
  simp only [Option.bind_some, if_true, bne_self_eq_false, laws_FnExactLostBelow.j0, Bool.false_eq_true, if_false]
  rw [toS_ok l (by omega) K (by omega)]
  simp only [Option.bind_some]
  rw [eqS_ok _ (by omega) K (by omega)]
  simp
end Go.Proofs.Ytelcclkedpafaaa.Pure
namespace Go.Proofs.Ytelcclkedpafaaa
/-- The row. -/
theorem fnExactLostBelow_holds : Rows.FnExactLostBelowSaid := fnExactLostBelow.row_of Pure.FnExactLostBelow
end Go.Proofs.Ytelcclkedpafaaa
