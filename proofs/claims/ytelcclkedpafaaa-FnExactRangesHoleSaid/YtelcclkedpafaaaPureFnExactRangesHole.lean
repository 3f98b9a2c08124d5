/- The program's holes of ranges and the reference's are the same ranges and code, in new memory, for all lists of ranges and ints. -/
import Derived.Test.YtelcclkedpafaaaAid
import Derived.Test.YtelcclkedpafaaaSayFnExactRangesHole
namespace Go.Proofs.Ytelcclkedpafaaa.Pure
set_option linter.unusedSimpArgs false
set_option linter.unusedVariables false
open Go.RowKit Go.Proofs.Ytelcclkedpafaaa.PFnExactRangesHole Go.Proofs.YtelcclkedpafaaaW.PrintWords Go.Proofs.YtelcclkedpafaaaW.PrintLast Go.Proofs.YtelcclkedpafaaaW.PrintMore Go.Proofs.Ytelcclkedpafaaa.Aid
theorem inR (a b c : Int) : impl_inRange.f a b c = some (decide (b ≤ a ∧ a ≤ c)) := by
  unfold impl_inRange.f
  by_cases h : a ≥ b
  · rw [if_pos h]; simp [show b ≤ a from h]
  · rw [if_neg h]; simp; omega
theorem inS (a b c : Int) : spec_l01In.f a b c = some (decide (b ≤ a ∧ a ≤ c)) := by
  unfold spec_l01In.f
  by_cases h : a ≥ b
  · rw [if_pos h]; simp [show b ≤ a from h]
  · rw [if_neg h]; simp; omega
theorem ww (i : Nat) (h : i < 4000000000000000000) : wrap64 ((i : Int) + 1) = ((i + 1 : Nat) : Int) := by rw [w64 (by omega) (by omega)]; simp
def cv (x : S53) : S43 := ⟨x.f0, x.f1⟩
theorem rd43 {l : List S43} {i : Nat} (h : i < l.length) : rd_T43 l (i : Int) = l[i] := by simp [rd_T43, List.getD_eq_getElem?_getD, h]
theorem rd53 {l : List S53} {i : Nat} (h : i < l.length) : rd_T53 l (i : Int) = l[i] := by simp [rd_T53, List.getD_eq_getElem?_getD, h]
theorem set_mid {α : Type} (A R : List α) (z v : α) : (A ++ z :: R).set A.length v = A ++ v :: R := by
  simp [List.set_append]
theorem toS_l0 (l : List S53) (hl : l.length ≤ 1048576) (d : Nat) : ∀ (k i : Nat), l.length = i + d → d < k → laws_toRangeS.l0 k l ((l.take i).map cv ++ List.replicate d z43) (i : Int) = some (l.map cv) := by
  induction d with
  | zero =>
    intro k i hi hk
    obtain ⟨k, rfl⟩ : ∃ m, k = m + 1 := ⟨k - 1, by omega⟩
    simp only [laws_toRangeS.l0]
    rw [if_neg (by omega), List.take_of_length_le (by omega)]
    simp
  | succ d ih =>
    intro k i hi hk
    obtain ⟨k, rfl⟩ : ∃ m, k = m + 1 := ⟨k - 1, by omega⟩
    simp only [laws_toRangeS.l0, laws_toRange.f, Option.bind_some]
    rw [if_pos (by omega), if_pos (by omega), if_pos (by simp; omega), ww i (by omega), rd53 (by omega)]
    have e : (((l.take i).map cv ++ List.replicate (d + 1) z43).set ((i : Int).toNat) (⟨l[i].f0, l[i].f1⟩ : S43)) = (l.take (i + 1)).map cv ++ List.replicate d z43 := by
      rw [Int.toNat_natCast, List.replicate_succ]
      have := set_mid ((l.take i).map cv) (List.replicate d z43) z43 (cv l[i])
      rw [show ((l.take i).map cv).length = i by simp; omega] at this
      rw [List.take_succ_eq_append_getElem (by omega)]
      simp only [List.map_append, List.map_cons, List.map_nil, List.append_assoc, List.singleton_append]
      exact this
    rw [e]
    exact ih k (i + 1) (by omega) (by omega)
theorem toS_ok (l : List S53) (hl : l.length ≤ 1048576) (k : Nat) (hk : l.length < k) : laws_toRangeS.f k l = some (l.map cv) := by
  unfold laws_toRangeS.f
  rw [if_pos (by omega), if_pos (by omega)]
  have := toS_l0 l hl l.length k 0 (by omega) hk
  simpa using this
theorem eqS_l0 (l : List S43) (hl : l.length ≤ 2000000) (d : Nat) : ∀ (k i : Nat), l.length = i + d → d < k → laws_eqRangeS.l0 k l l (i : Int) = some true := by
  induction d with
  | zero =>
    intro k i hi hk
    obtain ⟨k, rfl⟩ : ∃ m, k = m + 1 := ⟨k - 1, by omega⟩
    simp only [laws_eqRangeS.l0]
    rw [if_neg (by omega)]
  | succ d ih =>
    intro k i hi hk
    obtain ⟨k, rfl⟩ : ∃ m, k = m + 1 := ⟨k - 1, by omega⟩
    simp only [laws_eqRangeS.l0, laws_eqRange.f, if_true, Option.bind_some]
    rw [if_pos (by omega), if_pos (by omega), if_pos (by omega), ww i (by omega)]
    exact ih k (i + 1) (by omega) (by omega)
theorem eqS_ok (l : List S43) (hl : l.length ≤ 2000000) (k : Nat) (hk : l.length < k) : laws_eqRangeS.f k l l = some true := by
  unfold laws_eqRangeS.f
  rw [if_pos rfl]
  exact eqS_l0 l hl l.length k 0 (by omega) hk
def mk (c : Int) (n : Nat) : List S43 := (List.range n).map (fun (j : Nat) => ⟨c + 2 * (j : Int), c + 2 * (j : Int) + 1⟩)
theorem mk_len (c : Int) (n : Nat) : (mk c n).length = n := by simp [mk]
theorem mk_succ (c : Int) (n : Nat) : mk c (n + 1) = mk c n ++ [⟨c + 2 * (n : Int), c + 2 * (n : Int) + 1⟩] := by simp [mk, List.range_succ]
theorem rd_set43 {l : List S43} {i : Nat} (h : i < l.length) (v : S43) : rd_T43 (l.set i v) (i : Int) = v := by
  rw [rd43 (by simpa using h)]; simp
theorem mark_l0 (l : List S43) (hl : l.length ≤ 2000000) (d : Nat) : ∀ (k i : Nat), l.length = i + d → d < k → laws_markRangeS.l0 k (mk 1 i ++ l.drop i) (1 + 2 * (i : Int)) (i : Int) = some (1 + 2 * (l.length : Int), mk 1 l.length) := by
  induction d with
  | zero =>
    intro k i hi hk
    obtain ⟨k, rfl⟩ : ∃ m, k = m + 1 := ⟨k - 1, by omega⟩
    simp only [laws_markRangeS.l0]
    rw [if_neg (by simp [mk_len]; omega), List.drop_of_length_le (by omega), show i = l.length by omega]
    simp
  | succ d ih =>
    intro k i hi hk
    obtain ⟨k, rfl⟩ : ∃ m, k = m + 1 := ⟨k - 1, by omega⟩
    have hlen : i < (mk 1 i ++ l.drop i).length := by simp [mk_len]; omega
    simp only [laws_markRangeS.l0, Option.bind_some, Int.toNat_natCast]
    rw [if_pos (by omega), if_pos (by omega), ww i (by omega), rd_set43 hlen, List.set_set]
    rw [w64 (x := 1 + 2 * (i : Int) + 1) (by omega) (by omega), w64 (x := 1 + 2 * (i : Int) + 1 + 1) (by omega) (by omega)]
    have e : (mk 1 i ++ l.drop i).set i (⟨1 + 2 * (i : Int), 1 + 2 * (i : Int) + 1⟩ : S43) = mk 1 (i + 1) ++ l.drop (i + 1) := by
      rw [List.drop_eq_getElem_cons (by omega), mk_succ]
      have := set_mid (mk 1 i) (l.drop (i + 1)) l[i] (⟨1 + 2 * (i : Int), 1 + 2 * (i : Int) + 1⟩ : S43)
      rw [mk_len] at this
      rw [this]; simp
    rw [e, show 1 + 2 * (i : Int) + 1 + 1 = 1 + 2 * ((i + 1 : Nat) : Int) by omega]
    exact ih k (i + 1) (by omega) (by omega)
theorem mark_ok (l : List S43) (hl : l.length ≤ 2000000) (k : Nat) (hk : l.length < k) : laws_markRangeS.f k l 1 = some (1 + 2 * (l.length : Int), mk 1 l.length) := by
  have := mark_l0 l hl l.length k 0 (by omega) hk
  simpa [mk, laws_markRangeS.f] using this
theorem held_l0 (n : Nat) (hl : n ≤ 2000000) (d : Nat) : ∀ (k i : Nat), n = i + d → d < k → laws_heldRangeS.l0 k (mk 1 n) (1 + 2 * (i : Int)) (i : Int) = some (1 + 2 * (n : Int)) := by
  induction d with
  | zero =>
    intro k i hi hk
    obtain ⟨k, rfl⟩ : ∃ m, k = m + 1 := ⟨k - 1, by omega⟩
    simp only [laws_heldRangeS.l0]
    rw [if_neg (by simp [mk_len]; omega), show i = n by omega]
  | succ d ih =>
    intro k i hi hk
    obtain ⟨k, rfl⟩ : ∃ m, k = m + 1 := ⟨k - 1, by omega⟩
    have hlen : i < (mk 1 n).length := by rw [mk_len]; omega
    simp only [laws_heldRangeS.l0]
    rw [if_pos (by omega), if_pos (by omega), rd43 hlen, ww i (by omega)]
    have e : (mk 1 n)[i] = ⟨1 + 2 * (i : Int), 1 + 2 * (i : Int) + 1⟩ := by simp [mk]
    rw [e, w64 (x := 1 + 2 * (i : Int) + 1) (by omega) (by omega), w64 (x := 1 + 2 * (i : Int) + 1 + 1) (by omega) (by omega)]
    simp only [if_true]
    rw [show 1 + 2 * (i : Int) + 1 + 1 = 1 + 2 * ((i + 1 : Nat) : Int) by omega]
    exact ih k (i + 1) (by omega) (by omega)
theorem held_ok (n : Nat) (hl : n ≤ 2000000) (k : Nat) (hk : n < k) : laws_heldRangeS.f k (mk 1 n) 1 = some (1 + 2 * (n : Int)) := by
  have := held_l0 n hl n k 0 (by omega) hk
  simpa [laws_heldRangeS.f] using this
def chain : Int → List S43 → Bool
  | _, [] => true
  | b, x :: r => decide (b < x.f0) && (decide (x.f0 < x.f1) && (decide (x.f1 ≤ 1000000) && chain x.f1 r))
def okB (l : List S43) : Bool := decide (l.length ≤ 16) && chain (-1) l
theorem ok_i_l0 (l : List S43) (hl : l.length ≤ 2000000) (d : Nat) : ∀ (k i : Nat) (b : Int), l.length = i + d → d < k → impl_RangesOK.l0 k b l (l.length : Int) (i : Int) = some (chain b (l.drop i)) := by
  induction d with
  | zero =>
    intro k i b hi hk
    obtain ⟨k, rfl⟩ : ∃ m, k = m + 1 := ⟨k - 1, by omega⟩
    simp only [impl_RangesOK.l0]
    rw [if_neg (by omega), List.drop_of_length_le (by omega)]; rfl
  | succ d ih =>
    intro k i b hi hk
    obtain ⟨k, rfl⟩ : ∃ m, k = m + 1 := ⟨k - 1, by omega⟩
    simp only [impl_RangesOK.l0]
    rw [if_pos (by omega), if_pos (by omega), if_pos (by omega), rd43 (by omega), ww i (by omega), List.drop_eq_getElem_cons (by omega)]
    simp only [chain]
    by_cases h1 : l[i].f0 ≤ b
    · rw [if_pos h1, decide_eq_false (by omega)]; rfl
    · rw [if_neg h1, decide_eq_true (by omega)]
      by_cases h2 : l[i].f1 ≤ l[i].f0
      · rw [if_pos h2, decide_eq_false (p := l[i].f0 < l[i].f1) (by omega)]; rfl
      · rw [if_neg h2, decide_eq_true (p := l[i].f0 < l[i].f1) (by omega)]
        by_cases h3 : l[i].f1 > 1000000
        · rw [if_pos h3, decide_eq_false (p := l[i].f1 ≤ 1000000) (by omega)]; rfl
        · rw [if_neg h3, decide_eq_true (p := l[i].f1 ≤ 1000000) (by omega), ih k (i + 1) _ (by omega) (by omega)]; rfl
theorem rok_i (l : List S43) (hl : l.length ≤ 2000000) (k : Nat) (hk : l.length < k) : impl_RangesOK.f k l = some (okB l) := by
  unfold impl_RangesOK.f okB
  by_cases h : (l.length : Int) > 16
  · rw [if_pos h, decide_eq_false (by omega)]; rfl
  · rw [if_neg h, decide_eq_true (by omega)]
    have := ok_i_l0 l hl l.length k 0 (-1) (by omega) hk
    simpa using this
theorem ok_s_l0 (l : List S43) (hl : l.length ≤ 2000000) (d : Nat) : ∀ (k i : Nat) (b : Int) (hi : l.length = i + d), d < k → -1 ≤ b → (i = 0 → b = -1) → (∀ h : 0 < i, b = (l[i - 1]'(by omega)).f1) → spec_RangesOK.l0 k l (i : Int) = some (chain b (l.drop i)) := by
  induction d with
  | zero =>
    intro k i b hi hk _ _ _
    obtain ⟨k, rfl⟩ : ∃ m, k = m + 1 := ⟨k - 1, by omega⟩
    simp only [spec_RangesOK.l0]
    rw [if_neg (by omega), List.drop_of_length_le (by omega)]; rfl
  | succ d ih =>
    intro k i b hi hk hb h0 hp
    obtain ⟨k, rfl⟩ : ∃ m, k = m + 1 := ⟨k - 1, by omega⟩
    simp only [spec_RangesOK.l0, inS, Option.bind_some]
    rw [if_pos (by omega), if_pos (by omega), rd43 (by omega), ww i (by omega), List.drop_eq_getElem_cons (by omega)]
    simp only [chain]
    have next : 0 ≤ l[i].f1 → spec_RangesOK.l0 k l ((i + 1 : Nat) : Int) = some (chain l[i].f1 (l.drop (i + 1))) := fun hf => ih k (i + 1) l[i].f1 (by omega) (by omega) (by omega) (by omega) (fun _ => by simp)
    by_cases h1 : 1 ≤ l[i].f1 ∧ l[i].f1 ≤ 1000000
    · rw [decide_eq_true h1, if_pos rfl, w64 (x := l[i].f1 - 1) (by omega) (by omega)]
      by_cases h2 : 0 ≤ l[i].f0 ∧ l[i].f0 ≤ l[i].f1 - 1
      · rw [decide_eq_true h2, if_pos rfl, decide_eq_true (p := l[i].f0 < l[i].f1) (by omega), decide_eq_true h1.2]
        by_cases hz : i = 0
        · rw [if_neg (by omega), next (by omega), decide_eq_true (p := b < l[i].f0) (by have := h0 hz; omega)]; rfl
        · rw [if_pos (by omega)]
          have e : (i : Int) - 1 = ((i - 1 : Nat) : Int) := by omega
          rw [w64 (x := (i : Int) - 1) (by omega) (by omega), e, if_pos (by omega), if_pos (by omega), rd43 (by omega), ← hp (by omega)]
          by_cases h3 : b ≥ l[i].f0
          · rw [if_pos h3, decide_eq_false (by omega)]; rfl
          · rw [if_neg h3, next (by omega), decide_eq_true (p := b < l[i].f0) (by omega)]; rfl
      · rw [decide_eq_false h2, if_neg (by decide)]
        by_cases h3 : b < l[i].f0
        · rw [decide_eq_false (p := l[i].f0 < l[i].f1) (by omega)]; simp
        · rw [decide_eq_false h3]; rfl
    · rw [decide_eq_false h1, if_neg (by decide)]
      by_cases h3 : b < l[i].f0
      · by_cases h4 : l[i].f0 < l[i].f1
        · rw [decide_eq_false (p := l[i].f1 ≤ 1000000) (by omega)]; simp
        · rw [decide_eq_false h4]; simp
      · rw [decide_eq_false h3]; rfl
theorem rok_s (l : List S43) (hl : l.length ≤ 2000000) (k : Nat) (hk : l.length < k) : spec_RangesOK.f k l = some (okB l) := by
  unfold spec_RangesOK.f okB
  by_cases h : (l.length : Int) > 16
  · rw [if_pos h, decide_eq_false (by omega)]; rfl
  · rw [if_neg h, decide_eq_true (by omega)]
    have := ok_s_l0 l hl l.length k 0 (-1) (by omega) hk (by omega) (by omega) (by omega)
    simpa using this
theorem bounds_i (a b : Int) : impl_boundsOK.f a b = some (decide (0 ≤ a ∧ a ≤ 1000000) && decide (a ≤ b ∧ b ≤ 1000000)) := by
  unfold impl_boundsOK.f
  simp only [inR, Option.bind_some]
  by_cases h : 0 ≤ a ∧ a ≤ 1000000 <;> simp [h]
theorem bounds_s (a b : Int) : spec_l17Bounds.f a b = some (decide (0 ≤ a ∧ a ≤ 1000000) && decide (a ≤ b ∧ b ≤ 1000000)) := by
  unfold spec_l17Bounds.f
  simp only [inS, Option.bind_some]
  by_cases h : 0 ≤ a ∧ a ≤ 1000000 <;> simp [h]
def holeL (tt : Int) : Int → List S43 → List S43
  | at_, [] => if tt > at_ then [⟨at_, tt⟩] else []
  | at_, x :: r => if min tt x.f0 > at_ then ⟨at_, min tt x.f0⟩ :: holeL tt (max at_ x.f1) r else holeL tt (max at_ x.f1) r
theorem holeL_len (tt : Int) (l : List S43) : ∀ at_, (holeL tt at_ l).length ≤ l.length + 1 := by
  induction l with
  | nil => intro a; simp only [holeL]; split <;> simp
  | cons x r ih => intro a; have := ih (max a x.f1); simp only [holeL]; split <;> simp <;> omega
theorem holeL_nil (tt : Int) (l : List S43) : ∀ at_, tt ≤ at_ → holeL tt at_ l = [] := by
  induction l with
  | nil => intro a h; simp only [holeL]; rw [if_neg (by omega)]
  | cons x r ih => intro a h; simp only [holeL]; rw [if_neg (by omega)]; exact ih _ (by omega)
theorem hole_s_l0 (l : List S43) (tt : Int) (hl : l.length ≤ 2000000) (d : Nat) : ∀ (k i : Nat) (o : List S43) (a : Int), l.length = i + d → d < k → o.length ≤ i → spec_RangesHole.l0 k l tt o a (i : Int) = some (o ++ holeL tt a (l.drop i), 0) := by
  induction d with
  | zero =>
    intro k i o a hi hk ho
    obtain ⟨k, rfl⟩ : ∃ m, k = m + 1 := ⟨k - 1, by omega⟩
    simp only [spec_RangesHole.l0]
    rw [if_neg (by omega), List.drop_of_length_le (by omega)]
    simp only [holeL]
    by_cases h : tt > a
    · rw [if_pos h, if_pos h, if_pos (by omega)]
    · rw [if_neg h, if_neg h]; simp
  | succ d ih =>
    intro k i o a hi hk ho
    obtain ⟨k, rfl⟩ : ∃ m, k = m + 1 := ⟨k - 1, by omega⟩
    simp only [spec_RangesHole.l0]
    rw [if_pos (by omega), if_pos (by omega), rd43 (by omega), ww i (by omega), List.drop_eq_getElem_cons (by omega)]
    simp only [holeL, mx_eq, mn_eq]
    by_cases h : min tt l[i].f0 > a
    · rw [if_pos h, if_pos h, if_pos (by omega), ih k (i + 1) _ _ (by omega) (by omega) (by simp; omega)]; simp
    · rw [if_neg h, if_neg h, ih k (i + 1) _ _ (by omega) (by omega) (by omega)]
theorem chain_mono {b b' : Int} {l : List S43} (h : b' ≤ b) (hc : chain b l = true) : chain b' l = true := by
  cases l with
  | nil => rfl
  | cons x r => simp only [chain, Bool.and_eq_true, decide_eq_true_eq] at hc ⊢; exact ⟨by omega, hc.2⟩
theorem hole_i_l0 (l : List S43) (tt : Int) (hl : l.length ≤ 2000000) (d : Nat) : ∀ (k i : Nat) (o : List S43) (a b : Int), l.length = i + d → d < k → o.length ≤ i → chain b (l.drop i) = true → impl_RangesHole.l0 k a tt o l (l.length : Int) (i : Int) = some (o ++ holeL tt a (l.drop i), 0) := by
  induction d with
  | zero =>
    intro k i o a b hi hk ho hc
    obtain ⟨k, rfl⟩ : ∃ m, k = m + 1 := ⟨k - 1, by omega⟩
    simp only [impl_RangesHole.l0]
    rw [if_neg (by omega), List.drop_of_length_le (by omega)]
    simp only [holeL]
    by_cases h : a < tt
    · rw [if_pos h, if_pos (show tt > a from h), if_pos (by omega)]
    · rw [if_neg h, if_neg (show ¬ tt > a from h)]; simp
  | succ d ih =>
    intro k i o a b hi hk ho hc
    obtain ⟨k, rfl⟩ : ∃ m, k = m + 1 := ⟨k - 1, by omega⟩
    simp only [impl_RangesHole.l0]
    rw [List.drop_eq_getElem_cons (by omega)] at hc ⊢
    simp only [chain, Bool.and_eq_true, decide_eq_true_eq] at hc
    rw [if_pos (by omega), if_pos (by omega), if_pos (by omega), rd43 (by omega), ww i (by omega)]
    simp only [holeL, mx_eq]
    by_cases h : l[i].f0 ≥ tt
    · rw [if_pos h, show min tt l[i].f0 = tt by omega, holeL_nil tt _ _ (by omega)]
      by_cases h2 : a < tt
      · rw [if_pos h2, if_pos (by omega), if_pos (show tt > a from h2)]
      · rw [if_neg h2, if_neg (show ¬ tt > a from h2)]; simp
    · rw [if_neg h, show min tt l[i].f0 = l[i].f0 by omega]
      by_cases h2 : l[i].f0 > a
      · rw [if_pos h2, if_pos h2, if_pos (by omega), ih k (i + 1) _ _ l[i].f1 (by omega) (by omega) (by simp; omega) hc.2.2.2]; simp
      · rw [if_neg h2, if_neg h2, ih k (i + 1) _ _ l[i].f1 (by omega) (by omega) (by omega) hc.2.2.2]
theorem hole_both (l : List S43) (a b : Int) (hl : l.length ≤ 2000000) : ∃ (o : List S43) (c : Int), o.length ≤ l.length + 1 ∧ ∀ k, l.length < k → impl_RangesHole.f k l a b = some (o, c) ∧ spec_RangesHole.f k l a b = some (o, c) := by
  by_cases h : (l.length : Int) > 4096
  · exact ⟨[], 2, by simp, fun k hk => by simp [impl_RangesHole.f, spec_RangesHole.f, h]⟩
  cases hq : okB l with
  | false => exact ⟨[], 1, by simp, fun k hk => by simp [impl_RangesHole.f, spec_RangesHole.f, h, rok_i l hl k hk, rok_s l hl k hk, hq]⟩
  | true =>
    cases h2 : (decide (0 ≤ a ∧ a ≤ 1000000) && decide (a ≤ b ∧ b ≤ 1000000)) with
    | true =>
      refine ⟨holeL b a l, 0, holeL_len b l a, fun k hk => ?_⟩
      have hch : chain (-1) l = true := by simp only [okB, Bool.and_eq_true] at hq; exact hq.2
      have e1 := hole_i_l0 l b hl l.length k 0 [] a (-1) (by omega) hk (by simp) (by simpa using hch)
      have e2 := hole_s_l0 l b hl l.length k 0 [] a (by omega) hk (by simp)
      simp only [List.nil_append, List.drop_zero] at e1 e2
      simp only [impl_RangesHole.f, spec_RangesHole.f, if_neg h, rok_i l hl k hk, rok_s l hl k hk, hq, bounds_i, bounds_s, h2, Option.bind_some, if_true]
      exact ⟨e1, e2⟩
    | false => exact ⟨[], 4, by simp, fun k hk => by simp only [impl_RangesHole.f, spec_RangesHole.f, if_neg h, rok_i l hl k hk, rok_s l hl k hk, hq, bounds_i, bounds_s, h2, Option.bind_some, if_true, Bool.false_eq_true, if_false, and_self]⟩
theorem FnExactRangesHole : fnExactRangesHole.Say := by
  intro l a b ⟨hm, hg⟩ _ _
  obtain ⟨K, hK⟩ : ∃ K : Nat, K = 2000000 := ⟨_, rfl⟩
  refine ⟨K + 3, ?_⟩
  unfold maxLen at hm
  simp only [laws_FnExactRangesHole.f, laws_szRangeS.f]
  rw [w64 (x := 1048576 - (l.length : Int)) (by omega) (by omega)]
  by_cases c : 1048576 - (l.length : Int) < 0
  · rw [if_pos c]; simp
  rw [if_neg c]
  simp only [Option.bind_some]
  have hl : (l.map cv).length ≤ 1048576 := by simp; omega
  obtain ⟨o, co, ho, hb⟩ := hole_both (l.map cv) a b (by omega)
  have T : ∀ j, 1048576 < j → laws_toRangeS.f j l = some (l.map cv) := fun j hj => toS_ok l (by omega) j (by omega)
  have E0 : ∀ j, 1048596 < j → laws_eqRangeS.f j (l.map cv) (l.map cv) = some true := fun j hj => eqS_ok _ (by omega) j (by omega)
  have E1 : ∀ j, 1048596 < j → laws_eqRangeS.f j o o = some true := fun j hj => eqS_ok _ (by omega) j (by omega)
  have M0 : ∀ j, 1048596 < j → laws_markRangeS.f j (l.map cv) 1 = some (1 + 2 * ((l.map cv).length : Int), mk 1 (l.map cv).length) := fun j hj => mark_ok _ (by omega) j (by omega)
  have M1 : ∀ j, 1048596 < j → laws_markRangeS.f j o 1 = some (1 + 2 * (o.length : Int), mk 1 o.length) := fun j hj => mark_ok _ (by omega) j (by omega)
  have H1 : ∀ j, 1048596 < j → laws_heldRangeS.f j (mk 1 o.length) 1 = some (1 + 2 * (o.length : Int)) := fun j hj => held_ok _ (by omega) j (by omega)
  rw [if_neg c, T (K + 3) (by omega)]
  simp only [Option.bind_some]
  rw [(hb (K + 3) (by omega)).1, (hb (K + 3) (by omega)).2]
  simp only [Option.bind_some]
  rw [E1 (K + 3) (by omega)]
  simp only [Option.bind_some, if_true, laws_FnExactRangesHole.j0, bne_self_eq_false, Bool.false_eq_true, if_false]
  rw [T (K + 2) (by omega)]
  simp only [Option.bind_some]
  rw [E0 (K + 2) (by omega)]
  simp only [Option.bind_some, if_true]
  rw [M0 (K + 2) (by omega)]
  simp only [Option.bind_some]
  rw [if_neg (by omega), E1 (K + 2) (by omega)]
  simp only [Option.bind_some, if_true, laws_FnExactRangesHole.j1, bne_self_eq_false, Bool.false_eq_true, if_false]
  rw [M1 (K + 1) (by omega)]
  simp only [Option.bind_some]
  rw [H1 (K + 1) (by omega)]
  simp only [Option.bind_some]
  rw [if_neg (by omega)]
  simp only [if_true]
  rw [T (K + 1) (by omega)]
  simp only [Option.bind_some]
  rw [(hb (K + 1) (by omega)).1]
  simp only [Option.bind_some]
  rw [E1 (K + 1) (by omega)]
  simp only [Option.bind_some, if_true, laws_FnExactRangesHole.j2, bne_self_eq_false, Bool.false_eq_true, if_false]
  rw [H1 K (by omega)]
  simp only [Option.bind_some]
  rw [if_neg (by omega)]
  simp
end Go.Proofs.Ytelcclkedpafaaa.Pure
namespace Go.Proofs.Ytelcclkedpafaaa
/-- The row. -/
theorem fnExactRangesHole_holds : Rows.FnExactRangesHoleSaid := fnExactRangesHole.row_of Pure.FnExactRangesHole
end Go.Proofs.Ytelcclkedpafaaa
