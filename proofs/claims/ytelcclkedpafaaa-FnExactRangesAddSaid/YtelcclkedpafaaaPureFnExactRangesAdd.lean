/- The program's ranges with one more and the reference's are the same ranges and code, in new memory, for all lists of ranges and ints. -/
import Derived.Test.YtelcclkedpafaaaAid
import Derived.Test.YtelcclkedpafaaaSayFnExactRangesAdd
namespace Go.Proofs.Ytelcclkedpafaaa.Pure
set_option linter.unusedSimpArgs false
set_option linter.unusedVariables false
open Go.RowKit Go.Proofs.Ytelcclkedpafaaa.PFnExactRangesAdd Go.Proofs.YtelcclkedpafaaaW.PrintWords Go.Proofs.YtelcclkedpafaaaW.PrintLast Go.Proofs.YtelcclkedpafaaaW.PrintMore Go.Proofs.Ytelcclkedpafaaa.Aid
theorem inR (a b c : Int) : impl_inRange.f a b c = some (decide (b ≤ a ∧ a ≤ c)) := by
  unfold impl_inRange.f
  by_cases h : a ≥ b
  · rw [if_pos h]; simp [show b ≤ a from h]
  · rw [if_neg h]; simp; omega
theorem inS (a b c : Int) : spec_l01In.f a b c = some (decide (b ≤ a ∧ a ≤ c)) := by
  unfold spec_l01In.f
  by_cases h : a ≥ b
  · rw [if_pos h]; simp [show b ≤ a from h]
  · rw [if_neg h]; simp; omega
theorem ww (i : Nat) (h : i < 4000000000000000000) : wrap64 ((i : Int) + 1) = ((i + 1 : Nat) : Int) := by rw [w64 (by omega) (by omega)]; simp
def cv (x : S53) : S43 := ⟨x.f0, x.f1⟩
theorem rd43 {l : List S43} {i : Nat} (h : i < l.length) : rd_T43 l (i : Int) = l[i] := by simp [rd_T43, List.getD_eq_getElem?_getD, h]
theorem rd53 {l : List S53} {i : Nat} (h : i < l.length) : rd_T53 l (i : Int) = l[i] := by simp [rd_T53, List.getD_eq_getElem?_getD, h]
theorem set_mid {α : Type} (A R : List α) (z v : α) : (A ++ z :: R).set A.length v = A ++ v :: R := by
  simp [List.set_append]
theorem toS_l0 (l : List S53) (hl : l.length ≤ 1048576) (d : Nat) : ∀ (k i : Nat), l.length = i + d → d < k → laws_toRangeS.l0 k l ((l.take i).map cv ++ List.replicate d z43) (i : Int) = some (l.map cv) := by
  induction d with
  | zero =>
    intro k i hi hk
    obtain ⟨k, rfl⟩ : ∃ m, k = m + 1 := ⟨k - 1, by omega⟩
    simp only [laws_toRangeS.l0]
    rw [if_neg (by omega), List.take_of_length_le (by omega)]
    simp
  | succ d ih =>
    intro k i hi hk
    obtain ⟨k, rfl⟩ : ∃ m, k = m + 1 := ⟨k - 1, by omega⟩
    simp only [laws_toRangeS.l0, laws_toRange.f, Option.bind_some]
    rw [if_pos (by omega), if_pos (by omega), if_pos (by simp; omega), ww i (by omega), rd53 (by omega)]
    have e : (((l.take i).map cv ++ List.replicate (d + 1) z43).set ((i : Int).toNat) (⟨l[i].f0, l[i].f1⟩ : S43)) = (l.take (i + 1)).map cv ++ List.replicate d z43 := by
      rw [Int.toNat_natCast, List.replicate_succ]
      have := set_mid ((l.take i).map cv) (List.replicate d z43) z43 (cv l[i])
      rw [show ((l.take i).map cv).length = i by simp; omega] at this
      rw [List.take_succ_eq_append_getElem (by omega)]
      simp only [List.map_append, List.map_cons, List.map_nil, List.append_assoc, List.singleton_append]
      exact this
    rw [e]
    exact ih k (i + 1) (by omega) (by omega)
theorem toS_ok (l : List S53) (hl : l.length ≤ 1048576) (k : Nat) (hk : l.length < k) : laws_toRangeS.f k l = some (l.map cv) := by
  unfold laws_toRangeS.f
  rw [if_pos (by omega), if_pos (by omega)]
  have := toS_l0 l hl l.length k 0 (by omega) hk
  simpa using this
theorem eqS_l0 (l : List S43) (hl : l.length ≤ 2000000) (d : Nat) : ∀ (k i : Nat), l.length = i + d → d < k → laws_eqRangeS.l0 k l l (i : Int) = some true := by
  induction d with
  | zero =>
    intro k i hi hk
    obtain ⟨k, rfl⟩ : ∃ m, k = m + 1 := ⟨k - 1, by omega⟩
    simp only [laws_eqRangeS.l0]
    rw [if_neg (by omega)]
  | succ d ih =>
    intro k i hi hk
    obtain ⟨k, rfl⟩ : ∃ m, k = m + 1 := ⟨k - 1, by omega⟩
    simp only [laws_eqRangeS.l0, laws_eqRange.f, if_true, Option.bind_some]
    rw [if_pos (by omega), if_pos (by omega), if_pos (by omega), ww i (by omega)]
    exact ih k (i + 1) (by omega) (by omega)
theorem eqS_ok (l : List S43) (hl : l.length ≤ 2000000) (k : Nat) (hk : l.length < k) : laws_eqRangeS.f k l l = some true := by
  unfold laws_eqRangeS.f
  rw [if_pos rfl]
  exact eqS_l0 l hl l.length k 0 (by omega) hk
def mk (c : Int) (n : Nat) : List S43 := (List.range n).map (fun (j : Nat) => ⟨c + 2 * (j : Int), c + 2 * (j : Int) + 1⟩)
theorem mk_len (c : Int) (n : Nat) : (mk c n).length = n := by simp [mk]
theorem mk_succ (c : Int) (n : Nat) : mk c (n + 1) = mk c n ++ [⟨c + 2 * (n : Int), c + 2 * (n : Int) + 1⟩] := by simp [mk, List.range_succ]
theorem rd_set43 {l : List S43} {i : Nat} (h : i < l.length) (v : S43) : rd_T43 (l.set i v) (i : Int) = v := by
  rw [rd43 (by simpa using h)]; simp
theorem mark_l0 (l : List S43) (hl : l.length ≤ 2000000) (d : Nat) : ∀ (k i : Nat), l.length = i + d → d < k → laws_markRangeS.l0 k (mk 1 i ++ l.drop i) (1 + 2 * (i : Int)) (i : Int) = some (1 + 2 * (l.length : Int), mk 1 l.length) := by
  induction d with
  | zero =>
    intro k i hi hk
    obtain ⟨k, rfl⟩ : ∃ m, k = m + 1 := ⟨k - 1, by omega⟩
    simp only [laws_markRangeS.l0]
    rw [if_neg (by simp [mk_len]; omega), List.drop_of_length_le (by omega), show i = l.length by omega]
    simp
  | succ d ih =>
    intro k i hi hk
    obtain ⟨k, rfl⟩ : ∃ m, k = m + 1 := ⟨k - 1, by omega⟩
    have hlen : i < (mk 1 i ++ l.drop i).length := by simp [mk_len]; omega
    simp only [laws_markRangeS.l0, Option.bind_some, Int.toNat_natCast]
    rw [if_pos (by omega), if_pos (by omega), ww i (by omega), rd_set43 hlen, List.set_set]
    rw [w64 (x := 1 + 2 * (i : Int) + 1) (by omega) (by omega), w64 (x := 1 + 2 * (i : Int) + 1 + 1) (by omega) (by omega)]
    have e : (mk 1 i ++ l.drop i).set i (⟨1 + 2 * (i : Int), 1 + 2 * (i : Int) + 1⟩ : S43) = mk 1 (i + 1) ++ l.drop (i + 1) := by
      rw [List.drop_eq_getElem_cons (by omega), mk_succ]
      have := set_mid (mk 1 i) (l.drop (i + 1)) l[i] (⟨1 + 2 * (i : Int), 1 + 2 * (i : Int) + 1⟩ : S43)
      rw [mk_len] at this
      rw [this]; simp
    rw [e, show 1 + 2 * (i : Int) + 1 + 1 = 1 + 2 * ((i + 1 : Nat) : Int) by omega]
    exact ih k (i + 1) (by omega) (by omega)
theorem mark_ok (l : List S43) (hl : l.length ≤ 2000000) (k : Nat) (hk : l.length < k) : laws_markRangeS.f k l 1 = some (1 + 2 * (l.length : Int), mk 1 l.length) := by
  have := mark_l0 l hl l.length k 0 (by omega) hk
  simpa [mk, laws_markRangeS.f] using this
theorem held_l0 (n : Nat) (hl : n ≤ 2000000) (d : Nat) : ∀ (k i : Nat), n = i + d → d < k → laws_heldRangeS.l0 k (mk 1 n) (1 + 2 * (i : Int)) (i : Int) = some (1 + 2 * (n : Int)) := by
  induction d with
  | zero =>
    intro k i hi hk
    obtain ⟨k, rfl⟩ : ∃ m, k = m + 1 := ⟨k - 1, by omega⟩
    simp only [laws_heldRangeS.l0]
    rw [if_neg (by simp [mk_len]; omega), show i = n by omega]
  | succ d ih =>
    intro k i hi hk
    obtain ⟨k, rfl⟩ : ∃ m, k = m + 1 := ⟨k - 1, by omega⟩
    have hlen : i < (mk 1 n).length := by rw [mk_len]; omega
    simp only [laws_heldRangeS.l0]
    rw [if_pos (by omega), if_pos (by omega), rd43 hlen, ww i (by omega)]
    have e : (mk 1 n)[i] = ⟨1 + 2 * (i : Int), 1 + 2 * (i : Int) + 1⟩ := by simp [mk]
    rw [e, w64 (x := 1 + 2 * (i : Int) + 1) (by omega) (by omega), w64 (x := 1 + 2 * (i : Int) + 1 + 1) (by omega) (by omega)]
    simp only [if_true]
    rw [show 1 + 2 * (i : Int) + 1 + 1 = 1 + 2 * ((i + 1 : Nat) : Int) by omega]
    exact ih k (i + 1) (by omega) (by omega)
theorem held_ok (n : Nat) (hl : n ≤ 2000000) (k : Nat) (hk : n < k) : laws_heldRangeS.f k (mk 1 n) 1 = some (1 + 2 * (n : Int)) := by
  have := held_l0 n hl n k 0 (by omega) hk
  simpa [laws_heldRangeS.f] using this
def chain : Int → List S43 → Bool
  | _, [] => true
  | b, x :: r => decide (b < x.f0) && (decide (x.f0 < x.f1) && (decide (x.f1 ≤ 1000000) && chain x.f1 r))
def okB (l : List S43) : Bool := decide (l.length ≤ 16) && chain (-1) l
theorem ok_i_l0 (l : List S43) (hl : l.length ≤ 2000000) (d : Nat) : ∀ (k i : Nat) (b : Int), l.length = i + d → d < k → impl_RangesOK.l0 k b l (l.length : Int) (i : Int) = some (chain b (l.drop i)) := by
  induction d with
  | zero =>
    intro k i b hi hk
    obtain ⟨k, rfl⟩ : ∃ m, k = m + 1 := ⟨k - 1, by omega⟩
    simp only [impl_RangesOK.l0]
    rw [if_neg (by omega), List.drop_of_length_le (by omega)]; rfl
  | succ d ih =>
    intro k i b hi hk
    obtain ⟨k, rfl⟩ : ∃ m, k = m + 1 := ⟨k - 1, by omega⟩
    simp only [impl_RangesOK.l0]
    rw [if_pos (by omega), if_pos (by omega), if_pos (by omega), rd43 (by omega), ww i (by omega), List.drop_eq_getElem_cons (by omega)]
    simp only [chain]
    by_cases h1 : l[i].f0 ≤ b
    · rw [if_pos h1, decide_eq_false (by omega)]; rfl
    · rw [if_neg h1, decide_eq_true (by omega)]
      by_cases h2 : l[i].f1 ≤ l[i].f0
      · rw [if_pos h2, decide_eq_false (p := l[i].f0 < l[i].f1) (by omega)]; rfl
      · rw [if_neg h2, decide_eq_true (p := l[i].f0 < l[i].f1) (by omega)]
        by_cases h3 : l[i].f1 > 1000000
        · rw [if_pos h3, decide_eq_false (p := l[i].f1 ≤ 1000000) (by omega)]; rfl
        · rw [if_neg h3, decide_eq_true (p := l[i].f1 ≤ 1000000) (by omega), ih k (i + 1) _ (by omega) (by omega)]; rfl
theorem rok_i (l : List S43) (hl : l.length ≤ 2000000) (k : Nat) (hk : l.length < k) : impl_RangesOK.f k l = some (okB l) := by
  unfold impl_RangesOK.f okB
  by_cases h : (l.length : Int) > 16
  · rw [if_pos h, decide_eq_false (by omega)]; rfl
  · rw [if_neg h, decide_eq_true (by omega)]
    have := ok_i_l0 l hl l.length k 0 (-1) (by omega) hk
    simpa using this
theorem ok_s_l0 (l : List S43) (hl : l.length ≤ 2000000) (d : Nat) : ∀ (k i : Nat) (b : Int) (hi : l.length = i + d), d < k → -1 ≤ b → (i = 0 → b = -1) → (∀ h : 0 < i, b = (l[i - 1]'(by omega)).f1) → spec_RangesOK.l0 k l (i : Int) = some (chain b (l.drop i)) := by
  induction d with
  | zero =>
    intro k i b hi hk _ _ _
    obtain ⟨k, rfl⟩ : ∃ m, k = m + 1 := ⟨k - 1, by omega⟩
    simp only [spec_RangesOK.l0]
    rw [if_neg (by omega), List.drop_of_length_le (by omega)]; rfl
  | succ d ih =>
    intro k i b hi hk hb h0 hp
    obtain ⟨k, rfl⟩ : ∃ m, k = m + 1 := ⟨k - 1, by omega⟩
    simp only [spec_RangesOK.l0, inS, Option.bind_some]
    rw [if_pos (by omega), if_pos (by omega), rd43 (by omega), ww i (by omega), List.drop_eq_getElem_cons (by omega)]
    simp only [chain]
    have next : 0 ≤ l[i].f1 → spec_RangesOK.l0 k l ((i + 1 : Nat) : Int) = some (chain l[i].f1 (l.drop (i + 1))) := fun hf => ih k (i + 1) l[i].f1 (by omega) (by omega) (by omega) (by omega) (fun _ => by simp)
    by_cases h1 : 1 ≤ l[i].f1 ∧ l[i].f1 ≤ 1000000
    · rw [decide_eq_true h1, if_pos rfl, w64 (x := l[i].f1 - 1) (by omega) (by omega)]
      by_cases h2 : 0 ≤ l[i].f0 ∧ l[i].f0 ≤ l[i].f1 - 1
      · rw [decide_eq_true h2, if_pos rfl, decide_eq_true (p := l[i].f0 < l[i].f1) (by omega), decide_eq_true h1.2]
        by_cases hz : i = 0
        · rw [if_neg (by omega), next (by omega), decide_eq_true (p := b < l[i].f0) (by have := h0 hz; omega)]; rfl
        · rw [if_pos (by omega)]
          have e : (i : Int) - 1 = ((i - 1 : Nat) : Int) := by omega
          rw [w64 (x := (i : Int) - 1) (by omega) (by omega), e, if_pos (by omega), if_pos (by omega), rd43 (by omega), ← hp (by omega)]
          by_cases h3 : b ≥ l[i].f0
          · rw [if_pos h3, decide_eq_false (by omega)]; rfl
          · rw [if_neg h3, next (by omega), decide_eq_true (p := b < l[i].f0) (by omega)]; rfl
      · rw [decide_eq_false h2, if_neg (by decide)]
        by_cases h3 : b < l[i].f0
        · rw [decide_eq_false (p := l[i].f0 < l[i].f1) (by omega)]; simp
        · rw [decide_eq_false h3]; rfl
    · rw [decide_eq_false h1, if_neg (by decide)]
      by_cases h3 : b < l[i].f0
      · by_cases h4 : l[i].f0 < l[i].f1
        · rw [decide_eq_false (p := l[i].f1 ≤ 1000000) (by omega)]; simp
        · rw [decide_eq_false h4]; simp
      · rw [decide_eq_false h3]; rfl
theorem rok_s (l : List S43) (hl : l.length ≤ 2000000) (k : Nat) (hk : l.length < k) : spec_RangesOK.f k l = some (okB l) := by
  unfold spec_RangesOK.f okB
  by_cases h : (l.length : Int) > 16
  · rw [if_pos h, decide_eq_false (by omega)]; rfl
  · rw [if_neg h, decide_eq_true (by omega)]
    have := ok_s_l0 l hl l.length k 0 (-1) (by omega) hk (by omega) (by omega) (by omega)
    simpa using this
theorem bounds_i (a b : Int) : impl_boundsOK.f a b = some (decide (0 ≤ a ∧ a ≤ 1000000) && decide (a ≤ b ∧ b ≤ 1000000)) := by
  unfold impl_boundsOK.f
  simp only [inR, Option.bind_some]
  by_cases h : 0 ≤ a ∧ a ≤ 1000000 <;> simp [h]
theorem bounds_s (a b : Int) : spec_l17Bounds.f a b = some (decide (0 ≤ a ∧ a ≤ 1000000) && decide (a ≤ b ∧ b ≤ 1000000)) := by
  unfold spec_l17Bounds.f
  simp only [inS, Option.bind_some]
  by_cases h : 0 ≤ a ∧ a ≤ 1000000 <;> simp [h]
def joinS : Int → Int → List S43 → List S43
  | f, t, [] => [⟨f, t⟩]
  | f, t, x :: r => if x.f0 ≤ t then joinS (min f x.f0) (max t x.f1) r else ⟨f, t⟩ :: x :: r
def addS : Int → Int → List S43 → List S43
  | f, t, [] => [⟨f, t⟩]
  | f, t, x :: r => if x.f1 < f then x :: addS f t r else joinS f t (x :: r)
theorem joinS_len (l : List S43) : ∀ f t, (joinS f t l).length ≤ l.length + 1 := by
  induction l with
  | nil => intro f t; simp [joinS]
  | cons x r ih => intro f t; have := ih (min f x.f0) (max t x.f1); simp only [joinS]; split <;> simp <;> omega
theorem addS_len (l : List S43) : ∀ f t, (addS f t l).length ≤ l.length + 1 := by
  induction l with
  | nil => intro f t; simp [addS]
  | cons x r ih => intro f t; have := ih f t; have := joinS_len (x :: r) f t; simp only [addS]; split <;> simp at * <;> omega
theorem lt16 {n : Nat} (h : n ≤ 3000000) : n < 8796093022208 := by omega
theorem join_s_l1 (l : List S43) (hl : l.length ≤ 1000000) (d : Nat) : ∀ (k i : Nat) (o : List S43) (f t : Int), l.length = i + d → d < k → o.length ≤ i → spec_l17Add.l1 k l o (i : Int) f t = some (o ++ joinS f t (l.drop i)) := by
  induction d with
  | zero =>
    intro k i o f t hi hk ho
    obtain ⟨k, rfl⟩ : ∃ m, k = m + 1 := ⟨k - 1, by omega⟩
    simp only [spec_l17Add.l1, Option.bind_some, Int.toNat_natCast]
    rw [if_neg (by omega), if_pos (lt16 (by omega)), if_pos (by omega), if_pos (by omega), List.drop_of_length_le (by omega), if_pos (lt16 (by simp; omega))]
    simp [joinS]
  | succ d ih =>
    intro k i o f t hi hk ho
    obtain ⟨k, rfl⟩ : ∃ m, k = m + 1 := ⟨k - 1, by omega⟩
    simp only [spec_l17Add.l1, Option.bind_some, Int.toNat_natCast]
    rw [if_pos (by omega), if_pos (by omega), rd43 (by omega), ww i (by omega), mn_eq, mx_eq]
    by_cases h : l[i].f0 ≤ t
    · rw [if_pos h, ih k (i + 1) _ _ _ (by omega) (by omega) (by omega), List.drop_eq_getElem_cons (i := i) (by omega)]
      simp only [joinS]; rw [if_pos h]
    · rw [if_neg h, if_pos (lt16 (by omega)), if_pos (by omega), if_pos (lt16 (by simp; omega)), List.drop_eq_getElem_cons (i := i) (by omega)]
      simp only [joinS]; rw [if_neg h]; simp
theorem add_s_l0 (l : List S43) (hl : l.length ≤ 1000000) (d : Nat) : ∀ (k i : Nat) (o : List S43) (f t : Int), l.length = i + d → d + 2 < k → o.length ≤ i → spec_l17Add.l0 k l o (i : Int) f t = some (o ++ addS f t (l.drop i)) := by
  induction d with
  | zero =>
    intro k i o f t hi hk ho
    obtain ⟨k, rfl⟩ : ∃ m, k = m + 2 := ⟨k - 2, by omega⟩
    simp only [spec_l17Add.l0, spec_l17Add.j1]
    rw [if_neg (by omega), join_s_l1 l hl 0 k i o f t hi (by omega) ho, List.drop_of_length_le (by omega)]
    simp [joinS, addS]
  | succ d ih =>
    intro k i o f t hi hk ho
    obtain ⟨k, rfl⟩ : ∃ m, k = m + 1 := ⟨k - 1, by omega⟩
    simp only [spec_l17Add.l0]
    rw [if_pos (by omega), if_pos (by omega), rd43 (by omega), ww i (by omega)]
    by_cases h : l[i].f1 < f
    · rw [if_pos h, if_pos (lt16 (by omega)), ih k (i + 1) _ _ _ (by omega) (by omega) (by simp; omega), List.drop_eq_getElem_cons (i := i) (by omega)]
      simp only [addS]; rw [if_pos h]; simp
    · rw [if_neg h]
      obtain ⟨k, rfl⟩ : ∃ m, k = m + 1 := ⟨k - 1, by omega⟩
      simp only [spec_l17Add.j1]
      rw [join_s_l1 l hl (d + 1) k i o f t hi (by omega) ho, List.drop_eq_getElem_cons (i := i) (by omega)]
      simp only [addS]; rw [if_neg h]
def fin (r : List S43) : Option (List S43 × Int) := if (r.length : Int) > 16 then (some (([] : List (S43)), 7)) else (some (r, 0))
theorem add_i_end (l : List S43) (hl : l.length ≤ 1000000) (k i : Nat) (o q : List S43) (f t : Int) (hi : l.length = i) (ho : o.length ≤ i) (hq : q.length ≤ i) : impl_RangesAdd.l0 (k + 1) f t o q l (l.length : Int) (i : Int) = fin (o ++ (⟨f, t⟩ :: q)) := by
  simp only [impl_RangesAdd.l0, Option.bind_some]
  rw [if_neg (by omega), if_pos (lt16 (by omega)), if_pos (lt16 (by simp; omega))]
  unfold fin
  simp
theorem add_i3 (l : List S43) (hl : l.length ≤ 1000000) (d : Nat) : ∀ (k i : Nat) (o q : List S43) (f t b : Int), l.length = i + d → d < k → o.length ≤ i → q.length ≤ i → chain b (l.drop i) = true → t ≤ b → f ≤ b →
    impl_RangesAdd.l0 k f t o q l (l.length : Int) (i : Int) = fin (o ++ (⟨f, t⟩ :: (q ++ l.drop i))) := by
  induction d with
  | zero =>
    intro k i o q f t b hi hk ho hq hc h1 h2
    obtain ⟨k, rfl⟩ : ∃ m, k = m + 1 := ⟨k - 1, by omega⟩
    rw [add_i_end l hl k i o q f t (by omega) ho hq, List.drop_of_length_le (by omega)]; simp
  | succ d ih =>
    intro k i o q f t b hi hk ho hq hc h1 h2
    obtain ⟨k, rfl⟩ : ∃ m, k = m + 1 := ⟨k - 1, by omega⟩
    rw [List.drop_eq_getElem_cons (i := i) (by omega)] at hc ⊢
    simp only [chain, Bool.and_eq_true, decide_eq_true_eq] at hc
    simp only [impl_RangesAdd.l0]
    rw [if_pos (by omega), if_pos (by omega), if_pos (by omega), rd43 (by omega), ww i (by omega), if_neg (by omega), if_pos (by omega), if_pos (lt16 (by omega)), ih k (i + 1) _ _ _ _ l[i].f1 (by omega) (by omega) (by omega) (by simp; omega) hc.2.2.2 (by omega) (by omega)]
    simp only [List.append_assoc, List.singleton_append, List.cons_append, List.nil_append]
theorem add_i2 (l : List S43) (hl : l.length ≤ 1000000) (d : Nat) : ∀ (k i : Nat) (o : List S43) (f t b : Int), l.length = i + d → d < k → o.length ≤ i → chain b (l.drop i) = true → f ≤ b →
    impl_RangesAdd.l0 k f t o [] l (l.length : Int) (i : Int) = fin (o ++ joinS f t (l.drop i)) := by
  induction d with
  | zero =>
    intro k i o f t b hi hk ho hc h2
    obtain ⟨k, rfl⟩ : ∃ m, k = m + 1 := ⟨k - 1, by omega⟩
    rw [add_i_end l hl k i o [] f t (by omega) ho (by simp), List.drop_of_length_le (by omega)]; simp [joinS]
  | succ d ih =>
    intro k i o f t b hi hk ho hc h2
    obtain ⟨k, rfl⟩ : ∃ m, k = m + 1 := ⟨k - 1, by omega⟩
    rw [List.drop_eq_getElem_cons (i := i) (by omega)] at hc ⊢
    simp only [chain, Bool.and_eq_true, decide_eq_true_eq] at hc
    simp only [impl_RangesAdd.l0, joinS]
    rw [if_pos (by omega), if_pos (by omega), if_pos (by omega), rd43 (by omega), ww i (by omega), if_neg (by omega), mn_eq, mx_eq]
    by_cases h : l[i].f0 ≤ t
    · rw [if_pos h, if_neg (by omega), ih k (i + 1) _ _ _ l[i].f1 (by omega) (by omega) (by omega) hc.2.2.2 (by omega)]
    · rw [if_neg h, if_pos (by omega), if_pos (lt16 (by simp)), add_i3 l hl d k (i + 1) _ _ _ _ l[i].f1 (by omega) (by omega) (by omega) (by simp) hc.2.2.2 (by omega) (by omega)]
      simp only [List.append_assoc, List.singleton_append, List.cons_append, List.nil_append]
theorem add_i1 (l : List S43) (hl : l.length ≤ 1000000) (d : Nat) : ∀ (k i : Nat) (o : List S43) (f t b : Int), l.length = i + d → d < k → o.length ≤ i → chain b (l.drop i) = true →
    impl_RangesAdd.l0 k f t o [] l (l.length : Int) (i : Int) = fin (o ++ addS f t (l.drop i)) := by
  induction d with
  | zero =>
    intro k i o f t b hi hk ho hc
    obtain ⟨k, rfl⟩ : ∃ m, k = m + 1 := ⟨k - 1, by omega⟩
    rw [add_i_end l hl k i o [] f t (by omega) ho (by simp), List.drop_of_length_le (by omega)]; simp [addS]
  | succ d ih =>
    intro k i o f t b hi hk ho hc
    obtain ⟨k, rfl⟩ : ∃ m, k = m + 1 := ⟨k - 1, by omega⟩
    rw [List.drop_eq_getElem_cons (i := i) (by omega)] at hc ⊢
    simp only [chain, Bool.and_eq_true, decide_eq_true_eq] at hc
    simp only [impl_RangesAdd.l0, addS]
    rw [if_pos (by omega), if_pos (by omega), if_pos (by omega), rd43 (by omega), ww i (by omega), mn_eq, mx_eq]
    by_cases h : l[i].f1 < f
    · rw [if_pos h, if_pos h, if_pos (lt16 (by omega)), ih k (i + 1) _ _ _ l[i].f1 (by omega) (by omega) (by simp; omega) hc.2.2.2]; simp
    · rw [if_neg h, if_neg h]
      simp only [joinS]
      by_cases h2 : l[i].f0 ≤ t
      · rw [if_pos h2, if_neg (by omega), add_i2 l hl d k (i + 1) _ _ _ l[i].f1 (by omega) (by omega) (by omega) hc.2.2.2 (by omega)]
      · rw [if_neg h2, if_pos (by omega), if_pos (lt16 (by simp)), add_i3 l hl d k (i + 1) _ _ _ _ l[i].f1 (by omega) (by omega) (by omega) (by simp) hc.2.2.2 (by omega) (by omega)]
        simp only [List.append_assoc, List.singleton_append, List.cons_append, List.nil_append]
theorem okB_chain {l : List S43} (h : okB l = true) : l.length ≤ 16 ∧ chain (-1) l = true := by
  simp only [okB, Bool.and_eq_true, decide_eq_true_eq] at h; exact h
/-- What both come to for right ranges and bounds. -/
def addR (l : List S43) (a b : Int) : List S43 := if a = b then l else addS a b l
theorem add_both' (l : List S43) (a b : Int) (hl : l.length ≤ 1000000) (hq : okB l = true) (h2 : (decide (0 ≤ a ∧ a ≤ 1000000) && decide (a ≤ b ∧ b ≤ 1000000)) = true) (k : Nat) (hk : l.length + 3 < k) :
    impl_RangesAdd.f k l a b = fin (addR l a b) ∧ spec_RangesAdd.f k l a b = fin (addR l a b) := by
  have hc := okB_chain hq
  have h : ¬ (l.length : Int) > 4096 := by omega
  have e1 := add_i1 l hl l.length k 0 [] a b (-1) (by omega) (by omega) (by simp) (by simpa using hc.2)
  have e2 := add_s_l0 l hl l.length k 0 [] a b (by omega) (by omega) (by simp)
  simp only [List.nil_append, List.drop_zero] at e1 e2
  have hL := addS_len l a b
  simp only [impl_RangesAdd.f, spec_RangesAdd.f, if_neg h, rok_i l (by omega) k (by omega), rok_s l (by omega) k (by omega), hq, bounds_i, bounds_s, h2, Option.bind_some, if_true, spec_l17Add.f, List.nil_append, List.length_nil, Nat.zero_add, addR]
  by_cases hab : a = b
  · rw [if_pos hab, if_pos hab, if_pos hab, if_pos (lt16 (by omega))]
    simp only [Option.bind_some, fin]
    rw [if_neg (by omega), if_neg (by omega), if_pos (lt16 (by omega))]
    exact ⟨rfl, rfl⟩
  · rw [if_neg hab, if_neg hab, if_neg hab]
    refine ⟨e1, ?_⟩
    have e3 : spec_l17Add.l0 k l [] 0 a b = some (addS a b l) := e2
    rw [e3]
    simp only [Option.bind_some, fin]
    by_cases h3 : ((addS a b l).length : Int) > 16
    · rw [if_pos h3, if_pos h3]
    · rw [if_neg h3, if_neg h3, if_pos (lt16 (by omega))]
theorem add_both (l : List S43) (a b : Int) (hl : l.length ≤ 1048576) : ∃ (o : List S43) (c : Int), o.length ≤ l.length + 1 ∧ ∀ k, 1048590 < k → impl_RangesAdd.f k l a b = some (o, c) ∧ spec_RangesAdd.f k l a b = some (o, c) := by
  by_cases h : (l.length : Int) > 4096
  · exact ⟨[], 2, by simp, fun k hk => by simp [impl_RangesAdd.f, spec_RangesAdd.f, h]⟩
  cases hq : okB l with
  | false => exact ⟨[], 1, by simp, fun k hk => by simp [impl_RangesAdd.f, spec_RangesAdd.f, h, rok_i l (by omega) k (by omega), rok_s l (by omega) k (by omega), hq]⟩
  | true =>
    cases h2 : (decide (0 ≤ a ∧ a ≤ 1000000) && decide (a ≤ b ∧ b ≤ 1000000)) with
    | true =>
      by_cases h3 : ((addR l a b).length : Int) > 16
      · refine ⟨[], 7, by simp, fun k hk => ?_⟩
        have := add_both' l a b (by omega) hq h2 k (by omega)
        simp only [fin, if_pos h3] at this
        exact this
      · refine ⟨addR l a b, 0, ?_, fun k hk => ?_⟩
        · have := addS_len l a b
          unfold addR; split <;> omega
        · have := add_both' l a b (by omega) hq h2 k (by omega)
          simp only [fin, if_neg h3] at this
          exact this
    | false => exact ⟨[], 4, by simp, fun k hk => by simp only [impl_RangesAdd.f, spec_RangesAdd.f, if_neg h, rok_i l (by omega) k (by omega), rok_s l (by omega) k (by omega), hq, bounds_i, bounds_s, h2, Option.bind_some, if_true, Bool.false_eq_true, if_false, and_self]⟩
theorem FnExactRangesAdd : fnExactRangesAdd.Say := by
  intro l a b ⟨hm, hg⟩ _ _
  obtain ⟨K, hK⟩ : ∃ K : Nat, K = 2000000 := ⟨_, rfl⟩
  refine ⟨K + 3, ?_⟩
  unfold maxLen at hm
  simp only [laws_FnExactRangesAdd.f, laws_szRangeS.f]
  rw [w64 (x := 1048576 - (l.length : Int)) (by omega) (by omega)]
  by_cases c : 1048576 - (l.length : Int) < 0
  · rw [if_pos c]; simp
  rw [if_neg c]
  simp only [Option.bind_some]
  have hl : (l.map cv).length ≤ 1048576 := by simp; omega
  obtain ⟨o, co, ho, hb⟩ := add_both (l.map cv) a b (by omega)
  have T : ∀ j, 1048576 < j → laws_toRangeS.f j l = some (l.map cv) := fun j hj => toS_ok l (by omega) j (by omega)
  have E0 : ∀ j, 1048596 < j → laws_eqRangeS.f j (l.map cv) (l.map cv) = some true := fun j hj => eqS_ok _ (by omega) j (by omega)
  have E1 : ∀ j, 1048596 < j → laws_eqRangeS.f j o o = some true := fun j hj => eqS_ok _ (by omega) j (by omega)
  have M0 : ∀ j, 1048596 < j → laws_markRangeS.f j (l.map cv) 1 = some (1 + 2 * ((l.map cv).length : Int), mk 1 (l.map cv).length) := fun j hj => mark_ok _ (by omega) j (by omega)
  have M1 : ∀ j, 1048596 < j → laws_markRangeS.f j o 1 = some (1 + 2 * (o.length : Int), mk 1 o.length) := fun j hj => mark_ok _ (by omega) j (by omega)
  have H1 : ∀ j, 1048596 < j → laws_heldRangeS.f j (mk 1 o.length) 1 = some (1 + 2 * (o.length : Int)) := fun j hj => held_ok _ (by omega) j (by omega)
  rw [if_neg c, T (K + 3) (by omega)]
  simp only [Option.bind_some]
  rw [(hb (K + 3) (by omega)).1, (hb (K + 3) (by omega)).2]
  simp only [Option.bind_some]
  rw [E1 (K + 3) (by omega)]
  simp only [Option.bind_some, if_true, laws_FnExactRangesAdd.j0, bne_self_eq_false, Bool.false_eq_true, if_false]
  rw [T (K + 2) (by omega)]
  simp only [Option.bind_some]
  rw [E0 (K + 2) (by omega)]
  simp only [Option.bind_some, if_true]
  rw [M0 (K + 2) (by omega)]
  simp only [Option.bind_some]
  rw [if_neg (by omega), E1 (K + 2) (by omega)]
  simp only [Option.bind_some, if_true, laws_FnExactRangesAdd.j1, bne_self_eq_false, Bool.false_eq_true, if_false]
  rw [M1 (K + 1) (by omega)]
  simp only [Option.bind_some]
  rw [H1 (K + 1) (by omega)]
  simp only [Option.bind_some]
  rw [if_neg (by omega)]
  simp only [if_true]
  rw [T (K + 1) (by omega)]
  simp only [Option.bind_some]
  rw [(hb (K + 1) (by omega)).1]
  simp only [Option.bind_some]
  rw [E1 (K + 1) (by omega)]
  simp only [Option.bind_some, if_true, laws_FnExactRangesAdd.j2, bne_self_eq_false, Bool.false_eq_true, if_false]
  rw [H1 K (by omega)]
  simp only [Option.bind_some]
  rw [if_neg (by omega)]
  simp
end Go.Proofs.Ytelcclkedpafaaa.Pure
namespace Go.Proofs.Ytelcclkedpafaaa
/-- The row. -/
theorem fnExactRangesAdd_holds : Rows.FnExactRangesAddSaid := fnExactRangesAdd.row_of Pure.FnExactRangesAdd
end Go.Proofs.Ytelcclkedpafaaa
