/- The program's ranges told and the reference's are the same ranges and code, in new memory, for all lists of ranges and ints. -/
import Derived.Test.YtelcclkedpafaaaAid
import Derived.Test.YtelcclkedpafaaaSayFnExactSackBlocks
namespace Go.Proofs.Ytelcclkedpafaaa.Pure
set_option linter.unusedSimpArgs false
set_option linter.unusedVariables false
open Go.RowKit Go.Proofs.Ytelcclkedpafaaa.PFnExactSackBlocks Go.Proofs.YtelcclkedpafaaaW.PrintWords Go.Proofs.YtelcclkedpafaaaW.PrintLast Go.Proofs.YtelcclkedpafaaaW.PrintMore Go.Proofs.Ytelcclkedpafaaa.Aid
theorem inS (a b c : Int) : spec_l01In.f a b c = some (decide (b ≤ a ∧ a ≤ c)) := by
  unfold spec_l01In.f
  by_cases h : a ≥ b
  · rw [if_pos h]; simp [show b ≤ a from h]
  · rw [if_neg h]; simp; omega
theorem ww (i : Nat) (h : i < 4000000000000000000) : wrap64 ((i : Int) + 1) = ((i + 1 : Nat) : Int) := by rw [w64 (by omega) (by omega)]; simp
def cv (x : S53) : S43 := ⟨x.f0, x.f1⟩
theorem rd43 {l : List S43} {i : Nat} (h : i < l.length) : rd_T43 l (i : Int) = l[i] := by simp [rd_T43, List.getD_eq_getElem?_getD, h]
theorem rd53 {l : List S53} {i : Nat} (h : i < l.length) : rd_T53 l (i : Int) = l[i] := by simp [rd_T53, List.getD_eq_getElem?_getD, h]
theorem set_mid {α : Type} (A R : List α) (z v : α) : (A ++ z :: R).set A.length v = A ++ v :: R := by
  simp [List.set_append]
theorem toS_l0 (l : List S53) (hl : l.length ≤ 1048576) (d : Nat) : ∀ (k i : Nat), l.length = i + d → d < k → laws_toRangeS.l0 k l ((l.take i).map cv ++ List.replicate d z43) (i : Int) = some (l.map cv) := by
  induction d with
  | zero =>
    intro k i hi hk
    obtain ⟨k, rfl⟩ : ∃ m, k = m + 1 := ⟨k - 1, by omega⟩
    simp only [laws_toRangeS.l0]
    rw [if_neg (by omega), List.take_of_length_le (by omega)]
    simp
  | succ d ih =>
    intro k i hi hk
    obtain ⟨k, rfl⟩ : ∃ m, k = m + 1 := ⟨k - 1, by omega⟩
    simp only [laws_toRangeS.l0, laws_toRange.f, Option.bind_some]
    rw [if_pos (by omega), if_pos (by omega), if_pos (by simp; omega), ww i (by omega), rd53 (by omega)]
    have e : (((l.take i).map cv ++ List.replicate (d + 1) z43).set ((i : Int).toNat) (⟨l[i].f0, l[i].f1⟩ : S43)) = (l.take (i + 1)).map cv ++ List.replicate d z43 := by
      rw [Int.toNat_natCast, List.replicate_succ]
      have := set_mid ((l.take i).map cv) (List.replicate d z43) z43 (cv l[i])
      rw [show ((l.take i).map cv).length = i by simp; omega] at this
      rw [List.take_succ_eq_append_getElem (by omega)]
      simp only [List.map_append, List.map_cons, List.map_nil, List.append_assoc, List.singleton_append]
      exact this
    rw [e]
    exact ih k (i + 1) (by omega) (by omega)
theorem toS_ok (l : List S53) (hl : l.length ≤ 1048576) (k : Nat) (hk : l.length < k) : laws_toRangeS.f k l = some (l.map cv) := by
  unfold laws_toRangeS.f
  rw [if_pos (by omega), if_pos (by omega)]
  have := toS_l0 l hl l.length k 0 (by omega) hk
  simpa using this
theorem eqS_l0 (l : List S43) (hl : l.length ≤ 2000000) (d : Nat) : ∀ (k i : Nat), l.length = i + d → d < k → laws_eqRangeS.l0 k l l (i : Int) = some true := by
  induction d with
  | zero =>
    intro k i hi hk
    obtain ⟨k, rfl⟩ : ∃ m, k = m + 1 := ⟨k - 1, by omega⟩
    simp only [laws_eqRangeS.l0]
    rw [if_neg (by omega)]
  | succ d ih =>
    intro k i hi hk
    obtain ⟨k, rfl⟩ : ∃ m, k = m + 1 := ⟨k - 1, by omega⟩
    simp only [laws_eqRangeS.l0, laws_eqRange.f, if_true, Option.bind_some]
    rw [if_pos (by omega), if_pos (by omega), if_pos (by omega), ww i (by omega)]
    exact ih k (i + 1) (by omega) (by omega)
theorem eqS_ok (l : List S43) (hl : l.length ≤ 2000000) (k : Nat) (hk : l.length < k) : laws_eqRangeS.f k l l = some true := by
  unfold laws_eqRangeS.f
  rw [if_pos rfl]
  exact eqS_l0 l hl l.length k 0 (by omega) hk
def mk (c : Int) (n : Nat) : List S43 := (List.range n).map (fun (j : Nat) => ⟨c + 2 * (j : Int), c + 2 * (j : Int) + 1⟩)
theorem mk_len (c : Int) (n : Nat) : (mk c n).length = n := by simp [mk]
theorem mk_succ (c : Int) (n : Nat) : mk c (n + 1) = mk c n ++ [⟨c + 2 * (n : Int), c + 2 * (n : Int) + 1⟩] := by simp [mk, List.range_succ]
theorem rd_set43 {l : List S43} {i : Nat} (h : i < l.length) (v : S43) : rd_T43 (l.set i v) (i : Int) = v := by
  rw [rd43 (by simpa using h)]; simp
theorem mark_l0 (l : List S43) (hl : l.length ≤ 2000000) (d : Nat) : ∀ (k i : Nat), l.length = i + d → d < k → laws_markRangeS.l0 k (mk 1 i ++ l.drop i) (1 + 2 * (i : Int)) (i : Int) = some (1 + 2 * (l.length : Int), mk 1 l.length) := by
  induction d with
  | zero =>
    intro k i hi hk
    obtain ⟨k, rfl⟩ : ∃ m, k = m + 1 := ⟨k - 1, by omega⟩
    simp only [laws_markRangeS.l0]
    rw [if_neg (by simp [mk_len]; omega), List.drop_of_length_le (by omega), show i = l.length by omega]
    simp
  | succ d ih =>
    intro k i hi hk
    obtain ⟨k, rfl⟩ : ∃ m, k = m + 1 := ⟨k - 1, by omega⟩
    have hlen : i < (mk 1 i ++ l.drop i).length := by simp [mk_len]; omega
    simp only [laws_markRangeS.l0, Option.bind_some, Int.toNat_natCast]
    rw [if_pos (by omega), if_pos (by omega), ww i (by omega), rd_set43 hlen, List.set_set]
    rw [w64 (x := 1 + 2 * (i : Int) + 1) (by omega) (by omega), w64 (x := 1 + 2 * (i : Int) + 1 + 1) (by omega) (by omega)]
    have e : (mk 1 i ++ l.drop i).set i (⟨1 + 2 * (i : Int), 1 + 2 * (i : Int) + 1⟩ : S43) = mk 1 (i + 1) ++ l.drop (i + 1) := by
      rw [List.drop_eq_getElem_cons (by omega), mk_succ]
      have := set_mid (mk 1 i) (l.drop (i + 1)) l[i] (⟨1 + 2 * (i : Int), 1 + 2 * (i : Int) + 1⟩ : S43)
      rw [mk_len] at this
      rw [this]; simp
    rw [e, show 1 + 2 * (i : Int) + 1 + 1 = 1 + 2 * ((i + 1 : Nat) : Int) by omega]
    exact ih k (i + 1) (by omega) (by omega)
theorem mark_ok (l : List S43) (hl : l.length ≤ 2000000) (k : Nat) (hk : l.length < k) : laws_markRangeS.f k l 1 = some (1 + 2 * (l.length : Int), mk 1 l.length) := by
  have := mark_l0 l hl l.length k 0 (by omega) hk
  simpa [mk, laws_markRangeS.f] using this
theorem held_l0 (n : Nat) (hl : n ≤ 2000000) (d : Nat) : ∀ (k i : Nat), n = i + d → d < k → laws_heldRangeS.l0 k (mk 1 n) (1 + 2 * (i : Int)) (i : Int) = some (1 + 2 * (n : Int)) := by
  induction d with
  | zero =>
    intro k i hi hk
    obtain ⟨k, rfl⟩ : ∃ m, k = m + 1 := ⟨k - 1, by omega⟩
    simp only [laws_heldRangeS.l0]
    rw [if_neg (by simp [mk_len]; omega), show i = n by omega]
  | succ d ih =>
    intro k i hi hk
    obtain ⟨k, rfl⟩ : ∃ m, k = m + 1 := ⟨k - 1, by omega⟩
    have hlen : i < (mk 1 n).length := by rw [mk_len]; omega
    simp only [laws_heldRangeS.l0]
    rw [if_pos (by omega), if_pos (by omega), rd43 hlen, ww i (by omega)]
    have e : (mk 1 n)[i] = ⟨1 + 2 * (i : Int), 1 + 2 * (i : Int) + 1⟩ := by simp [mk]
    rw [e, w64 (x := 1 + 2 * (i : Int) + 1) (by omega) (by omega), w64 (x := 1 + 2 * (i : Int) + 1 + 1) (by omega) (by omega)]
    simp only [if_true]
    rw [show 1 + 2 * (i : Int) + 1 + 1 = 1 + 2 * ((i + 1 : Nat) : Int) by omega]
    exact ih k (i + 1) (by omega) (by omega)
theorem held_ok (n : Nat) (hl : n ≤ 2000000) (k : Nat) (hk : n < k) : laws_heldRangeS.f k (mk 1 n) 1 = some (1 + 2 * (n : Int)) := by
  have := held_l0 n hl n k 0 (by omega) hk
  simpa [laws_heldRangeS.f] using this
def chain : Int → List S43 → Bool
  | _, [] => true
  | b, x :: r => decide (b < x.f0) && (decide (x.f0 < x.f1) && (decide (x.f1 ≤ 1000000) && chain x.f1 r))
def okB (l : List S43) : Bool := decide (l.length ≤ 16) && chain (-1) l
theorem ok_i_l0 (l : List S43) (hl : l.length ≤ 2000000) (d : Nat) : ∀ (k i : Nat) (b : Int), l.length = i + d → d < k → impl_RangesOK.l0 k b l (l.length : Int) (i : Int) = some (chain b (l.drop i)) := by
  induction d with
  | zero =>
    intro k i b hi hk
    obtain ⟨k, rfl⟩ : ∃ m, k = m + 1 := ⟨k - 1, by omega⟩
    simp only [impl_RangesOK.l0]
    rw [if_neg (by omega), List.drop_of_length_le (by omega)]; rfl
  | succ d ih =>
    intro k i b hi hk
    obtain ⟨k, rfl⟩ : ∃ m, k = m + 1 := ⟨k - 1, by omega⟩
    simp only [impl_RangesOK.l0]
    rw [if_pos (by omega), if_pos (by omega), if_pos (by omega), rd43 (by omega), ww i (by omega), List.drop_eq_getElem_cons (by omega)]
    simp only [chain]
    by_cases h1 : l[i].f0 ≤ b
    · rw [if_pos h1, decide_eq_false (by omega)]; rfl
    · rw [if_neg h1, decide_eq_true (by omega)]
      by_cases h2 : l[i].f1 ≤ l[i].f0
      · rw [if_pos h2, decide_eq_false (p := l[i].f0 < l[i].f1) (by omega)]; rfl
      · rw [if_neg h2, decide_eq_true (p := l[i].f0 < l[i].f1) (by omega)]
        by_cases h3 : l[i].f1 > 1000000
        · rw [if_pos h3, decide_eq_false (p := l[i].f1 ≤ 1000000) (by omega)]; rfl
        · rw [if_neg h3, decide_eq_true (p := l[i].f1 ≤ 1000000) (by omega), ih k (i + 1) _ (by omega) (by omega)]; rfl
theorem rok_i (l : List S43) (hl : l.length ≤ 2000000) (k : Nat) (hk : l.length < k) : impl_RangesOK.f k l = some (okB l) := by
  unfold impl_RangesOK.f okB
  by_cases h : (l.length : Int) > 16
  · rw [if_pos h, decide_eq_false (by omega)]; rfl
  · rw [if_neg h, decide_eq_true (by omega)]
    have := ok_i_l0 l hl l.length k 0 (-1) (by omega) hk
    simpa using this
theorem ok_s_l0 (l : List S43) (hl : l.length ≤ 2000000) (d : Nat) : ∀ (k i : Nat) (b : Int) (hi : l.length = i + d), d < k → -1 ≤ b → (i = 0 → b = -1) → (∀ h : 0 < i, b = (l[i - 1]'(by omega)).f1) → spec_RangesOK.l0 k l (i : Int) = some (chain b (l.drop i)) := by
  induction d with
  | zero =>
    intro k i b hi hk _ _ _
    obtain ⟨k, rfl⟩ : ∃ m, k = m + 1 := ⟨k - 1, by omega⟩
    simp only [spec_RangesOK.l0]
    rw [if_neg (by omega), List.drop_of_length_le (by omega)]; rfl
  | succ d ih =>
    intro k i b hi hk hb h0 hp
    obtain ⟨k, rfl⟩ : ∃ m, k = m + 1 := ⟨k - 1, by omega⟩
    simp only [spec_RangesOK.l0, inS, Option.bind_some]
    rw [if_pos (by omega), if_pos (by omega), rd43 (by omega), ww i (by omega), List.drop_eq_getElem_cons (by omega)]
    simp only [chain]
    have next : 0 ≤ l[i].f1 → spec_RangesOK.l0 k l ((i + 1 : Nat) : Int) = some (chain l[i].f1 (l.drop (i + 1))) := fun hf => ih k (i + 1) l[i].f1 (by omega) (by omega) (by omega) (by omega) (fun _ => by simp)
    by_cases h1 : 1 ≤ l[i].f1 ∧ l[i].f1 ≤ 1000000
    · rw [decide_eq_true h1, if_pos rfl, w64 (x := l[i].f1 - 1) (by omega) (by omega)]
      by_cases h2 : 0 ≤ l[i].f0 ∧ l[i].f0 ≤ l[i].f1 - 1
      · rw [decide_eq_true h2, if_pos rfl, decide_eq_true (p := l[i].f0 < l[i].f1) (by omega), decide_eq_true h1.2]
        by_cases hz : i = 0
        · rw [if_neg (by omega), next (by omega), decide_eq_true (p := b < l[i].f0) (by have := h0 hz; omega)]; rfl
        · rw [if_pos (by omega)]
          have e : (i : Int) - 1 = ((i - 1 : Nat) : Int) := by omega
          rw [w64 (x := (i : Int) - 1) (by omega) (by omega), e, if_pos (by omega), if_pos (by omega), rd43 (by omega), ← hp (by omega)]
          by_cases h3 : b ≥ l[i].f0
          · rw [if_pos h3, decide_eq_false (by omega)]; rfl
          · rw [if_neg h3, next (by omega), decide_eq_true (p := b < l[i].f0) (by omega)]; rfl
      · rw [decide_eq_false h2, if_neg (by decide)]
        by_cases h3 : b < l[i].f0
        · rw [decide_eq_false (p := l[i].f0 < l[i].f1) (by omega)]; simp
        · rw [decide_eq_false h3]; rfl
    · rw [decide_eq_false h1, if_neg (by decide)]
      by_cases h3 : b < l[i].f0
      · by_cases h4 : l[i].f0 < l[i].f1
        · rw [decide_eq_false (p := l[i].f1 ≤ 1000000) (by omega)]; simp
        · rw [decide_eq_false h4]; simp
      · rw [decide_eq_false h3]; rfl
theorem rok_s (l : List S43) (hl : l.length ≤ 2000000) (k : Nat) (hk : l.length < k) : spec_RangesOK.f k l = some (okB l) := by
  unfold spec_RangesOK.f okB
  by_cases h : (l.length : Int) > 16
  · rw [if_pos h, decide_eq_false (by omega)]; rfl
  · rw [if_neg h, decide_eq_true (by omega)]
    have := ok_s_l0 l hl l.length k 0 (-1) (by omega) hk (by omega) (by omega) (by omega)
    simpa using this
theorem rdi {l : List Int} {i : Nat} (h : i < l.length) : rd l (i : Int) = l[i] := by simp [rd, List.getD_eq_getElem?_getD, h]
theorem toI_l0 (l : List Int) (hl : l.length ≤ 2000000) (d : Nat) : ∀ (k i : Nat), l.length = i + d → d < k → laws_toIntS.l0 k l (l.take i ++ List.replicate d 0) (i : Int) = some l := by
  induction d with
  | zero =>
    intro k i hi hk
    obtain ⟨k, rfl⟩ : ∃ m, k = m + 1 := ⟨k - 1, by omega⟩
    simp only [laws_toIntS.l0]
    rw [if_neg (by omega), List.take_of_length_le (by omega)]
    simp
  | succ d ih =>
    intro k i hi hk
    obtain ⟨k, rfl⟩ : ∃ m, k = m + 1 := ⟨k - 1, by omega⟩
    simp only [laws_toIntS.l0]
    rw [if_pos (by omega), if_pos (by omega), if_pos (by simp; omega), ww i (by omega), rdi (by omega)]
    have e : ((l.take i ++ List.replicate (d + 1) 0).set ((i : Int).toNat) l[i]) = l.take (i + 1) ++ List.replicate d 0 := by
      rw [Int.toNat_natCast, List.replicate_succ]
      have := set_mid (l.take i) (List.replicate d 0) 0 l[i]
      rw [show (l.take i).length = i by simp; omega] at this
      rw [List.take_succ_eq_append_getElem (by omega), List.append_assoc, List.singleton_append]
      exact this
    rw [e]
    exact ih k (i + 1) (by omega) (by omega)
theorem toI_ok (l : List Int) (hl : l.length ≤ 2000000) (k : Nat) (hk : l.length < k) : laws_toIntS.f k l = some l := by
  unfold laws_toIntS.f
  rw [if_pos (by omega), if_pos (by omega)]
  have := toI_l0 l hl l.length k 0 (by omega) hk
  simpa using this
theorem eqI_l0 (l : List Int) (hl : l.length ≤ 2000000) (d : Nat) : ∀ (k i : Nat), l.length = i + d → d < k → laws_eqIntS.l0 k l l (i : Int) = some true := by
  induction d with
  | zero =>
    intro k i hi hk
    obtain ⟨k, rfl⟩ : ∃ m, k = m + 1 := ⟨k - 1, by omega⟩
    simp only [laws_eqIntS.l0]
    rw [if_neg (by omega)]
  | succ d ih =>
    intro k i hi hk
    obtain ⟨k, rfl⟩ : ∃ m, k = m + 1 := ⟨k - 1, by omega⟩
    simp only [laws_eqIntS.l0, if_true]
    rw [if_pos (by omega), if_pos (by omega), if_pos (by omega), ww i (by omega)]
    exact ih k (i + 1) (by omega) (by omega)
theorem eqI_ok (l : List Int) (hl : l.length ≤ 2000000) (k : Nat) (hk : l.length < k) : laws_eqIntS.f k l l = some true := by
  unfold laws_eqIntS.f
  rw [if_pos rfl]
  exact eqI_l0 l hl l.length k 0 (by omega) hk
def mki (c : Int) (n : Nat) : List Int := (List.range n).map (fun (j : Nat) => c + (j : Int))
theorem mki_len (c : Int) (n : Nat) : (mki c n).length = n := by simp [mki]
theorem mki_succ (c : Int) (n : Nat) : mki c (n + 1) = mki c n ++ [c + (n : Int)] := by simp [mki, List.range_succ]
theorem markI_l0 (l : List Int) (hl : l.length ≤ 2000000) (c : Int) (c0 : 0 ≤ c) (c1 : c ≤ 1000000000) (d : Nat) : ∀ (k i : Nat), l.length = i + d → d < k → laws_markIntS.l0 k (mki c i ++ l.drop i) (c + (i : Int)) (i : Int) = some (c + (l.length : Int), mki c l.length) := by
  induction d with
  | zero =>
    intro k i hi hk
    obtain ⟨k, rfl⟩ : ∃ m, k = m + 1 := ⟨k - 1, by omega⟩
    simp only [laws_markIntS.l0]
    rw [if_neg (by simp [mki_len]; omega), List.drop_of_length_le (by omega), show i = l.length by omega]
    simp
  | succ d ih =>
    intro k i hi hk
    obtain ⟨k, rfl⟩ : ∃ m, k = m + 1 := ⟨k - 1, by omega⟩
    have hlen : i < (mki c i ++ l.drop i).length := by simp [mki_len]; omega
    simp only [laws_markIntS.l0, Int.toNat_natCast]
    rw [if_pos (by omega), if_pos (by omega), ww i (by omega), w64 (x := c + (i : Int) + 1) (by omega) (by omega)]
    have e : (mki c i ++ l.drop i).set i (c + (i : Int)) = mki c (i + 1) ++ l.drop (i + 1) := by
      rw [List.drop_eq_getElem_cons (by omega), mki_succ]
      have := set_mid (mki c i) (l.drop (i + 1)) l[i] (c + (i : Int))
      rw [mki_len] at this
      rw [this]; simp
    rw [e, show c + (i : Int) + 1 = c + ((i + 1 : Nat) : Int) by omega]
    exact ih k (i + 1) (by omega) (by omega)
theorem markI_ok (l : List Int) (hl : l.length ≤ 2000000) (c : Int) (c0 : 0 ≤ c) (c1 : c ≤ 1000000000) (k : Nat) (hk : l.length < k) : laws_markIntS.f k l c = some (c + (l.length : Int), mki c l.length) := by
  have := markI_l0 l hl c c0 c1 l.length k 0 (by omega) hk
  simpa [mki, laws_markIntS.f] using this
def pIn (a : Int) (x : S43) : Bool := decide (x.f0 ≤ a) && decide (a < x.f1)
theorem find_l0 (l : List S43) (a : Int) (hl : l.length ≤ 2000000) (d : Nat) : ∀ (k i : Nat), l.length = i + d → d < k → spec_l17Find.l0 k l a (i : Int) = some (ixFrom (pIn a) (l.drop i) i) := by
  induction d with
  | zero =>
    intro k i hi hk
    obtain ⟨k, rfl⟩ : ∃ m, k = m + 1 := ⟨k - 1, by omega⟩
    simp only [spec_l17Find.l0]
    rw [if_neg (by omega), List.drop_of_length_le (by omega)]; rfl
  | succ d ih =>
    intro k i hi hk
    obtain ⟨k, rfl⟩ : ∃ m, k = m + 1 := ⟨k - 1, by omega⟩
    simp only [spec_l17Find.l0]
    rw [if_pos (by omega), if_pos (by omega), rd43 (by omega), ww i (by omega), List.drop_eq_getElem_cons (by omega)]
    simp only [ixFrom]
    by_cases h1 : a ≥ l[i].f0
    · rw [if_pos h1]
      by_cases h2 : a < l[i].f1
      · rw [if_pos h2, if_pos (show pIn a l[i] = true by simp [pIn, h2]; exact h1)]
      · rw [if_neg h2, if_neg (show ¬ pIn a l[i] = true by simp [pIn]; omega), ih k (i + 1) (by omega) (by omega)]
    · rw [if_neg h1, if_neg (show ¬ pIn a l[i] = true by simp [pIn]; omega), ih k (i + 1) (by omega) (by omega)]
theorem find_s (l : List S43) (a : Int) (hl : l.length ≤ 2000000) (k : Nat) (hk : l.length < k) : spec_l17Find.f k l a = some (ixFrom (pIn a) l 0) := by
  have := find_l0 l a hl l.length k 0 (by omega) hk
  simpa [spec_l17Find.f] using this
theorem holder_i (l : List S43) (a : Int) : impl_holder.f l a = some (ixFrom (pIn a) l 0) := rfl
def sackL (l : List S43) (rec : List Int) : Nat → List S43 → List S43
  | 0, o => o
  | n + 1, o => if o.length < 3 then (if ixFrom (pIn (rec.getD n 0)) l 0 < 0 then sackL l rec n o else
      (if o.any (fun y => y.f0 == (l.getD (ixFrom (pIn (rec.getD n 0)) l 0).toNat z43).f0 && (y.f1 == (l.getD (ixFrom (pIn (rec.getD n 0)) l 0).toNat z43).f1)) = true then sackL l rec n o else sackL l rec n (o ++ [l.getD (ixFrom (pIn (rec.getD n 0)) l 0).toNat z43]))) else o
theorem ix_bd {p : S43 → Bool} (l : List S43) : ∀ i : Nat, ixFrom p l i = -1 ∨ ((i : Int) ≤ ixFrom p l i ∧ ixFrom p l i < i + l.length) := by
  induction l with
  | nil => intro i; left; rfl
  | cons x r ih =>
    intro i
    simp only [ixFrom, List.length_cons]
    split
    · right; omega
    · rcases ih (i + 1) with h | h
      · left; exact h
      · right; omega
theorem sackL_len (l : List S43) (rec : List Int) (n : Nat) : ∀ o : List S43, o.length ≤ 3 → (sackL l rec n o).length ≤ 3 := by
  induction n with
  | zero => intro o h; exact h
  | succ n ih =>
    intro o h
    simp only [sackL]
    split
    · split
      · exact ih o h
      · split
        · exact ih o h
        · exact ih _ (by simp; omega)
    · exact h
theorem gdI {l : List Int} {n : Nat} : rd l (n : Int) = l.getD n 0 := by simp [rd]
theorem gd43' {l : List S43} {t : Int} : rd_T43 l t = l.getD t.toNat z43 := rfl
/-- The reference's look for the range among those told. -/
theorem sack_s_l1 (l : List S43) (rec : List Int) (o : List S43) (i0 t : Int) (ho : o.length ≤ 3) (ht : 0 ≤ t ∧ t < l.length) (d : Nat) : ∀ (k j : Nat) (b : Bool), o.length = j + d → spec_SackBlocks.l1 (k + d + 1) l rec o i0 t b (j : Int) =
    if (b || (o.drop j).any (fun y => y.f0 == (l.getD t.toNat z43).f0 && (y.f1 == (l.getD t.toNat z43).f1))) = true then spec_SackBlocks.l0 k l rec o (wrap64 (i0 - 1)) else spec_SackBlocks.l0 k l rec (o ++ [l.getD t.toNat z43]) (wrap64 (i0 - 1)) := by
  induction d with
  | zero =>
    intro k j b hj
    simp only [spec_SackBlocks.l1]
    rw [if_neg (by omega), List.drop_of_length_le (by omega)]
    cases b with
    | true => simp
    | false =>
      rw [if_neg (by decide), if_pos (by omega), if_pos (by omega), if_pos (by omega), gd43']
      simp
  | succ d ih =>
    intro k j b hj
    rw [show k + (d + 1) + 1 = (k + d + 1) + 1 by omega]
    rw [spec_SackBlocks.l1]
    have e : o.getD ((j : Int)).toNat z43 = o[j] := by simp [List.getD_eq_getElem?_getD, show j < o.length by omega]
    rw [if_pos (by omega), ww j (by omega), List.drop_eq_getElem_cons (i := j) (by omega)]
    cases b with
    | true => rw [if_pos rfl, ih k (j + 1) true (by omega)]; simp
    | false =>
      rw [if_neg (by decide), if_pos (by omega), if_pos (by omega), if_pos (by omega), gd43', gd43', e, ih k (j + 1) _ (by omega)]
      simp only [List.any_cons, Bool.false_or]
theorem sack_s_l0 (l : List S43) (rec : List Int) (hl : l.length ≤ 4096) (hr : rec.length ≤ 4096) (n : Nat) : ∀ (k : Nat) (o : List S43), n ≤ rec.length → o.length ≤ 3 → spec_SackBlocks.l0 (k + l.length + 6 * n + 9) l rec o ((n : Int) - 1) = some (sackL l rec n o, 0) := by
  induction n with
  | zero =>
    intro k o hn ho
    simp only [spec_SackBlocks.l0, spec_SackBlocks.j2, Nat.mul_zero, Nat.add_zero]
    rw [if_neg (by omega)]
    simp [sackL]
  | succ n ih =>
    intro k o hn ho
    rw [show k + l.length + 6 * (n + 1) + 9 = (k + l.length + 6 * n + 9 + 4) + 1 + 1 by omega]
    rw [spec_SackBlocks.l0]
    rw [show ((n + 1 : Nat) : Int) - 1 = (n : Int) by omega, if_pos (by omega)]
    rw [spec_SackBlocks.j2]
    simp only [sackL]
    by_cases h3 : o.length < 3
    · rw [decide_eq_true (by omega), if_pos rfl, if_pos h3, if_pos (by omega), if_pos (by omega), find_s l _ (by omega) _ (by omega), gdI]
      simp only [Option.bind_some]
      have hb := ix_bd (p := pIn (rec.getD n 0)) l 0
      generalize ixFrom (pIn (rec.getD n 0)) l 0 = t at hb ⊢
      by_cases h4 : t < 0
      · rw [if_pos h4, if_pos h4, w64 (x := (n : Int) - 1) (by omega) (by omega), show k + l.length + 6 * n + 9 + 4 = (k + 4) + l.length + 6 * n + 9 by omega]
        exact ih (k + 4) o (by omega) ho
      · rw [if_neg h4, if_neg h4]
        have hd : k + l.length + 6 * n + 9 + 4 = (k + (3 - o.length) + l.length + 6 * n + 9) + o.length + 1 := by omega
        have := sack_s_l1 l rec o (n : Int) t ho (by omega) o.length (k + (3 - o.length) + l.length + 6 * n + 9) 0 false (by omega)
        rw [hd, show (0 : Int) = ((0 : Nat) : Int) from rfl, this, w64 (x := (n : Int) - 1) (by omega) (by omega)]
        simp only [List.drop_zero, Bool.false_or]
        split
        · exact ih _ o (by omega) ho
        · exact ih _ _ (by omega) (by simp; omega)
    · rw [decide_eq_false (by omega), if_neg (by decide), if_neg h3]
theorem cont_l0 (o : List S43) (a b : Int) (ho : o.length ≤ 1000) (d : Nat) : ∀ (k j : Nat), o.length = j + d → d < k → impl_Range_53.l0 k o (o.length : Int) (j : Int) a b = some (ixFrom (fun y : S43 => y.f0 == a && (y.f1 == b)) (o.drop j) j) := by
  induction d with
  | zero =>
    intro k j hj hk
    obtain ⟨k, rfl⟩ : ∃ m, k = m + 1 := ⟨k - 1, by omega⟩
    simp only [impl_Range_53.l0]
    rw [if_neg (by omega), List.drop_of_length_le (by omega)]; rfl
  | succ d ih =>
    intro k j hj hk
    obtain ⟨k, rfl⟩ : ∃ m, k = m + 1 := ⟨k - 1, by omega⟩
    simp only [impl_Range_53.l0]
    rw [if_pos (by omega), if_pos (by omega), if_pos (by omega), rd43 (by omega), ww j (by omega), List.drop_eq_getElem_cons (i := j) (by omega), ih k (j + 1) (by omega) (by omega)]
    simp only [ixFrom]
    have e : (a == o[j].f0 && (b == o[j].f1)) = (o[j].f0 == a && (o[j].f1 == b)) := by rw [Bool.beq_comm, Bool.beq_comm (a := b)]
    rw [e]
    split <;> rfl
theorem ix_any (p : S43 → Bool) (l : List S43) : ∀ i : Nat, decide (ixFrom p l i ≥ 0) = l.any p := by
  induction l with
  | nil => intro i; rfl
  | cons x r ih =>
    intro i
    have e : ixFrom p (x :: r) i = if p x = true then (i : Int) else ixFrom p r (i + 1) := rfl
    rw [List.any_cons, e]
    by_cases h : p x = true
    · rw [if_pos h, h]; simp
    · rw [if_neg h, Bool.eq_false_iff.mpr h, ih (i + 1)]; simp
theorem cont_ok (o : List S43) (a b : Int) (ho : o.length ≤ 1000) (k : Nat) (hk : o.length < k) : impl_Range_49.f k o a b = some (o.any (fun y : S43 => y.f0 == a && (y.f1 == b))) := by
  unfold impl_Range_49.f impl_Range_53.f
  have := cont_l0 o a b ho o.length k 0 (by omega) hk
  rw [show (0 : Int) = ((0 : Nat) : Int) from rfl, this]
  simp only [Option.bind_some, List.drop_zero]
  exact congrArg some (ix_any _ _ 0)
theorem sack_i_l0 (l : List S43) (rec : List Int) (hl : l.length ≤ 4096) (hr : rec.length ≤ 4096) (n : Nat) : ∀ (k : Nat) (o : List S43), n ≤ rec.length → o.length ≤ 3 → impl_SackBlocks.l0 (k + 6 * n + 9) l rec o ((n : Int) - 1) = some (sackL l rec n o, 0) := by
  induction n with
  | zero =>
    intro k o hn ho
    simp only [impl_SackBlocks.l0, impl_SackBlocks.j2, Nat.mul_zero, Nat.add_zero]
    rw [if_neg (by omega)]
    simp [sackL]
  | succ n ih =>
    intro k o hn ho
    rw [show k + 6 * (n + 1) + 9 = (k + 4 + 6 * n + 9) + 1 + 1 by omega]
    rw [impl_SackBlocks.l0]
    rw [show ((n + 1 : Nat) : Int) - 1 = (n : Int) by omega, if_pos (by omega)]
    rw [impl_SackBlocks.j2]
    simp only [sackL]
    by_cases h3 : o.length < 3
    · rw [decide_eq_true (by omega), if_pos rfl, if_pos h3, if_pos (by omega), if_pos (by omega), holder_i, gdI]
      simp only [Option.bind_some]
      have hb := ix_bd (p := pIn (rec.getD n 0)) l 0
      generalize ixFrom (pIn (rec.getD n 0)) l 0 = t at hb ⊢
      by_cases h4 : t < 0
      · rw [if_neg (by omega), if_pos h4, w64 (x := (n : Int) - 1) (by omega) (by omega)]
        exact ih (k + 4) o (by omega) ho
      · rw [if_pos (by omega), if_pos (by omega), if_pos (by omega), if_neg h4, gd43', cont_ok o _ _ (by omega) (k + 4 + 6 * n + 9) (by omega)]
        rw [Option.bind_some, w64 (x := (n : Int) - 1) (by omega) (by omega), if_pos (show o.length < 8796093022208 by omega)]
        split
        · exact ih (k + 4) o (by omega) ho
        · exact ih (k + 4) _ (by omega) (by simp; omega)
    · rw [decide_eq_false (by omega), if_neg (by decide), if_neg h3]
theorem sack_both' (l : List S43) (rec : List Int) (hl : l.length ≤ 4096) (hr : rec.length ≤ 4096) (hq : okB l = true) (k : Nat) (hk : 40000 < k) :
    impl_SackBlocks.f k l rec = some (sackL l rec rec.length [], 0) ∧ spec_SackBlocks.f k l rec = some (sackL l rec rec.length [], 0) := by
  obtain ⟨k, rfl⟩ : ∃ m, k = m + 1 := ⟨k - 1, by omega⟩
  have e1 := sack_i_l0 l rec hl hr rec.length (k - 6 * rec.length - 9) [] (by omega) (by simp)
  have e2 := sack_s_l0 l rec hl hr rec.length (k - l.length - 6 * rec.length - 9) [] (by omega) (by simp)
  rw [show k - 6 * rec.length - 9 + 6 * rec.length + 9 = k by omega] at e1
  rw [show k - l.length - 6 * rec.length - 9 + l.length + 6 * rec.length + 9 = k by omega] at e2
  simp only [impl_SackBlocks.f, spec_SackBlocks.f]
  rw [if_neg (by omega), if_neg (by omega), decide_eq_false (by omega)]
  simp only [impl_SackBlocks.j0, spec_SackBlocks.j0, rok_i l (by omega) k (by omega), rok_s l (by omega) k (by omega), hq, Option.bind_some, if_true, Bool.false_eq_true, if_false]
  rw [w64 (x := (rec.length : Int) - 1) (by omega) (by omega)]
  exact ⟨e1, e2⟩
theorem sack_both (l : List S43) (rec : List Int) (hl : l.length ≤ 1048576) (hr : rec.length ≤ 1048576) : ∃ (o : List S43) (c : Int), o.length ≤ 3 ∧ ∀ k, 1100000 < k → impl_SackBlocks.f k l rec = some (o, c) ∧ spec_SackBlocks.f k l rec = some (o, c) := by
  by_cases h : (l.length : Int) > 4096
  · refine ⟨[], 2, by simp, fun k hk => ?_⟩
    obtain ⟨k, rfl⟩ : ∃ m, k = m + 1 := ⟨k - 1, by omega⟩
    simp [impl_SackBlocks.f, spec_SackBlocks.f, h, impl_SackBlocks.j0, spec_SackBlocks.j0]
  by_cases h2 : (rec.length : Int) > 4096
  · refine ⟨[], 2, by simp, fun k hk => ?_⟩
    obtain ⟨k, rfl⟩ : ∃ m, k = m + 1 := ⟨k - 1, by omega⟩
    simp [impl_SackBlocks.f, spec_SackBlocks.f, h, h2, impl_SackBlocks.j0, spec_SackBlocks.j0]
  cases hq : okB l with
  | false =>
    refine ⟨[], 1, by simp, fun k hk => ?_⟩
    obtain ⟨k, rfl⟩ : ∃ m, k = m + 1 := ⟨k - 1, by omega⟩
    simp [impl_SackBlocks.f, spec_SackBlocks.f, h, h2, impl_SackBlocks.j0, spec_SackBlocks.j0, rok_i l (by omega) k (by omega), rok_s l (by omega) k (by omega), hq]
  | true => exact ⟨_, _, sackL_len l rec _ [] (by simp), fun k hk => sack_both' l rec (by omega) (by omega) hq k (by omega)⟩
theorem FnExactSackBlocks : fnExactSackBlocks.Say := by
  intro l rec ⟨hm, hg⟩ ⟨hm2, _⟩
  obtain ⟨K, hK⟩ : ∃ K : Nat, K = 3000000 := ⟨_, rfl⟩
  refine ⟨K + 3, ?_⟩
  unfold maxLen at hm hm2
  simp only [laws_FnExactSackBlocks.f, laws_szRangeS.f]
  by_cases cr : (rec.length : Int) > 1048576
  · rw [if_pos cr]
  rw [if_neg cr, w64 (x := 1048576 - (l.length : Int)) (by omega) (by omega)]
  by_cases c : 1048576 - (l.length : Int) < 0
  · rw [if_pos c]; simp
  rw [if_neg c]
  simp only [Option.bind_some]
  have hl : (l.map cv).length ≤ 1048576 := by simp; omega
  obtain ⟨o, co, ho, hb⟩ := sack_both (l.map cv) rec hl (by omega)
  have T : ∀ j, 1048576 < j → laws_toRangeS.f j l = some (l.map cv) := fun j hj => toS_ok l (by omega) j (by omega)
  have TI : ∀ j, 1048576 < j → laws_toIntS.f j rec = some rec := fun j hj => toI_ok rec (by omega) j (by omega)
  have E0 : ∀ j, 1048596 < j → laws_eqRangeS.f j (l.map cv) (l.map cv) = some true := fun j hj => eqS_ok _ (by omega) j (by omega)
  have EI : ∀ j, 1048596 < j → laws_eqIntS.f j rec rec = some true := fun j hj => eqI_ok _ (by omega) j (by omega)
  have E1 : ∀ j, 1048596 < j → laws_eqRangeS.f j o o = some true := fun j hj => eqS_ok _ (by omega) j (by omega)
  have M0 : ∀ j, 1048596 < j → laws_markRangeS.f j (l.map cv) 1 = some (1 + 2 * ((l.map cv).length : Int), mk 1 (l.map cv).length) := fun j hj => mark_ok _ (by omega) j (by omega)
  have MI : ∀ j, 1048596 < j → laws_markIntS.f j rec (1 + 2 * ((l.map cv).length : Int)) = some (1 + 2 * ((l.map cv).length : Int) + (rec.length : Int), mki (1 + 2 * ((l.map cv).length : Int)) rec.length) := fun j hj => markI_ok _ (by omega) _ (by omega) (by omega) j (by omega)
  have M1 : ∀ j, 1048596 < j → laws_markRangeS.f j o 1 = some (1 + 2 * (o.length : Int), mk 1 o.length) := fun j hj => mark_ok _ (by omega) j (by omega)
  have H1 : ∀ j, 1048596 < j → laws_heldRangeS.f j (mk 1 o.length) 1 = some (1 + 2 * (o.length : Int)) := fun j hj => held_ok _ (by omega) j (by omega)
  rw [if_neg c, T (K + 3) (by omega), TI (K + 3) (by omega)]
  simp only [Option.bind_some]
  rw [(hb (K + 3) (by omega)).1, (hb (K + 3) (by omega)).2]
  simp only [Option.bind_some]
  rw [E1 (K + 3) (by omega)]
  simp only [Option.bind_some, if_true, laws_FnExactSackBlocks.j0, bne_self_eq_false, Bool.false_eq_true, if_false]
  rw [T (K + 2) (by omega), TI (K + 2) (by omega)]
  simp only [Option.bind_some]
  rw [E0 (K + 2) (by omega), EI (K + 2) (by omega)]
  simp only [Option.bind_some, if_true]
  rw [M0 (K + 2) (by omega)]
  simp only [Option.bind_some]
  rw [MI (K + 2) (by omega)]
  simp only [Option.bind_some]
  rw [if_neg (by omega), E1 (K + 2) (by omega)]
  simp only [Option.bind_some, if_true, laws_FnExactSackBlocks.j1, bne_self_eq_false, Bool.false_eq_true, if_false]
  rw [M1 (K + 1) (by omega)]
  simp only [Option.bind_some]
  rw [H1 (K + 1) (by omega)]
  simp only [Option.bind_some]
  rw [if_neg (by omega)]
  simp only [if_true]
  rw [T (K + 1) (by omega), TI (K + 1) (by omega)]
  simp only [Option.bind_some]
  rw [(hb (K + 1) (by omega)).1]
  simp only [Option.bind_some]
  rw [E1 (K + 1) (by omega)]
  simp only [Option.bind_some, if_true, laws_FnExactSackBlocks.j2, bne_self_eq_false, Bool.false_eq_true, if_false]
  rw [H1 K (by omega)]
  simp only [Option.bind_some]
  rw [if_neg (by omega)]
  simp
end Go.Proofs.Ytelcclkedpafaaa.Pure
namespace Go.Proofs.Ytelcclkedpafaaa
/-- The row. -/
theorem fnExactSackBlocks_holds : Rows.FnExactSackBlocksSaid := fnExactSackBlocks.row_of Pure.FnExactSackBlocks
end Go.Proofs.Ytelcclkedpafaaa
