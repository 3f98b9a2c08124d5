/- The law FnExactExpirePaths holds. -/
import Derived.Test.YtgbkpledbjkjoaaAid
import Derived.Test.YtgbkpledbjkjoaaSayFnExactExpirePaths
namespace Go.Proofs.Ytgbkpledbjkjoaa.Pure
set_option linter.unusedSimpArgs false
set_option linter.unusedVariables false
open Go.RowKit Go.Proofs.Ytgbkpledbjkjoaa.PFnExactExpirePaths Go.Proofs.YtgbkpledbjkjoaaW.PrintWords Go.Proofs.YtgbkpledbjkjoaaW.PrintLast Go.Proofs.YtgbkpledbjkjoaaW.PrintMore Go.Proofs.Ytgbkpledbjkjoaa.Aid
theorem inR (a b c : Int) : impl_inRange.f a b c = some (decide (b ≤ a ∧ a ≤ c)) := by
  unfold impl_inRange.f
  by_cases h : a ≥ b
  · rw [if_pos h]; simp [show b ≤ a from h]
  · rw [if_neg h]; simp; omega
theorem inS (a b c : Int) : spec_l01In.f a b c = some (decide (b ≤ a ∧ a ≤ c)) := by
  unfold spec_l01In.f
  by_cases h : a ≥ b
  · rw [if_pos h]; simp [show b ≤ a from h]
  · rw [if_neg h]; simp; omega
theorem ww (i : Nat) (h : i < 4000000000000000000) : wrap64 ((i : Int) + 1) = ((i + 1 : Nat) : Int) := by rw [w64 (by omega) (by omega)]; simp
theorem set_mid {α : Type} (A R : List α) (z v : α) : (A ++ z :: R).set A.length v = A ++ v :: R := by
  simp [List.set_append]
def cv (x : S47) : S43 := ⟨x.f0, x.f1, x.f2⟩
theorem rd43 {l : List S43} {i : Nat} (h : i < l.length) : rd_T43 l (i : Int) = l[i] := by simp [rd_T43, List.getD_eq_getElem?_getD, h]
theorem rd47 {l : List S47} {i : Nat} (h : i < l.length) : rd_T47 l (i : Int) = l[i] := by simp [rd_T47, List.getD_eq_getElem?_getD, h]
theorem sz_l0 (l : List S47) (hl : l.length ≤ 2000000) (hm : ∀ y ∈ l, y.f0.size ≤ 9223372036854775807) (d : Nat) : ∀ (k i : Nat) (q : Int), l.length = i + d → d < k → 0 ≤ q → q ≤ 1048576 → ∃ v, laws_szPathS.l0 k l q (i : Int) = some v := by
  induction d with
  | zero =>
    intro k i q hi hk _ _
    obtain ⟨k, rfl⟩ : ∃ m, k = m + 1 := ⟨k - 1, by omega⟩
    exact ⟨q, by rw [laws_szPathS.l0, if_neg (by omega)]⟩
  | succ d ih =>
    intro k i q hi hk h0 h1
    obtain ⟨k, rfl⟩ : ∃ m, k = m + 1 := ⟨k - 1, by omega⟩
    have hx := hm l[i] (by simp)
    rw [laws_szPathS.l0, if_pos (by omega), if_pos (by omega), rd47 (by omega), ww i (by omega)]
    simp only [laws_szPath.f]
    rw [w64 (x := q - (l[i].f0.size : Int)) (by omega) (by omega)]
    by_cases c : q - (l[i].f0.size : Int) < 0
    · exact ⟨-1, by rw [if_pos c]; rfl⟩
    · obtain ⟨v, hv⟩ := ih k (i + 1) (q - (l[i].f0.size : Int)) (by omega) (by omega) (by omega) (by omega)
      exact ⟨v, by rw [if_neg c, Option.bind_some, if_neg c, hv]⟩
theorem toP_l0 (l : List S47) (hl : l.length ≤ 1048576) (d : Nat) : ∀ (k i : Nat), l.length = i + d → d < k → laws_toPathS.l0 k l ((l.take i).map cv ++ List.replicate d z43) (i : Int) = some (l.map cv) := by
  induction d with
  | zero =>
    intro k i hi hk
    obtain ⟨k, rfl⟩ : ∃ m, k = m + 1 := ⟨k - 1, by omega⟩
    simp only [laws_toPathS.l0]
    rw [if_neg (by omega), List.take_of_length_le (by omega)]
    simp
  | succ d ih =>
    intro k i hi hk
    obtain ⟨k, rfl⟩ : ∃ m, k = m + 1 := ⟨k - 1, by omega⟩
    simp only [laws_toPathS.l0, laws_toPath.f, Option.bind_some]
    rw [if_pos (by omega), if_pos (by omega), if_pos (by simp; omega), ww i (by omega), rd47 (by omega)]
    have e : (((l.take i).map cv ++ List.replicate (d + 1) z43).set ((i : Int).toNat) (⟨l[i].f0, l[i].f1, l[i].f2⟩ : S43)) = (l.take (i + 1)).map cv ++ List.replicate d z43 := by
      rw [Int.toNat_natCast, List.replicate_succ]
      have := set_mid ((l.take i).map cv) (List.replicate d z43) z43 (cv l[i])
      rw [show ((l.take i).map cv).length = i by simp; omega] at this
      rw [List.take_succ_eq_append_getElem (by omega)]
      simp only [List.map_append, List.map_cons, List.map_nil, List.append_assoc, List.singleton_append]
      exact this
    rw [e]
    exact ih k (i + 1) (by omega) (by omega)
theorem toP_ok (l : List S47) (hl : l.length ≤ 1048576) (k : Nat) (hk : l.length < k) : laws_toPathS.f k l = some (l.map cv) := by
  unfold laws_toPathS.f
  rw [if_pos (by omega), if_pos (by omega)]
  have := toP_l0 l hl l.length k 0 (by omega) hk
  simpa using this
theorem eqP_l0 (l : List S43) (hl : l.length ≤ 2000000) (d : Nat) : ∀ (k i : Nat), l.length = i + d → d < k → laws_eqPathS.l0 k l l (i : Int) = some true := by
  induction d with
  | zero =>
    intro k i hi hk
    obtain ⟨k, rfl⟩ : ∃ m, k = m + 1 := ⟨k - 1, by omega⟩
    simp only [laws_eqPathS.l0]
    rw [if_neg (by omega)]
  | succ d ih =>
    intro k i hi hk
    obtain ⟨k, rfl⟩ : ∃ m, k = m + 1 := ⟨k - 1, by omega⟩
    simp only [laws_eqPathS.l0, laws_eqPath.f, if_true, Option.bind_some]
    rw [if_pos (by omega), if_pos (by omega), if_pos (by omega), ww i (by omega)]
    exact ih k (i + 1) (by omega) (by omega)
theorem eqP_ok (l : List S43) (hl : l.length ≤ 2000000) (k : Nat) (hk : l.length < k) : laws_eqPathS.f k l l = some true := by
  unfold laws_eqPathS.f
  rw [if_pos rfl]
  exact eqP_l0 l hl l.length k 0 (by omega) hk
def pAd (a : ByteArray) (y : S43) : Bool := decide (y.f0.toList = a.toList)
theorem findP_l0 (l : List S43) (a : ByteArray) (hl : l.length ≤ 2000000) (d : Nat) : ∀ (k i : Nat), l.length = i + d → d < k → spec_l15Find.l0 k l a (i : Int) = some (ixFrom (pAd a) (l.drop i) i) := by
  induction d with
  | zero =>
    intro k i hi hk
    obtain ⟨k, rfl⟩ : ∃ m, k = m + 1 := ⟨k - 1, by omega⟩
    simp only [spec_l15Find.l0]
    rw [if_neg (by omega), List.drop_of_length_le (by omega)]; rfl
  | succ d ih =>
    intro k i hi hk
    obtain ⟨k, rfl⟩ : ∃ m, k = m + 1 := ⟨k - 1, by omega⟩
    simp only [spec_l15Find.l0]
    rw [if_pos (by omega), if_pos (by omega), rd43 (by omega), ww i (by omega), List.drop_eq_getElem_cons (by omega)]
    have e : ixFrom (pAd a) (l[i] :: l.drop (i + 1)) i = if pAd a l[i] = true then (i : Int) else ixFrom (pAd a) (l.drop (i + 1)) (i + 1) := rfl
    rw [e]
    by_cases h1 : l[i].f0.toList = a.toList
    · rw [if_pos h1, if_pos (show pAd a l[i] = true from decide_eq_true h1)]
    · rw [if_neg h1, if_neg (show ¬ pAd a l[i] = true by unfold pAd; rw [decide_eq_false h1]; decide), ih k (i + 1) (by omega) (by omega)]
theorem findP (l : List S43) (a : ByteArray) (hl : l.length ≤ 2000000) (k : Nat) (hk : l.length < k) : spec_l15Find.f k l a = some (ixFrom (pAd a) l 0) := by
  have := findP_l0 l a hl l.length k 0 (by omega) hk
  simpa [spec_l15Find.f] using this
theorem ix_first {p : S43 → Bool} (L : List S43) : ∀ (i off : Nat) (hi : i < L.length), p L[i] = true → decide (ixFrom p L off = ((off + i : Nat) : Int)) = !(L.take i).any p := by
  induction L with
  | nil => intro i off hi _; simp at hi
  | cons x r ih =>
    intro i off hi hp
    have e : ixFrom p (x :: r) off = if p x = true then (off : Int) else ixFrom p r (off + 1) := rfl
    rw [e]
    cases i with
    | zero =>
      simp only [List.getElem_cons_zero] at hp
      rw [if_pos hp]; simp
    | succ i =>
      simp only [List.getElem_cons_succ] at hp
      have hi' : i < r.length := by simpa using hi
      rw [List.take_succ_cons, List.any_cons]
      by_cases h : p x = true
      · rw [if_pos h, h, decide_eq_false (by omega)]; rfl
      · rw [if_neg h, Bool.eq_false_iff.mpr h, Bool.false_or, ← ih i (off + 1) hi' hp]
        exact decide_eq_decide.2 (by rw [show off + 1 + i = off + (i + 1) by omega])
theorem ix_anyP (p : S43 → Bool) (l : List S43) : ∀ i : Nat, decide (ixFrom p l i ≥ 0) = l.any p := by
  induction l with
  | nil => intro i; rfl
  | cons x r ih =>
    intro i
    have e : ixFrom p (x :: r) i = if p x = true then (i : Int) else ixFrom p r (i + 1) := rfl
    rw [List.any_cons, e]
    by_cases h : p x = true
    · rw [if_pos h, h]; simp
    · rw [if_neg h, Bool.eq_false_iff.mpr h, ih (i + 1)]; simp
def okP (x : S43) : Bool := decide ((x.f0.size : Int) = 4 ∨ (x.f0.size : Int) = 16) && (decide ((if (x.f0.size : Int) = 4 then 576 else 1280) ≤ x.f1 ∧ x.f1 ≤ 1499) && decide (1 ≤ x.f2 ∧ x.f2 ≤ 1000600))
def gp : List S43 → List S43 → Bool
  | _, [] => true
  | pre, x :: r => okP x && (!pre.any (pAd x.f0) && gp (pre ++ [x]) r)
def okPs (L : List S43) : Bool := decide (L.length ≤ 8) && gp [] L
theorem gp_step (L : List S43) (i : Nat) (hi : i < L.length) : gp (L.take i) (L.drop i) = (okP L[i] && (!(L.take i).any (pAd L[i].f0) && gp (L.take (i + 1)) (L.drop (i + 1)))) := by
  rw [List.drop_eq_getElem_cons hi, List.take_succ_eq_append_getElem hi]; rfl
theorem pathOK_i (x : S43) : impl_pathOK.f x.f0 x.f1 x.f2 = some (okP x) := by
  unfold impl_pathOK.f impl_isAddress.f impl_versionOf.f impl_leastMtu.f okP
  by_cases h : (x.f0.size : Int) = 4
  · simp only [h, if_true, Option.bind_some, inR]
    by_cases q : 576 ≤ x.f1 ∧ x.f1 ≤ 1499 <;> simp [q]
  · by_cases h2 : (x.f0.size : Int) = 16
    · simp only [h2, Option.bind_some, inR]
      by_cases q : 1280 ≤ x.f1 ∧ x.f1 ≤ 1499 <;> simp [q]
    · simp only [if_neg h, Option.bind_some, inR]
      simp [h, h2]
theorem paths_i_l0 (L : List S43) (hl : L.length ≤ 8) (d : Nat) : ∀ (k i : Nat), L.length = i + d → d < k → impl_PathsOK.l0 k L L (L.length : Int) (i : Int) = some (gp (L.take i) (L.drop i)) := by
  induction d with
  | zero =>
    intro k i hi hk
    obtain ⟨k, rfl⟩ : ∃ m, k = m + 1 := ⟨k - 1, by omega⟩
    rw [impl_PathsOK.l0, if_neg (by omega), List.drop_of_length_le (by omega)]; rfl
  | succ d ih =>
    intro k i hi hk
    obtain ⟨k, rfl⟩ : ∃ m, k = m + 1 := ⟨k - 1, by omega⟩
    rw [impl_PathsOK.l0, if_pos (by omega), if_pos (by omega), if_pos (by omega), rd43 (by omega), ww i (by omega), pathOK_i, Option.bind_some, gp_step L i (by omega), ih k (i + 1) (by omega) (by omega), if_pos (show (i : Int) ≤ L.length by omega), Int.toNat_natCast]
    have a := ix_anyP (pAd L[i].f0) (L.take i) 0
    have e : impl_pathTo.f (L.take i) L[i].f0 = some (ixFrom (pAd L[i].f0) (L.take i) 0) := rfl
    rw [e, Option.bind_some, ← a]
    cases okP L[i]
    · rfl
    · by_cases h : ixFrom (pAd L[i].f0) (L.take i) 0 ≥ 0
      · rw [if_pos rfl, if_pos h, decide_eq_true h]; rfl
      · rw [if_pos rfl, if_neg h, decide_eq_false h]; rfl
theorem paths_s_l0 (L : List S43) (hl : L.length ≤ 8) (d : Nat) : ∀ (k i : Nat), L.length = i + d → d + 20 < k → spec_PathsOK.l0 k L (i : Int) = some (gp (L.take i) (L.drop i)) := by
  induction d with
  | zero =>
    intro k i hi hk
    obtain ⟨k, rfl⟩ : ∃ m, k = m + 1 := ⟨k - 1, by omega⟩
    rw [spec_PathsOK.l0, if_neg (by omega), List.drop_of_length_le (by omega)]; rfl
  | succ d ih =>
    intro k i hi hk
    obtain ⟨k, rfl⟩ : ∃ m, k = m + 1 := ⟨k - 1, by omega⟩
    have a := ix_first (p := pAd L[i].f0) L i 0 (by omega) (by unfold pAd; exact decide_eq_true rfl)
    rw [Nat.zero_add] at a
    rw [spec_PathsOK.l0, if_pos (by omega), if_pos (by omega), rd43 (by omega), ww i (by omega), gp_step L i (by omega), ih k (i + 1) (by omega) (by omega), findP L _ (by omega) k (by omega), ← a]
    simp only [spec_l15Least.f, inS, okP]
    by_cases h : (L[i].f0.size : Int) = 4
    · simp only [if_pos h]
      rw [Option.bind_some, Option.bind_some, Option.bind_some, Option.bind_some, decide_eq_true (Or.inl h)]
      cases decide ((576 : Int) ≤ L[i].f1 ∧ L[i].f1 ≤ 1499)
      · rfl
      · cases decide (1 ≤ L[i].f2 ∧ L[i].f2 ≤ 1000600)
        · rfl
        · by_cases h3 : ixFrom (pAd L[i].f0) L 0 = (i : Int)
          · rw [if_pos rfl, if_pos rfl, if_pos h3, decide_eq_true h3]; rfl
          · rw [if_pos rfl, if_pos rfl, if_neg h3, decide_eq_false h3]; rfl
    · simp only [if_neg h]
      by_cases h2 : (L[i].f0.size : Int) = 16
      · rw [if_pos h2, Option.bind_some, Option.bind_some, Option.bind_some, Option.bind_some, decide_eq_true (Or.inr h2)]
        cases decide ((1280 : Int) ≤ L[i].f1 ∧ L[i].f1 ≤ 1499)
        · rfl
        · cases decide (1 ≤ L[i].f2 ∧ L[i].f2 ≤ 1000600)
          · rfl
          · by_cases h3 : ixFrom (pAd L[i].f0) L 0 = (i : Int)
            · rw [if_pos rfl, if_pos rfl, if_pos h3, decide_eq_true h3]; rfl
            · rw [if_pos rfl, if_pos rfl, if_neg h3, decide_eq_false h3]; rfl
      · rw [if_neg h2, decide_eq_false (by omega)]; rfl
theorem paths_ok (L : List S43) (k : Nat) (hk : 40 < k) : impl_PathsOK.f k L = some (okPs L) ∧ spec_PathsOK.f k L = some (okPs L) := by
  unfold impl_PathsOK.f spec_PathsOK.f okPs
  by_cases h : (L.length : Int) > 8
  · rw [if_pos h, if_pos h, decide_eq_false (by omega)]; exact ⟨rfl, rfl⟩
  · rw [if_neg h, if_neg h, decide_eq_true (by omega)]
    have e1 := paths_i_l0 L (by omega) L.length k 0 (by omega) (by omega)
    have e2 := paths_s_l0 L (by omega) L.length k 0 (by omega) (by omega)
    rw [List.take_zero, List.drop_zero] at e1 e2
    exact ⟨e1, e2⟩
theorem szP (l : List S47) (hl : l.length ≤ 9223372036854775807) (hm : ∀ y ∈ l, y.f0.size ≤ 9223372036854775807) (k : Nat) (hk : 1100000 < k) : ∃ v, laws_szPathS.f k l 1048576 = some v ∧ (l.length ≤ 1048576 ∨ v < 0) := by
  unfold laws_szPathS.f
  rw [w64 (x := 1048576 - (l.length : Int)) (by omega) (by omega)]
  by_cases c : 1048576 - (l.length : Int) < 0
  · exact ⟨-1, by rw [if_pos c], Or.inr (by omega)⟩
  · rw [if_neg c]
    obtain ⟨v, hv⟩ := sz_l0 l (by omega) hm l.length k 0 (1048576 - (l.length : Int)) (by omega) (by omega) (by omega) (by omega)
    exact ⟨v, hv, Or.inl (by omega)⟩
theorem wtdiv (x : Int) (h0 : 0 ≤ x) (h1 : x ≤ 9223372036854775807) : wrap64 (Int.tdiv x 10) = Int.tdiv x 10 := by
  rw [tdiv_nonneg_eq h0, w64 (by omega) (by omega)]
theorem text_l0 (d : Nat) : ∀ (x : Int) (t : ByteArray), 0 ≤ x → x < 10 ^ d → x ≤ 1000000000 → t.size ≤ 1000 - d → d ≤ 100 → ∃ r, ∀ k, d < k → laws_markText.l0 k x t = some r := by
  induction d with
  | zero =>
    intro x t h0 h1 hm ht _
    refine ⟨(⟨#[109]⟩ : ByteArray) ++ t, fun k hk => ?_⟩
    obtain ⟨k, rfl⟩ : ∃ m, k = m + 1 := ⟨k - 1, by omega⟩
    rw [laws_markText.l0, if_neg (by simp at h1; omega), if_pos (by omega)]
  | succ d ih =>
    intro x t h0 h1 hm ht hd
    by_cases hx : x > 0
    · obtain ⟨b, hb⟩ : ∃ b, b = (wrap64 (48 + (Int.tmod x 10))) % 256 := ⟨_, rfl⟩
      obtain ⟨r, hr⟩ := ih (Int.tdiv x 10) (strOfNums [b] ++ t) (by rw [tdiv_nonneg_eq h0]; omega) (by rw [tdiv_nonneg_eq h0]; rw [Int.pow_succ] at h1; omega) (by rw [tdiv_nonneg_eq h0]; omega) (by rw [ByteArray.size_append, strOfNums_size]; simp; omega) (by omega)
      refine ⟨r, fun k hk => ?_⟩
      obtain ⟨k, rfl⟩ : ∃ m, k = m + 1 := ⟨k - 1, by omega⟩
      rw [laws_markText.l0, if_pos hx, ← hb, Option.bind_some, if_pos (by rw [strOfNums_size]; simp; omega), wtdiv x h0 (by omega)]
      exact hr k (by omega)
    · refine ⟨(⟨#[109]⟩ : ByteArray) ++ t, fun k hk => ?_⟩
      obtain ⟨k, rfl⟩ : ∃ m, k = m + 1 := ⟨k - 1, by omega⟩
      rw [laws_markText.l0, if_neg hx, if_pos (by omega)]
def mt (m : Int) : ByteArray := (laws_markText.f 64 m).getD ⟨#[]⟩
theorem mt_ok (m : Int) (h0 : 0 ≤ m) (h1 : m ≤ 1000000000) (k : Nat) (hk : 20 < k) : laws_markText.f k m = some (mt m) := by
  have : ∃ r, ∀ k, 12 < k → laws_markText.f k m = some r := by
    unfold laws_markText.f
    by_cases h : m ≤ 0
    · exact ⟨_, fun k _ => by rw [if_pos h]⟩
    · obtain ⟨r, hr⟩ := text_l0 12 m ⟨#[]⟩ h0 (by omega) h1 (by simp [ByteArray.size]) (by omega)
      exact ⟨r, fun k hk => by rw [if_neg h]; exact hr k hk⟩
  obtain ⟨r, hr⟩ := this
  unfold mt
  rw [hr k (by omega), hr 64 (by omega)]; rfl
def mk (n : Nat) : List S43 := (List.range n).map (fun (j : Nat) => ⟨mt (1 + 3 * (j : Int)), 1 + 3 * (j : Int) + 1, 1 + 3 * (j : Int) + 2⟩)
theorem mk_len (n : Nat) : (mk n).length = n := by simp [mk]
theorem mk_succ (n : Nat) : mk (n + 1) = mk n ++ [⟨mt (1 + 3 * (n : Int)), 1 + 3 * (n : Int) + 1, 1 + 3 * (n : Int) + 2⟩] := by simp [mk, List.range_succ]
theorem rd_set43 {l : List S43} {i : Nat} (h : i < l.length) (v : S43) : rd_T43 (l.set i v) (i : Int) = v := by
  rw [rd43 (by simpa using h)]; simp
theorem mark_l0 (l : List S43) (hl : l.length ≤ 2000000) (d : Nat) : ∀ (k i : Nat), l.length = i + d → d + 30 < k → laws_markPathS.l0 k (mk i ++ l.drop i) (1 + 3 * (i : Int)) (i : Int) = some (1 + 3 * (l.length : Int), mk l.length) := by
  induction d with
  | zero =>
    intro k i hi hk
    obtain ⟨k, rfl⟩ : ∃ m, k = m + 1 := ⟨k - 1, by omega⟩
    simp only [laws_markPathS.l0]
    rw [if_neg (by simp [mk_len]; omega), List.drop_of_length_le (by omega), show i = l.length by omega]
    simp
  | succ d ih =>
    intro k i hi hk
    obtain ⟨k, rfl⟩ : ∃ m, k = m + 1 := ⟨k - 1, by omega⟩
    have hlen : i < (mk i ++ l.drop i).length := by simp [mk_len]; omega
    rw [laws_markPathS.l0, if_pos (by omega), mt_ok _ (by omega) (by omega) k (by omega), Option.bind_some, if_pos (by omega)]
    simp only [Option.bind_some, Int.toNat_natCast]
    simp only [List.set_set, rd_set43 hlen]
    rw [ww i (by omega)]
    rw [w64 (x := 1 + 3 * (i : Int) + 1) (by omega) (by omega), w64 (x := 1 + 3 * (i : Int) + 1 + 1) (by omega) (by omega), w64 (x := 1 + 3 * (i : Int) + 1 + 1 + 1) (by omega) (by omega)]
    have e : (mk i ++ l.drop i).set i (⟨mt (1 + 3 * (i : Int)), 1 + 3 * (i : Int) + 1, 1 + 3 * (i : Int) + 1 + 1⟩ : S43) = mk (i + 1) ++ l.drop (i + 1) := by
      rw [List.drop_eq_getElem_cons (by omega), mk_succ]
      have := set_mid (mk i) (l.drop (i + 1)) l[i] (⟨mt (1 + 3 * (i : Int)), 1 + 3 * (i : Int) + 1, 1 + 3 * (i : Int) + 1 + 1⟩ : S43)
      rw [mk_len] at this
      rw [this, show 1 + 3 * (i : Int) + 1 + 1 = 1 + 3 * (i : Int) + 2 by omega]; simp
    rw [e, show 1 + 3 * (i : Int) + 1 + 1 + 1 = 1 + 3 * ((i + 1 : Nat) : Int) by omega]
    exact ih k (i + 1) (by omega) (by omega)
theorem mark_ok (l : List S43) (hl : l.length ≤ 2000000) (k : Nat) (hk : l.length + 30 < k) : laws_markPathS.f k l 1 = some (1 + 3 * (l.length : Int), mk l.length) := by
  have := mark_l0 l hl l.length k 0 (by omega) hk
  simpa [mk, laws_markPathS.f] using this
theorem held_l0 (n : Nat) (hl : n ≤ 2000000) (d : Nat) : ∀ (k i : Nat), n = i + d → d + 30 < k → laws_heldPathS.l0 k (mk n) (1 + 3 * (i : Int)) (i : Int) = some (1 + 3 * (n : Int)) := by
  induction d with
  | zero =>
    intro k i hi hk
    obtain ⟨k, rfl⟩ : ∃ m, k = m + 1 := ⟨k - 1, by omega⟩
    simp only [laws_heldPathS.l0]
    rw [if_neg (by simp [mk_len]; omega), show i = n by omega]
  | succ d ih =>
    intro k i hi hk
    obtain ⟨k, rfl⟩ : ∃ m, k = m + 1 := ⟨k - 1, by omega⟩
    have hlen : i < (mk n).length := by rw [mk_len]; omega
    have e : (mk n)[i] = ⟨mt (1 + 3 * (i : Int)), 1 + 3 * (i : Int) + 1, 1 + 3 * (i : Int) + 2⟩ := by simp [mk]
    rw [laws_heldPathS.l0, if_pos (by omega), if_pos (by omega), mt_ok _ (by omega) (by omega) k (by omega), Option.bind_some, rd43 hlen, ww i (by omega), e]
    rw [w64 (x := 1 + 3 * (i : Int) + 1) (by omega) (by omega), w64 (x := 1 + 3 * (i : Int) + 1 + 1) (by omega) (by omega), w64 (x := 1 + 3 * (i : Int) + 1 + 1 + 1) (by omega) (by omega)]
    rw [if_pos rfl, if_pos rfl, if_pos (show 1 + 3 * (i : Int) + 2 = 1 + 3 * (i : Int) + 1 + 1 by omega)]
    rw [show 1 + 3 * (i : Int) + 1 + 1 + 1 = 1 + 3 * ((i + 1 : Nat) : Int) by omega]
    exact ih k (i + 1) (by omega) (by omega)
theorem held_ok (n : Nat) (hl : n ≤ 2000000) (k : Nat) (hk : n + 30 < k) : laws_heldPathS.f k (mk n) 1 = some (1 + 3 * (n : Int)) := by
  have := held_l0 n hl n k 0 (by omega) hk
  simpa [laws_heldPathS.f] using this
def lv (t : Int) (x : S43) : Bool := decide (x.f2 > t)
theorem live_s_l0 (l : List S43) (t : Int) (hl : l.length ≤ 2000000) (d : Nat) : ∀ (k i : Nat) (o : List S43), l.length = i + d → d < k → o.length ≤ i → spec_l15Live.l0 k l t o (i : Int) = some (o ++ (l.drop i).filter (lv t)) := by
  induction d with
  | zero =>
    intro k i o hi hk ho
    obtain ⟨k, rfl⟩ : ∃ m, k = m + 1 := ⟨k - 1, by omega⟩
    rw [spec_l15Live.l0, if_neg (by omega), List.drop_of_length_le (by omega)]; simp
  | succ d ih =>
    intro k i o hi hk ho
    obtain ⟨k, rfl⟩ : ∃ m, k = m + 1 := ⟨k - 1, by omega⟩
    rw [spec_l15Live.l0, if_pos (by omega), if_pos (by omega), rd43 (by omega), ww i (by omega), List.drop_eq_getElem_cons (by omega), List.filter_cons]
    by_cases h : l[i].f2 > t
    · rw [if_pos h, if_pos (by omega), ih k (i + 1) _ (by omega) (by omega) (by simp; omega), if_pos (show lv t l[i] = true from decide_eq_true h)]; simp
    · rw [if_neg h, ih k (i + 1) _ (by omega) (by omega) (by omega), if_neg (show ¬ lv t l[i] = true by unfold lv; rw [decide_eq_false h]; decide)]
theorem live_i_l0 (l : List S43) (t : Int) (hl : l.length ≤ 2000000) (d : Nat) : ∀ (k i : Nat) (o : List S43), l.length = i + d → d < k → o.length ≤ i → impl_alive.l0 k t o l (l.length : Int) (i : Int) = some (o ++ (l.drop i).filter (lv t)) := by
  induction d with
  | zero =>
    intro k i o hi hk ho
    obtain ⟨k, rfl⟩ : ∃ m, k = m + 1 := ⟨k - 1, by omega⟩
    rw [impl_alive.l0, if_neg (by omega), List.drop_of_length_le (by omega)]; simp
  | succ d ih =>
    intro k i o hi hk ho
    obtain ⟨k, rfl⟩ : ∃ m, k = m + 1 := ⟨k - 1, by omega⟩
    rw [impl_alive.l0, if_pos (by omega), if_pos (by omega), if_pos (by omega), rd43 (by omega), ww i (by omega), List.drop_eq_getElem_cons (by omega), List.filter_cons]
    by_cases h : l[i].f2 > t
    · rw [if_pos h, if_pos (by omega), ih k (i + 1) _ (by omega) (by omega) (by simp; omega), if_pos (show lv t l[i] = true from decide_eq_true h)]; simp
    · rw [if_neg h, ih k (i + 1) _ (by omega) (by omega) (by omega), if_neg (show ¬ lv t l[i] = true by unfold lv; rw [decide_eq_false h]; decide)]
theorem expire_both (l : List S43) (t : Int) (hl : l.length ≤ 1048576) : ∃ (o : List S43) (c : Int), o.length ≤ l.length ∧ ∀ k, 1500000 < k → impl_ExpirePaths.f k l t = some (o, c) ∧ spec_ExpirePaths.f k l t = some (o, c) := by
  have sz4 : ((⟨#[102, 111, 117, 114]⟩ : ByteArray).size : Int) = 4 := rfl
  by_cases h : (l.length : Int) > 4096
  · exact ⟨[], 2, by simp, fun k hk => by simp [impl_ExpirePaths.f, spec_ExpirePaths.f, spec_l15Code.f, h]⟩
  cases hq : okPs l with
  | false =>
    refine ⟨[], 1, by simp, fun k hk => ?_⟩
    obtain ⟨k, rfl⟩ : ∃ m, k = m + 1 := ⟨k - 1, by omega⟩
    have p := paths_ok l (k + 1) (by omega)
    rw [hq] at p
    simp [impl_ExpirePaths.f, spec_ExpirePaths.f, spec_l15Code.f, spec_l15Code.j0, impl_pathsFault.f, if_neg h, p.1, p.2]
  | true =>
    by_cases h2 : 0 ≤ t ∧ t ≤ 1000000
    · refine ⟨l.filter (lv t), 0, List.length_filter_le _ _, fun k hk => ?_⟩
      obtain ⟨k, rfl⟩ : ∃ m, k = m + 1 := ⟨k - 1, by omega⟩
      have p := paths_ok l (k + 1) (by omega)
      rw [hq] at p
      have e1 := live_i_l0 l t (by omega) l.length (k + 1) 0 [] (by omega) (by omega) (by simp)
      have e2 := live_s_l0 l t (by omega) l.length (k + 1) 0 [] (by omega) (by omega) (by simp)
      rw [List.drop_zero, List.nil_append] at e1 e2
      have e1' : impl_alive.f (k + 1) l t = some (l.filter (lv t)) := e1
      have e2' : spec_l15Live.f (k + 1) l t = some (l.filter (lv t)) := e2
      simp only [impl_ExpirePaths.f, spec_ExpirePaths.f, spec_l15Code.f, spec_l15Code.j0, impl_pathsFault.f, if_neg h, p.1, p.2, Option.bind_some, if_true, inR, inS, sz4, decide_eq_true h2, e1', e2', Bool.false_eq_true, if_false, and_self]
    · refine ⟨[], 4, by simp, fun k hk => ?_⟩
      obtain ⟨k, rfl⟩ : ∃ m, k = m + 1 := ⟨k - 1, by omega⟩
      have p := paths_ok l (k + 1) (by omega)
      rw [hq] at p
      simp only [impl_ExpirePaths.f, spec_ExpirePaths.f, spec_l15Code.f, spec_l15Code.j0, impl_pathsFault.f, if_neg h, p.1, p.2, Option.bind_some, if_true, inR, inS, sz4, decide_eq_false h2, Bool.false_eq_true, if_false]
      simp
theorem FnExactExpirePaths : fnExactExpirePaths.Say := by
  intro l t ⟨hm, hw⟩ _
  obtain ⟨K, hK⟩ : ∃ K : Nat, K = 3000000 := ⟨_, rfl⟩
  refine ⟨K + 3, ?_⟩
  unfold maxLen at hm hw
  obtain ⟨v, hv, hl⟩ := szP l (by omega) (fun y hy => by have := (hw y hy).1; omega) (K + 3) (by omega)
  simp only [laws_FnExactExpirePaths.f]
  rw [hv, Option.bind_some]
  by_cases c : v < 0
  · rw [if_pos c]
  rw [if_neg c]
  have hl' : (l.map cv).length ≤ 1048576 := by simp; omega
  obtain ⟨o, co, ho, hb⟩ := expire_both (l.map cv) t hl'
  have T : ∀ j, 1048576 < j → laws_toPathS.f j l = some (l.map cv) := fun j hj => toP_ok l (by omega) j (by omega)
  have E0 : ∀ j, 1048596 < j → laws_eqPathS.f j (l.map cv) (l.map cv) = some true := fun j hj => eqP_ok _ (by omega) j (by omega)
  have E1 : ∀ j, 1048596 < j → laws_eqPathS.f j o o = some true := fun j hj => eqP_ok _ (by omega) j (by omega)
  have M0 : ∀ j, 1048796 < j → laws_markPathS.f j (l.map cv) 1 = some (1 + 3 * ((l.map cv).length : Int), mk (l.map cv).length) := fun j hj => mark_ok _ (by omega) j (by omega)
  have M1 : ∀ j, 1048796 < j → laws_markPathS.f j o 1 = some (1 + 3 * (o.length : Int), mk o.length) := fun j hj => mark_ok _ (by omega) j (by omega)
  have H1 : ∀ j, 1048796 < j → laws_heldPathS.f j (mk o.length) 1 = some (1 + 3 * (o.length : Int)) := fun j hj => held_ok _ (by omega) j (by omega)
  rw [T (K + 3) (by omega), Option.bind_some, (hb (K + 3) (by omega)).2, Option.bind_some, Option.bind_some, (hb (K + 3) (by omega)).1, Option.bind_some]
  dsimp only
  rw [E1 (K + 3) (by omega), Option.bind_some, if_pos rfl, laws_FnExactExpirePaths.j0]
  simp only [bne_self_eq_false, Bool.false_eq_true, if_false]
  rw [T (K + 2) (by omega), Option.bind_some, E0 (K + 2) (by omega), Option.bind_some, if_pos rfl, M0 (K + 2) (by omega), Option.bind_some]
  dsimp only
  rw [if_neg (by omega), E1 (K + 2) (by omega), Option.bind_some, if_pos rfl, laws_FnExactExpirePaths.j1]
  simp only [Bool.false_eq_true, if_false]
  rw [M1 (K + 1) (by omega), Option.bind_some]
  dsimp only
  rw [H1 (K + 1) (by omega), Option.bind_some, if_neg (by omega), if_pos rfl, T (K + 1) (by omega), Option.bind_some, (hb (K + 1) (by omega)).1, Option.bind_some]
  dsimp only
  rw [E1 (K + 1) (by omega), Option.bind_some, if_pos rfl, laws_FnExactExpirePaths.j2]
  simp only [bne_self_eq_false, Bool.false_eq_true, if_false]
  rw [H1 K (by omega), Option.bind_some, if_neg (by omega), if_pos rfl]
end Go.Proofs.Ytgbkpledbjkjoaa.Pure
namespace Go.Proofs.Ytgbkpledbjkjoaa
/-- The row. -/
theorem fnExactExpirePaths_holds : Rows.FnExactExpirePathsSaid := fnExactExpirePaths.row_of Pure.FnExactExpirePaths
end Go.Proofs.Ytgbkpledbjkjoaa
