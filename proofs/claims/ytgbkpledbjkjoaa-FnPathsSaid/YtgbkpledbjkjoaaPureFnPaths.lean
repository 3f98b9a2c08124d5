/- The statement FnPaths holds: any table of paths and any address from any two byte lists, the functions for path MTUs answer as the statement says. -/
import Derived.Test.YtgbkpledbjkjoaaAid
import Derived.Test.YtgbkpledbjkjoaaSayFnPaths
namespace Go.Proofs.Ytgbkpledbjkjoaa.Pure
set_option linter.unusedSimpArgs false
set_option linter.unusedVariables false
open Go.RowKit Go.Proofs.Ytgbkpledbjkjoaa.PFnPaths Go.Proofs.YtgbkpledbjkjoaaW.PrintWords Go.Proofs.YtgbkpledbjkjoaaW.PrintLast Go.Proofs.YtgbkpledbjkjoaaW.PrintMore Go.Proofs.Ytgbkpledbjkjoaa.Aid
theorem inR (a b c : Int) : impl_inRange.f a b c = some (decide (b ≤ a ∧ a ≤ c)) := by
  unfold impl_inRange.f
  by_cases h : a ≥ b
  · rw [if_pos h]; simp [show b ≤ a from h]
  · rw [if_neg h]; simp; omega
theorem inS (a b c : Int) : spec_l01In.f a b c = some (decide (b ≤ a ∧ a ≤ c)) := by
  unfold spec_l01In.f
  by_cases h : a ≥ b
  · rw [if_pos h]; simp [show b ≤ a from h]
  · rw [if_neg h]; simp; omega
theorem ww (i : Nat) (h : i < 4000000000000000000) : wrap64 ((i : Int) + 1) = ((i + 1 : Nat) : Int) := by rw [w64 (by omega) (by omega)]; simp
theorem set_mid {α : Type} (A R : List α) (z v : α) : (A ++ z :: R).set A.length v = A ++ v :: R := by
  simp [List.set_append]
theorem rd43 {l : List S43} {i : Nat} (h : i < l.length) : rd_T43 l (i : Int) = l[i] := by simp [rd_T43, List.getD_eq_getElem?_getD, h]
def pAd (a : ByteArray) (y : S43) : Bool := decide (y.f0.toList = a.toList)
theorem findP_l0 (l : List S43) (a : ByteArray) (hl : l.length ≤ 2000000) (d : Nat) : ∀ (k i : Nat), l.length = i + d → d < k → spec_l15Find.l0 k l a (i : Int) = some (ixFrom (pAd a) (l.drop i) i) := by
  induction d with
  | zero =>
    intro k i hi hk
    obtain ⟨k, rfl⟩ : ∃ m, k = m + 1 := ⟨k - 1, by omega⟩
    simp only [spec_l15Find.l0]
    rw [if_neg (by omega), List.drop_of_length_le (by omega)]; rfl
  | succ d ih =>
    intro k i hi hk
    obtain ⟨k, rfl⟩ : ∃ m, k = m + 1 := ⟨k - 1, by omega⟩
    simp only [spec_l15Find.l0]
    rw [if_pos (by omega), if_pos (by omega), rd43 (by omega), ww i (by omega), List.drop_eq_getElem_cons (by omega)]
    have e : ixFrom (pAd a) (l[i] :: l.drop (i + 1)) i = if pAd a l[i] = true then (i : Int) else ixFrom (pAd a) (l.drop (i + 1)) (i + 1) := rfl
    rw [e]
    by_cases h1 : l[i].f0.toList = a.toList
    · rw [if_pos h1, if_pos (show pAd a l[i] = true from decide_eq_true h1)]
    · rw [if_neg h1, if_neg (show ¬ pAd a l[i] = true by unfold pAd; rw [decide_eq_false h1]; decide), ih k (i + 1) (by omega) (by omega)]
theorem findP (l : List S43) (a : ByteArray) (hl : l.length ≤ 2000000) (k : Nat) (hk : l.length < k) : spec_l15Find.f k l a = some (ixFrom (pAd a) l 0) := by
  have := findP_l0 l a hl l.length k 0 (by omega) hk
  simpa [spec_l15Find.f] using this
theorem ix_first {p : S43 → Bool} (L : List S43) : ∀ (i off : Nat) (hi : i < L.length), p L[i] = true → decide (ixFrom p L off = ((off + i : Nat) : Int)) = !(L.take i).any p := by
  induction L with
  | nil => intro i off hi _; simp at hi
  | cons x r ih =>
    intro i off hi hp
    have e : ixFrom p (x :: r) off = if p x = true then (off : Int) else ixFrom p r (off + 1) := rfl
    rw [e]
    cases i with
    | zero =>
      simp only [List.getElem_cons_zero] at hp
      rw [if_pos hp]; simp
    | succ i =>
      simp only [List.getElem_cons_succ] at hp
      have hi' : i < r.length := by simpa using hi
      rw [List.take_succ_cons, List.any_cons]
      by_cases h : p x = true
      · rw [if_pos h, h, decide_eq_false (by omega)]; rfl
      · rw [if_neg h, Bool.eq_false_iff.mpr h, Bool.false_or, ← ih i (off + 1) hi' hp]
        exact decide_eq_decide.2 (by rw [show off + 1 + i = off + (i + 1) by omega])
theorem ix_anyP (p : S43 → Bool) (l : List S43) : ∀ i : Nat, decide (ixFrom p l i ≥ 0) = l.any p := by
  induction l with
  | nil => intro i; rfl
  | cons x r ih =>
    intro i
    have e : ixFrom p (x :: r) i = if p x = true then (i : Int) else ixFrom p r (i + 1) := rfl
    rw [List.any_cons, e]
    by_cases h : p x = true
    · rw [if_pos h, h]; simp
    · rw [if_neg h, Bool.eq_false_iff.mpr h, ih (i + 1)]; simp
def okP (x : S43) : Bool := decide ((x.f0.size : Int) = 4 ∨ (x.f0.size : Int) = 16) && (decide ((if (x.f0.size : Int) = 4 then 576 else 1280) ≤ x.f1 ∧ x.f1 ≤ 1499) && decide (1 ≤ x.f2 ∧ x.f2 ≤ 1000600))
def gp : List S43 → List S43 → Bool
  | _, [] => true
  | pre, x :: r => okP x && (!pre.any (pAd x.f0) && gp (pre ++ [x]) r)
def okPs (L : List S43) : Bool := decide (L.length ≤ 8) && gp [] L
theorem gp_step (L : List S43) (i : Nat) (hi : i < L.length) : gp (L.take i) (L.drop i) = (okP L[i] && (!(L.take i).any (pAd L[i].f0) && gp (L.take (i + 1)) (L.drop (i + 1)))) := by
  rw [List.drop_eq_getElem_cons hi, List.take_succ_eq_append_getElem hi]; rfl
theorem pathOK_i (x : S43) : impl_pathOK.f x.f0 x.f1 x.f2 = some (okP x) := by
  unfold impl_pathOK.f impl_isAddress.f impl_versionOf.f impl_leastMtu.f okP
  by_cases h : (x.f0.size : Int) = 4
  · simp only [h, if_true, Option.bind_some, inR]
    by_cases q : 576 ≤ x.f1 ∧ x.f1 ≤ 1499 <;> simp [q]
  · by_cases h2 : (x.f0.size : Int) = 16
    · simp only [h2, Option.bind_some, inR]
      by_cases q : 1280 ≤ x.f1 ∧ x.f1 ≤ 1499 <;> simp [q]
    · simp only [if_neg h, Option.bind_some, inR]
      simp [h, h2]
theorem paths_i_l0 (L : List S43) (hl : L.length ≤ 8) (d : Nat) : ∀ (k i : Nat), L.length = i + d → d < k → impl_PathsOK.l0 k L L (L.length : Int) (i : Int) = some (gp (L.take i) (L.drop i)) := by
  induction d with
  | zero =>
    intro k i hi hk
    obtain ⟨k, rfl⟩ : ∃ m, k = m + 1 := ⟨k - 1, by omega⟩
    rw [impl_PathsOK.l0, if_neg (by omega), List.drop_of_length_le (by omega)]; rfl
  | succ d ih =>
    intro k i hi hk
    obtain ⟨k, rfl⟩ : ∃ m, k = m + 1 := ⟨k - 1, by omega⟩
    rw [impl_PathsOK.l0, if_pos (by omega), if_pos (by omega), if_pos (by omega), rd43 (by omega), ww i (by omega), pathOK_i, Option.bind_some, gp_step L i (by omega), ih k (i + 1) (by omega) (by omega), if_pos (show (i : Int) ≤ L.length by omega), Int.toNat_natCast]
    have a := ix_anyP (pAd L[i].f0) (L.take i) 0
    have e : impl_pathTo.f (L.take i) L[i].f0 = some (ixFrom (pAd L[i].f0) (L.take i) 0) := rfl
    rw [e, Option.bind_some, ← a]
    cases okP L[i]
    · rfl
    · by_cases h : ixFrom (pAd L[i].f0) (L.take i) 0 ≥ 0
      · rw [if_pos rfl, if_pos h, decide_eq_true h]; rfl
      · rw [if_pos rfl, if_neg h, decide_eq_false h]; rfl
theorem paths_s_l0 (L : List S43) (hl : L.length ≤ 8) (d : Nat) : ∀ (k i : Nat), L.length = i + d → d + 20 < k → spec_PathsOK.l0 k L (i : Int) = some (gp (L.take i) (L.drop i)) := by
  induction d with
  | zero =>
    intro k i hi hk
    obtain ⟨k, rfl⟩ : ∃ m, k = m + 1 := ⟨k - 1, by omega⟩
    rw [spec_PathsOK.l0, if_neg (by omega), List.drop_of_length_le (by omega)]; rfl
  | succ d ih =>
    intro k i hi hk
    obtain ⟨k, rfl⟩ : ∃ m, k = m + 1 := ⟨k - 1, by omega⟩
    have a := ix_first (p := pAd L[i].f0) L i 0 (by omega) (by unfold pAd; exact decide_eq_true rfl)
    rw [Nat.zero_add] at a
    rw [spec_PathsOK.l0, if_pos (by omega), if_pos (by omega), rd43 (by omega), ww i (by omega), gp_step L i (by omega), ih k (i + 1) (by omega) (by omega), findP L _ (by omega) k (by omega), ← a]
    simp only [spec_l15Least.f, inS, okP]
    by_cases h : (L[i].f0.size : Int) = 4
    · simp only [if_pos h]
      rw [Option.bind_some, Option.bind_some, Option.bind_some, Option.bind_some, decide_eq_true (Or.inl h)]
      cases decide ((576 : Int) ≤ L[i].f1 ∧ L[i].f1 ≤ 1499)
      · rfl
      · cases decide (1 ≤ L[i].f2 ∧ L[i].f2 ≤ 1000600)
        · rfl
        · by_cases h3 : ixFrom (pAd L[i].f0) L 0 = (i : Int)
          · rw [if_pos rfl, if_pos rfl, if_pos h3, decide_eq_true h3]; rfl
          · rw [if_pos rfl, if_pos rfl, if_neg h3, decide_eq_false h3]; rfl
    · simp only [if_neg h]
      by_cases h2 : (L[i].f0.size : Int) = 16
      · rw [if_pos h2, Option.bind_some, Option.bind_some, Option.bind_some, Option.bind_some, decide_eq_true (Or.inr h2)]
        cases decide ((1280 : Int) ≤ L[i].f1 ∧ L[i].f1 ≤ 1499)
        · rfl
        · cases decide (1 ≤ L[i].f2 ∧ L[i].f2 ≤ 1000600)
          · rfl
          · by_cases h3 : ixFrom (pAd L[i].f0) L 0 = (i : Int)
            · rw [if_pos rfl, if_pos rfl, if_pos h3, decide_eq_true h3]; rfl
            · rw [if_pos rfl, if_pos rfl, if_neg h3, decide_eq_false h3]; rfl
      · rw [if_neg h2, decide_eq_false (by omega)]; rfl
theorem paths_ok (L : List S43) (k : Nat) (hk : 40 < k) : impl_PathsOK.f k L = some (okPs L) ∧ spec_PathsOK.f k L = some (okPs L) := by
  unfold impl_PathsOK.f spec_PathsOK.f okPs
  by_cases h : (L.length : Int) > 8
  · rw [if_pos h, if_pos h, decide_eq_false (by omega)]; exact ⟨rfl, rfl⟩
  · rw [if_neg h, if_neg h, decide_eq_true (by omega)]
    have e1 := paths_i_l0 L (by omega) L.length k 0 (by omega) (by omega)
    have e2 := paths_s_l0 L (by omega) L.length k 0 (by omega) (by omega)
    rw [List.take_zero, List.drop_zero] at e1 e2
    exact ⟨e1, e2⟩
def lv (t : Int) (x : S43) : Bool := decide (x.f2 > t)
def Dx (x y : S43) : Prop := x.f0.toList ≠ y.f0.toList
theorem gp_iff (L : List S43) : ∀ pre, gp pre L = true ↔ (∀ x ∈ L, okP x = true) ∧ (∀ x ∈ L, ∀ y ∈ pre, Dx y x) ∧ L.Pairwise Dx := by
  induction L with
  | nil => intro pre; simp [gp]
  | cons x r ih =>
    intro pre
    have ih' := ih (pre ++ [x])
    simp only [gp, Bool.and_eq_true, Bool.not_eq_true', ih', List.mem_cons, List.pairwise_cons, List.mem_append, List.not_mem_nil, or_false]
    have e : pre.any (pAd x.f0) = false ↔ ∀ y ∈ pre, Dx y x := by
      rw [List.any_eq_false]
      constructor
      · intro h y hy; have := h y hy; simpa [pAd, Dx] using this
      · intro h y hy; have := h y hy; simpa [pAd, Dx] using this
    rw [e]
    constructor
    · rintro ⟨h1, h2, h3, h4, h5⟩
      refine ⟨?_, ?_, ?_, h5⟩
      · rintro y (rfl | hy)
        · exact h1
        · exact h3 y hy
      · rintro y (rfl | hy) z hz
        · exact h2 z hz
        · exact h4 y hy z (Or.inl hz)
      · intro y hy; exact h4 y hy x (Or.inr rfl)
    · rintro ⟨h1, h2, h3, h4⟩
      refine ⟨h1 x (Or.inl rfl), h2 x (Or.inl rfl), fun y hy => h1 y (Or.inr hy), ?_, h4⟩
      rintro y hy z (hz | rfl)
      · exact h2 y (Or.inr hy) z hz
      · exact h3 y hy
def Good (L : List S43) : Prop := L.length ≤ 8 ∧ (∀ x ∈ L, okP x = true) ∧ L.Pairwise Dx
theorem good_iff (L : List S43) : okPs L = true ↔ Good L := by
  unfold okPs Good
  rw [Bool.and_eq_true, decide_eq_true_eq, gp_iff]
  simp
theorem Good.sub {L M : List S43} (h : Good L) (hs : M.Sublist L) : Good M :=
  ⟨Nat.le_trans hs.length_le h.1, fun x hx => h.2.1 x (hs.subset hx), h.2.2.sublist hs⟩
theorem ix_spec (p : S43 → Bool) (L : List S43) : ∀ off : Nat, (ixFrom p L off = -1 ∧ ∀ x ∈ L, p x = false) ∨ ∃ (j : Nat) (hj : j < L.length), ixFrom p L off = ((off + j : Nat) : Int) ∧ p L[j] = true := by
  induction L with
  | nil => intro off; left; exact ⟨rfl, by simp⟩
  | cons x r ih =>
    intro off
    have e : ixFrom p (x :: r) off = if p x = true then (off : Int) else ixFrom p r (off + 1) := rfl
    rw [e]
    by_cases h : p x = true
    · right; exact ⟨0, by simp, by rw [if_pos h]; simp, by simpa using h⟩
    · rw [if_neg h]
      rcases ih (off + 1) with ⟨h1, h2⟩ | ⟨j, hj, h1, h2⟩
      · left
        refine ⟨h1, fun y hy => ?_⟩
        rcases List.mem_cons.1 hy with rfl | hy
        · exact Bool.eq_false_iff.mpr h
        · exact h2 y hy
      · right
        exact ⟨j + 1, by simpa using hj, by rw [h1]; congr 1; omega, by simpa using h2⟩
theorem pAd_true {a : ByteArray} {x : S43} : pAd a x = true ↔ x.f0.toList = a.toList := by unfold pAd; exact decide_eq_true_iff
theorem pAd_false {a : ByteArray} {x : S43} : pAd a x = false ↔ x.f0.toList ≠ a.toList := by unfold pAd; exact decide_eq_false_iff_not
/-- At most one path leads to an address. -/
theorem uniq {L : List S43} (h : L.Pairwise Dx) (a : ByteArray) (i j : Nat) (hi : i < L.length) (hj : j < L.length) (h1 : L[i].f0.toList = a.toList) (h2 : L[j].f0.toList = a.toList) : i = j := by
  rw [List.pairwise_iff_getElem] at h
  rcases Nat.lt_trichotomy i j with q | q | q
  · exact absurd (h1.trans h2.symm) (h i j hi hj q)
  · exact q
  · exact absurd (h2.trans h1.symm) (h j i hj hi q)
theorem erased {L : List S43} (h : L.Pairwise Dx) (a : ByteArray) (j : Nat) (hj : j < L.length) (h1 : L[j].f0.toList = a.toList) : ∀ y ∈ L.eraseIdx j, y.f0.toList ≠ a.toList := by
  intro y hy e
  obtain ⟨i, hi, hne, rfl⟩ := List.mem_eraseIdx_iff_getElem.1 hy
  exact hne (uniq h a i j hi hj e h1)
def least (a : ByteArray) : Int := if (a.size : Int) = 4 then 576 else 1280
/-- What is known of the way to an address. -/
def pm (L : List S43) (a : ByteArray) (t : Int) : Int := if 0 ≤ ixFrom (pAd a) L 0 then (if (rd_T43 L (ixFrom (pAd a) L 0)).f2 > t then (rd_T43 L (ixFrom (pAd a) L 0)).f1 else 1500) else 1500
theorem pm_in {L : List S43} (h : L.Pairwise Dx) (a : ByteArray) (t : Int) (i : Nat) (hi : i < L.length) (h1 : L[i].f0.toList = a.toList) : pm L a t = if L[i].f2 > t then L[i].f1 else 1500 := by
  unfold pm
  rcases ix_spec (pAd a) L 0 with ⟨_, h3⟩ | ⟨j, hj, h2, h3⟩
  · exact absurd h1 (pAd_false.1 (h3 L[i] (List.getElem_mem hi)))
  · have e := uniq h a j i hj hi (pAd_true.1 h3) h1
    subst e
    rw [h2, Nat.zero_add, if_pos (by omega), rd43 hj]
theorem pm_out {L : List S43} (a : ByteArray) (t : Int) (h : ∀ x ∈ L, x.f0.toList ≠ a.toList) : pm L a t = 1500 := by
  unfold pm
  rcases ix_spec (pAd a) L 0 with ⟨h2, _⟩ | ⟨j, hj, _, h3⟩
  · rw [h2, if_neg (by omega)]
  · exact absurd (pAd_true.1 h3) (h _ (List.getElem_mem hj))
def am (out : List S43) : Nat → Nat → Nat → Nat
  | 0, _, f => f
  | d + 1, i, f => am out d (i + 1) (if (rd_T43 out (i : Int)).f2 < (rd_T43 out (f : Int)).f2 then i else f)
theorem am_lt (out : List S43) (d : Nat) : ∀ i f : Nat, i + d ≤ out.length → f < out.length → am out d i f < out.length := by
  induction d with
  | zero => intro i f _ h; exact h
  | succ d ih =>
    intro i f h1 h2
    rw [am]
    split
    · exact ih _ _ (by omega) (by omega)
    · exact ih _ _ (by omega) h2
def fin (out : List S43) (a : ByteArray) (m t : Int) : List S43 := if m = 1500 then out else if out.length = 8 then out.eraseIdx (am out 8 0 0) ++ [⟨a, m, t + 600⟩] else out ++ [⟨a, m, t + 600⟩]
def wasOf (out : List S43) (a : ByteArray) : Int := if 0 ≤ ixFrom (pAd a) out 0 then (rd_T43 out (ixFrom (pAd a) out 0)).f1 else 1500
def outOf (out : List S43) (a : ByteArray) : List S43 := if 0 ≤ ixFrom (pAd a) out 0 then out.eraseIdx (ixFrom (pAd a) out 0).toNat else out
def lrn (L : List S43) (a : ByteArray) (mtu t : Int) : List S43 := fin (outOf (L.filter (lv t)) a) a (min (wasOf (L.filter (lv t)) a) (max mtu (least a))) t
theorem ok_size {x : S43} (h : okP x = true) : ((x.f0.size : Int) = 4 ∨ (x.f0.size : Int) = 16) ∧ (least x.f0 ≤ x.f1 ∧ x.f1 ≤ 1499) ∧ (1 ≤ x.f2 ∧ x.f2 ≤ 1000600) := by
  simp only [okP, Bool.and_eq_true, decide_eq_true_eq] at h
  exact ⟨h.1, h.2.1, h.2.2⟩
theorem least_eq {x a : ByteArray} (h : x.toList = a.toList) : least x = least a := by
  have : x.size = a.size := by
    have e := congrArg List.length h
    rw [ByteArray.toList_eq, ByteArray.toList_eq, data_length, data_length] at e
    exact e
  unfold least
  rw [this]
theorem out_facts {out : List S43} (hg : Good out) (a : ByteArray) : (outOf out a).Sublist out ∧ (∀ y ∈ outOf out a, y.f0.toList ≠ a.toList) ∧ (least a ≤ wasOf out a ∧ wasOf out a ≤ 1500) := by
  unfold outOf wasOf
  rcases ix_spec (pAd a) out 0 with ⟨h2, h3⟩ | ⟨j, hj, h2, h3⟩
  · rw [h2, if_neg (by omega), if_neg (by omega)]
    exact ⟨List.Sublist.refl _, fun y hy => pAd_false.1 (h3 y hy), by unfold least; split <;> omega, by omega⟩
  · rw [h2, Nat.zero_add, if_pos (by omega), if_pos (by omega), Int.toNat_natCast, rd43 hj]
    have e := pAd_true.1 h3
    have k := ok_size (hg.2.1 out[j] (List.getElem_mem hj))
    rw [least_eq e] at k
    exact ⟨List.eraseIdx_sublist _ _, erased hg.2.2 a j hj e, by omega, by omega⟩
theorem fin_good {out : List S43} (hg : Good out) (a : ByteArray) (ha : (a.size : Int) = 4 ∨ (a.size : Int) = 16) (hn : ∀ y ∈ out, y.f0.toList ≠ a.toList) (m t : Int) (h1 : least a ≤ m) (h2 : m ≤ 1500) (h3 : 0 ≤ t ∧ t ≤ 1000000) : Good (fin out a m t) := by
  have app : ∀ M : List S43, M.Sublist out → M.length ≤ 7 → m ≠ 1500 → Good (M ++ [⟨a, m, t + 600⟩]) := by
    intro M hs hl hm
    have g := hg.sub hs
    refine ⟨by simp; omega, ?_, ?_⟩
    · intro x hx
      rcases List.mem_append.1 hx with hx | hx
      · exact g.2.1 x hx
      · obtain rfl := List.mem_singleton.1 hx
        unfold least at h1
        simp only [okP, Bool.and_eq_true, decide_eq_true_eq]
        exact ⟨ha, ⟨h1, by omega⟩, by omega, by omega⟩
    · rw [List.pairwise_append]
      refine ⟨g.2.2, by simp, fun x hx y hy => ?_⟩
      obtain rfl := List.mem_singleton.1 hy
      exact hn x (hs.subset hx)
  unfold fin
  by_cases q : m = 1500
  · rw [if_pos q]; exact hg
  · rw [if_neg q]
    by_cases q2 : out.length = 8
    · rw [if_pos q2]
      have := am_lt out 8 0 0 (by omega) (by omega)
      exact app _ (List.eraseIdx_sublist _ _) (by rw [List.length_eraseIdx_of_lt this]; omega) q
    · rw [if_neg q2]
      have := hg.1
      exact app out (List.Sublist.refl _) (by omega) q
theorem lrn_good {L : List S43} (hg : Good L) (a : ByteArray) (ha : (a.size : Int) = 4 ∨ (a.size : Int) = 16) (mtu t : Int) (h3 : 0 ≤ t ∧ t ≤ 1000000) : Good (lrn L a mtu t) := by
  have g := hg.sub (List.filter_sublist (l := L) (p := lv t))
  obtain ⟨o1, o2, o3, o4⟩ := out_facts g a
  unfold lrn
  exact fin_good (g.sub o1) a ha o2 _ t (by omega) (by omega) h3
theorem tooLong_no (a : ByteArray) (ha : (a.size : Int) = 4 ∨ (a.size : Int) = 16) (k : Nat) (hk : 5 < k) : impl_tooLong.f k [a] = some false := by
  obtain ⟨k, rfl⟩ : ∃ m, k = m + 2 := ⟨k - 2, by omega⟩
  unfold impl_tooLong.f
  have z0 : (rdOf ByteArray.empty [a] 0) = a := rfl
  rw [impl_tooLong.l0, if_pos (by simp), if_pos (by omega), if_pos (by simp), z0, if_neg (by omega), show wrap64 (0 + 1) = 1 by rw [w64 (by omega) (by omega)]; rfl, impl_tooLong.l0, if_neg (by simp)]
theorem isAd (a : ByteArray) (ha : (a.size : Int) = 4 ∨ (a.size : Int) = 16) : impl_isAddress.f a = some true := by
  unfold impl_isAddress.f
  by_cases h : (a.size : Int) = 4
  · rw [if_pos h]
  · rw [if_neg h]; simp; omega
theorem fault_no {L : List S43} (hg : Good L) (t : Int) (ht : 0 ≤ t ∧ t ≤ 1000000) (k : Nat) (hk : 40 < k) : impl_pathsFault.f k L t = some 0 := by
  unfold impl_pathsFault.f
  rw [(paths_ok L k hk).1, (good_iff L).2 hg, Option.bind_some, if_pos rfl, inR, decide_eq_true ht, Option.bind_some, if_pos rfl]
theorem live_s_l0 (l : List S43) (t : Int) (hl : l.length ≤ 2000000) (d : Nat) : ∀ (k i : Nat) (o : List S43), l.length = i + d → d < k → o.length ≤ i → spec_l15Live.l0 k l t o (i : Int) = some (o ++ (l.drop i).filter (lv t)) := by
  induction d with
  | zero =>
    intro k i o hi hk ho
    obtain ⟨k, rfl⟩ : ∃ m, k = m + 1 := ⟨k - 1, by omega⟩
    rw [spec_l15Live.l0, if_neg (by omega), List.drop_of_length_le (by omega)]; simp
  | succ d ih =>
    intro k i o hi hk ho
    obtain ⟨k, rfl⟩ : ∃ m, k = m + 1 := ⟨k - 1, by omega⟩
    rw [spec_l15Live.l0, if_pos (by omega), if_pos (by omega), rd43 (by omega), ww i (by omega), List.drop_eq_getElem_cons (by omega), List.filter_cons]
    by_cases h : l[i].f2 > t
    · rw [if_pos h, if_pos (by omega), ih k (i + 1) _ (by omega) (by omega) (by simp; omega), if_pos (show lv t l[i] = true from decide_eq_true h)]; simp
    · rw [if_neg h, ih k (i + 1) _ (by omega) (by omega) (by omega), if_neg (show ¬ lv t l[i] = true by unfold lv; rw [decide_eq_false h]; decide)]
theorem live_i_l0 (l : List S43) (t : Int) (hl : l.length ≤ 2000000) (d : Nat) : ∀ (k i : Nat) (o : List S43), l.length = i + d → d < k → o.length ≤ i → impl_alive.l0 k t o l (l.length : Int) (i : Int) = some (o ++ (l.drop i).filter (lv t)) := by
  induction d with
  | zero =>
    intro k i o hi hk ho
    obtain ⟨k, rfl⟩ : ∃ m, k = m + 1 := ⟨k - 1, by omega⟩
    rw [impl_alive.l0, if_neg (by omega), List.drop_of_length_le (by omega)]; simp
  | succ d ih =>
    intro k i o hi hk ho
    obtain ⟨k, rfl⟩ : ∃ m, k = m + 1 := ⟨k - 1, by omega⟩
    rw [impl_alive.l0, if_pos (by omega), if_pos (by omega), if_pos (by omega), rd43 (by omega), ww i (by omega), List.drop_eq_getElem_cons (by omega), List.filter_cons]
    by_cases h : l[i].f2 > t
    · rw [if_pos h, if_pos (by omega), ih k (i + 1) _ (by omega) (by omega) (by simp; omega), if_pos (show lv t l[i] = true from decide_eq_true h)]; simp
    · rw [if_neg h, ih k (i + 1) _ (by omega) (by omega) (by omega), if_neg (show ¬ lv t l[i] = true by unfold lv; rw [decide_eq_false h]; decide)]
theorem live_s (l : List S43) (t : Int) (hl : l.length ≤ 100) (k : Nat) (hk : 100 < k) : spec_l15Live.f k l t = some (l.filter (lv t)) := by
  have := live_s_l0 l t (by omega) l.length k 0 [] (by omega) (by omega) (by simp)
  rw [List.drop_zero, List.nil_append] at this
  exact this
theorem live_i (l : List S43) (t : Int) (hl : l.length ≤ 100) (k : Nat) (hk : 100 < k) : impl_alive.f k l t = some (l.filter (lv t)) := by
  have := live_i_l0 l t (by omega) l.length k 0 [] (by omega) (by omega) (by simp)
  rw [List.drop_zero, List.nil_append] at this
  exact this
theorem least_s (a : ByteArray) : spec_l15Least.f a = some (least a) := by
  unfold spec_l15Least.f least
  split <;> rfl
theorem least_i (a : ByteArray) : (impl_versionOf.f a).bind impl_leastMtu.f = some (least a) := by
  unfold impl_versionOf.f least
  by_cases h : (a.size : Int) = 4
  · rw [if_pos h, if_pos h, Option.bind_some]; rfl
  · rw [if_neg h, if_neg h, Option.bind_some]; rfl
theorem spec_min_l0 (out : List S43) (hl : out.length ≤ 8) (a : ByteArray) (m u : Int) (d : Nat) : ∀ (i f k : Nat), i + d = out.length → f < out.length → d < k → spec_l15Learn.l0 k out (f : Int) (i : Int) a m u = some (out.eraseIdx (am out d i f) ++ [⟨a, m, u⟩]) := by
  induction d with
  | zero =>
    intro i f k hi hf hk
    obtain ⟨k, rfl⟩ : ∃ m, k = m + 1 := ⟨k - 1, by omega⟩
    have e1 : (out.take f).length ≤ 8 := by rw [List.length_take]; omega
    have e2 : (out.drop (f + 1)).length ≤ 8 := by rw [List.length_drop]; omega
    rw [spec_l15Learn.l0, if_neg (by omega), Option.bind_some, if_pos (by omega), if_pos (by omega), Option.bind_some, Int.toNat_natCast, if_pos (by simp; omega), Option.bind_some, List.nil_append, ww f (by omega), if_pos (by omega), if_pos (by omega), Option.bind_some, Int.toNat_natCast, if_pos (by omega), Option.bind_some, if_pos (by rw [List.length_append]; omega), am, List.eraseIdx_eq_take_drop_succ]
  | succ d ih =>
    intro i f k hi hf hk
    obtain ⟨k, rfl⟩ : ∃ m, k = m + 1 := ⟨k - 1, by omega⟩
    rw [spec_l15Learn.l0, if_pos (by omega), if_pos (by omega), if_pos (by omega), if_pos (by omega), ww i (by omega), am]
    by_cases q : (rd_T43 out (i : Int)).f2 < (rd_T43 out (f : Int)).f2
    · rw [if_pos q, if_pos q]; exact ih (i + 1) i k (by omega) (by omega) (by omega)
    · rw [if_neg q, if_neg q]; exact ih (i + 1) f k (by omega) hf (by omega)
theorem impl_min_l0 (out : List S43) (hl : out.length ≤ 8) (a : ByteArray) (m t : Int) (ht : 0 ≤ t ∧ t ≤ 1000000) (d : Nat) : ∀ (i f k : Nat), i + d = out.length → f < out.length → d < k → impl_LearnPath.l0 k a m t out (f : Int) out (out.length : Int) (i : Int) = some (out.eraseIdx (am out d i f) ++ [⟨a, m, t + 600⟩], 0) := by
  induction d with
  | zero =>
    intro i f k hi hf hk
    obtain ⟨k, rfl⟩ : ∃ m, k = m + 1 := ⟨k - 1, by omega⟩
    rw [impl_LearnPath.l0, if_neg (by omega), ww f (by omega), impl_Path_43.f, if_pos (by omega), if_pos (by omega), if_pos (by omega), Option.bind_some, Int.toNat_natCast, if_pos (by have := List.length_eraseIdx_le out f; omega), am, w64 (x := t + 600) (by omega) (by omega)]
  | succ d ih =>
    intro i f k hi hf hk
    obtain ⟨k, rfl⟩ : ∃ m, k = m + 1 := ⟨k - 1, by omega⟩
    rw [impl_LearnPath.l0, if_pos (by omega), if_pos (by omega), if_pos (by omega), if_pos (by omega), if_pos (by omega), ww i (by omega), am]
    by_cases q : (rd_T43 out (i : Int)).f2 < (rd_T43 out (f : Int)).f2
    · rw [if_pos q, if_pos q]; exact ih (i + 1) i k (by omega) (by omega) (by omega)
    · rw [if_neg q, if_neg q]; exact ih (i + 1) f k (by omega) hf (by omega)
theorem am_10 (out : List S43) (h : out.length = 8) : am out 8 0 0 = am out 7 1 0 := by
  rw [am, if_neg (by omega)]
theorem spec_fin (out : List S43) (hl : out.length ≤ 8) (a : ByteArray) (mtu t was : Int) (ht : 0 ≤ t ∧ t ≤ 1000000) (k : Nat) (hk : 50 < k) : spec_l15Learn.j0 k a mtu t out was = some (fin out a (min was (max mtu (least a))) t) := by
  obtain ⟨k, rfl⟩ : ∃ m, k = m + 1 := ⟨k - 1, by omega⟩
  rw [spec_l15Learn.j0, least_s, Option.bind_some, mn_eq, mx_eq, w64 (x := t + 600) (by omega) (by omega), fin]
  by_cases q : min was (max mtu (least a)) = 1500
  · rw [if_pos q, if_pos q]
  · rw [if_neg q, if_neg q]
    by_cases q2 : out.length = 8
    · rw [if_pos (by omega), if_pos q2, am_10 out q2]
      exact spec_min_l0 out hl a _ _ 7 1 0 k (by omega) (by omega) (by omega)
    · rw [if_neg (by omega), if_neg q2, if_pos (by omega)]
theorem impl_fin (out : List S43) (hl : out.length ≤ 8) (a : ByteArray) (mtu t was : Int) (ht : 0 ≤ t ∧ t ≤ 1000000) (k : Nat) (hk : 50 < k) : impl_LearnPath.j1 k a mtu t out was = some (fin out a (min was (max mtu (least a))) t, 0) := by
  obtain ⟨k, rfl⟩ : ∃ m, k = m + 1 := ⟨k - 1, by omega⟩
  have e := least_i a
  obtain ⟨v, ev, e2⟩ := Option.bind_eq_some_iff.1 e
  rw [impl_LearnPath.j1, ev, Option.bind_some, e2, Option.bind_some, mn_eq, mx_eq, show min (max mtu (least a)) was = min was (max mtu (least a)) by omega, fin]
  by_cases q : min was (max mtu (least a)) = 1500
  · rw [if_pos q, if_pos q]
  · rw [if_neg q, if_neg q]
    by_cases q2 : out.length = 8
    · rw [if_pos (by omega), if_pos q2]
      exact impl_min_l0 out hl a _ t ht 8 0 0 k (by omega) (by omega) (by omega)
    · rw [if_neg (by omega), if_neg q2, if_pos (by omega), w64 (x := t + 600) (by omega) (by omega)]
theorem spec_learn (L : List S43) (hl : L.length ≤ 8) (a : ByteArray) (mtu t : Int) (ht : 0 ≤ t ∧ t ≤ 1000000) (k : Nat) (hk : 200 < k) : spec_l15Learn.f k L a mtu t = some (lrn L a mtu t) := by
  have hf := List.length_filter_le (lv t) L
  unfold spec_l15Learn.f lrn outOf wasOf
  rw [live_s L t (by omega) k (by omega), Option.bind_some, findP _ a (by omega) k (by omega), Option.bind_some]
  rcases ix_spec (pAd a) (L.filter (lv t)) 0 with ⟨h2, _⟩ | ⟨j, hj, h2, h3⟩
  · rw [h2, if_neg (by omega), if_neg (by omega), if_neg (by omega)]
    exact spec_fin _ (by omega) a mtu t 1500 ht k (by omega)
  · rw [h2, Nat.zero_add]
    generalize L.filter (lv t) = out at *
    have e1 : (out.take j).length ≤ 8 := by rw [List.length_take]; omega
    have e2 : (out.drop (j + 1)).length ≤ 8 := by rw [List.length_drop]; omega
    rw [if_pos (by omega), if_pos (by omega), if_pos (by omega), Option.bind_some, if_pos (by omega), Option.bind_some, Int.toNat_natCast, if_pos (by simp; omega), Option.bind_some, List.nil_append, ww j (by omega), if_pos (by omega), if_pos (by omega), Option.bind_some, Int.toNat_natCast, if_pos (by omega), if_pos (by omega), if_pos (by omega), ← List.eraseIdx_eq_take_drop_succ]
    exact spec_fin _ (by have := List.length_eraseIdx_le out j; omega) a mtu t _ ht k (by omega)
theorem impl_learn {L : List S43} (hg : Good L) (a : ByteArray) (ha : (a.size : Int) = 4 ∨ (a.size : Int) = 16) (mtu t : Int) (hm : 0 ≤ mtu ∧ mtu ≤ 65535) (ht : 0 ≤ t ∧ t ≤ 1000000) (k : Nat) (hk : 200 < k) : impl_LearnPath.f k L a mtu t = some (lrn L a mtu t, 0) := by
  have hl := hg.1
  have hf := List.length_filter_le (lv t) L
  obtain ⟨k, rfl⟩ : ∃ m, k = m + 1 := ⟨k - 1, by omega⟩
  unfold impl_LearnPath.f lrn outOf wasOf
  rw [if_neg (by omega), tooLong_no a ha _ (by omega), Option.bind_some, impl_LearnPath.j0, if_neg (by decide), isAd a ha, Option.bind_some, if_pos rfl, fault_no hg t ht k (by omega), Option.bind_some, if_pos rfl, inR, decide_eq_true hm, Option.bind_some, if_pos rfl, live_i L t (by omega) k (by omega), Option.bind_some]
  have ep : impl_pathTo.f (L.filter (lv t)) a = some (ixFrom (pAd a) (L.filter (lv t)) 0) := rfl
  rw [ep, Option.bind_some]
  rcases ix_spec (pAd a) (L.filter (lv t)) 0 with ⟨h2, _⟩ | ⟨j, hj, h2, h3⟩
  · rw [h2, if_neg (by omega), if_neg (by omega), if_neg (by omega)]
    exact impl_fin _ (by omega) a mtu t 1500 ht k (by omega)
  · rw [h2, Nat.zero_add]
    generalize L.filter (lv t) = out at *
    rw [if_pos (by omega), if_pos (by omega), if_pos (by omega), ww j (by omega), impl_Path_43.f, if_pos (by omega), if_pos (by omega), if_pos (by omega), Option.bind_some, Int.toNat_natCast, if_pos (by omega), if_pos (by omega)]
    exact impl_fin _ (by have := List.length_eraseIdx_le out j; omega) a mtu t _ ht k (by omega)
theorem mtu_ok {L : List S43} (hg : Good L) (a : ByteArray) (ha : (a.size : Int) = 4 ∨ (a.size : Int) = 16) (t : Int) (ht : 0 ≤ t ∧ t ≤ 1000000) (k : Nat) (hk : 200 < k) : impl_PathMtu.f k L a t = some (pm L a t, 0) := by
  have hl := hg.1
  obtain ⟨k, rfl⟩ : ∃ m, k = m + 1 := ⟨k - 1, by omega⟩
  unfold impl_PathMtu.f pm
  rw [if_neg (by omega), tooLong_no a ha _ (by omega), Option.bind_some, impl_PathMtu.j0, if_neg (by decide), isAd a ha, Option.bind_some, if_pos rfl, fault_no hg t ht k (by omega), Option.bind_some, if_pos rfl]
  have ep : impl_pathTo.f L a = some (ixFrom (pAd a) L 0) := rfl
  rw [ep, Option.bind_some]
  rcases ix_spec (pAd a) L 0 with ⟨h2, _⟩ | ⟨j, hj, h2, h3⟩
  · rw [h2, if_neg (by omega), if_neg (by omega)]
  · rw [h2, Nat.zero_add]
    by_cases q : (rd_T43 L (j : Int)).f2 > t
    · rw [if_pos q, if_pos q, if_pos (by omega), if_pos (by omega), if_pos (by omega), if_pos (by omega)]
    · rw [if_neg q, if_neg q, if_pos (by omega), if_pos (by omega), if_pos (by omega), if_pos (by omega)]
/-- A source of choices that stands right: its bytes, its place (at most b), its seed. -/
structure Sr (c : List Int) (a s b : Int) : Prop where
  bytes : ∀ x ∈ c, 0 ≤ x ∧ x ≤ 255
  len : (c.length : Int) ≤ 140737488355328
  a0 : 0 ≤ a
  ab : a ≤ b
  bb : b ≤ 1000000000000000
  s0 : 0 ≤ s
  s1 : s < 2147483648
theorem Sr.mono {c : List Int} {a s b b' : Int} (h : Sr c a s b) (h1 : b ≤ b') (h2 : b' ≤ 1000000000000000) : Sr c a s b' := ⟨h.bytes, h.len, h.a0, Int.le_trans h.ab h1, h2, h.s0, h.s1⟩
theorem mod_b {x n : Int} (hx : 0 ≤ x) (hn : 0 < n) : 0 ≤ Int.tmod x n ∧ Int.tmod x n < n := by
  rw [tmod_nonneg_eq hx]; exact ⟨Int.emod_nonneg _ (by omega), Int.emod_lt_of_pos _ hn⟩
theorem byte_ok {c : List Int} {a s b : Int} (h : Sr c a s b) (hb : b ≤ 900000000000000) : ∃ v s', spec_l00Src_byte.f c a s = some (v, a + 1, s') ∧ 0 ≤ v ∧ v ≤ 255 ∧ Sr c (a + 1) s' (b + 1) := by
  obtain ⟨h1, h2, h3, h4, h5, h6, h7⟩ := h
  unfold spec_l00Src_byte.f
  rw [w64 (x := a + 1) (by omega) (by omega)]
  by_cases q : a + 1 ≤ (c.length : Int)
  · rw [if_pos q, w64 (x := a + 1 - 1) (by omega) (by omega), if_pos (by omega), if_pos (by omega)]
    have r := rd_byte h1 (a + 1 - 1)
    generalize rd c (a + 1 - 1) = v at r ⊢
    rw [w64 (x := v) (by omega) (by omega), w64 (x := s * 31) (by omega) (by omega), w64 (x := s * 31 + v) (by omega) (by omega), w64 (x := s * 31 + v + 7) (by omega) (by omega)]
    have m := mod_b (x := s * 31 + v + 7) (n := 2147483648) (by omega) (by omega)
    exact ⟨v, _, rfl, r.1, r.2, ⟨h1, h2, by omega, by omega, by omega, m.1, m.2⟩⟩
  · rw [if_neg q]
    by_cases q2 : a + 1 > 3000
    · rw [if_pos q2]
      exact ⟨0, s, rfl, by omega, by omega, ⟨h1, h2, by omega, by omega, by omega, h6, h7⟩⟩
    · rw [if_neg q2, w64 (x := s * 1103515245) (by omega) (by omega), w64 (x := s * 1103515245 + 12345) (by omega) (by omega)]
      have m := mod_b (x := s * 1103515245 + 12345) (n := 2147483648) (by omega) (by omega)
      generalize Int.tmod (s * 1103515245 + 12345) 2147483648 = s' at m ⊢
      have e : 0 ≤ Int.tdiv s' 65536 ∧ Int.tdiv s' 65536 ≤ 32767 := by rw [tdiv_nonneg_eq m.1]; omega
      rw [w64 (x := Int.tdiv s' 65536) (by omega) (by omega)]
      have m2 := mod_b (x := Int.tdiv s' 65536) (n := 256) e.1 (by omega)
      exact ⟨_, s', rfl, m2.1, by omega, ⟨h1, h2, by omega, by omega, by omega, m.1, m.2⟩⟩
theorem next_ok {c : List Int} {a s b : Int} (h : Sr c a s b) (hb : b ≤ 800000000000000) (n : Int) (hn : 1 ≤ n) (hn2 : n ≤ 10000000) : ∃ v a' s', spec_l00Src_next.f c a s n = some (v, a', s') ∧ 0 ≤ v ∧ v < n ∧ Sr c a' s' (b + 3) := by
  unfold spec_l00Src_next.f
  by_cases q : n ≤ 1
  · rw [if_pos q]; exact ⟨0, a, s, rfl, by omega, by omega, h.mono (by omega) (by omega)⟩
  rw [if_neg q]
  by_cases q2 : n ≤ 256
  · obtain ⟨v, s', e, v0, v1, h'⟩ := byte_ok h (by omega)
    rw [if_pos q2, e]
    simp only [Option.bind_some]
    rw [if_neg (by omega)]
    have m := mod_b (x := v) (n := n) v0 (by omega)
    exact ⟨_, _, _, rfl, m.1, m.2, h'.mono (by omega) (by omega)⟩
  · obtain ⟨v, s1, e1, v0, v1, h1⟩ := byte_ok h (by omega)
    obtain ⟨u, s2, e2, u0, u1, h2⟩ := byte_ok h1 (by omega)
    obtain ⟨t, s3, e3, t0, t1, h3⟩ := byte_ok h2 (by omega)
    rw [if_neg q2, e1]
    simp only [Option.bind_some]
    rw [e2]
    simp only [Option.bind_some]
    rw [e3]
    simp only [Option.bind_some]
    rw [if_neg (by omega), w64 (x := v * 65536) (by omega) (by omega), w64 (x := u * 256) (by omega) (by omega), w64 (x := v * 65536 + u * 256) (by omega) (by omega), w64 (x := v * 65536 + u * 256 + t) (by omega) (by omega)]
    have m := mod_b (x := v * 65536 + u * 256 + t) (n := n) (by omega) (by omega)
    exact ⟨_, _, _, rfl, m.1, m.2, h3.mono (by omega) (by omega)⟩
theorem source_ok {l : List Int} (hl : ∀ x ∈ l, 0 ≤ x ∧ x ≤ 255) (h2 : (l.length : Int) ≤ 140737488355328) : spec_l00Source.f l = some (l, 0, (l.length : Int) % 1000) ∧ Sr l 0 ((l.length : Int) % 1000) 0 :=
  ⟨rfl, ⟨hl, h2, by omega, by omega, by omega, by omega, by omega⟩⟩
theorem chance_ok {c : List Int} {a s b : Int} (h : Sr c a s b) (hb : b ≤ 800000000000000) (n : Int) (hn : 1 ≤ n) (hn2 : n ≤ 10000000) : ∃ v a' s', spec_l00Src_chance.f c a s n = some (v, a', s') ∧ Sr c a' s' (b + 3) := by
  obtain ⟨v, a', s', e, v0, v1, h'⟩ := next_ok h hb n hn hn2
  unfold spec_l00Src_chance.f
  rw [e]
  exact ⟨_, a', s', rfl, h'⟩
theorem addr4_ok {c : List Int} {a s b : Int} (h : Sr c a s b) (hb : b ≤ 700000000000000) : ∃ p a' s', spec_l00Src_addr4.f c a s = some (p, a', s') ∧ p.size = 4 ∧ Sr c a' s' (b + 9) := by
  obtain ⟨v1, a1, s1, e1, l1, u1, h1⟩ := next_ok h (by omega) 3 (by omega) (by omega)
  obtain ⟨v2, a2, s2, e2, l2, u2, h2⟩ := next_ok h1 (by omega) 2 (by omega) (by omega)
  obtain ⟨v3, a3, s3, e3, l3, u3, h3⟩ := next_ok h2 (by omega) 4 (by omega) (by omega)
  unfold spec_l00Src_addr4.f
  rw [e1, Option.bind_some]
  dsimp only
  rw [e2, Option.bind_some]
  dsimp only
  rw [e3, Option.bind_some]
  exact ⟨_, a3, s3, rfl, by rw [strOfNums_size]; rfl, h3.mono (by omega) (by omega)⟩
theorem addr6_l0 {c : List Int} (m : Nat) : ∀ (xs : List Int) (a s b : Int) (k : Nat), Sr c a s b → b + 6 * m ≤ 700000000000000 → xs.length = 16 → m < k → ∃ p a' s', spec_l00Src_addr6.l0 k xs (m : Int) c a s = some (p, a', s') ∧ p.size = 16 ∧ Sr c a' s' (b + 6 * m) := by
  induction m with
  | zero =>
    intro xs a s b k h hb hx hk
    obtain ⟨k, rfl⟩ : ∃ m, k = m + 1 := ⟨k - 1, by omega⟩
    rw [spec_l00Src_addr6.l0, if_neg (by omega)]
    exact ⟨_, a, s, rfl, by rw [strOfNums_size, hx], h.mono (by omega) (by have := h.bb; omega)⟩
  | succ m ih =>
    intro xs a s b k h hb hx hk
    have hb0 := Int.le_trans h.a0 h.ab
    obtain ⟨k, rfl⟩ : ∃ m, k = m + 1 := ⟨k - 1, by omega⟩
    obtain ⟨v1, a1, s1, e1, l1, u1, h1⟩ := next_ok h (by omega) 16 (by omega) (by omega)
    obtain ⟨v2, a2, s2, e2, l2, u2, h2⟩ := next_ok h1 (by omega) 256 (by omega) (by omega)
    rw [spec_l00Src_addr6.l0, if_pos (by omega), e1, Option.bind_some]
    dsimp only
    rw [e2, Option.bind_some]
    dsimp only
    rw [if_pos l1, if_pos (by rw [hx]; omega), w64 (x := ((m + 1 : Nat) : Int) - 1) (by omega) (by omega), show ((m + 1 : Nat) : Int) - 1 = (m : Int) by omega]
    obtain ⟨p, a', s', ep, hp, h'⟩ := ih (xs.set v1.toNat (v2 % 256)) a2 s2 (b + 3 + 3) k h2 (by omega) (by rw [List.length_set, hx]) (by omega)
    exact ⟨p, a', s', ep, hp, h'.mono (by omega) (by omega)⟩
theorem addr6_ok {c : List Int} {a s b : Int} (h : Sr c a s b) (hb : b ≤ 600000000000000) (k : Nat) (hk : 10 < k) : ∃ p a' s', spec_l00Src_addr6.f k c a s = some (p, a', s') ∧ p.size = 16 ∧ Sr c a' s' (b + 100) := by
  obtain ⟨v1, a1, s1, e1, l1, u1, h1⟩ := next_ok h (by omega) 2 (by omega) (by omega)
  obtain ⟨v2, a2, s2, e2, l2, u2, h2⟩ := next_ok h1 (by omega) 4 (by omega) (by omega)
  unfold spec_l00Src_addr6.f
  rw [if_pos (by omega), Option.bind_some, if_pos (by rw [List.length_replicate]; omega), e1, Option.bind_some]
  dsimp only
  rw [if_pos (by rw [List.length_replicate]; omega), e2, Option.bind_some]
  dsimp only
  obtain ⟨m, rfl⟩ : ∃ m : Nat, v2 = (m : Int) := ⟨v2.toNat, by omega⟩
  obtain ⟨p, a', s', ep, hp, h'⟩ := addr6_l0 m (((List.replicate 16 0).set (0 : Int).toNat 32).set (1 : Int).toNat (v1 % 256)) a2 s2 (b + 3 + 3) k h2 (by omega) (by rw [List.length_set, List.length_set, List.length_replicate]) (by omega)
  exact ⟨p, a', s', ep, hp, h'.mono (by omega) (by omega)⟩
theorem addr_ok {c : List Int} {a s b : Int} (h : Sr c a s b) (hb : b ≤ 500000000000000) (k : Nat) (hk : 10 < k) : ∃ p a' s', spec_l00Src_addr.f k c a s = some (p, a', s') ∧ ((p.size : Int) = 4 ∨ (p.size : Int) = 16) ∧ Sr c a' s' (b + 200) := by
  have hb0 := Int.le_trans h.a0 h.ab
  obtain ⟨v, a1, s1, e1, h1⟩ := chance_ok h (by omega) 2 (by omega) (by omega)
  unfold spec_l00Src_addr.f
  rw [e1, Option.bind_some]
  dsimp only
  by_cases q : v = true
  · obtain ⟨p, a2, s2, e2, z2, h2⟩ := addr4_ok h1 (by omega)
    rw [if_pos q, e2, Option.bind_some]
    exact ⟨p, a2, s2, rfl, Or.inl (by omega), h2.mono (by omega) (by omega)⟩
  · obtain ⟨p, a2, s2, e2, z2, h2⟩ := addr6_ok h1 (by omega) k hk
    rw [if_neg q, e2, Option.bind_some]
    exact ⟨p, a2, s2, rfl, Or.inr (by omega), h2.mono (by omega) (by omega)⟩
theorem paths_l0 {c : List Int} (m : Nat) : ∀ (L : List S43) (a s b : Int) (k : Nat), Good L → Sr c a s b → b + 300 * m ≤ 400000000000000 → m + 300 < k → ∃ L' a' s', spec_l00Src_paths.l0 k L (m : Int) c a s = some (L', a', s') ∧ Good L' := by
  induction m with
  | zero =>
    intro L a s b k hg h hb hk
    obtain ⟨k, rfl⟩ : ∃ m, k = m + 1 := ⟨k - 1, by omega⟩
    rw [spec_l00Src_paths.l0, if_neg (by omega)]
    exact ⟨L, a, s, rfl, hg⟩
  | succ m ih =>
    intro L a s b k hg h hb hk
    have hb0 := Int.le_trans h.a0 h.ab
    obtain ⟨k, rfl⟩ : ∃ m, k = m + 1 := ⟨k - 1, by omega⟩
    obtain ⟨p, a1, s1, e1, z1, h1⟩ := addr_ok h (by omega) k (by omega)
    obtain ⟨v2, a2, s2, e2, l2, u2, h2⟩ := next_ok h1 (by omega) 7 (by omega) (by omega)
    obtain ⟨v3, a3, s3, e3, l3, u3, h3⟩ := next_ok h2 (by omega) 900 (by omega) (by omega)
    rw [spec_l00Src_paths.l0, if_pos (by omega), e1, Option.bind_some]
    dsimp only
    rw [Option.bind_some, e2, Option.bind_some]
    dsimp only
    rw [if_pos l2, if_pos (by simpa using u2), e3, Option.bind_some]
    dsimp only
    rw [spec_learn L hg.1 p _ v3 (by omega) k (by omega), Option.bind_some, w64 (x := ((m + 1 : Nat) : Int) - 1) (by omega) (by omega), show ((m + 1 : Nat) : Int) - 1 = (m : Int) by omega]
    exact ih _ a3 s3 (b + 200 + 3 + 3) k (lrn_good hg p z1 _ v3 (by omega)) h3 (by omega) (by omega)
theorem pathsOf_ok (l : List Int) (hl : ∀ x ∈ l, 0 ≤ x ∧ x ≤ 255) (h2 : (l.length : Int) ≤ 140737488355328) (k : Nat) (hk : 400 < k) : ∃ L, spec_PathsOf.f k l = some L ∧ Good L := by
  obtain ⟨e, hs⟩ := source_ok hl h2
  unfold spec_PathsOf.f
  rw [e, Option.bind_some]
  dsimp only
  obtain ⟨v, a1, s1, e1, l1, u1, h1⟩ := next_ok hs (by omega) 12 (by omega) (by omega)
  unfold spec_l00Src_paths.f
  rw [e1, Option.bind_some]
  dsimp only
  obtain ⟨m, rfl⟩ : ∃ m : Nat, v = (m : Int) := ⟨v.toNat, by omega⟩
  obtain ⟨L, a', s', eL, hL⟩ := paths_l0 m [] a1 s1 (0 + 3) k ⟨by simp, by simp, List.Pairwise.nil⟩ h1 (by omega) (by omega)
  rw [eL, Option.bind_some]
  exact ⟨L, rfl, hL⟩
theorem addrOf_ok (l : List Int) (hl : ∀ x ∈ l, 0 ≤ x ∧ x ≤ 255) (h2 : (l.length : Int) ≤ 140737488355328) (k : Nat) (hk : 400 < k) : ∃ p, spec_AddrOf.f k l = some p ∧ ((p.size : Int) = 4 ∨ (p.size : Int) = 16) := by
  obtain ⟨e, hs⟩ := source_ok hl h2
  unfold spec_AddrOf.f
  rw [e, Option.bind_some]
  dsimp only
  obtain ⟨p, a', s', ep, hp, _⟩ := addr_ok hs (by omega) k (by omega)
  rw [ep, Option.bind_some]
  exact ⟨p, rfl, hp⟩
theorem at_ok (l : List Int) (hl : ∀ x ∈ l, 0 ≤ x ∧ x ≤ 255) (i n : Int) (hi : 0 ≤ i) (hi2 : i ≤ 100000) (hn : 1 < n) (hn2 : n ≤ 1000000000) : ∃ r, laws_at.f l i n = some r ∧ 0 ≤ r ∧ r < n := choice l hl i n hi hi2 hn hn2
theorem pm_was {L : List S43} (hg : Good L) (a : ByteArray) (t : Int) : pm L a t = wasOf (L.filter (lv t)) a := by
  have hf : (L.filter (lv t)).Pairwise Dx := hg.2.2.sublist List.filter_sublist
  unfold wasOf
  rcases ix_spec (pAd a) (L.filter (lv t)) 0 with ⟨h2, h3⟩ | ⟨j, hj, h2, h3⟩
  · rw [h2, if_neg (by omega)]
    rcases ix_spec (pAd a) L 0 with ⟨_, q3⟩ | ⟨i, hi, _, q3⟩
    · exact pm_out a t (fun x hx => pAd_false.1 (q3 x hx))
    · have e := pAd_true.1 q3
      rw [pm_in hg.2.2 a t i hi e]
      by_cases q : L[i].f2 > t
      · exact absurd e (pAd_false.1 (h3 L[i] (List.mem_filter.2 ⟨List.getElem_mem hi, decide_eq_true q⟩)))
      · rw [if_neg q]
  · have e := pAd_true.1 h3
    have hm := List.mem_filter.1 (List.getElem_mem hj)
    obtain ⟨i, hi, ei⟩ := List.mem_iff_getElem.1 hm.1
    rw [h2, Nat.zero_add, if_pos (by omega), rd43 hj, pm_in hg.2.2 a t i hi (by rw [ei]; exact e), ei, if_pos (of_decide_eq_true hm.2)]
theorem fin_pm {out : List S43} (a : ByteArray) (hn : ∀ y ∈ out, y.f0.toList ≠ a.toList) (m t u : Int) (hp : (fin out a m t).Pairwise Dx) : pm (fin out a m t) a u = if m = 1500 then 1500 else if t + 600 > u then m else 1500 := by
  have app : ∀ M : List S43, M.Sublist out → (M ++ [(⟨a, m, t + 600⟩ : S43)]).Pairwise Dx → pm (M ++ [⟨a, m, t + 600⟩]) a u = if t + 600 > u then m else 1500 := by
    intro M _ hw
    have hi : M.length < (M ++ [(⟨a, m, t + 600⟩ : S43)]).length := by simp
    have eq : (M ++ [(⟨a, m, t + 600⟩ : S43)])[M.length] = ⟨a, m, t + 600⟩ := by simp
    have := pm_in hw a u M.length hi (by rw [eq])
    rw [eq] at this
    exact this
  unfold fin at hp ⊢
  by_cases q : m = 1500
  · rw [if_pos q, if_pos q]; exact pm_out a u hn
  · rw [if_neg q] at hp
    rw [if_neg q, if_neg q]
    by_cases q2 : out.length = 8
    · rw [if_pos q2] at hp
      rw [if_pos q2]; exact app _ (List.eraseIdx_sublist _ _) hp
    · rw [if_neg q2] at hp
      rw [if_neg q2]; exact app out (List.Sublist.refl _) hp
theorem fin_until {out : List S43} (a : ByteArray) (m t : Int) (h : ∀ x ∈ out, x.f2 > t) : ∀ x ∈ fin out a m t, x.f2 > t := by
  have app : ∀ M : List S43, M.Sublist out → ∀ x ∈ M ++ [(⟨a, m, t + 600⟩ : S43)], x.f2 > t := by
    intro M hs x hx
    rcases List.mem_append.1 hx with hx | hx
    · exact h x (hs.subset hx)
    · obtain rfl := List.mem_singleton.1 hx
      show t + 600 > t
      omega
  unfold fin
  split
  · exact h
  · split
    · exact app _ (List.eraseIdx_sublist _ _)
    · exact app out (List.Sublist.refl _)
theorem code_no {L : List S43} (hg : Good L) (a : ByteArray) (ha : (a.size : Int) = 4 ∨ (a.size : Int) = 16) (t : Int) (ht : 0 ≤ t ∧ t ≤ 1000000) (k : Nat) (hk : 40 < k) : spec_l15Code.f k L a t = some 0 := by
  obtain ⟨k, rfl⟩ : ∃ m, k = m + 1 := ⟨k - 1, by omega⟩
  have hl := hg.1
  have fin : spec_l15Code.j0 (k + 1) t false = some 0 := by
    rw [spec_l15Code.j0, if_neg (by decide), inS, decide_eq_true ht, Option.bind_some, if_pos rfl]
  unfold spec_l15Code.f
  rw [if_neg (by omega), (paths_ok L _ hk).2, (good_iff L).2 hg, Option.bind_some, if_pos rfl]
  by_cases h : (a.size : Int) = 4
  · rw [if_pos h]; exact fin
  · have e : ((a.size : Int) != 16) = false := by simp; omega
    rw [if_neg h, e]; exact fin
theorem segI (x m : Int) (hx : x = 4 ∨ x = 6) (h : 576 ≤ m ∧ m ≤ 1500) (k : Nat) : impl_SegmentSize.f (k + 1) x m = impl_SegmentSize.j0 (k + 1) x m false ∧ spec_SegmentSize.f (k + 1) x m = spec_SegmentSize.j0 (k + 1) x m false := by
  have e : decide (576 ≤ m ∧ m ≤ 65535) = true := decide_eq_true ⟨h.1, by omega⟩
  constructor
  · unfold impl_SegmentSize.f
    rw [inR, e, Option.bind_some]
    by_cases q : x = 4
    · rw [if_pos q]; rfl
    · rw [if_neg q, if_pos (by omega)]; rfl
  · unfold spec_SegmentSize.f
    rw [inS, e, Option.bind_some]
    by_cases q : x = 4
    · rw [if_pos q]; rfl
    · rw [if_neg q, if_pos (by omega)]; rfl
theorem seg6 (m : Int) (h : 576 ≤ m ∧ m ≤ 1500) (k : Nat) : impl_SegmentSize.f (k + 1) 6 m = some (m - 60, 0) ∧ spec_SegmentSize.f (k + 1) 6 m = some (m - 60, 0) := by
  rw [(segI 6 m (by omega) h k).1, (segI 6 m (by omega) h k).2, impl_SegmentSize.j0, spec_SegmentSize.j0, if_neg (show ¬ false = true by decide), if_neg (show ¬ (6 : Int) = 4 by decide), w64 (x := m - 60) (by omega) (by omega)]
  exact ⟨rfl, rfl⟩
theorem seg4 (m : Int) (h : 576 ≤ m ∧ m ≤ 1500) (k : Nat) : impl_SegmentSize.f (k + 1) 4 m = some (m - 40, 0) ∧ spec_SegmentSize.f (k + 1) 4 m = some (m - 40, 0) := by
  rw [(segI 4 m (by omega) h k).1, (segI 4 m (by omega) h k).2, impl_SegmentSize.j0, spec_SegmentSize.j0, if_neg (show ¬ false = true by decide), if_pos rfl, w64 (x := m - 40) (by omega) (by omega)]
  exact ⟨rfl, rfl⟩
theorem last_l0 (p : ByteArray) (hp : (p.size : Int) = 4 ∨ (p.size : Int) = 16) (t m : Int) (hm : 576 ≤ m ∧ m ≤ 1500) (N : List S43) (hl : N.length ≤ 8) (hN : ∀ x ∈ N, x.f2 > t) (d : Nat) : ∀ (i k : Nat), N.length = i + d → d + 1 < k → laws_FnPaths.l0 k p t N N m (i : Int) = some true := by
  induction d with
  | zero =>
    intro i k hi hk
    obtain ⟨k, rfl⟩ : ∃ m, k = m + 2 := ⟨k - 2, by omega⟩
    rw [laws_FnPaths.l0, if_neg (by omega)]
    by_cases h : (p.size : Int) = 16
    · rw [if_pos h, (seg6 m hm k).1, Option.bind_some, (seg6 m hm k).2, Option.bind_some]
      dsimp only
      rw [if_pos rfl, if_pos rfl, decide_eq_true (by omega)]
    · rw [if_neg h, (seg4 m hm k).1, Option.bind_some, (seg4 m hm k).2, Option.bind_some]
      dsimp only
      rw [if_pos rfl, if_pos rfl, decide_eq_true (by omega)]
  | succ d ih =>
    intro i k hi hk
    obtain ⟨k, rfl⟩ : ∃ m, k = m + 1 := ⟨k - 1, by omega⟩
    have hil : i < N.length := by omega
    have := hN N[i] (List.getElem_mem hil)
    rw [laws_FnPaths.l0, if_pos (by omega), if_pos (by omega), if_pos (by omega), if_neg (by simp), rd43 hil, if_neg (by omega), ww i (by omega)]
    exact ih (i + 1) k (by omega) (by omega)
theorem FnPaths : fnPaths.Say := by
  intro l0 l1 ⟨m0, w0⟩ ⟨m1, w1⟩
  unfold maxLen at m0 m1
  refine ⟨5000, ?_⟩
  simp only [laws_FnPaths.f]
  by_cases c0 : (l0.length : Int) > 1048576
  · rw [if_pos c0]; simp only [laws_FnPaths.j0, if_true]
  rw [if_neg c0]
  by_cases c1 : (l1.length : Int) > 1048576
  · rw [decide_eq_true c1]; simp only [laws_FnPaths.j0, if_true]
  rw [decide_eq_false c1, laws_FnPaths.j0, if_neg (by decide)]
  have b1 := bs w1
  obtain ⟨L, eL, hg⟩ := pathsOf_ok l0 (bs w0) (by omega) 4999 (by omega)
  obtain ⟨p, ep, hp⟩ := addrOf_ok l1 b1 (by omega) 4999 (by omega)
  obtain ⟨u, eu, u0, u1⟩ := at_ok l1 b1 0 500 (by omega) (by omega) (by omega) (by omega)
  obtain ⟨mtu, em, n0, n1⟩ := at_ok l1 b1 1 2000 (by omega) (by omega) (by omega) (by omega)
  obtain ⟨t, ht⟩ : ∃ t, t = 1000 + u := ⟨_, rfl⟩
  have htr : 0 ≤ t ∧ t ≤ 1000000 := by omega
  rw [eL, Option.bind_some, ep, Option.bind_some, eu, Option.bind_some, em, Option.bind_some, w64 (x := 1000 + u) (by omega) (by omega), ← ht, w64 (x := t + 600) (by omega) (by omega)]
  clear eL ep eu em
  -- what the functions answer
  have gN := lrn_good hg p hp mtu t htr
  have r1 := mtu_ok hg p hp t htr 4999 (by omega)
  have r2 := impl_learn hg p hp mtu t (by omega) htr 4999 (by omega)
  have r3 : spec_LearnPath.f 4999 L p mtu t = some (lrn L p mtu t, 0) := by
    unfold spec_LearnPath.f
    rw [code_no hg p hp t htr 4999 (by omega), Option.bind_some, if_pos rfl, inS, decide_eq_true (by omega), Option.bind_some, if_pos rfl, spec_learn L hg.1 p mtu t htr 4999 (by omega), Option.bind_some]
  have r4 := mtu_ok gN p hp t htr 4999 (by omega)
  have r5 := mtu_ok gN p hp (t + 600) (by omega) 4999 (by omega)
  have r6 : impl_ExpirePaths.f 4999 L t = some (L.filter (lv t), 0) := by
    have := hg.1
    unfold impl_ExpirePaths.f
    rw [if_neg (by omega), fault_no hg t htr 4999 (by omega), Option.bind_some, if_pos rfl, live_i L t (by omega) 4999 (by omega), Option.bind_some]
  have gO := hg.sub (List.filter_sublist (l := L) (p := lv t))
  obtain ⟨o1, o2, o3, o4⟩ := out_facts gO p
  have ew := pm_was hg p t
  obtain ⟨was, hwas⟩ : ∃ x, x = wasOf (L.filter (lv t)) p := ⟨_, rfl⟩
  obtain ⟨m, hm⟩ : ∃ x, x = min was (max mtu (least p)) := ⟨_, rfl⟩
  have eN : lrn L p mtu t = fin (outOf (L.filter (lv t)) p) p m t := by rw [hm, hwas]; rfl
  have e4 : pm (lrn L p mtu t) p t = m := by
    have gp := gN.2.2
    rw [eN] at gp ⊢
    rw [fin_pm p o2 m t t gp]
    by_cases q : m = 1500
    · rw [if_pos q, q]
    · rw [if_neg q, if_pos (by omega)]
  have e5 : pm (lrn L p mtu t) p (t + 600) = 1500 := by
    have gp := gN.2.2
    rw [eN] at gp ⊢
    rw [fin_pm p o2 m t (t + 600) gp]
    by_cases q : m = 1500
    · rw [if_pos q]
    · rw [if_neg q, if_neg (by omega)]
  have hu : ∀ x ∈ lrn L p mtu t, x.f2 > t := by
    rw [eN]
    exact fin_until p m t (fun x hx => of_decide_eq_true (List.mem_filter.1 (o1.subset hx)).2)
  rw [ew, ← hwas] at r1
  rw [e4] at r4
  rw [e5] at r5
  rw [← hwas] at o3 o4
  have hl : 576 ≤ least p ∧ least p ≤ 1280 := by unfold least; split <;> omega
  rw [r1, Option.bind_some, r2, Option.bind_some, r3, Option.bind_some]
  dsimp only
  rw [r4, Option.bind_some, r5, Option.bind_some, r6, Option.bind_some]
  dsimp only
  rw [if_pos rfl, if_pos rfl, if_pos rfl, if_pos rfl, if_pos rfl, if_pos rfl, if_neg (show ¬ m > was by omega), mx_eq]
  have hfl := List.length_filter_le (lv t) L
  have pk := (paths_ok (lrn L p mtu t) 4999 (by omega)).1
  rw [(good_iff _).2 gN] at pk
  have fin1 : laws_FnPaths.j1 4999 p t (lrn L p mtu t) (lrn L p mtu t) m (decide (((L.filter (lv t)).length : Int) > (L.length : Int))) = some true := by
    rw [laws_FnPaths.j1, decide_eq_false (by omega), if_neg (by decide)]
    have := last_l0 p hp t m (by omega) (lrn L p mtu t) gN.1 hu (lrn L p mtu t).length 0 4998 (by omega) (by have := gN.1; omega)
    exact this
  by_cases q : m > max mtu 1280
  · rw [if_pos q, if_pos (show m = was by omega), if_pos rfl, pk, Option.bind_some, if_pos rfl]
    exact fin1
  · rw [if_neg q, if_pos rfl, pk, Option.bind_some, if_pos rfl]
    exact fin1
end Go.Proofs.Ytgbkpledbjkjoaa.Pure
namespace Go.Proofs.Ytgbkpledbjkjoaa
/-- The row. -/
theorem fnPaths_holds : Rows.FnPathsSaid := fnPaths.row_of Pure.FnPaths
end Go.Proofs.Ytgbkpledbjkjoaa
