/- The law FnExactRingOK holds. -/
import Derived.Test.YthcohaeafdcokaaAid
import Derived.Test.YthcohaeafdcokaaSayFnExactRingOK
namespace Go.Proofs.Ythcohaeafdcokaa.Pure
set_option linter.unusedSimpArgs false
set_option linter.unusedVariables false
open Go.RowKit Go.Proofs.Ythcohaeafdcokaa.PFnExactRingOK Go.Proofs.YthcohaeafdcokaaW.PrintWords Go.Proofs.YthcohaeafdcokaaW.PrintLast Go.Proofs.YthcohaeafdcokaaW.PrintMore Go.Proofs.Ythcohaeafdcokaa.Aid
theorem inR (a b c : Int) : impl_inRange.f a b c = some (decide (b ≤ a ∧ a ≤ c)) := by
  unfold impl_inRange.f
  by_cases h : a ≥ b
  · rw [if_pos h]; simp [show b ≤ a from h]
  · rw [if_neg h]; simp; omega
theorem inS (a b c : Int) : spec_l01In.f a b c = some (decide (b ≤ a ∧ a ≤ c)) := by
  unfold spec_l01In.f
  by_cases h : a ≥ b
  · rw [if_pos h]; simp [show b ≤ a from h]
  · rw [if_neg h]; simp; omega
theorem ww (i : Nat) (h : i < 4000000000000000000) : wrap64 ((i : Int) + 1) = ((i + 1 : Nat) : Int) := by rw [w64 (by omega) (by omega)]; simp
theorem set_mid {α : Type} (A R : List α) (z v : α) : (A ++ z :: R).set A.length v = A ++ v :: R := by
  simp [List.set_append]
theorem rdi {l : List Int} {i : Nat} (h : i < l.length) : rd l (i : Int) = l[i] := by simp [rd, List.getD_eq_getElem?_getD, h]
theorem toI_l0 (l : List Int) (hl : l.length ≤ 2000000) (d : Nat) : ∀ (k i : Nat), l.length = i + d → d < k → laws_toIntS.l0 k l (l.take i ++ List.replicate d 0) (i : Int) = some l := by
  induction d with
  | zero =>
    intro k i hi hk
    obtain ⟨k, rfl⟩ : ∃ m, k = m + 1 := ⟨k - 1, by omega⟩
    simp only [laws_toIntS.l0]
    rw [if_neg (by omega), List.take_of_length_le (by omega)]
    simp
  | succ d ih =>
    intro k i hi hk
    obtain ⟨k, rfl⟩ : ∃ m, k = m + 1 := ⟨k - 1, by omega⟩
    simp only [laws_toIntS.l0]
    rw [if_pos (by omega), if_pos (by omega), if_pos (by simp; omega), ww i (by omega), rdi (by omega)]
    have e : ((l.take i ++ List.replicate (d + 1) 0).set ((i : Int).toNat) l[i]) = l.take (i + 1) ++ List.replicate d 0 := by
      rw [Int.toNat_natCast, List.replicate_succ]
      have := set_mid (l.take i) (List.replicate d 0) 0 l[i]
      rw [show (l.take i).length = i by simp; omega] at this
      rw [List.take_succ_eq_append_getElem (by omega), List.append_assoc, List.singleton_append]
      exact this
    rw [e]
    exact ih k (i + 1) (by omega) (by omega)
theorem toI_ok (l : List Int) (hl : l.length ≤ 2000000) (k : Nat) (hk : l.length < k) : laws_toIntS.f k l = some l := by
  unfold laws_toIntS.f
  rw [if_pos (by omega), if_pos (by omega)]
  have := toI_l0 l hl l.length k 0 (by omega) hk
  simpa using this
theorem eqI_l0 (l : List Int) (hl : l.length ≤ 2000000) (d : Nat) : ∀ (k i : Nat), l.length = i + d → d < k → laws_eqIntS.l0 k l l (i : Int) = some true := by
  induction d with
  | zero =>
    intro k i hi hk
    obtain ⟨k, rfl⟩ : ∃ m, k = m + 1 := ⟨k - 1, by omega⟩
    simp only [laws_eqIntS.l0]
    rw [if_neg (by omega)]
  | succ d ih =>
    intro k i hi hk
    obtain ⟨k, rfl⟩ : ∃ m, k = m + 1 := ⟨k - 1, by omega⟩
    simp only [laws_eqIntS.l0, if_true]
    rw [if_pos (by omega), if_pos (by omega), if_pos (by omega), ww i (by omega)]
    exact ih k (i + 1) (by omega) (by omega)
theorem eqI_ok (l : List Int) (hl : l.length ≤ 2000000) (k : Nat) (hk : l.length < k) : laws_eqIntS.f k l l = some true := by
  unfold laws_eqIntS.f
  rw [if_pos rfl]
  exact eqI_l0 l hl l.length k 0 (by omega) hk
def gd : List Int → List Int → Bool
  | _, [] => true
  | pre, x :: r => decide (0 ≤ x ∧ x ≤ 999) && (!pre.contains x && gd (pre ++ [x]) r)
theorem gd_iff (L : List Int) : ∀ pre, gd pre L = true ↔ (∀ x ∈ L, 0 ≤ x ∧ x ≤ 999) ∧ (∀ x ∈ L, x ∉ pre) ∧ L.Nodup := by
  induction L with
  | nil => intro pre; simp [gd]
  | cons x r ih =>
    intro pre
    have e : gd pre (x :: r) = (decide (0 ≤ x ∧ x ≤ 999) && (!pre.contains x && gd (pre ++ [x]) r)) := rfl
    rw [e, Bool.and_eq_true, Bool.and_eq_true, ih, decide_eq_true_eq, Bool.not_eq_true', List.nodup_cons]
    constructor
    · rintro ⟨h1, h2, h3, h4, h5⟩
      refine ⟨?_, ?_, ?_, h5⟩
      · intro y hy
        rcases List.mem_cons.1 hy with rfl | hy
        · exact h1
        · exact h3 y hy
      · intro y hy hp
        rcases List.mem_cons.1 hy with rfl | hy
        · rw [List.contains_iff_mem.2 hp] at h2; cases h2
        · exact h4 y hy (List.mem_append_left _ hp)
      · intro hx
        exact h4 x hx (by simp)
    · rintro ⟨h1, h2, h3, h5⟩
      refine ⟨h1 x (by simp), ?_, fun y hy => h1 y (by simp [hy]), ?_, h5⟩
      · rw [← Bool.not_eq_true]
        intro hc
        exact h2 x (by simp) (List.contains_iff_mem.1 hc)
      · intro y hy hp
        rcases List.mem_append.1 hp with hp | hp
        · exact h2 y (by simp [hy]) hp
        · simp only [List.mem_singleton] at hp
          subst hp; exact h3 hy
theorem gd_swap (A B : List Int) : gd [] (A ++ B) = gd [] (B ++ A) := by
  rw [Bool.eq_iff_iff, gd_iff, gd_iff]
  have p : (A ++ B).Perm (B ++ A) := List.perm_append_comm
  constructor
  · rintro ⟨h1, _, h3⟩
    exact ⟨fun x hx => h1 x (p.mem_iff.2 hx), by simp, p.nodup_iff.1 h3⟩
  · rintro ⟨h1, _, h3⟩
    exact ⟨fun x hx => h1 x (p.mem_iff.1 hx), by simp, p.nodup_iff.2 h3⟩
theorem ring_s_l1 (L : List Int) (hl : L.length ≤ 1000) (i : Nat) (hi : i < L.length) (d : Nat) : ∀ (k j : Nat), i = j + d → spec_RingOK.l1 (k + d + 1) L (i : Int) (j : Int) = if ((L.take i).drop j).contains L[i] = true then some false else spec_RingOK.l0 k L ((i + 1 : Nat) : Int) := by
  induction d with
  | zero =>
    intro k j hj
    rw [spec_RingOK.l1, if_neg (by omega), ww i (by omega), List.drop_of_length_le (by simp; omega)]
    simp
  | succ d ih =>
    intro k j hj
    have hj' : j < (L.take i).length := by simp; omega
    rw [show k + (d + 1) + 1 = (k + d + 1) + 1 by omega, spec_RingOK.l1, if_pos (by omega), if_pos (by omega), if_pos (by omega), if_pos (by omega), if_pos (by omega), rdi (show j < L.length by omega), rdi hi, ww j (by omega), List.drop_eq_getElem_cons (i := j) hj', ih k (j + 1) (by omega), List.contains_cons, List.getElem_take]
    by_cases h : L[j] = L[i]
    · rw [if_pos h, if_pos]; simp [h]
    · rw [if_neg h]
      have e : (L[i] == L[j]) = false := by simp; exact fun h' => h h'.symm
      rw [e, Bool.false_or]
theorem ring_s_l0 (L : List Int) (hl : L.length ≤ 16) (d : Nat) : ∀ (k i : Nat), L.length = i + d → spec_RingOK.l0 (k + 30 * d + 1) L (i : Int) = some (gd (L.take i) (L.drop i)) := by
  induction d with
  | zero =>
    intro k i hi
    rw [spec_RingOK.l0, if_neg (by omega), List.drop_of_length_le (by omega)]; rfl
  | succ d ih =>
    intro k i hi
    rw [show k + 30 * (d + 1) + 1 = (k + 30 * d + 30) + 1 by omega, spec_RingOK.l0, if_pos (by omega), if_pos (by omega), rdi (by omega), inS, Option.bind_some]
    have hi' : i < L.length := by omega
    have e := ring_s_l1 L (by omega) i hi' i ((k + 28 - i) + 30 * d + 1) 0 (by omega)
    rw [show k + 28 - i + 30 * d + 1 + i + 1 = k + 30 * d + 30 by omega, List.drop_zero] at e
    have e' : spec_RingOK.l1 (k + 30 * d + 30) L (i : Int) 0 = _ := e
    have g : gd (L.take i) (L.drop i) = (decide (0 ≤ L[i] ∧ L[i] ≤ 999) && (!(L.take i).contains L[i] && gd (L.take (i + 1)) (L.drop (i + 1)))) := by
      rw [List.drop_eq_getElem_cons hi', List.take_succ_eq_append_getElem hi']; rfl
    rw [e', ih _ (i + 1) (by omega), g]
    by_cases h : 0 ≤ L[i] ∧ L[i] ≤ 999
    · rw [decide_eq_true h, if_pos rfl]
      cases (L.take i).contains L[i] <;> simp
    · rw [decide_eq_false h, if_neg (by decide)]; rfl
theorem index_l0 (P : List Int) (a : Int) (hl : P.length ≤ 1000) (d : Nat) : ∀ (k j : Nat), P.length = j + d → d < k → ∃ r, slices_Index_int_int.l0 k P a (P.length : Int) (j : Int) = some r ∧ decide (r ≥ 0) = (P.drop j).contains a := by
  induction d with
  | zero =>
    intro k j hj hk
    obtain ⟨k, rfl⟩ : ∃ m, k = m + 1 := ⟨k - 1, by omega⟩
    refine ⟨-1, by rw [slices_Index_int_int.l0, if_neg (by omega)], ?_⟩
    rw [List.drop_of_length_le (by omega)]; rfl
  | succ d ih =>
    intro k j hj hk
    obtain ⟨k, rfl⟩ : ∃ m, k = m + 1 := ⟨k - 1, by omega⟩
    rw [slices_Index_int_int.l0, if_pos (by omega), if_pos (by omega), if_pos (by omega), rdi (show j < P.length by omega), ww j (by omega), List.drop_eq_getElem_cons (show j < P.length by omega), List.contains_cons]
    by_cases h : a = P[j]
    · refine ⟨j, by rw [if_pos h], ?_⟩
      rw [← h, decide_eq_true (by omega)]; simp
    · obtain ⟨r, h1, h2⟩ := ih k (j + 1) (by omega) (by omega)
      refine ⟨r, by rw [if_neg h]; exact h1, ?_⟩
      have e : (a == P[j]) = false := by simp; exact h
      rw [e, Bool.false_or, h2]
theorem cont_ok (P : List Int) (a : Int) (hl : P.length ≤ 1000) (k : Nat) (hk : P.length < k) : slices_Contains_int_int.f k P a = some (P.contains a) := by
  obtain ⟨r, h1, h2⟩ := index_l0 P a hl P.length k 0 (by omega) hk
  unfold slices_Contains_int_int.f slices_Index_int_int.f
  have h1' : slices_Index_int_int.l0 k P a (P.length : Int) 0 = some r := h1
  rw [h1', Option.bind_some, h2, List.drop_zero]
def scal (a4 a5 a6 a7 : Int) (n : Nat) : Bool := decide (0 ≤ a4 ∧ a4 ≤ 1000000000) && (decide (0 ≤ a7 ∧ a7 ≤ 1000000000) && decide (0 ≤ a5 ∧ a5 ≤ min (n : Int) (a6 - 1)))
theorem ring_i_l0 (L l2 l3 : List Int) (a0 a4 a5 a6 a7 : Int) (b1 : Bool) (h6 : 1 ≤ a6 ∧ a6 ≤ 16) (hl : L.length ≤ 16) (d : Nat) : ∀ (k i : Nat), L.length = i + d → impl_RingOK.l0 (k + 20 + d + 1) L L (L.length : Int) (i : Int) a0 b1 l2 l3 a4 a5 a6 a7 = some (gd (L.take i) (L.drop i) && scal a4 a5 a6 a7 l3.length) := by
  induction d with
  | zero =>
    intro k i hi
    rw [impl_RingOK.l0, if_neg (by omega), List.drop_of_length_le (by omega), inR, inR, inR, mn_eq, w64 (x := a6 - 1) (by omega) (by omega)]
    simp only [Option.bind_some, gd, Bool.true_and, scal]
    cases decide (0 ≤ a4 ∧ a4 ≤ 1000000000) <;> cases decide (0 ≤ a7 ∧ a7 ≤ 1000000000) <;> simp
  | succ d ih =>
    intro k i hi
    have hi' : i < L.length := by omega
    have g : gd (L.take i) (L.drop i) = (decide (0 ≤ L[i] ∧ L[i] ≤ 999) && (!(L.take i).contains L[i] && gd (L.take (i + 1)) (L.drop (i + 1)))) := by
      rw [List.drop_eq_getElem_cons hi', List.take_succ_eq_append_getElem hi']; rfl
    rw [show k + 20 + (d + 1) + 1 = (k + 20 + d + 1) + 1 by omega, impl_RingOK.l0, if_pos (by omega), if_pos (by omega), if_pos (by omega), rdi hi', inR, Option.bind_some, Int.toNat_natCast, cont_ok _ _ (by simp; omega) _ (by simp; omega), ww i (by omega), ih k (i + 1) (by omega), g]
    by_cases h : 0 ≤ L[i] ∧ L[i] ≤ 999
    · rw [decide_eq_true h, if_pos rfl, if_pos (by omega), Option.bind_some]
      cases (L.take i).contains L[i] <;> simp
    · rw [decide_eq_false h, if_neg (by decide)]; rfl
def ringB (a0 : Int) (l2 l3 : List Int) (a4 a5 a6 a7 : Int) : Bool := decide (1 ≤ a0 ∧ a0 ≤ 16) && (decide (1 ≤ a6 ∧ a6 ≤ 16) && (!decide ((l2.length : Int) + l3.length > a0) && (scal a4 a5 a6 a7 l3.length && gd [] (l2 ++ l3))))
theorem ring_i (a0 : Int) (b1 : Bool) (l2 l3 : List Int) (a4 a5 a6 a7 : Int) (h2 : l2.length ≤ 1048576) (h3 : l3.length ≤ 1048576) (k : Nat) (hk : 1000 < k) : impl_RingOK.f k a0 b1 l2 l3 a4 a5 a6 a7 = some (ringB a0 l2 l3 a4 a5 a6 a7) := by
  obtain ⟨k, rfl⟩ : ∃ m, k = m + 1 := ⟨k - 1, by omega⟩
  unfold impl_RingOK.f ringB
  rw [inR, inR, w64 (x := (l2.length : Int) + l3.length) (by omega) (by omega)]
  simp only [Option.bind_some, impl_RingOK.j0]
  by_cases c0 : 1 ≤ a0 ∧ a0 ≤ 16
  · rw [decide_eq_true c0, if_pos rfl]
    by_cases c6 : 1 ≤ a6 ∧ a6 ≤ 16
    · rw [decide_eq_true c6, if_pos rfl]
      by_cases c : (l2.length : Int) + l3.length > a0
      · rw [decide_eq_true c, if_pos rfl]; rfl
      · rw [decide_eq_false c, if_neg (by decide), if_pos (by simp; omega), if_pos (by simp; omega), List.nil_append]
        have e := ring_i_l0 (l3 ++ l2) l2 l3 a0 a4 a5 a6 a7 b1 c6 (by simp; omega) (l3 ++ l2).length (k - 20 - (l3 ++ l2).length - 1) 0 (by omega)
        have hlen : (l3 ++ l2).length ≤ 16 := by simp; omega
        rw [show k - 20 - (l3 ++ l2).length - 1 + 20 + (l3 ++ l2).length + 1 = k by omega] at e
        refine Eq.trans e ?_
        rw [List.take_zero, List.drop_zero, gd_swap, Bool.and_comm]; rfl
    · rw [decide_eq_false c6, if_neg (by decide), if_pos trivial]; rfl
  · rw [decide_eq_false c0, if_neg (by decide), if_pos trivial]; rfl
theorem ring_s (a0 : Int) (b1 : Bool) (l2 l3 : List Int) (a4 a5 a6 a7 : Int) (h2 : l2.length ≤ 1048576) (h3 : l3.length ≤ 1048576) (k : Nat) (hk : 1000 < k) : spec_RingOK.f k a0 b1 l2 l3 a4 a5 a6 a7 = some (ringB a0 l2 l3 a4 a5 a6 a7) := by
  obtain ⟨k, rfl⟩ : ∃ m, k = m + 1 := ⟨k - 1, by omega⟩
  unfold spec_RingOK.f ringB
  rw [inS, inS, inS, inS, inS, w64 (x := (l2.length : Int) + l3.length) (by omega) (by omega)]
  simp only [Option.bind_some, spec_RingOK.j0]
  by_cases c0 : 1 ≤ a0 ∧ a0 ≤ 16
  · rw [decide_eq_true c0, if_pos rfl]
    by_cases c6 : 1 ≤ a6 ∧ a6 ≤ 16
    · rw [decide_eq_true c6, if_pos rfl, w64 (x := a6 - 1) (by omega) (by omega)]
      by_cases c : (l2.length : Int) + l3.length > a0
      · rw [if_pos c, decide_eq_true c, if_pos trivial]; rfl
      · rw [if_neg c, decide_eq_false c]
        have e := ring_s_l0 (l2 ++ l3) (by simp; omega) (l2 ++ l3).length (k - 30 * (l2 ++ l3).length - 1) 0 (by omega)
        have hlen : (l2 ++ l3).length ≤ 16 := by simp; omega
        rw [show k - 30 * (l2 ++ l3).length - 1 + 30 * (l2 ++ l3).length + 1 = k by omega] at e
        have e' : spec_RingOK.l0 k (l2 ++ l3) 0 = some (gd [] (l2 ++ l3)) := by rw [show (0 : Int) = ((0 : Nat) : Int) from rfl, e, List.take_zero, List.drop_zero]
        rw [if_pos (show ([] : List Int).length + l2.length < 17592186044416 by simp; omega), if_pos (show ([] ++ l2 : List Int).length + l3.length < 17592186044416 by simp; omega), List.nil_append, e']
        simp only [if_true]
        unfold scal
        by_cases c4 : 0 ≤ a4 ∧ a4 ≤ 1000000000
        · rw [decide_eq_true c4, if_pos rfl]
          by_cases c7 : 0 ≤ a7 ∧ a7 ≤ 1000000000
          · rw [decide_eq_true c7, if_pos rfl]
            by_cases c5 : 0 ≤ a5 ∧ a5 ≤ a6 - 1
            · rw [decide_eq_true c5, if_pos rfl]
              by_cases c8 : a5 > (l3.length : Int)
              · rw [decide_eq_true c8, if_pos rfl, decide_eq_false (by omega)]; rfl
              · rw [decide_eq_false c8, if_neg (by decide), decide_eq_true (by omega)]; rfl
            · rw [decide_eq_false c5, if_neg (by decide), decide_eq_false (by omega)]; rfl
          · rw [decide_eq_false c7, if_neg (by decide)]; rfl
        · rw [decide_eq_false c4, if_neg (by decide)]; rfl
    · rw [decide_eq_false c6, if_neg (by decide), if_pos trivial]; rfl
  · rw [decide_eq_false c0, if_neg (by decide), if_pos trivial]; rfl
theorem FnExactRingOK : fnExactRingOK.Say := by
  intro a0 b1 l2 l3 a4 a5 a6 a7 _ _ ⟨m2, _⟩ ⟨m3, _⟩ _ _ _ _
  obtain ⟨K, hK⟩ : ∃ K : Nat, K = 2000000 := ⟨_, rfl⟩
  refine ⟨K, ?_⟩
  unfold maxLen at m2 m3
  simp only [laws_FnExactRingOK.f, laws_szRing.f, laws_szIntS.f]
  rw [w64 (x := 1048576 - (l2.length : Int)) (by omega) (by omega)]
  by_cases c : 1048576 - (l2.length : Int) < 0
  · rw [if_pos c]; simp
  rw [if_neg c, Option.bind_some, if_neg c, w64 (x := 1048576 - (l2.length : Int) - (l3.length : Int)) (by omega) (by omega)]
  by_cases c2 : 1048576 - (l2.length : Int) - (l3.length : Int) < 0
  · rw [if_pos c2]; simp
  rw [if_neg c2, Option.bind_some, if_neg c2, Option.bind_some, if_neg c2]
  have T : laws_toRing.f K a0 b1 l2 l3 a4 a5 a6 a7 = some (a0, b1, l2, l3, a4, a5, a6, a7) := by
    unfold laws_toRing.f
    rw [toI_ok l2 (by omega) K (by omega), toI_ok l3 (by omega) K (by omega)]; rfl
  rw [T, Option.bind_some, ring_s _ _ _ _ _ _ _ _ (by show l2.length ≤ _; omega) (by show l3.length ≤ _; omega) K (by omega), Option.bind_some, Option.bind_some, ring_i _ _ _ _ _ _ _ _ (by show l2.length ≤ _; omega) (by show l3.length ≤ _; omega) K (by omega), Option.bind_some]
  simp only [bne_self_eq_false, Bool.false_eq_true, if_false, Option.bind_some]
  unfold laws_eqRing.f
  simp only [if_true, bne_self_eq_false, Bool.false_eq_true, if_false]
  rw [eqI_ok l2 (by omega) K (by omega), eqI_ok l3 (by omega) K (by omega)]
  simp
end Go.Proofs.Ythcohaeafdcokaa.Pure
namespace Go.Proofs.Ythcohaeafdcokaa
/-- The row. -/
theorem fnExactRingOK_holds : Rows.FnExactRingOKSaid := fnExactRingOK.row_of Pure.FnExactRingOK
end Go.Proofs.Ythcohaeafdcokaa
