/- The law FnSteers holds. -/
import Derived.Test.YtecjjkmheionoaaAid
import Derived.Test.YtecjjkmheionoaaSayFnSteers
namespace Go.Proofs.Ytecjjkmheionoaa.Pure
set_option linter.unusedSimpArgs false
set_option linter.unusedVariables false
open Go.RowKit Go.Proofs.Ytecjjkmheionoaa.PFnSteers Go.Proofs.YtecjjkmheionoaaW.PrintWords Go.Proofs.YtecjjkmheionoaaW.PrintLast Go.Proofs.YtecjjkmheionoaaW.PrintMore Go.Proofs.Ytecjjkmheionoaa.Aid
theorem inR (a b c : Int) : impl_inRange.f a b c = some (decide (b ≤ a ∧ a ≤ c)) := by
  unfold impl_inRange.f
  by_cases h : a ≥ b
  · rw [if_pos h]; simp [show b ≤ a from h]
  · rw [if_neg h]; simp; omega
theorem inS (a b c : Int) : spec_l01In.f a b c = some (decide (b ≤ a ∧ a ≤ c)) := by
  unfold spec_l01In.f
  by_cases h : a ≥ b
  · rw [if_pos h]; simp [show b ≤ a from h]
  · rw [if_neg h]; simp; omega
theorem ww (i : Nat) (h : i < 4000000000000000000) : wrap64 ((i : Int) + 1) = ((i + 1 : Nat) : Int) := by rw [w64 (by omega) (by omega)]; simp
theorem set_mid {α : Type} (A R : List α) (z v : α) : (A ++ z :: R).set A.length v = A ++ v :: R := by
  simp [List.set_append]
theorem rdi {l : List Int} {i : Nat} (h : i < l.length) : rd l (i : Int) = l[i] := by simp [rd, List.getD_eq_getElem?_getD, h]
def sp (q : Int) (n : Nat) : List Int := (List.range n).map (fun (i : Nat) => (i : Int) % q)
theorem sp_len (q : Int) (n : Nat) : (sp q n).length = n := by simp [sp]
theorem sp_succ (q : Int) (n : Nat) : sp q (n + 1) = sp q n ++ [(n : Int) % q] := by simp [sp, List.range_succ]
theorem spread_s_l0 (n : Nat) (q : Int) (hn : n ≤ 64) (hq : 1 ≤ q) (d : Nat) : ∀ (k i : Nat), n = i + d → d < k → spec_SpreadTable.l0 k (n : Int) q (sp q i) (i : Int) = some (sp q n, 0) := by
  induction d with
  | zero =>
    intro k i hi hk
    obtain ⟨k, rfl⟩ : ∃ m, k = m + 1 := ⟨k - 1, by omega⟩
    simp only [spec_SpreadTable.l0]
    rw [if_neg (by omega), show i = n by omega]
  | succ d ih =>
    intro k i hi hk
    obtain ⟨k, rfl⟩ : ∃ m, k = m + 1 := ⟨k - 1, by omega⟩
    simp only [spec_SpreadTable.l0]
    rw [if_pos (by omega), if_neg (by omega), if_pos (by rw [sp_len]; omega), ww i (by omega), tmod_nonneg_eq (by omega), ← sp_succ]
    exact ih k (i + 1) (by omega) (by omega)
theorem spread_i_l0 (n : Nat) (q : Int) (hn : n ≤ 64) (hq : 1 ≤ q) (d : Nat) : ∀ (k i : Nat), n = i + d → d < k → impl_SpreadTable.l0 k q (sp q i ++ List.replicate d 0) (n : Int) (i : Int) = some (sp q n, 0) := by
  induction d with
  | zero =>
    intro k i hi hk
    obtain ⟨k, rfl⟩ : ∃ m, k = m + 1 := ⟨k - 1, by omega⟩
    simp only [impl_SpreadTable.l0]
    rw [if_neg (by omega), show i = n by omega]; simp
  | succ d ih =>
    intro k i hi hk
    obtain ⟨k, rfl⟩ : ∃ m, k = m + 1 := ⟨k - 1, by omega⟩
    simp only [impl_SpreadTable.l0]
    rw [if_pos (by omega), if_neg (by omega), if_pos (by omega), if_pos (by simp [sp_len]; omega), ww i (by omega), tmod_nonneg_eq (by omega), Int.toNat_natCast, List.replicate_succ]
    have := set_mid (sp q i) (List.replicate d 0) 0 ((i : Int) % q)
    rw [sp_len] at this
    rw [this, show sp q i ++ (i : Int) % q :: List.replicate d 0 = sp q (i + 1) ++ List.replicate d 0 by rw [sp_succ]; simp]
    exact ih k (i + 1) (by omega) (by omega)
def tOK (n : Int) : Bool := decide (1 ≤ n ∧ n ≤ 64) && ((Go.bits .and .i64 n (wrap64 (n - 1))) == 0)
theorem tsize (n : Int) : impl_tableSize.f n = some (tOK n) := by
  unfold impl_tableSize.f tOK
  simp only [inR, Option.bind_some]
  by_cases h : 1 ≤ n ∧ n ≤ 64 <;> simp [h]
theorem spread_ok (n q : Int) (hn : tOK n = true) (hq : 1 ≤ q ∧ q ≤ 16) (k : Nat) (hk : 70 < k) : impl_SpreadTable.f k n q = some (sp q n.toNat, 0) ∧ spec_SpreadTable.f k n q = some (sp q n.toNat, 0) := by
  have h := hn
  simp only [tOK, Bool.and_eq_true, decide_eq_true_eq, beq_iff_eq] at h
  obtain ⟨k, rfl⟩ : ∃ m, k = m + 1 := ⟨k - 1, by omega⟩
  obtain ⟨N, rfl⟩ : ∃ N : Nat, n = (N : Int) := ⟨n.toNat, by omega⟩
  have e1 := spread_i_l0 N q (by omega) hq.1 N k 0 (by omega) (by omega)
  have e2 := spread_s_l0 N q (by omega) hq.1 N k 0 (by omega) (by omega)
  simp only [sp, List.range_zero, List.map_nil, List.nil_append] at e1 e2
  refine ⟨?_, ?_⟩
  · simp only [impl_SpreadTable.f, tsize, hn, inR, decide_eq_true hq, Option.bind_some, if_true, impl_SpreadTable.j0, Bool.not_true, Bool.false_eq_true, if_false, Int.toNat_natCast, List.length_replicate]
    rw [if_pos (by omega), if_pos (by omega)]
    exact e1
  · simp only [spec_SpreadTable.f, inS, decide_eq_true h.1, h.2, decide_eq_true hq, Option.bind_some, if_true, spec_SpreadTable.j0, Bool.not_true, Bool.false_eq_true, if_false, Int.toNat_natCast]
    exact e2
theorem spread_bad (n q : Int) (h : ¬ (tOK n = true ∧ (1 ≤ q ∧ q ≤ 16))) (k : Nat) : impl_SpreadTable.f (k + 1) n q = some ([], 4) ∧ spec_SpreadTable.f (k + 1) n q = some ([], 4) := by
  cases hn : tOK n with
  | false =>
    refine ⟨by simp [impl_SpreadTable.f, tsize, hn, impl_SpreadTable.j0], ?_⟩
    simp only [tOK] at hn
    simp only [spec_SpreadTable.f, inS, Option.bind_some]
    by_cases h1 : 1 ≤ n ∧ n ≤ 64
    · have h2 : ¬ (Go.bits .and .i64 n (wrap64 (n - 1))) = 0 := by simpa [h1] using hn
      simp [h1, h2, spec_SpreadTable.j0]
    · simp [h1, spec_SpreadTable.j0]
  | true =>
    have hq : ¬ (1 ≤ q ∧ q ≤ 16) := fun h2 => h ⟨hn, h2⟩
    have h1 := hn
    simp only [tOK, Bool.and_eq_true, decide_eq_true_eq, beq_iff_eq] at h1
    simp [impl_SpreadTable.f, spec_SpreadTable.f, tsize, hn, inR, inS, hq, h1, impl_SpreadTable.j0, spec_SpreadTable.j0]
def all15 (l : List Int) : Bool := l.all (fun x => decide (0 ≤ x ∧ x ≤ 15))
theorem ixn_all (l : List Int) : ∀ i : Nat, decide (0 ≤ ixFrom (fun x : Int => !(decide (0 ≤ x ∧ x ≤ 15))) l i) = !(all15 l) := by
  induction l with
  | nil => intro i; rfl
  | cons x r ih =>
    intro i
    have e : ixFrom (fun x : Int => !(decide (0 ≤ x ∧ x ≤ 15))) (x :: r) i = if (!(decide (0 ≤ x ∧ x ≤ 15))) = true then (i : Int) else ixFrom (fun x : Int => !(decide (0 ≤ x ∧ x ≤ 15))) r (i + 1) := rfl
    have e2 : all15 (x :: r) = (decide (0 ≤ x ∧ x ≤ 15) && all15 r) := rfl
    rw [e, e2]
    by_cases h : 0 ≤ x ∧ x ≤ 15
    · rw [decide_eq_true h, if_neg (by decide), ih (i + 1)]; simp
    · rw [decide_eq_false h, if_pos (by decide)]; simp
theorem cont_i (l : List Int) : slices_ContainsFunc_int_int.f l = some (!(all15 l)) := congrArg some (ixn_all l 0)
theorem tab_l0 (l : List Int) (hl : l.length ≤ 2000000) (d : Nat) : ∀ (k i : Nat), l.length = i + d → d < k → spec_l13Table.l0 k l (i : Int) = some (all15 (l.drop i)) := by
  induction d with
  | zero =>
    intro k i hi hk
    obtain ⟨k, rfl⟩ : ∃ m, k = m + 1 := ⟨k - 1, by omega⟩
    simp only [spec_l13Table.l0]
    rw [if_neg (by omega), List.drop_of_length_le (by omega)]; rfl
  | succ d ih =>
    intro k i hi hk
    obtain ⟨k, rfl⟩ : ∃ m, k = m + 1 := ⟨k - 1, by omega⟩
    simp only [spec_l13Table.l0, inS, Option.bind_some]
    have e2 : all15 (l[i] :: l.drop (i + 1)) = (decide (0 ≤ l[i] ∧ l[i] ≤ 15) && all15 (l.drop (i + 1))) := rfl
    rw [if_pos (by omega), if_pos (by omega), rdi (by omega), ww i (by omega), List.drop_eq_getElem_cons (i := i) (by omega), e2, ih k (i + 1) (by omega) (by omega)]
    by_cases h : 0 ≤ l[i] ∧ l[i] ≤ 15
    · rw [decide_eq_true h, if_pos rfl]; rfl
    · rw [decide_eq_false h, if_neg (by decide)]; rfl
theorem tab_s (l : List Int) (hl : l.length ≤ 2000000) (k : Nat) (hk : l.length + 1 < k) : spec_l13Table.f k l = some (tOK (l.length : Int) && all15 l) := by
  obtain ⟨k, rfl⟩ : ∃ m, k = m + 1 := ⟨k - 1, by omega⟩
  have e := tab_l0 l hl l.length k 0 (by omega) (by omega)
  simp only [List.drop_zero] at e
  have e' : spec_l13Table.l0 k l 0 = some (all15 l) := e
  unfold spec_l13Table.f tOK
  simp only [inS, Option.bind_some, spec_l13Table.j0]
  by_cases h : 1 ≤ (l.length : Int) ∧ (l.length : Int) ≤ 64
  · rw [decide_eq_true h, if_pos rfl]
    by_cases h2 : (Go.bits .and .i64 (l.length : Int) (wrap64 ((l.length : Int) - 1))) = 0
    · rw [h2]; simpa using e'
    · have h3 : ((Go.bits .and .i64 (l.length : Int) (wrap64 ((l.length : Int) - 1))) != 0) = true := by simpa using h2
      have h4 : ((Go.bits .and .i64 (l.length : Int) (wrap64 ((l.length : Int) - 1))) == 0) = false := by simpa using h2
      rw [h3, h4]; simp
  · rw [decide_eq_false h]; simp
theorem steer_both (l : List Int) (h : Int) (hl : l.length ≤ 1048576) : ∃ (r c : Int), (tOK (l.length : Int) = true → all15 l = true → 0 ≤ h ∧ h ≤ 4294967295 → c = 0 ∧ ∃ j : Nat, ∃ hj : j < l.length, r = l[j]) ∧ ∀ k, 1048600 < k → impl_SteerQueue.f k l h = some (r, c) ∧ spec_SteerQueue.f k l h = some (r, c) := by
  by_cases h0 : (l.length : Int) > 4096
  · refine ⟨0, 2, fun ht _ _ => ?_, fun k hk => by simp [impl_SteerQueue.f, spec_SteerQueue.f, h0]⟩
    simp only [tOK, Bool.and_eq_true, decide_eq_true_eq] at ht; omega
  cases ht : tOK (l.length : Int) with
  | false =>
    refine ⟨0, 1, fun h => by simp at h, fun k hk => ?_⟩
    obtain ⟨k, rfl⟩ : ∃ m, k = m + 1 := ⟨k - 1, by omega⟩
    simp only [impl_SteerQueue.f, spec_SteerQueue.f, if_neg h0, tsize, ht, tab_s l (by omega) (k + 1) (by omega), Option.bind_some, Bool.false_and, Bool.false_eq_true, if_false, impl_SteerQueue.j0, if_true, and_self]
  | true =>
    cases ha : all15 l with
    | false =>
      refine ⟨0, 1, fun _ h => by simp at h, fun k hk => ?_⟩
      obtain ⟨k, rfl⟩ : ∃ m, k = m + 1 := ⟨k - 1, by omega⟩
      simp only [impl_SteerQueue.f, spec_SteerQueue.f, if_neg h0, tsize, ht, ha, cont_i, tab_s l (by omega) (k + 1) (by omega), Option.bind_some, Bool.true_and, Bool.not_false, Bool.false_eq_true, if_false, impl_SteerQueue.j0, if_true, and_self]
    | true =>
      by_cases hh : 0 ≤ h ∧ h ≤ 4294967295
      · have h1 := ht
        simp only [tOK, Bool.and_eq_true, decide_eq_true_eq] at h1
        have m := mod_lt_len (i := h) (n := l.length) (by omega)
        refine ⟨rd l (h % (l.length : Int)), 0, fun _ _ _ => ⟨rfl, (h % (l.length : Int)).toNat, by omega, ?_⟩, fun k hk => ?_⟩
        · simp [rd, List.getD_eq_getElem?_getD, show (h % (l.length : Int)).toNat < l.length by omega]
        · obtain ⟨k, rfl⟩ : ∃ m, k = m + 1 := ⟨k - 1, by omega⟩
          simp only [impl_SteerQueue.f, spec_SteerQueue.f, if_neg h0, tsize, ht, ha, cont_i, tab_s l (by omega) (k + 1) (by omega), Option.bind_some, Bool.true_and, Bool.not_true, Bool.false_eq_true, if_false, impl_SteerQueue.j0, if_true, inR, inS, decide_eq_true hh, tmod_nonneg_eq hh.1]
          rw [if_neg (by omega), if_pos m.1, if_pos m.2]
          simp
      · refine ⟨0, 4, fun _ _ h => absurd h hh, fun k hk => ?_⟩
        obtain ⟨k, rfl⟩ : ∃ m, k = m + 1 := ⟨k - 1, by omega⟩
        simp only [impl_SteerQueue.f, spec_SteerQueue.f, if_neg h0, tsize, ht, ha, cont_i, tab_s l (by omega) (k + 1) (by omega), Option.bind_some, Bool.true_and, Bool.not_true, Bool.false_eq_true, if_false, impl_SteerQueue.j0, if_true, inR, inS, decide_eq_false hh, and_self]
theorem at_some (l : List Int) (hl : ∀ x ∈ l, 0 ≤ x ∧ x ≤ 255) (i n : Int) (hi : 0 ≤ i) (hi2 : i ≤ 100000) (hn : 1 < n) (hn2 : n ≤ 1000000000) : ∃ r, laws_at.f l i n = some r ∧ 0 ≤ r ∧ r < n := choice l hl i n hi hi2 hn hn2
theorem same_l0 (l : List Int) (hl : l.length ≤ 2000000) (d : Nat) : ∀ (k i : Nat), l.length = i + d → d < k → laws_sameInts.l0 k l l (i : Int) = some true := by
  induction d with
  | zero =>
    intro k i hi hk
    obtain ⟨k, rfl⟩ : ∃ m, k = m + 1 := ⟨k - 1, by omega⟩
    simp only [laws_sameInts.l0]
    rw [if_neg (by omega)]
  | succ d ih =>
    intro k i hi hk
    obtain ⟨k, rfl⟩ : ∃ m, k = m + 1 := ⟨k - 1, by omega⟩
    simp only [laws_sameInts.l0, if_true]
    rw [if_pos (by omega), if_pos (by omega), if_pos (by omega), ww i (by omega)]
    exact ih k (i + 1) (by omega) (by omega)
theorem same_ok (l : List Int) (hl : l.length ≤ 2000000) (k : Nat) (hk : l.length < k) : laws_sameInts.f k l l = some true := by
  unfold laws_sameInts.f
  rw [if_pos rfl]
  exact same_l0 l hl l.length k 0 (by omega) hk
def cnt (q : Int) : List Int → Nat
  | [] => 0
  | x :: r => (if x = q then 1 else 0) + cnt q r
theorem cnt_le (q : Int) (l : List Int) : cnt q l ≤ l.length := by
  induction l with
  | nil => simp [cnt]
  | cons x r ih => simp only [cnt, List.length_cons]; split <;> omega
def fair (n q : Nat) : Bool := (List.range q).all (fun j => decide (n / q ≤ cnt (j : Int) (sp (q : Int) n)) && decide (cnt (j : Int) (sp (q : Int) n) ≤ n / q + 1))
theorem fair_all : ∀ n ∈ [1, 2, 4, 8, 16, 32, 64], ∀ q ∈ List.range 17, fair n q = true := by decide +kernel
theorem tok_all : ∀ n ∈ [1, 2, 4, 8, 16, 32, 64], tOK n = true := by decide +kernel
theorem steers_l1 (n q : Int) (l : List Int) (hl : l.length ≤ 64) (hq : 1 ≤ q) (hn : 0 ≤ n ∧ n ≤ 64) (j : Int) (d : Nat) : ∀ (k i c : Nat), l.length = i + d → c ≤ i → laws_FnSteers.l1 (k + d + 1) n q l j (c : Int) (i : Int) =
    if ((c + cnt j (l.drop i) : Nat) : Int) < n / q then some false else if ((c + cnt j (l.drop i) : Nat) : Int) > n / q + 1 then some false else laws_FnSteers.l0 k n q l (wrap64 (j + 1)) := by
  induction d with
  | zero =>
    intro k i c hi hc
    have b : 0 ≤ n / q ∧ n / q ≤ n := ⟨Int.ediv_nonneg hn.1 (by omega), Int.ediv_le_self _ hn.1⟩
    rw [laws_FnSteers.l1, if_neg (by omega), if_neg (by omega), tdiv_nonneg_eq hn.1, w64 (x := n / q) (by omega) (by omega), w64 (x := n / q + 1) (by omega) (by omega), List.drop_of_length_le (by omega)]
    rfl
  | succ d ih =>
    intro k i c hi hc
    rw [show k + (d + 1) + 1 = (k + d + 1) + 1 by omega, laws_FnSteers.l1, if_pos (by omega), if_pos (by omega), rdi (by omega), ww i (by omega), List.drop_eq_getElem_cons (i := i) (by omega)]
    have e : cnt j (l[i] :: l.drop (i + 1)) = (if l[i] = j then 1 else 0) + cnt j (l.drop (i + 1)) := rfl
    rw [e]
    by_cases h : l[i] = j
    · rw [if_pos h, if_pos h, ww c (by omega), ih k (i + 1) (c + 1) (by omega) (by omega), Nat.add_assoc]
    · rw [if_neg h, if_neg h, ih k (i + 1) c (by omega) (by omega), Nat.zero_add]
theorem steers_l0 (N q : Nat) (hN : N ≤ 64) (hq : 1 ≤ q ∧ q ≤ 16) (hf : fair N q = true) (d : Nat) : ∀ (k j : Nat), q = j + d → laws_FnSteers.l0 (k + 70 * d + 1) (N : Int) (q : Int) (sp (q : Int) N) (j : Int) = some true := by
  induction d with
  | zero =>
    intro k j hj
    rw [laws_FnSteers.l0, if_neg (by omega)]
  | succ d ih =>
    intro k j hj
    rw [show k + 70 * (d + 1) + 1 = (k + 70 * (d + 1)) + 1 by omega, laws_FnSteers.l0, if_pos (by omega)]
    have e := steers_l1 (N : Int) (q : Int) (sp (q : Int) N) (by rw [sp_len]; omega) (by omega) (by omega) (j : Int) N (k + (69 - N) + 70 * d) 0 0 (by rw [sp_len]; omega) (by omega)
    rw [show k + 70 * (d + 1) = k + (69 - N) + 70 * d + N + 1 by omega]
    have e' := e
    simp only [Int.ofNat_zero, List.drop_zero, Nat.zero_add] at e'
    have hj2 : j < q := by omega
    have hfj := (List.all_eq_true.1 hf) j (List.mem_range.2 hj2)
    simp only [Bool.and_eq_true, decide_eq_true_eq] at hfj
    have hd : (N : Int) / (q : Int) = ((N / q : Nat) : Int) := by simp
    refine Eq.trans e' ?_
    rw [hd, if_neg (by omega), if_neg (by omega), ww j (by omega), show k + (69 - N) + 70 * d = (k + (68 - N)) + 70 * d + 1 by omega]
    exact ih _ (j + 1) (by omega)
theorem all15_sp (q : Int) (n : Nat) (hq : 1 ≤ q ∧ q ≤ 16) : all15 (sp q n) = true := by
  simp only [all15, sp, List.all_eq_true, List.mem_map, List.mem_range, decide_eq_true_eq]
  rintro x ⟨i, -, rfl⟩
  have := Int.emod_nonneg (i : Int) (show q ≠ 0 by omega)
  have := Int.emod_lt_of_pos (i : Int) (show 0 < q by omega)
  omega
theorem FnSteers : fnSteers.Say := by
  intro l0 l1 ⟨m0, w0⟩ ⟨m1, w1⟩
  obtain ⟨K, hK⟩ : ∃ K : Nat, K = 3000000 := ⟨_, rfl⟩
  refine ⟨K + 2, ?_⟩
  simp only [laws_FnSteers.f]
  by_cases c0 : (l0.length : Int) > 1048576
  · rw [if_pos c0]; simp only [laws_FnSteers.j0, if_true]
  rw [if_neg c0]
  by_cases c1 : (l1.length : Int) > 1048576
  · rw [decide_eq_true c1]; simp only [laws_FnSteers.j0, if_true]
  rw [decide_eq_false c1]
  simp only [laws_FnSteers.j0]
  rw [if_neg (by decide)]
  obtain ⟨a, ha, a0, a1⟩ := at_some l0 (bs w0) 0 7 (by omega) (by omega) (by omega) (by omega)
  obtain ⟨b, hb, b0, b1⟩ := at_some l0 (bs w0) 1 16 (by omega) (by omega) (by omega) (by omega)
  obtain ⟨h, hh, h0, h1⟩ := at_some l1 (bs w1) 0 9000 (by omega) (by omega) (by omega) (by omega)
  rw [ha, hb, hh]
  simp only [Option.bind_some]
  rw [if_pos a0, if_pos (by simpa using a1), w64 (x := 1 + b) (by omega) (by omega), w64 (x := h * 400000) (by omega) (by omega)]
  obtain ⟨N, hN, eN⟩ : ∃ N : Nat, N ∈ [1, 2, 4, 8, 16, 32, 64] ∧ rd [1, 2, 4, 8, 16, 32, 64] a = (N : Int) := by
    have : a = 0 ∨ a = 1 ∨ a = 2 ∨ a = 3 ∨ a = 4 ∨ a = 5 ∨ a = 6 := by omega
    rcases this with rfl | rfl | rfl | rfl | rfl | rfl | rfl
    · exact ⟨1, by simp, by simp [rd]⟩
    · exact ⟨2, by simp, by simp [rd]⟩
    · exact ⟨4, by simp, by simp [rd]⟩
    · exact ⟨8, by simp, by simp [rd]⟩
    · exact ⟨16, by simp, by simp [rd]⟩
    · exact ⟨32, by simp, by simp [rd]⟩
    · exact ⟨64, by simp, by simp [rd]⟩
  rw [eN]
  obtain ⟨q, hq⟩ : ∃ q : Nat, 1 + b = (q : Int) := ⟨(1 + b).toNat, by omega⟩
  rw [hq]
  have hN64 : 1 ≤ N ∧ N ≤ 64 := by simp at hN; omega
  have tk : tOK (N : Int) = true := by simp at hN; rcases hN with rfl | rfl | rfl | rfl | rfl | rfl | rfl <;> decide +kernel
  have sk := fun k hk => spread_ok (N : Int) (q : Int) tk (by omega) k hk
  simp only [Int.toNat_natCast] at sk
  have sl := sp_len (q : Int) N
  obtain ⟨r, co, hr, hbb⟩ := steer_both (sp (q : Int) N) (h * 400000) (by omega)
  obtain ⟨rfl, j, hj, rfl⟩ := hr (by rw [sl]; exact tk) (all15_sp _ _ (by omega)) (by omega)
  have hjv : 0 ≤ (sp (q : Int) N)[j] ∧ (sp (q : Int) N)[j] < q := by
    simp only [sp, List.getElem_map, List.getElem_range]
    exact ⟨Int.emod_nonneg _ (by omega), Int.emod_lt_of_pos _ (by omega)⟩
  rw [(sk (K + 1) (by omega)).1, (sk (K + 1) (by omega)).2]
  simp only [Option.bind_some]
  rw [(hbb (K + 1) (by omega)).1, (hbb (K + 1) (by omega)).2]
  simp only [Option.bind_some, if_true]
  rw [same_ok _ (by omega) (K + 1) (by omega)]
  simp only [Option.bind_some, if_true, laws_FnSteers.j1]
  rw [if_neg (by omega), decide_eq_false (by omega), if_neg (by decide)]
  have hf := fair_all N hN q (List.mem_range.2 (by omega))
  have e := steers_l0 N q hN64.2 (by omega) hf q (K - 70 * q - 1) 0 (by omega)
  rw [show K - 70 * q - 1 + 70 * q + 1 = K by omega] at e
  exact e
end Go.Proofs.Ytecjjkmheionoaa.Pure
namespace Go.Proofs.Ytecjjkmheionoaa
/-- The row. -/
theorem fnSteers_holds : Rows.FnSteersSaid := fnSteers.row_of Pure.FnSteers
end Go.Proofs.Ytecjjkmheionoaa
