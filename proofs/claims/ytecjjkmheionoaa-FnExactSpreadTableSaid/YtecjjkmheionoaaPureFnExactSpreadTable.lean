/- The program's spread table and the reference's are the same list and code, in new memory, for all ints. -/
import Derived.Test.YtecjjkmheionoaaAid
import Derived.Test.YtecjjkmheionoaaSayFnExactSpreadTable
namespace Go.Proofs.Ytecjjkmheionoaa.Pure
set_option linter.unusedSimpArgs false
set_option linter.unusedVariables false
open Go.RowKit Go.Proofs.Ytecjjkmheionoaa.PFnExactSpreadTable Go.Proofs.YtecjjkmheionoaaW.PrintWords Go.Proofs.YtecjjkmheionoaaW.PrintLast Go.Proofs.YtecjjkmheionoaaW.PrintMore Go.Proofs.Ytecjjkmheionoaa.Aid
theorem inR (a b c : Int) : impl_inRange.f a b c = some (decide (b ≤ a ∧ a ≤ c)) := by
  unfold impl_inRange.f
  by_cases h : a ≥ b
  · rw [if_pos h]; simp [show b ≤ a from h]
  · rw [if_neg h]; simp; omega
theorem inS (a b c : Int) : spec_l01In.f a b c = some (decide (b ≤ a ∧ a ≤ c)) := by
  unfold spec_l01In.f
  by_cases h : a ≥ b
  · rw [if_pos h]; simp [show b ≤ a from h]
  · rw [if_neg h]; simp; omega
theorem ww (i : Nat) (h : i < 4000000000000000000) : wrap64 ((i : Int) + 1) = ((i + 1 : Nat) : Int) := by rw [w64 (by omega) (by omega)]; simp
theorem set_mid {α : Type} (A R : List α) (z v : α) : (A ++ z :: R).set A.length v = A ++ v :: R := by
  simp [List.set_append]
theorem rdi {l : List Int} {i : Nat} (h : i < l.length) : rd l (i : Int) = l[i] := by simp [rd, List.getD_eq_getElem?_getD, h]
theorem eqI_l0 (l : List Int) (hl : l.length ≤ 2000000) (d : Nat) : ∀ (k i : Nat), l.length = i + d → d < k → laws_eqIntS.l0 k l l (i : Int) = some true := by
  induction d with
  | zero =>
    intro k i hi hk
    obtain ⟨k, rfl⟩ : ∃ m, k = m + 1 := ⟨k - 1, by omega⟩
    simp only [laws_eqIntS.l0]
    rw [if_neg (by omega)]
  | succ d ih =>
    intro k i hi hk
    obtain ⟨k, rfl⟩ : ∃ m, k = m + 1 := ⟨k - 1, by omega⟩
    simp only [laws_eqIntS.l0, if_true]
    rw [if_pos (by omega), if_pos (by omega), if_pos (by omega), ww i (by omega)]
    exact ih k (i + 1) (by omega) (by omega)
theorem eqI_ok (l : List Int) (hl : l.length ≤ 2000000) (k : Nat) (hk : l.length < k) : laws_eqIntS.f k l l = some true := by
  unfold laws_eqIntS.f
  rw [if_pos rfl]
  exact eqI_l0 l hl l.length k 0 (by omega) hk
def mki (c : Int) (n : Nat) : List Int := (List.range n).map (fun (j : Nat) => c + (j : Int))
theorem mki_len (c : Int) (n : Nat) : (mki c n).length = n := by simp [mki]
theorem mki_succ (c : Int) (n : Nat) : mki c (n + 1) = mki c n ++ [c + (n : Int)] := by simp [mki, List.range_succ]
theorem markI_l0 (l : List Int) (hl : l.length ≤ 2000000) (c : Int) (c0 : 0 ≤ c) (c1 : c ≤ 1000000000) (d : Nat) : ∀ (k i : Nat), l.length = i + d → d < k → laws_markIntS.l0 k (mki c i ++ l.drop i) (c + (i : Int)) (i : Int) = some (c + (l.length : Int), mki c l.length) := by
  induction d with
  | zero =>
    intro k i hi hk
    obtain ⟨k, rfl⟩ : ∃ m, k = m + 1 := ⟨k - 1, by omega⟩
    simp only [laws_markIntS.l0]
    rw [if_neg (by simp [mki_len]; omega), List.drop_of_length_le (by omega), show i = l.length by omega]
    simp
  | succ d ih =>
    intro k i hi hk
    obtain ⟨k, rfl⟩ : ∃ m, k = m + 1 := ⟨k - 1, by omega⟩
    have hlen : i < (mki c i ++ l.drop i).length := by simp [mki_len]; omega
    simp only [laws_markIntS.l0, Int.toNat_natCast]
    rw [if_pos (by omega), if_pos (by omega), ww i (by omega), w64 (x := c + (i : Int) + 1) (by omega) (by omega)]
    have e : (mki c i ++ l.drop i).set i (c + (i : Int)) = mki c (i + 1) ++ l.drop (i + 1) := by
      rw [List.drop_eq_getElem_cons (by omega), mki_succ]
      have := set_mid (mki c i) (l.drop (i + 1)) l[i] (c + (i : Int))
      rw [mki_len] at this
      rw [this]; simp
    rw [e, show c + (i : Int) + 1 = c + ((i + 1 : Nat) : Int) by omega]
    exact ih k (i + 1) (by omega) (by omega)
theorem markI_ok (l : List Int) (hl : l.length ≤ 2000000) (c : Int) (c0 : 0 ≤ c) (c1 : c ≤ 1000000000) (k : Nat) (hk : l.length < k) : laws_markIntS.f k l c = some (c + (l.length : Int), mki c l.length) := by
  have := markI_l0 l hl c c0 c1 l.length k 0 (by omega) hk
  simpa [mki, laws_markIntS.f] using this
theorem heldI_l0 (n : Nat) (hl : n ≤ 2000000) (c : Int) (c0 : 0 ≤ c) (c1 : c ≤ 1000000000) (d : Nat) : ∀ (k i : Nat), n = i + d → d < k → laws_heldIntS.l0 k (mki c n) (c + (i : Int)) (i : Int) = some (c + (n : Int)) := by
  induction d with
  | zero =>
    intro k i hi hk
    obtain ⟨k, rfl⟩ : ∃ m, k = m + 1 := ⟨k - 1, by omega⟩
    simp only [laws_heldIntS.l0]
    rw [if_neg (by simp [mki_len]; omega), show i = n by omega]
  | succ d ih =>
    intro k i hi hk
    obtain ⟨k, rfl⟩ : ∃ m, k = m + 1 := ⟨k - 1, by omega⟩
    have hlen : i < (mki c n).length := by rw [mki_len]; omega
    simp only [laws_heldIntS.l0]
    rw [if_pos (by omega), if_pos (by omega), rdi hlen, ww i (by omega)]
    have e : (mki c n)[i] = c + (i : Int) := by simp [mki]
    rw [e, w64 (x := c + (i : Int) + 1) (by omega) (by omega)]
    simp only [if_true]
    rw [show c + (i : Int) + 1 = c + ((i + 1 : Nat) : Int) by omega]
    exact ih k (i + 1) (by omega) (by omega)
theorem heldI_ok (n : Nat) (hl : n ≤ 2000000) (c : Int) (c0 : 0 ≤ c) (c1 : c ≤ 1000000000) (k : Nat) (hk : n < k) : laws_heldIntS.f k (mki c n) c = some (c + (n : Int)) := by
  have := heldI_l0 n hl c c0 c1 n k 0 (by omega) hk
  simpa [laws_heldIntS.f] using this
def sp (q : Int) (n : Nat) : List Int := (List.range n).map (fun (i : Nat) => (i : Int) % q)
theorem sp_len (q : Int) (n : Nat) : (sp q n).length = n := by simp [sp]
theorem sp_succ (q : Int) (n : Nat) : sp q (n + 1) = sp q n ++ [(n : Int) % q] := by simp [sp, List.range_succ]
theorem spread_s_l0 (n : Nat) (q : Int) (hn : n ≤ 64) (hq : 1 ≤ q) (d : Nat) : ∀ (k i : Nat), n = i + d → d < k → spec_SpreadTable.l0 k (n : Int) q (sp q i) (i : Int) = some (sp q n, 0) := by
  induction d with
  | zero =>
    intro k i hi hk
    obtain ⟨k, rfl⟩ : ∃ m, k = m + 1 := ⟨k - 1, by omega⟩
    simp only [spec_SpreadTable.l0]
    rw [if_neg (by omega), show i = n by omega]
  | succ d ih =>
    intro k i hi hk
    obtain ⟨k, rfl⟩ : ∃ m, k = m + 1 := ⟨k - 1, by omega⟩
    simp only [spec_SpreadTable.l0]
    rw [if_pos (by omega), if_neg (by omega), if_pos (by rw [sp_len]; omega), ww i (by omega), tmod_nonneg_eq (by omega), ← sp_succ]
    exact ih k (i + 1) (by omega) (by omega)
theorem spread_i_l0 (n : Nat) (q : Int) (hn : n ≤ 64) (hq : 1 ≤ q) (d : Nat) : ∀ (k i : Nat), n = i + d → d < k → impl_SpreadTable.l0 k q (sp q i ++ List.replicate d 0) (n : Int) (i : Int) = some (sp q n, 0) := by
  induction d with
  | zero =>
    intro k i hi hk
    obtain ⟨k, rfl⟩ : ∃ m, k = m + 1 := ⟨k - 1, by omega⟩
    simp only [impl_SpreadTable.l0]
    rw [if_neg (by omega), show i = n by omega]; simp
  | succ d ih =>
    intro k i hi hk
    obtain ⟨k, rfl⟩ : ∃ m, k = m + 1 := ⟨k - 1, by omega⟩
    simp only [impl_SpreadTable.l0]
    rw [if_pos (by omega), if_neg (by omega), if_pos (by omega), if_pos (by simp [sp_len]; omega), ww i (by omega), tmod_nonneg_eq (by omega), Int.toNat_natCast, List.replicate_succ]
    have := set_mid (sp q i) (List.replicate d 0) 0 ((i : Int) % q)
    rw [sp_len] at this
    rw [this, show sp q i ++ (i : Int) % q :: List.replicate d 0 = sp q (i + 1) ++ List.replicate d 0 by rw [sp_succ]; simp]
    exact ih k (i + 1) (by omega) (by omega)
def tOK (n : Int) : Bool := decide (1 ≤ n ∧ n ≤ 64) && ((Go.bits .and .i64 n (wrap64 (n - 1))) == 0)
theorem tsize (n : Int) : impl_tableSize.f n = some (tOK n) := by
  unfold impl_tableSize.f tOK
  simp only [inR, Option.bind_some]
  by_cases h : 1 ≤ n ∧ n ≤ 64 <;> simp [h]
theorem spread_ok (n q : Int) (hn : tOK n = true) (hq : 1 ≤ q ∧ q ≤ 16) (k : Nat) (hk : 70 < k) : impl_SpreadTable.f k n q = some (sp q n.toNat, 0) ∧ spec_SpreadTable.f k n q = some (sp q n.toNat, 0) := by
  have h := hn
  simp only [tOK, Bool.and_eq_true, decide_eq_true_eq, beq_iff_eq] at h
  obtain ⟨k, rfl⟩ : ∃ m, k = m + 1 := ⟨k - 1, by omega⟩
  obtain ⟨N, rfl⟩ : ∃ N : Nat, n = (N : Int) := ⟨n.toNat, by omega⟩
  have e1 := spread_i_l0 N q (by omega) hq.1 N k 0 (by omega) (by omega)
  have e2 := spread_s_l0 N q (by omega) hq.1 N k 0 (by omega) (by omega)
  simp only [sp, List.range_zero, List.map_nil, List.nil_append] at e1 e2
  refine ⟨?_, ?_⟩
  · simp only [impl_SpreadTable.f, tsize, hn, inR, decide_eq_true hq, Option.bind_some, if_true, impl_SpreadTable.j0, Bool.not_true, Bool.false_eq_true, if_false, Int.toNat_natCast, List.length_replicate]
    rw [if_pos (by omega), if_pos (by omega)]
    exact e1
  · simp only [spec_SpreadTable.f, inS, decide_eq_true h.1, h.2, decide_eq_true hq, Option.bind_some, if_true, spec_SpreadTable.j0, Bool.not_true, Bool.false_eq_true, if_false, Int.toNat_natCast]
    exact e2
theorem spread_bad (n q : Int) (h : ¬ (tOK n = true ∧ (1 ≤ q ∧ q ≤ 16))) (k : Nat) : impl_SpreadTable.f (k + 1) n q = some ([], 4) ∧ spec_SpreadTable.f (k + 1) n q = some ([], 4) := by
  cases hn : tOK n with
  | false =>
    refine ⟨by simp [impl_SpreadTable.f, tsize, hn, impl_SpreadTable.j0], ?_⟩
    simp only [tOK] at hn
    simp only [spec_SpreadTable.f, inS, Option.bind_some]
    by_cases h1 : 1 ≤ n ∧ n ≤ 64
    · have h2 : ¬ (Go.bits .and .i64 n (wrap64 (n - 1))) = 0 := by simpa [h1] using hn
      simp [h1, h2, spec_SpreadTable.j0]
    · simp [h1, spec_SpreadTable.j0]
  | true =>
    have hq : ¬ (1 ≤ q ∧ q ≤ 16) := fun h2 => h ⟨hn, h2⟩
    have h1 := hn
    simp only [tOK, Bool.and_eq_true, decide_eq_true_eq, beq_iff_eq] at h1
    simp [impl_SpreadTable.f, spec_SpreadTable.f, tsize, hn, inR, inS, hq, h1, impl_SpreadTable.j0, spec_SpreadTable.j0]
theorem spread_both (n q : Int) : ∃ (o : List Int) (c : Int), o.length ≤ 64 ∧ ∀ k, 100 < k → impl_SpreadTable.f k n q = some (o, c) ∧ spec_SpreadTable.f k n q = some (o, c) := by
  by_cases h : tOK n = true ∧ (1 ≤ q ∧ q ≤ 16)
  · have h1 := h.1
    simp only [tOK, Bool.and_eq_true, decide_eq_true_eq] at h1
    exact ⟨_, _, by rw [sp_len]; omega, fun k hk => spread_ok n q h.1 h.2 k (by omega)⟩
  · refine ⟨[], 4, by simp, fun k hk => ?_⟩
    obtain ⟨k, rfl⟩ : ∃ m, k = m + 1 := ⟨k - 1, by omega⟩
    exact spread_bad n q h k
theorem FnExactSpreadTable : fnExactSpreadTable.Say := by
  intro n q _ _
  obtain ⟨o, c, ho, hb⟩ := spread_both n q
  obtain ⟨K, hK⟩ : ∃ K : Nat, K = 1000 := ⟨_, rfl⟩
  refine ⟨K + 2, ?_⟩
  have E : ∀ j, 100 < j → laws_eqIntS.f j o o = some true := fun j hj => eqI_ok _ (by omega) j (by omega)
  have M : ∀ j, 100 < j → laws_markIntS.f j o 1 = some (1 + (o.length : Int), mki 1 o.length) := fun j hj => markI_ok _ (by omega) 1 (by omega) (by omega) j (by omega)
  have H : ∀ j, 100 < j → laws_heldIntS.f j (mki 1 o.length) 1 = some (1 + (o.length : Int)) := fun j hj => heldI_ok _ (by omega) 1 (by omega) (by omega) j (by omega)
  simp only [laws_FnExactSpreadTable.f]
  rw [(hb (K + 2) (by omega)).1, (hb (K + 2) (by omega)).2]
  simp only [Option.bind_some]
  rw [E (K + 2) (by omega)]
  simp only [Option.bind_some, if_true, laws_FnExactSpreadTable.j0, bne_self_eq_false, Bool.false_eq_true, if_false]
  rw [M (K + 1) (by omega)]
  simp only [Option.bind_some]
  rw [H (K + 1) (by omega)]
  simp only [Option.bind_some]
  rw [if_neg (by omega)]
  simp only [if_true]
  rw [(hb (K + 1) (by omega)).1]
  simp only [Option.bind_some]
  rw [E (K + 1) (by omega)]
  simp only [Option.bind_some, if_true, laws_FnExactSpreadTable.j1, bne_self_eq_false, Bool.false_eq_true, if_false]
  rw [H K (by omega)]
  simp only [Option.bind_some]
  rw [if_neg (by omega)]
  simp
end Go.Proofs.Ytecjjkmheionoaa.Pure
namespace Go.Proofs.Ytecjjkmheionoaa
/-- The row. -/
theorem fnExactSpreadTable_holds : Rows.FnExactSpreadTableSaid := fnExactSpreadTable.row_of Pure.FnExactSpreadTable
end Go.Proofs.Ytecjjkmheionoaa
