/- The statement FnExactPoolHeld holds: the buffers of an owner are answered as the plain reading of the pool says. -/
import Derived.Test.YthcohaeafdcokaaAid
import Derived.Test.YthcohaeafdcokaaSayFnExactPoolHeld
namespace Go.Proofs.Ythcohaeafdcokaa.Pure
set_option linter.unusedSimpArgs false
set_option linter.unusedVariables false
open Go.RowKit Go.Proofs.Ythcohaeafdcokaa.PFnExactPoolHeld Go.Proofs.YthcohaeafdcokaaW.PrintWords Go.Proofs.YthcohaeafdcokaaW.PrintLast Go.Proofs.YthcohaeafdcokaaW.PrintMore Go.Proofs.Ythcohaeafdcokaa.Aid
theorem inR (a b c : Int) : impl_inRange.f a b c = some (decide (b ≤ a ∧ a ≤ c)) := by
  unfold impl_inRange.f
  by_cases h : a ≥ b
  · rw [if_pos h]; simp [show b ≤ a from h]
  · rw [if_neg h]; simp; omega
theorem inS (a b c : Int) : spec_l01In.f a b c = some (decide (b ≤ a ∧ a ≤ c)) := by
  unfold spec_l01In.f
  by_cases h : a ≥ b
  · rw [if_pos h]; simp [show b ≤ a from h]
  · rw [if_neg h]; simp; omega
theorem ww (i : Nat) (h : i < 4000000000000000000) : wrap64 ((i : Int) + 1) = ((i + 1 : Nat) : Int) := by rw [w64 (by omega) (by omega)]; simp
theorem set_mid {α : Type} (A R : List α) (z v : α) : (A ++ z :: R).set A.length v = A ++ v :: R := by
  simp [List.set_append]
theorem rdi {l : List Int} {i : Nat} (h : i < l.length) : rd l (i : Int) = l[i] := by simp [rd, List.getD_eq_getElem?_getD, h]
theorem toI_l0 (l : List Int) (hl : l.length ≤ 2000000) (d : Nat) : ∀ (k i : Nat), l.length = i + d → d < k → laws_toIntS.l0 k l (l.take i ++ List.replicate d 0) (i : Int) = some l := by
  induction d with
  | zero =>
    intro k i hi hk
    obtain ⟨k, rfl⟩ : ∃ m, k = m + 1 := ⟨k - 1, by omega⟩
    simp only [laws_toIntS.l0]
    rw [if_neg (by omega), List.take_of_length_le (by omega)]
    simp
  | succ d ih =>
    intro k i hi hk
    obtain ⟨k, rfl⟩ : ∃ m, k = m + 1 := ⟨k - 1, by omega⟩
    simp only [laws_toIntS.l0]
    rw [if_pos (by omega), if_pos (by omega), if_pos (by simp; omega), ww i (by omega), rdi (by omega)]
    have e : ((l.take i ++ List.replicate (d + 1) 0).set ((i : Int).toNat) l[i]) = l.take (i + 1) ++ List.replicate d 0 := by
      rw [Int.toNat_natCast, List.replicate_succ]
      have := set_mid (l.take i) (List.replicate d 0) 0 l[i]
      rw [show (l.take i).length = i by simp; omega] at this
      rw [List.take_succ_eq_append_getElem (by omega), List.append_assoc, List.singleton_append]
      exact this
    rw [e]
    exact ih k (i + 1) (by omega) (by omega)
theorem toI_ok (l : List Int) (hl : l.length ≤ 2000000) (k : Nat) (hk : l.length < k) : laws_toIntS.f k l = some l := by
  unfold laws_toIntS.f
  rw [if_pos (by omega), if_pos (by omega)]
  have := toI_l0 l hl l.length k 0 (by omega) hk
  simpa using this
theorem eqI_l0 (l : List Int) (hl : l.length ≤ 2000000) (d : Nat) : ∀ (k i : Nat), l.length = i + d → d < k → laws_eqIntS.l0 k l l (i : Int) = some true := by
  induction d with
  | zero =>
    intro k i hi hk
    obtain ⟨k, rfl⟩ : ∃ m, k = m + 1 := ⟨k - 1, by omega⟩
    simp only [laws_eqIntS.l0]
    rw [if_neg (by omega)]
  | succ d ih =>
    intro k i hi hk
    obtain ⟨k, rfl⟩ : ∃ m, k = m + 1 := ⟨k - 1, by omega⟩
    simp only [laws_eqIntS.l0, if_true]
    rw [if_pos (by omega), if_pos (by omega), if_pos (by omega), ww i (by omega)]
    exact ih k (i + 1) (by omega) (by omega)
theorem eqI_ok (l : List Int) (hl : l.length ≤ 2000000) (k : Nat) (hk : l.length < k) : laws_eqIntS.f k l l = some true := by
  unfold laws_eqIntS.f
  rw [if_pos rfl]
  exact eqI_l0 l hl l.length k 0 (by omega) hk
def mki (c : Int) (n : Nat) : List Int := (List.range n).map (fun (j : Nat) => c + (j : Int))
theorem mki_len (c : Int) (n : Nat) : (mki c n).length = n := by simp [mki]
theorem mki_succ (c : Int) (n : Nat) : mki c (n + 1) = mki c n ++ [c + (n : Int)] := by simp [mki, List.range_succ]
theorem markI_l0 (l : List Int) (hl : l.length ≤ 2000000) (c : Int) (c0 : 0 ≤ c) (c1 : c ≤ 1000000000) (d : Nat) : ∀ (k i : Nat), l.length = i + d → d < k → laws_markIntS.l0 k (mki c i ++ l.drop i) (c + (i : Int)) (i : Int) = some (c + (l.length : Int), mki c l.length) := by
  induction d with
  | zero =>
    intro k i hi hk
    obtain ⟨k, rfl⟩ : ∃ m, k = m + 1 := ⟨k - 1, by omega⟩
    simp only [laws_markIntS.l0]
    rw [if_neg (by simp [mki_len]; omega), List.drop_of_length_le (by omega), show i = l.length by omega]
    simp
  | succ d ih =>
    intro k i hi hk
    obtain ⟨k, rfl⟩ : ∃ m, k = m + 1 := ⟨k - 1, by omega⟩
    have hlen : i < (mki c i ++ l.drop i).length := by simp [mki_len]; omega
    simp only [laws_markIntS.l0, Int.toNat_natCast]
    rw [if_pos (by omega), if_pos (by omega), ww i (by omega), w64 (x := c + (i : Int) + 1) (by omega) (by omega)]
    have e : (mki c i ++ l.drop i).set i (c + (i : Int)) = mki c (i + 1) ++ l.drop (i + 1) := by
      rw [List.drop_eq_getElem_cons (by omega), mki_succ]
      have := set_mid (mki c i) (l.drop (i + 1)) l[i] (c + (i : Int))
      rw [mki_len] at this
      rw [this]; simp
    rw [e, show c + (i : Int) + 1 = c + ((i + 1 : Nat) : Int) by omega]
    exact ih k (i + 1) (by omega) (by omega)
theorem markI_ok (l : List Int) (hl : l.length ≤ 2000000) (c : Int) (c0 : 0 ≤ c) (c1 : c ≤ 1000000000) (k : Nat) (hk : l.length < k) : laws_markIntS.f k l c = some (c + (l.length : Int), mki c l.length) := by
  have := markI_l0 l hl c c0 c1 l.length k 0 (by omega) hk
  simpa [mki, laws_markIntS.f] using this
theorem heldI_l0 (n : Nat) (hl : n ≤ 2000000) (c : Int) (c0 : 0 ≤ c) (c1 : c ≤ 1000000000) (d : Nat) : ∀ (k i : Nat), n = i + d → d < k → laws_heldIntS.l0 k (mki c n) (c + (i : Int)) (i : Int) = some (c + (n : Int)) := by
  induction d with
  | zero =>
    intro k i hi hk
    obtain ⟨k, rfl⟩ : ∃ m, k = m + 1 := ⟨k - 1, by omega⟩
    simp only [laws_heldIntS.l0]
    rw [if_neg (by simp [mki_len]; omega), show i = n by omega]
  | succ d ih =>
    intro k i hi hk
    obtain ⟨k, rfl⟩ : ∃ m, k = m + 1 := ⟨k - 1, by omega⟩
    have hlen : i < (mki c n).length := by rw [mki_len]; omega
    simp only [laws_heldIntS.l0]
    rw [if_pos (by omega), if_pos (by omega), rdi hlen, ww i (by omega)]
    have e : (mki c n)[i] = c + (i : Int) := by simp [mki]
    rw [e, w64 (x := c + (i : Int) + 1) (by omega) (by omega)]
    simp only [if_true]
    rw [show c + (i : Int) + 1 = c + ((i + 1 : Nat) : Int) by omega]
    exact ih k (i + 1) (by omega) (by omega)
theorem heldI_ok (n : Nat) (hl : n ≤ 2000000) (c : Int) (c0 : 0 ≤ c) (c1 : c ≤ 1000000000) (k : Nat) (hk : n < k) : laws_heldIntS.f k (mki c n) c = some (c + (n : Int)) := by
  have := heldI_l0 n hl c c0 c1 n k 0 (by omega) hk
  simpa [laws_heldIntS.f] using this
theorem rd_rep (n j : Nat) : rdOf false (List.replicate n false) (j : Int) = false := by
  unfold rdOf
  rw [List.getD_eq_getElem?_getD, List.getElem?_replicate]
  split <;> rfl
/-- The marks of the program (32) and of the statement's own (n) say the same of each buffer. -/
def Mk2 (n : Nat) (xi xs : List Bool) : Prop := xi.length = 32 ∧ xs.length = n ∧ ∀ j : Nat, j < n → rdOf false xi (j : Int) = rdOf false xs (j : Int)
theorem Mk2.set {n : Nat} {xi xs : List Bool} (h : Mk2 n xi xs) (hn : n ≤ 32) (j : Nat) : Mk2 n (xi.set j true) (xs.set j true) := by
  obtain ⟨h1, h2, h3⟩ := h
  refine ⟨by simpa using h1, by simpa using h2, fun q hq => ?_⟩
  have := h3 q hq
  simp only [rdOf, Int.toNat_natCast, List.getD_eq_getElem?_getD, List.getElem?_set] at this ⊢
  by_cases e : j = q
  · subst e; simp [h1, h2, hq, show j < 32 by omega]
  · simp [e, this]
theorem pool_l1 (n : Nat) (hn : n ≤ 32) (l : List Int) (hl : l.length = n) (l' : List Int) (xi xs : List Bool) (hm : Mk2 n xi xs) (d : Nat) : ∀ i : Nat, n = i + d → ∃ r, ∀ k, d < k → impl_PoolOK.l1 k xi l (l.length : Int) (i : Int) = some r ∧ spec_PoolOK.l1 k xs (i : Int) l' l = some r := by
  induction d with
  | zero =>
    intro i hi
    refine ⟨true, fun k hk => ?_⟩
    obtain ⟨k, rfl⟩ : ∃ m, k = m + 1 := ⟨k - 1, by omega⟩
    rw [impl_PoolOK.l1, spec_PoolOK.l1, if_neg (by omega), if_neg (by omega)]
    exact ⟨rfl, rfl⟩
  | succ d ih =>
    intro i hi
    obtain ⟨r, hr⟩ := ih (i + 1) (by omega)
    have hil : i < l.length := by omega
    have e := hm.2.2 i (by omega)
    have s1 : ∀ k, impl_PoolOK.l1 (k + 1) xi l (l.length : Int) (i : Int) = (if (rdOf false xs (i : Int) != (l[i] == (-1))) = true then some false else if l[i] = -1 then impl_PoolOK.l1 k xi l (l.length : Int) ((i + 1 : Nat) : Int) else if decide (0 ≤ l[i] ∧ l[i] ≤ 5) = true then impl_PoolOK.l1 k xi l (l.length : Int) ((i + 1 : Nat) : Int) else some false) := by
      intro k
      rw [impl_PoolOK.l1, if_pos (by omega), if_pos (by omega), if_pos (by omega), if_pos (by have := hm.1; omega), rdi hil, ww i (by omega), e]
      simp only [impl_isOwner.f, inR, Option.bind_some]
    have s2 : ∀ k, spec_PoolOK.l1 (k + 1) xs (i : Int) l' l = (if decide (-1 ≤ l[i] ∧ l[i] ≤ 5) = true then if (rdOf false xs (i : Int) != decide (l[i] < 0)) = true then some false else spec_PoolOK.l1 k xs ((i + 1 : Nat) : Int) l' l else some false) := by
      intro k
      rw [spec_PoolOK.l1, if_pos (by omega), if_pos (by omega), rdi hil, ww i (by omega), inS, Option.bind_some, if_pos (show (i : Int) < (xs.length : Int) by have := hm.2.1; omega)]
    generalize rdOf false xs (i : Int) = b at s1 s2
    generalize l[i] = v at s1 s2
    by_cases c1 : v = -1
    · subst c1
      cases b
      · refine ⟨false, fun k hk => ?_⟩
        obtain ⟨k, rfl⟩ : ∃ m, k = m + 1 := ⟨k - 1, by omega⟩
        rw [s1, s2]; simp
      · refine ⟨r, fun k hk => ?_⟩
        obtain ⟨k, rfl⟩ : ∃ m, k = m + 1 := ⟨k - 1, by omega⟩
        rw [s1, s2]; simpa using hr k (by omega)
    · have c1b : (v == -1) = false := by simpa using c1
      by_cases c2 : 0 ≤ v ∧ v ≤ 5
      · have c3 : decide (v < 0) = false := decide_eq_false (by omega)
        cases b
        · refine ⟨r, fun k hk => ?_⟩
          obtain ⟨k, rfl⟩ : ∃ m, k = m + 1 := ⟨k - 1, by omega⟩
          rw [s1, s2, c1b, c3, decide_eq_true c2, decide_eq_true (show -1 ≤ v ∧ v ≤ 5 by omega), if_neg c1]; simpa using hr k (by omega)
        · refine ⟨false, fun k hk => ?_⟩
          obtain ⟨k, rfl⟩ : ∃ m, k = m + 1 := ⟨k - 1, by omega⟩
          rw [s1, s2, c1b, c3, decide_eq_true (show -1 ≤ v ∧ v ≤ 5 by omega)]; simp
      · refine ⟨false, fun k hk => ?_⟩
        obtain ⟨k, rfl⟩ : ∃ m, k = m + 1 := ⟨k - 1, by omega⟩
        rw [s1, s2, decide_eq_false c2, decide_eq_false (show ¬ (-1 ≤ v ∧ v ≤ 5) by omega), if_neg c1]; simp
theorem pool_l0 (n : Nat) (hn : n ≤ 32) (l : List Int) (hl : l.length = n) (f : List Int) (hf : f.length ≤ n) (d : Nat) : ∀ (i : Nat) (xi xs : List Bool), Mk2 n xi xs → f.length = i + d → ∃ r, ∀ k, d + n + 1 < k → impl_PoolOK.l0 k xi f (f.length : Int) (i : Int) f l = some r ∧ spec_PoolOK.l0 k xs (i : Int) f l = some r := by
  induction d with
  | zero =>
    intro i xi xs hm hi
    obtain ⟨r, hr⟩ := pool_l1 n hn l hl f xi xs hm n 0 (by omega)
    refine ⟨r, fun k hk => ?_⟩
    obtain ⟨k, rfl⟩ : ∃ m, k = m + 1 := ⟨k - 1, by omega⟩
    rw [impl_PoolOK.l0, spec_PoolOK.l0, if_neg (by omega), if_neg (by omega)]
    exact hr k (by omega)
  | succ d ih =>
    intro i xi xs hm hi
    have hil : i < f.length := by omega
    have x1 := hm.1
    have x2 := hm.2.1
    by_cases c1 : 0 ≤ f[i] ∧ f[i] ≤ (l.length : Int) - 1
    · obtain ⟨j, hj⟩ : ∃ j : Nat, f[i] = (j : Int) := ⟨f[i].toNat, by omega⟩
      have hjn : j < n := by omega
      have e := hm.2.2 j hjn
      obtain ⟨r, hr⟩ := ih (i + 1) _ _ (hm.set hn j) (by omega)
      have s1 : ∀ k, impl_PoolOK.l0 (k + 1) xi f (f.length : Int) (i : Int) f l = if rdOf false xs (j : Int) = true then some false else impl_PoolOK.l0 k (xi.set j true) f (f.length : Int) ((i + 1 : Nat) : Int) f l := by
        intro k
        rw [impl_PoolOK.l0, if_pos (by omega), if_pos (by omega), if_pos (by omega), rdi hil, inR, w64 (x := (l.length : Int) - 1) (by omega) (by omega), decide_eq_true c1, Option.bind_some, if_pos rfl, hj, if_pos (by omega), if_pos (by omega), e, Int.toNat_natCast, ww i (by omega)]
      have s2 : ∀ k, spec_PoolOK.l0 (k + 1) xs (i : Int) f l = if rdOf false xs (j : Int) = true then some false else spec_PoolOK.l0 k (xs.set j true) ((i + 1 : Nat) : Int) f l := by
        intro k
        rw [spec_PoolOK.l0, if_pos (by omega), if_pos (by omega), rdi hil, inS, w64 (x := (l.length : Int) - 1) (by omega) (by omega), decide_eq_true c1, Option.bind_some, if_pos rfl, hj, if_pos (by omega), if_pos (by omega), Int.toNat_natCast, ww i (by omega)]
      by_cases c2 : rdOf false xs (j : Int) = true
      · refine ⟨false, fun k hk => ?_⟩
        obtain ⟨k, rfl⟩ : ∃ m, k = m + 1 := ⟨k - 1, by omega⟩
        rw [s1, s2, if_pos c2, if_pos c2]; exact ⟨rfl, rfl⟩
      · refine ⟨r, fun k hk => ?_⟩
        obtain ⟨k, rfl⟩ : ∃ m, k = m + 1 := ⟨k - 1, by omega⟩
        rw [s1, s2, if_neg c2, if_neg c2]; exact hr k (by omega)
    · refine ⟨false, fun k hk => ?_⟩
      obtain ⟨k, rfl⟩ : ∃ m, k = m + 1 := ⟨k - 1, by omega⟩
      rw [impl_PoolOK.l0, if_pos (by omega), if_pos (by omega), if_pos (by omega), rdi hil, inR, w64 (x := (l.length : Int) - 1) (by omega) (by omega), decide_eq_false c1, Option.bind_some, if_neg (by decide), spec_PoolOK.l0, if_pos (by omega), if_pos (by omega), rdi hil, inS, w64 (x := (l.length : Int) - 1) (by omega) (by omega), decide_eq_false c1, Option.bind_some, if_neg (by decide)]
      exact ⟨rfl, rfl⟩
theorem pool_both (f l : List Int) (hf : f.length ≤ 4000000) (hl : l.length ≤ 4000000) : ∃ r, ∀ k, 100 < k → impl_PoolOK.f k f l = some r ∧ spec_PoolOK.f k f l = some r := by
  by_cases c1 : (1 : Int) ≤ (l.length : Int) ∧ (l.length : Int) ≤ 32
  · by_cases c2 : (f.length : Int) > (l.length : Int)
    · refine ⟨false, fun k hk => ?_⟩
      obtain ⟨k, rfl⟩ : ∃ m, k = m + 1 := ⟨k - 1, by omega⟩
      unfold impl_PoolOK.f spec_PoolOK.f
      rw [inR, inS, decide_eq_true c1, Option.bind_some, Option.bind_some, if_pos rfl, if_pos rfl, decide_eq_true c2, impl_PoolOK.j0, spec_PoolOK.j0, if_pos rfl, if_pos rfl]
      exact ⟨rfl, rfl⟩
    · obtain ⟨r, hr⟩ := pool_l0 l.length (by omega) l rfl f (by omega) f.length 0 (List.replicate 32 false) (List.replicate l.length false) ⟨List.length_replicate, List.length_replicate, fun j hj => by rw [rd_rep, rd_rep]⟩ (by omega)
      refine ⟨r, fun k hk => ?_⟩
      obtain ⟨k, rfl⟩ : ∃ m, k = m + 1 := ⟨k - 1, by omega⟩
      unfold impl_PoolOK.f spec_PoolOK.f
      rw [inR, inS, decide_eq_true c1, Option.bind_some, Option.bind_some, if_pos rfl, if_pos rfl, decide_eq_false c2, impl_PoolOK.j0, spec_PoolOK.j0, if_neg (show ¬ (false = true) by decide), if_neg (show ¬ (false = true) by decide), if_pos (show 32 ≤ 281474976710656 by decide), if_pos (by omega), if_pos (by omega), Int.toNat_natCast]
      exact hr k (by omega)
  · refine ⟨false, fun k hk => ?_⟩
    obtain ⟨k, rfl⟩ : ∃ m, k = m + 1 := ⟨k - 1, by omega⟩
    unfold impl_PoolOK.f spec_PoolOK.f
    rw [inR, inS, decide_eq_false c1, Option.bind_some, Option.bind_some, if_neg (by decide), if_neg (by decide), impl_PoolOK.j0, spec_PoolOK.j0, if_pos rfl, if_pos rfl]
    exact ⟨rfl, rfl⟩
theorem held_l (l : List Int) (hl : l.length ≤ 40) (f : List Int) (a : Int) (d : Nat) : ∀ (i : Nat) (o : List Int), l.length = i + d → o.length ≤ i → ∃ o', o'.length ≤ 40 ∧ ∀ k, d < k → impl_Pool_held.l0 k a o l (l.length : Int) (i : Int) = some o' ∧ spec_PoolHeld.l0 k a o (i : Int) f l = some (o', 0) := by
  induction d with
  | zero =>
    intro i o hi ho
    refine ⟨o, by omega, fun k hk => ?_⟩
    obtain ⟨k, rfl⟩ : ∃ m, k = m + 1 := ⟨k - 1, by omega⟩
    rw [impl_Pool_held.l0, spec_PoolHeld.l0, if_neg (by omega), if_neg (by omega)]
    exact ⟨rfl, rfl⟩
  | succ d ih =>
    intro i o hi ho
    have hil : i < l.length := by omega
    by_cases c : l[i] = a
    · obtain ⟨o', h1, h2⟩ := ih (i + 1) (o ++ [(i : Int)]) (by omega) (by simp; omega)
      refine ⟨o', h1, fun k hk => ?_⟩
      obtain ⟨k, rfl⟩ : ∃ m, k = m + 1 := ⟨k - 1, by omega⟩
      constructor
      · rw [impl_Pool_held.l0, if_pos (by omega), if_pos (by omega), if_pos (by omega), rdi hil, if_pos c, if_pos (by omega), ww i (by omega)]
        exact (h2 k (by omega)).1
      · rw [spec_PoolHeld.l0, if_pos (by omega), if_pos (by omega), rdi hil, if_pos c, if_pos (by omega), ww i (by omega)]
        exact (h2 k (by omega)).2
    · obtain ⟨o', h1, h2⟩ := ih (i + 1) o (by omega) (by omega)
      refine ⟨o', h1, fun k hk => ?_⟩
      obtain ⟨k, rfl⟩ : ∃ m, k = m + 1 := ⟨k - 1, by omega⟩
      constructor
      · rw [impl_Pool_held.l0, if_pos (by omega), if_pos (by omega), if_pos (by omega), rdi hil, if_neg c, ww i (by omega)]
        exact (h2 k (by omega)).1
      · rw [spec_PoolHeld.l0, if_pos (by omega), if_pos (by omega), rdi hil, if_neg c, ww i (by omega)]
        exact (h2 k (by omega)).2
theorem pool_len {f l : List Int} (h : ∀ k, 100 < k → spec_PoolOK.f k f l = some true) : l.length ≤ 32 := by
  have := h 101 (by omega)
  unfold spec_PoolOK.f at this
  rw [inS] at this
  by_cases c : (1 : Int) ≤ (l.length : Int) ∧ (l.length : Int) ≤ 32
  · omega
  · rw [decide_eq_false c, Option.bind_some, if_neg (by decide), spec_PoolOK.j0, if_pos rfl] at this
    simp at this
theorem held_both (f l : List Int) (hf : f.length ≤ 4000000) (hl : l.length ≤ 4000000) (a : Int) : ∃ o c, o.length ≤ 40 ∧ ∀ k, 100 < k → impl_PoolHeld.f k f l a = some (o, c) ∧ spec_PoolHeld.f k f l a = some (o, c) := by
  obtain ⟨r, hr⟩ := pool_both f l hf hl
  cases r
  · refine ⟨[], 1, by simp, fun k hk => ?_⟩
    unfold impl_PoolHeld.f spec_PoolHeld.f
    rw [(hr k hk).1, (hr k hk).2, Option.bind_some, Option.bind_some, if_neg (by decide), if_neg (by decide)]
    exact ⟨rfl, rfl⟩
  · have hl' := pool_len (fun k hk => (hr k hk).2)
    by_cases c : 0 ≤ a ∧ a ≤ 5
    · obtain ⟨o, h1, h2⟩ := held_l l (by omega) f a l.length 0 [] (by omega) (by simp)
      refine ⟨o, 0, h1, fun k hk => ?_⟩
      unfold impl_PoolHeld.f spec_PoolHeld.f impl_isOwner.f impl_Pool_held.f
      rw [(hr k hk).1, (hr k hk).2, Option.bind_some, Option.bind_some, if_pos rfl, if_pos rfl, inR, inS, decide_eq_true c, Option.bind_some, Option.bind_some, Option.bind_some, if_pos rfl, if_pos rfl]
      have := h2 k (by omega)
      rw [show ((0 : Nat) : Int) = 0 from rfl] at this
      rw [this.1, this.2, Option.bind_some]
      exact ⟨rfl, rfl⟩
    · refine ⟨[], 4, by simp, fun k hk => ?_⟩
      unfold impl_PoolHeld.f spec_PoolHeld.f impl_isOwner.f
      rw [(hr k hk).1, (hr k hk).2, Option.bind_some, Option.bind_some, if_pos rfl, if_pos rfl, inR, inS, decide_eq_false c, Option.bind_some, Option.bind_some, Option.bind_some, if_neg (by decide), if_neg (by decide)]
      exact ⟨rfl, rfl⟩
theorem FnExactPoolHeld : fnExactPoolHeld.Say := by
  intro f l a ⟨hf, _⟩ ⟨hl, _⟩ _
  obtain ⟨K, hK⟩ : ∃ K : Nat, K = 3000000 := ⟨_, rfl⟩
  refine ⟨K + 3, ?_⟩
  unfold maxLen at hf hl
  simp only [laws_FnExactPoolHeld.f, laws_szPool.f, laws_szIntS.f]
  rw [w64 (x := 1048576 - (f.length : Int)) (by omega) (by omega)]
  by_cases c0 : 1048576 - (f.length : Int) < 0
  · rw [if_pos c0]; simp
  rw [if_neg c0, Option.bind_some, if_neg c0, w64 (x := 1048576 - (f.length : Int) - (l.length : Int)) (by omega) (by omega)]
  by_cases c1 : 1048576 - (f.length : Int) - (l.length : Int) < 0
  · rw [if_pos c1]; simp
  rw [if_neg c1, Option.bind_some, if_neg c1, Option.bind_some, if_neg c1]
  obtain ⟨o, c, ho, hr⟩ := held_both f l (by omega) (by omega) a
  have T : ∀ j, 2000000 < j → laws_toPool.f j f l = some (f, l) := by
    intro j hj
    unfold laws_toPool.f
    rw [toI_ok f (by omega) _ (by omega), Option.bind_some, toI_ok l (by omega) _ (by omega), Option.bind_some]
  have E : ∀ j, 2000000 < j → laws_eqPool.f j f l f l = some true := by
    intro j hj
    unfold laws_eqPool.f
    rw [eqI_ok f (by omega) _ (by omega), Option.bind_some, if_pos rfl, eqI_ok l (by omega) _ (by omega), Option.bind_some, if_pos rfl]
  have EI : ∀ j, 2000000 < j → laws_eqIntS.f j o o = some true := fun j hj => eqI_ok o (by omega) j (by omega)
  have M : ∀ j, 2000000 < j → laws_markPool.f j f l 1 = some (1 + (f.length : Int) + (l.length : Int), mki 1 f.length, mki (1 + (f.length : Int)) l.length) := by
    intro j hj
    unfold laws_markPool.f
    rw [markI_ok f (by omega) _ (by omega) (by omega) j (by omega), Option.bind_some]
    dsimp only
    rw [markI_ok l (by omega) _ (by omega) (by omega) j (by omega), Option.bind_some]
  have M1 : ∀ j, 2000000 < j → laws_markIntS.f j o 1 = some (1 + (o.length : Int), mki 1 o.length) := fun j hj => markI_ok _ (by omega) _ (by omega) (by omega) j (by omega)
  have H1 : ∀ j, 2000000 < j → laws_heldIntS.f j (mki 1 o.length) 1 = some (1 + (o.length : Int)) := fun j hj => heldI_ok _ (by omega) _ (by omega) (by omega) j (by omega)
  rw [T (K + 3) (by omega), Option.bind_some]
  dsimp only
  rw [(hr (K + 3) (by omega)).2, Option.bind_some, Option.bind_some]
  dsimp only
  rw [(hr (K + 3) (by omega)).1, Option.bind_some]
  dsimp only
  rw [EI (K + 3) (by omega), Option.bind_some, if_pos rfl, laws_FnExactPoolHeld.j0]
  simp only [bne_self_eq_false, Bool.false_eq_true, if_false]
  rw [T (K + 2) (by omega), Option.bind_some]
  dsimp only
  rw [E (K + 2) (by omega), Option.bind_some, if_pos rfl, M (K + 2) (by omega), Option.bind_some]
  dsimp only
  rw [if_neg (by omega), EI (K + 2) (by omega), Option.bind_some, if_pos rfl, laws_FnExactPoolHeld.j1]
  simp only [Bool.false_eq_true, if_false]
  rw [M1 (K + 1) (by omega), Option.bind_some]
  dsimp only
  rw [H1 (K + 1) (by omega), Option.bind_some, if_neg (by omega), if_pos rfl, T (K + 1) (by omega), Option.bind_some]
  dsimp only
  rw [(hr (K + 1) (by omega)).1, Option.bind_some]
  dsimp only
  rw [EI (K + 1) (by omega), Option.bind_some, if_pos rfl, laws_FnExactPoolHeld.j2]
  simp only [bne_self_eq_false, Bool.false_eq_true, if_false]
  rw [H1 K (by omega), Option.bind_some, if_neg (by omega), if_pos rfl]
end Go.Proofs.Ythcohaeafdcokaa.Pure
namespace Go.Proofs.Ythcohaeafdcokaa
/-- The row. -/
theorem fnExactPoolHeld_holds : Rows.FnExactPoolHeldSaid := fnExactPoolHeld.row_of Pure.FnExactPoolHeld
end Go.Proofs.Ythcohaeafdcokaa
