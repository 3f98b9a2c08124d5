/- The statement FnExactNewPool holds: a new pool is made as the plain reading of it says, and what it holds is its own. -/
import Derived.Test.YthcohaeafdcokaaAid
import Derived.Test.YthcohaeafdcokaaSayFnExactNewPool
namespace Go.Proofs.Ythcohaeafdcokaa.Pure
set_option linter.unusedSimpArgs false
set_option linter.unusedVariables false
open Go.RowKit Go.Proofs.Ythcohaeafdcokaa.PFnExactNewPool Go.Proofs.YthcohaeafdcokaaW.PrintWords Go.Proofs.YthcohaeafdcokaaW.PrintLast Go.Proofs.YthcohaeafdcokaaW.PrintMore Go.Proofs.Ythcohaeafdcokaa.Aid
theorem inR (a b c : Int) : impl_inRange.f a b c = some (decide (b ≤ a ∧ a ≤ c)) := by
  unfold impl_inRange.f
  by_cases h : a ≥ b
  · rw [if_pos h]; simp [show b ≤ a from h]
  · rw [if_neg h]; simp; omega
theorem inS (a b c : Int) : spec_l01In.f a b c = some (decide (b ≤ a ∧ a ≤ c)) := by
  unfold spec_l01In.f
  by_cases h : a ≥ b
  · rw [if_pos h]; simp [show b ≤ a from h]
  · rw [if_neg h]; simp; omega
theorem ww (i : Nat) (h : i < 4000000000000000000) : wrap64 ((i : Int) + 1) = ((i + 1 : Nat) : Int) := by rw [w64 (by omega) (by omega)]; simp
theorem set_mid {α : Type} (A R : List α) (z v : α) : (A ++ z :: R).set A.length v = A ++ v :: R := by
  simp [List.set_append]
theorem rdi {l : List Int} {i : Nat} (h : i < l.length) : rd l (i : Int) = l[i] := by simp [rd, List.getD_eq_getElem?_getD, h]
theorem eqI_l0 (l : List Int) (hl : l.length ≤ 2000000) (d : Nat) : ∀ (k i : Nat), l.length = i + d → d < k → laws_eqIntS.l0 k l l (i : Int) = some true := by
  induction d with
  | zero =>
    intro k i hi hk
    obtain ⟨k, rfl⟩ : ∃ m, k = m + 1 := ⟨k - 1, by omega⟩
    simp only [laws_eqIntS.l0]
    rw [if_neg (by omega)]
  | succ d ih =>
    intro k i hi hk
    obtain ⟨k, rfl⟩ : ∃ m, k = m + 1 := ⟨k - 1, by omega⟩
    simp only [laws_eqIntS.l0, if_true]
    rw [if_pos (by omega), if_pos (by omega), if_pos (by omega), ww i (by omega)]
    exact ih k (i + 1) (by omega) (by omega)
theorem eqI_ok (l : List Int) (hl : l.length ≤ 2000000) (k : Nat) (hk : l.length < k) : laws_eqIntS.f k l l = some true := by
  unfold laws_eqIntS.f
  rw [if_pos rfl]
  exact eqI_l0 l hl l.length k 0 (by omega) hk
def mki (c : Int) (n : Nat) : List Int := (List.range n).map (fun (j : Nat) => c + (j : Int))
theorem mki_len (c : Int) (n : Nat) : (mki c n).length = n := by simp [mki]
theorem mki_succ (c : Int) (n : Nat) : mki c (n + 1) = mki c n ++ [c + (n : Int)] := by simp [mki, List.range_succ]
theorem markI_l0 (l : List Int) (hl : l.length ≤ 2000000) (c : Int) (c0 : 0 ≤ c) (c1 : c ≤ 1000000000) (d : Nat) : ∀ (k i : Nat), l.length = i + d → d < k → laws_markIntS.l0 k (mki c i ++ l.drop i) (c + (i : Int)) (i : Int) = some (c + (l.length : Int), mki c l.length) := by
  induction d with
  | zero =>
    intro k i hi hk
    obtain ⟨k, rfl⟩ : ∃ m, k = m + 1 := ⟨k - 1, by omega⟩
    simp only [laws_markIntS.l0]
    rw [if_neg (by simp [mki_len]; omega), List.drop_of_length_le (by omega), show i = l.length by omega]
    simp
  | succ d ih =>
    intro k i hi hk
    obtain ⟨k, rfl⟩ : ∃ m, k = m + 1 := ⟨k - 1, by omega⟩
    have hlen : i < (mki c i ++ l.drop i).length := by simp [mki_len]; omega
    simp only [laws_markIntS.l0, Int.toNat_natCast]
    rw [if_pos (by omega), if_pos (by omega), ww i (by omega), w64 (x := c + (i : Int) + 1) (by omega) (by omega)]
    have e : (mki c i ++ l.drop i).set i (c + (i : Int)) = mki c (i + 1) ++ l.drop (i + 1) := by
      rw [List.drop_eq_getElem_cons (by omega), mki_succ]
      have := set_mid (mki c i) (l.drop (i + 1)) l[i] (c + (i : Int))
      rw [mki_len] at this
      rw [this]; simp
    rw [e, show c + (i : Int) + 1 = c + ((i + 1 : Nat) : Int) by omega]
    exact ih k (i + 1) (by omega) (by omega)
theorem markI_ok (l : List Int) (hl : l.length ≤ 2000000) (c : Int) (c0 : 0 ≤ c) (c1 : c ≤ 1000000000) (k : Nat) (hk : l.length < k) : laws_markIntS.f k l c = some (c + (l.length : Int), mki c l.length) := by
  have := markI_l0 l hl c c0 c1 l.length k 0 (by omega) hk
  simpa [mki, laws_markIntS.f] using this
theorem heldI_l0 (n : Nat) (hl : n ≤ 2000000) (c : Int) (c0 : 0 ≤ c) (c1 : c ≤ 1000000000) (d : Nat) : ∀ (k i : Nat), n = i + d → d < k → laws_heldIntS.l0 k (mki c n) (c + (i : Int)) (i : Int) = some (c + (n : Int)) := by
  induction d with
  | zero =>
    intro k i hi hk
    obtain ⟨k, rfl⟩ : ∃ m, k = m + 1 := ⟨k - 1, by omega⟩
    simp only [laws_heldIntS.l0]
    rw [if_neg (by simp [mki_len]; omega), show i = n by omega]
  | succ d ih =>
    intro k i hi hk
    obtain ⟨k, rfl⟩ : ∃ m, k = m + 1 := ⟨k - 1, by omega⟩
    have hlen : i < (mki c n).length := by rw [mki_len]; omega
    simp only [laws_heldIntS.l0]
    rw [if_pos (by omega), if_pos (by omega), rdi hlen, ww i (by omega)]
    have e : (mki c n)[i] = c + (i : Int) := by simp [mki]
    rw [e, w64 (x := c + (i : Int) + 1) (by omega) (by omega)]
    simp only [if_true]
    rw [show c + (i : Int) + 1 = c + ((i + 1 : Nat) : Int) by omega]
    exact ih k (i + 1) (by omega) (by omega)
theorem heldI_ok (n : Nat) (hl : n ≤ 2000000) (c : Int) (c0 : 0 ≤ c) (c1 : c ≤ 1000000000) (k : Nat) (hk : n < k) : laws_heldIntS.f k (mki c n) c = some (c + (n : Int)) := by
  have := heldI_l0 n hl c c0 c1 n k 0 (by omega) hk
  simpa [laws_heldIntS.f] using this
theorem newp_l0 (n : Nat) (hn : n ≤ 32) (d : Nat) : ∀ (i : Nat) (xs ys : List Int), n = i + d → xs.length = i → ys.length = i → ∃ xs' ys', xs'.length = n ∧ ys'.length = n ∧ ∀ k, d < k →
    impl_NewPool.l0 k (n : Int) (i : Int) (xs ++ List.replicate d 0) (ys ++ List.replicate d 0) = some (xs', ys', 0) ∧ spec_NewPool.l0 k (n : Int) (i : Int) xs ys = some (xs', ys', 0) := by
  induction d with
  | zero =>
    intro i xs ys hi hx hy
    refine ⟨xs, ys, by omega, by omega, fun k hk => ?_⟩
    obtain ⟨k, rfl⟩ : ∃ m, k = m + 1 := ⟨k - 1, by omega⟩
    rw [impl_NewPool.l0, spec_NewPool.l0, if_neg (by omega), if_neg (by omega)]
    simp
  | succ d ih =>
    intro i xs ys hi hx hy
    obtain ⟨xs', ys', h1, h2, h3⟩ := ih (i + 1) (xs ++ [(i : Int)]) (ys ++ [-1]) (by omega) (by simp; omega) (by simp; omega)
    refine ⟨xs', ys', h1, h2, fun k hk => ?_⟩
    obtain ⟨k, rfl⟩ : ∃ m, k = m + 1 := ⟨k - 1, by omega⟩
    have e1 : (xs ++ List.replicate (d + 1) (0 : Int)).set i (i : Int) = (xs ++ [(i : Int)]) ++ List.replicate d 0 := by
      have := set_mid xs (List.replicate d (0 : Int)) 0 (i : Int)
      rw [hx] at this
      rw [List.replicate_succ, this]; simp
    have e2 : (ys ++ List.replicate (d + 1) (0 : Int)).set i (-1) = (ys ++ [-1]) ++ List.replicate d 0 := by
      have := set_mid ys (List.replicate d (0 : Int)) 0 (-1)
      rw [hy] at this
      rw [List.replicate_succ, this]; simp
    have l1 : (i : Int) < ((xs ++ List.replicate (d + 1) (0 : Int)).length : Int) := by simp; omega
    have l2 : (i : Int) < ((ys ++ List.replicate (d + 1) (0 : Int)).length : Int) := by simp; omega
    constructor
    · rw [impl_NewPool.l0, if_pos (by omega), if_pos (by omega), if_pos l1, if_pos l2, Int.toNat_natCast, e1, e2, ww i (by omega)]
      exact (h3 k (by omega)).1
    · rw [spec_NewPool.l0, if_pos (by omega), if_pos (by omega), if_pos (by omega), ww i (by omega)]
      exact (h3 k (by omega)).2
theorem newp_both (a : Int) : ∃ xs ys c, xs.length ≤ 32 ∧ ys.length ≤ 32 ∧ ∀ k, 40 < k → impl_NewPool.f k a = some (xs, ys, c) ∧ spec_NewPool.f k a = some (xs, ys, c) := by
  by_cases h : 1 ≤ a ∧ a ≤ 32
  · obtain ⟨n, rfl⟩ : ∃ n : Nat, a = (n : Int) := ⟨a.toNat, by omega⟩
    obtain ⟨xs, ys, h1, h2, h3⟩ := newp_l0 n (by omega) n 0 [] [] (by omega) rfl rfl
    refine ⟨xs, ys, 0, by omega, by omega, fun k hk => ?_⟩
    have := h3 k (by omega)
    unfold impl_NewPool.f spec_NewPool.f
    rw [inR, inS, decide_eq_true h, Option.bind_some, Option.bind_some, if_pos rfl, if_pos rfl, if_pos (by omega), Int.toNat_natCast, if_pos (by omega)]
    exact this
  · refine ⟨[], [], 4, by simp, by simp, fun k hk => ?_⟩
    unfold impl_NewPool.f spec_NewPool.f
    rw [inR, inS, decide_eq_false h, Option.bind_some, Option.bind_some, if_neg (by decide), if_neg (by decide)]
    exact ⟨rfl, rfl⟩
theorem FnExactNewPool : fnExactNewPool.Say := by
  intro a _
  refine ⟨1003, ?_⟩
  obtain ⟨xs, ys, c, hx, hy, hr⟩ := newp_both a
  have E : ∀ j, 1000 ≤ j → laws_eqPool.f j xs ys xs ys = some true := by
    intro j hj
    unfold laws_eqPool.f
    rw [eqI_ok xs (by omega) _ (by omega), Option.bind_some, if_pos rfl, eqI_ok ys (by omega) _ (by omega), Option.bind_some, if_pos rfl]
  have M : ∀ j, 1000 ≤ j → laws_markPool.f j xs ys 1 = some (1 + (xs.length : Int) + (ys.length : Int), mki 1 xs.length, mki (1 + (xs.length : Int)) ys.length) := by
    intro j hj
    unfold laws_markPool.f
    rw [markI_ok xs (by omega) _ (by omega) (by omega) j (by omega), Option.bind_some]
    dsimp only
    rw [markI_ok ys (by omega) _ (by omega) (by omega) j (by omega), Option.bind_some]
  have H : ∀ j, 1000 ≤ j → laws_heldPool.f j (mki 1 xs.length) (mki (1 + (xs.length : Int)) ys.length) 1 = some (1 + (xs.length : Int) + (ys.length : Int)) := by
    intro j hj
    unfold laws_heldPool.f
    rw [heldI_ok _ (by omega) _ (by omega) (by omega) j (by omega), Option.bind_some, if_neg (by omega), heldI_ok _ (by omega) _ (by omega) (by omega) j (by omega), Option.bind_some, if_neg (by omega)]
  simp only [laws_FnExactNewPool.f]
  rw [(hr 1003 (by omega)).2, Option.bind_some, (hr 1003 (by omega)).1, Option.bind_some]
  dsimp only
  rw [E 1003 (by omega), Option.bind_some, if_pos rfl, laws_FnExactNewPool.j0]
  simp only [bne_self_eq_false, Bool.false_eq_true, if_false]
  rw [M 1002 (by omega), Option.bind_some]
  dsimp only
  rw [H 1002 (by omega), Option.bind_some, if_neg (by omega), if_pos rfl, (hr 1002 (by omega)).1, Option.bind_some]
  dsimp only
  rw [E 1002 (by omega), Option.bind_some, if_pos rfl, laws_FnExactNewPool.j1]
  simp only [bne_self_eq_false, Bool.false_eq_true, if_false]
  rw [H 1001 (by omega), Option.bind_some, if_neg (by omega), if_pos rfl]
end Go.Proofs.Ythcohaeafdcokaa.Pure
namespace Go.Proofs.Ythcohaeafdcokaa
/-- The row. -/
theorem fnExactNewPool_holds : Rows.FnExactNewPoolSaid := fnExactNewPool.row_of Pure.FnExactNewPool
end Go.Proofs.Ythcohaeafdcokaa
