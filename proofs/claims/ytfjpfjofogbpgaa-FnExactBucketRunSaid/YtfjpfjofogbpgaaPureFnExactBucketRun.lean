/- The law FnExactBucketRun holds. -/
import Derived.Test.YtfjpfjofogbpgaaAid
import Derived.Test.YtfjpfjofogbpgaaSayFnExactBucketRun
namespace Go.Proofs.Ytfjpfjofogbpgaa.Pure
set_option linter.unusedSimpArgs false
set_option linter.unusedVariables false
open Go.RowKit Go.Proofs.Ytfjpfjofogbpgaa.PFnExactBucketRun Go.Proofs.YtfjpfjofogbpgaaW.PrintWords Go.Proofs.YtfjpfjofogbpgaaW.PrintLast Go.Proofs.YtfjpfjofogbpgaaW.PrintMore Go.Proofs.Ytfjpfjofogbpgaa.Aid
theorem inR (a b c : Int) : impl_inRange.f a b c = some (decide (b ≤ a ∧ a ≤ c)) := by
  unfold impl_inRange.f
  by_cases h : a ≥ b
  · rw [if_pos h]; simp [show b ≤ a from h]
  · rw [if_neg h]; simp; omega
theorem inS (a b c : Int) : spec_l01In.f a b c = some (decide (b ≤ a ∧ a ≤ c)) := by
  unfold spec_l01In.f
  by_cases h : a ≥ b
  · rw [if_pos h]; simp [show b ≤ a from h]
  · rw [if_neg h]; simp; omega
theorem bok_same (a b c d : Int) : impl_BucketOK.f a b c d = spec_BucketOK.f a b c d := rfl
def B (a b c d : Int) : Prop := (0 ≤ a ∧ a ≤ 1000) ∧ (1 ≤ b ∧ b ≤ 10000) ∧ (0 ≤ c ∧ c ≤ b) ∧ (0 ≤ d ∧ d ≤ 1000000)
instance (a b c d : Int) : Decidable (B a b c d) := by unfold B; infer_instance
theorem bok_s (a b c d : Int) : spec_BucketOK.f a b c d = some (decide (B a b c d)) := by
  unfold spec_BucketOK.f B
  simp only [inS, Option.bind_some]
  by_cases h1 : 0 ≤ a ∧ a ≤ 1000
  · by_cases h2 : 1 ≤ b ∧ b ≤ 10000
    · by_cases h3 : 0 ≤ c ∧ c ≤ b
      · simp [h1, h2, h3]
      · simp [h1, h2, h3]
    · simp [h1, h2]
  · simp [h1]
theorem bok_i (a b c d : Int) : impl_BucketOK.f a b c d = some (decide (B a b c d)) := by rw [bok_same, bok_s]
theorem ww (i : Nat) (h : i < 4000000000000000000) : wrap64 ((i : Int) + 1) = ((i + 1 : Nat) : Int) := by rw [w64 (by omega) (by omega)]; simp
def cv (x : S63) : S47 := ⟨x.f0, x.f1⟩
theorem rd43 {l : List S47} {i : Nat} (h : i < l.length) : rd_T47 l (i : Int) = l[i] := by simp [rd_T47, List.getD_eq_getElem?_getD, h]
theorem rd53 {l : List S63} {i : Nat} (h : i < l.length) : rd_T63 l (i : Int) = l[i] := by simp [rd_T63, List.getD_eq_getElem?_getD, h]
theorem set_mid {α : Type} (A R : List α) (z v : α) : (A ++ z :: R).set A.length v = A ++ v :: R := by
  simp [List.set_append]
theorem toS_l0 (l : List S63) (hl : l.length ≤ 1048576) (d : Nat) : ∀ (k i : Nat), l.length = i + d → d < k → laws_toBucketActS.l0 k l ((l.take i).map cv ++ List.replicate d z47) (i : Int) = some (l.map cv) := by
  induction d with
  | zero =>
    intro k i hi hk
    obtain ⟨k, rfl⟩ : ∃ m, k = m + 1 := ⟨k - 1, by omega⟩
    simp only [laws_toBucketActS.l0]
    rw [if_neg (by omega), List.take_of_length_le (by omega)]
    simp
  | succ d ih =>
    intro k i hi hk
    obtain ⟨k, rfl⟩ : ∃ m, k = m + 1 := ⟨k - 1, by omega⟩
    simp only [laws_toBucketActS.l0, laws_toBucketAct.f, Option.bind_some]
    rw [if_pos (by omega), if_pos (by omega), if_pos (by simp; omega), ww i (by omega), rd53 (by omega)]
    have e : (((l.take i).map cv ++ List.replicate (d + 1) z47).set ((i : Int).toNat) (⟨l[i].f0, l[i].f1⟩ : S47)) = (l.take (i + 1)).map cv ++ List.replicate d z47 := by
      rw [Int.toNat_natCast, List.replicate_succ]
      have := set_mid ((l.take i).map cv) (List.replicate d z47) z47 (cv l[i])
      rw [show ((l.take i).map cv).length = i by simp; omega] at this
      rw [List.take_succ_eq_append_getElem (by omega)]
      simp only [List.map_append, List.map_cons, List.map_nil, List.append_assoc, List.singleton_append]
      exact this
    rw [e]
    exact ih k (i + 1) (by omega) (by omega)
theorem toS_ok (l : List S63) (hl : l.length ≤ 1048576) (k : Nat) (hk : l.length < k) : laws_toBucketActS.f k l = some (l.map cv) := by
  unfold laws_toBucketActS.f
  rw [if_pos (by omega), if_pos (by omega)]
  have := toS_l0 l hl l.length k 0 (by omega) hk
  simpa using this
theorem eqS_l0 (l : List S47) (hl : l.length ≤ 2000000) (d : Nat) : ∀ (k i : Nat), l.length = i + d → d < k → laws_eqBucketActS.l0 k l l (i : Int) = some true := by
  induction d with
  | zero =>
    intro k i hi hk
    obtain ⟨k, rfl⟩ : ∃ m, k = m + 1 := ⟨k - 1, by omega⟩
    simp only [laws_eqBucketActS.l0]
    rw [if_neg (by omega)]
  | succ d ih =>
    intro k i hi hk
    obtain ⟨k, rfl⟩ : ∃ m, k = m + 1 := ⟨k - 1, by omega⟩
    simp only [laws_eqBucketActS.l0, laws_eqBucketAct.f, if_true, Option.bind_some]
    rw [if_pos (by omega), if_pos (by omega), if_pos (by omega), ww i (by omega)]
    exact ih k (i + 1) (by omega) (by omega)
theorem eqS_ok (l : List S47) (hl : l.length ≤ 2000000) (k : Nat) (hk : l.length < k) : laws_eqBucketActS.f k l l = some true := by
  unfold laws_eqBucketActS.f
  rw [if_pos rfl]
  exact eqS_l0 l hl l.length k 0 (by omega) hk
def mk (c : Int) (n : Nat) : List S47 := (List.range n).map (fun (j : Nat) => ⟨c + 2 * (j : Int), c + 2 * (j : Int) + 1⟩)
theorem mk_len (c : Int) (n : Nat) : (mk c n).length = n := by simp [mk]
theorem mk_succ (c : Int) (n : Nat) : mk c (n + 1) = mk c n ++ [⟨c + 2 * (n : Int), c + 2 * (n : Int) + 1⟩] := by simp [mk, List.range_succ]
theorem rd_set43 {l : List S47} {i : Nat} (h : i < l.length) (v : S47) : rd_T47 (l.set i v) (i : Int) = v := by
  rw [rd43 (by simpa using h)]; simp
theorem mark_l0 (l : List S47) (hl : l.length ≤ 2000000) (d : Nat) : ∀ (k i : Nat), l.length = i + d → d < k → laws_markBucketActS.l0 k (mk 1 i ++ l.drop i) (1 + 2 * (i : Int)) (i : Int) = some (1 + 2 * (l.length : Int), mk 1 l.length) := by
  induction d with
  | zero =>
    intro k i hi hk
    obtain ⟨k, rfl⟩ : ∃ m, k = m + 1 := ⟨k - 1, by omega⟩
    simp only [laws_markBucketActS.l0]
    rw [if_neg (by simp [mk_len]; omega), List.drop_of_length_le (by omega), show i = l.length by omega]
    simp
  | succ d ih =>
    intro k i hi hk
    obtain ⟨k, rfl⟩ : ∃ m, k = m + 1 := ⟨k - 1, by omega⟩
    have hlen : i < (mk 1 i ++ l.drop i).length := by simp [mk_len]; omega
    simp only [laws_markBucketActS.l0, Option.bind_some, Int.toNat_natCast]
    rw [if_pos (by omega), if_pos (by omega), ww i (by omega), rd_set43 hlen, List.set_set]
    rw [w64 (x := 1 + 2 * (i : Int) + 1) (by omega) (by omega), w64 (x := 1 + 2 * (i : Int) + 1 + 1) (by omega) (by omega)]
    have e : (mk 1 i ++ l.drop i).set i (⟨1 + 2 * (i : Int), 1 + 2 * (i : Int) + 1⟩ : S47) = mk 1 (i + 1) ++ l.drop (i + 1) := by
      rw [List.drop_eq_getElem_cons (by omega), mk_succ]
      have := set_mid (mk 1 i) (l.drop (i + 1)) l[i] (⟨1 + 2 * (i : Int), 1 + 2 * (i : Int) + 1⟩ : S47)
      rw [mk_len] at this
      rw [this]; simp
    rw [e, show 1 + 2 * (i : Int) + 1 + 1 = 1 + 2 * ((i + 1 : Nat) : Int) by omega]
    exact ih k (i + 1) (by omega) (by omega)
theorem mark_ok (l : List S47) (hl : l.length ≤ 2000000) (k : Nat) (hk : l.length < k) : laws_markBucketActS.f k l 1 = some (1 + 2 * (l.length : Int), mk 1 l.length) := by
  have := mark_l0 l hl l.length k 0 (by omega) hk
  simpa [mk, laws_markBucketActS.f] using this
theorem rdi {l : List Int} {i : Nat} (h : i < l.length) : rd l (i : Int) = l[i] := by simp [rd, List.getD_eq_getElem?_getD, h]
theorem eqI_l0 (l : List Int) (hl : l.length ≤ 2000000) (d : Nat) : ∀ (k i : Nat), l.length = i + d → d < k → laws_eqIntS.l0 k l l (i : Int) = some true := by
  induction d with
  | zero =>
    intro k i hi hk
    obtain ⟨k, rfl⟩ : ∃ m, k = m + 1 := ⟨k - 1, by omega⟩
    simp only [laws_eqIntS.l0]
    rw [if_neg (by omega)]
  | succ d ih =>
    intro k i hi hk
    obtain ⟨k, rfl⟩ : ∃ m, k = m + 1 := ⟨k - 1, by omega⟩
    simp only [laws_eqIntS.l0, if_true]
    rw [if_pos (by omega), if_pos (by omega), if_pos (by omega), ww i (by omega)]
    exact ih k (i + 1) (by omega) (by omega)
theorem eqI_ok (l : List Int) (hl : l.length ≤ 2000000) (k : Nat) (hk : l.length < k) : laws_eqIntS.f k l l = some true := by
  unfold laws_eqIntS.f
  rw [if_pos rfl]
  exact eqI_l0 l hl l.length k 0 (by omega) hk
def mki (c : Int) (n : Nat) : List Int := (List.range n).map (fun (j : Nat) => c + (j : Int))
theorem mki_len (c : Int) (n : Nat) : (mki c n).length = n := by simp [mki]
theorem mki_succ (c : Int) (n : Nat) : mki c (n + 1) = mki c n ++ [c + (n : Int)] := by simp [mki, List.range_succ]
theorem markI_l0 (l : List Int) (hl : l.length ≤ 2000000) (c : Int) (c0 : 0 ≤ c) (c1 : c ≤ 1000000000) (d : Nat) : ∀ (k i : Nat), l.length = i + d → d < k → laws_markIntS.l0 k (mki c i ++ l.drop i) (c + (i : Int)) (i : Int) = some (c + (l.length : Int), mki c l.length) := by
  induction d with
  | zero =>
    intro k i hi hk
    obtain ⟨k, rfl⟩ : ∃ m, k = m + 1 := ⟨k - 1, by omega⟩
    simp only [laws_markIntS.l0]
    rw [if_neg (by simp [mki_len]; omega), List.drop_of_length_le (by omega), show i = l.length by omega]
    simp
  | succ d ih =>
    intro k i hi hk
    obtain ⟨k, rfl⟩ : ∃ m, k = m + 1 := ⟨k - 1, by omega⟩
    have hlen : i < (mki c i ++ l.drop i).length := by simp [mki_len]; omega
    simp only [laws_markIntS.l0, Int.toNat_natCast]
    rw [if_pos (by omega), if_pos (by omega), ww i (by omega), w64 (x := c + (i : Int) + 1) (by omega) (by omega)]
    have e : (mki c i ++ l.drop i).set i (c + (i : Int)) = mki c (i + 1) ++ l.drop (i + 1) := by
      rw [List.drop_eq_getElem_cons (by omega), mki_succ]
      have := set_mid (mki c i) (l.drop (i + 1)) l[i] (c + (i : Int))
      rw [mki_len] at this
      rw [this]; simp
    rw [e, show c + (i : Int) + 1 = c + ((i + 1 : Nat) : Int) by omega]
    exact ih k (i + 1) (by omega) (by omega)
theorem markI_ok (l : List Int) (hl : l.length ≤ 2000000) (c : Int) (c0 : 0 ≤ c) (c1 : c ≤ 1000000000) (k : Nat) (hk : l.length < k) : laws_markIntS.f k l c = some (c + (l.length : Int), mki c l.length) := by
  have := markI_l0 l hl c c0 c1 l.length k 0 (by omega) hk
  simpa [mki, laws_markIntS.f] using this
theorem heldI_l0 (n : Nat) (hl : n ≤ 2000000) (c : Int) (c0 : 0 ≤ c) (c1 : c ≤ 1000000000) (d : Nat) : ∀ (k i : Nat), n = i + d → d < k → laws_heldIntS.l0 k (mki c n) (c + (i : Int)) (i : Int) = some (c + (n : Int)) := by
  induction d with
  | zero =>
    intro k i hi hk
    obtain ⟨k, rfl⟩ : ∃ m, k = m + 1 := ⟨k - 1, by omega⟩
    simp only [laws_heldIntS.l0]
    rw [if_neg (by simp [mki_len]; omega), show i = n by omega]
  | succ d ih =>
    intro k i hi hk
    obtain ⟨k, rfl⟩ : ∃ m, k = m + 1 := ⟨k - 1, by omega⟩
    have hlen : i < (mki c n).length := by rw [mki_len]; omega
    simp only [laws_heldIntS.l0]
    rw [if_pos (by omega), if_pos (by omega), rdi hlen, ww i (by omega)]
    have e : (mki c n)[i] = c + (i : Int) := by simp [mki]
    rw [e, w64 (x := c + (i : Int) + 1) (by omega) (by omega)]
    simp only [if_true]
    rw [show c + (i : Int) + 1 = c + ((i + 1 : Nat) : Int) by omega]
    exact ih k (i + 1) (by omega) (by omega)
theorem heldI_ok (n : Nat) (hl : n ≤ 2000000) (c : Int) (c0 : 0 ≤ c) (c1 : c ≤ 1000000000) (k : Nat) (hk : n < k) : laws_heldIntS.f k (mki c n) c = some (c + (n : Int)) := by
  have := heldI_l0 n hl c c0 c1 n k 0 (by omega) hk
  simpa [laws_heldIntS.f] using this
theorem step_some (a b c e k n : Int) : ∃ a' b' c' e' r, spec_l10Step.f a b c e k n = some (a', b', c', e', r) ∧ (k = 1 → impl_Bucket_take.f a b c e n = some (r, a', b', c', e')) ∧ (k = 2 → impl_Bucket_wait.f a b c e n = some (r, a', b', c', e')) ∧ (k ≠ 1 → k ≠ 2 → a' = a ∧ b' = b ∧ c' = c ∧ e' = e ∧ r = 3) := by
  unfold spec_l10Step.f spec_l10Take.f spec_l10Wait.f impl_Bucket_take.f impl_Bucket_wait.f
  rw [inS, inS, inR, inR]
  simp only [Option.bind_some]
  by_cases k1 : k = 1
  · subst k1
    by_cases h : 0 ≤ n ∧ n ≤ 10000
    · by_cases h3 : c < n
      · exact ⟨a, b, c, e, 15, by simp [h, show n > c from h3], by simp [h, h3], by simp, by simp⟩
      · exact ⟨a, b, wrap64 (c - n), e, 0, by simp [h, show ¬ n > c from h3], by simp [h, h3], by simp, by simp⟩
    · exact ⟨a, b, c, e, 4, by simp [h], by simp [h], by simp, by simp⟩
  · by_cases k2 : k = 2
    · subst k2
      by_cases h : 0 ≤ n ∧ n ≤ wrap64 (1000000 - e)
      · exact ⟨a, b, mn b (wrap64 (c + wrap64 (a * n))), wrap64 (e + n), 0, by simp [h], by simp, by simp [h], by simp⟩
      · exact ⟨a, b, c, e, 4, by simp [h], by simp, by simp [h], by simp⟩
    · exact ⟨a, b, c, e, 3, by simp [k1, k2], fun h => absurd h k1, fun h => absurd h k2, fun _ _ => ⟨rfl, rfl, rfl, rfl, rfl⟩⟩
theorem run_l0 (l : List S47) (hl : l.length ≤ 300) (d : Nat) : ∀ (i : Nat) (o : List Int) (a b c e : Int), l.length = i + d → o.length = i → ∃ a' b' c' e' o', o'.length = l.length ∧ ∀ k, d < k →
    spec_BucketRun.l0 k l o (i : Int) a b c e = some (a', b', c', e', o', 0) ∧ impl_BucketRun.l0 k (o ++ List.replicate d 0) l (l.length : Int) (i : Int) a b c e = some (a', b', c', e', o', 0) := by
  induction d with
  | zero =>
    intro i o a b c e hi ho
    refine ⟨a, b, c, e, o, by omega, fun k hk => ?_⟩
    obtain ⟨k, rfl⟩ : ∃ m, k = m + 1 := ⟨k - 1, by omega⟩
    rw [spec_BucketRun.l0, impl_BucketRun.l0, if_neg (by omega), if_neg (by omega)]
    simp
  | succ d ih =>
    intro i o a b c e hi ho
    have hi' : i < l.length := by omega
    obtain ⟨a1, b1, c1, e1, r, s1, s2, s3, s4⟩ := step_some a b c e l[i].f0 l[i].f1
    obtain ⟨a', b', c', e', o', ol, oe⟩ := ih (i + 1) (o ++ [r]) a1 b1 c1 e1 (by omega) (by simp; omega)
    refine ⟨a', b', c', e', o', ol, fun k hk => ?_⟩
    obtain ⟨k, rfl⟩ : ∃ m, k = m + 1 := ⟨k - 1, by omega⟩
    have oe' := oe k (by omega)
    have es : (o ++ List.replicate (d + 1) (0 : Int)).set i r = (o ++ [r]) ++ List.replicate d 0 := by
      have := set_mid o (List.replicate d (0 : Int)) 0 r
      rw [ho] at this
      rw [List.replicate_succ, this]; simp
    have hlen : (i : Int) < ((o ++ List.replicate (d + 1) (0 : Int)).length : Int) := by simp; omega
    constructor
    · rw [spec_BucketRun.l0, if_pos (by omega), if_pos (by omega), rd43 hi', s1, Option.bind_some, if_pos (by omega), ww i (by omega)]
      exact oe'.1
    · rw [impl_BucketRun.l0, if_pos (by omega), if_pos (by omega), if_pos (by omega), rd43 hi', ww i (by omega)]
      by_cases k1 : l[i].f0 = 1
      · rw [if_pos k1, s2 k1, Option.bind_some, if_pos hlen, Int.toNat_natCast, es]; exact oe'.2
      · rw [if_neg k1]
        by_cases k2 : l[i].f0 = 2
        · rw [if_pos k2, s3 k2, Option.bind_some, if_pos hlen, Int.toNat_natCast, es]; exact oe'.2
        · obtain ⟨rfl, rfl, rfl, rfl, rfl⟩ := s4 k1 k2
          rw [if_neg k2, if_pos hlen, Int.toNat_natCast, es]; exact oe'.2
theorem run_both (a b c e : Int) (l : List S47) : ∃ a' b' c' e' o' r, o'.length ≤ l.length ∧ ∀ k, 400 < k → impl_BucketRun.f k a b c e l = some (a', b', c', e', o', r) ∧ spec_BucketRun.f k a b c e l = some (a', b', c', e', o', r) := by
  by_cases h : (l.length : Int) > 4096
  · exact ⟨0, 0, 0, 0, [], 2, by simp, fun k hk => by simp [impl_BucketRun.f, spec_BucketRun.f, impl_NewBucket.f, h]⟩
  by_cases hB : B a b c e
  · by_cases h3 : (l.length : Int) > 300
    · exact ⟨0, 0, 0, 0, [], 6, by simp, fun k hk => by simp [impl_BucketRun.f, spec_BucketRun.f, impl_NewBucket.f, h, bok_i, bok_s, hB, h3]⟩
    · obtain ⟨a', b', c', e', o', ol, oe⟩ := run_l0 l (by omega) l.length 0 [] a b c e (by omega) rfl
      refine ⟨a', b', c', e', o', 0, by omega, fun k hk => ?_⟩
      have := oe k (by omega)
      rw [List.nil_append] at this
      unfold impl_BucketRun.f spec_BucketRun.f impl_NewBucket.f
      rw [Option.bind_some, if_neg h, if_neg h, bok_i, bok_s, decide_eq_true hB, Option.bind_some, Option.bind_some, if_pos rfl, if_pos rfl, if_neg h3, if_neg h3, if_pos (by omega), if_pos (by omega), Int.toNat_natCast]
      exact ⟨this.2, this.1⟩
  · exact ⟨0, 0, 0, 0, [], 1, by simp, fun k hk => by simp [impl_BucketRun.f, spec_BucketRun.f, impl_NewBucket.f, h, bok_i, bok_s, hB]⟩
theorem FnExactBucketRun : fnExactBucketRun.Say := by
  intro a b c e l _ _ _ _ ⟨hm, hg⟩
  obtain ⟨K, hK⟩ : ∃ K : Nat, K = 3000000 := ⟨_, rfl⟩
  refine ⟨K + 3, ?_⟩
  unfold maxLen at hm
  simp only [laws_FnExactBucketRun.f, laws_szBucketActS.f]
  rw [w64 (x := 1048576 - (l.length : Int)) (by omega) (by omega)]
  by_cases cc : 1048576 - (l.length : Int) < 0
  · rw [if_pos cc]; simp
  rw [if_neg cc, Option.bind_some, if_neg cc]
  have hl : (l.map cv).length ≤ 1048576 := by simp; omega
  obtain ⟨a', b', c', e', o, r, ho, hb⟩ := run_both a b c e (l.map cv)
  have T : ∀ j, 1048576 < j → laws_toBucketActS.f j l = some (l.map cv) := fun j hj => toS_ok l (by omega) j (by omega)
  have E0 : ∀ j, 1048596 < j → laws_eqBucketActS.f j (l.map cv) (l.map cv) = some true := fun j hj => eqS_ok _ (by omega) j (by omega)
  have EI : ∀ j, 1048596 < j → laws_eqIntS.f j o o = some true := fun j hj => eqI_ok _ (by omega) j (by omega)
  have M0 : ∀ j, 1048596 < j → laws_markBucketActS.f j (l.map cv) 1 = some (1 + 2 * ((l.map cv).length : Int), mk 1 (l.map cv).length) := fun j hj => mark_ok _ (by omega) j (by omega)
  have M1 : ∀ j, 1048596 < j → laws_markIntS.f j o 1 = some (1 + (o.length : Int), mki 1 o.length) := fun j hj => markI_ok _ (by omega) _ (by omega) (by omega) j (by omega)
  have H1 : ∀ j, 1048596 < j → laws_heldIntS.f j (mki 1 o.length) 1 = some (1 + (o.length : Int)) := fun j hj => heldI_ok _ (by omega) _ (by omega) (by omega) j (by omega)
  have EB : laws_eqBucket.f a' b' c' e' a' b' c' e' = some true := by simp [laws_eqBucket.f]
  simp only [laws_toBucket.f, Option.bind_some]
  rw [T (K + 3) (by omega), Option.bind_some, (hb (K + 3) (by omega)).2, Option.bind_some, Option.bind_some, (hb (K + 3) (by omega)).1, Option.bind_some]
  dsimp only
  rw [EB, Option.bind_some, if_pos rfl, EI (K + 3) (by omega), Option.bind_some, if_pos rfl, laws_FnExactBucketRun.j0]
  simp only [bne_self_eq_false, Bool.false_eq_true, if_false]
  rw [T (K + 2) (by omega), Option.bind_some, E0 (K + 2) (by omega), Option.bind_some, if_pos rfl, M0 (K + 2) (by omega), Option.bind_some]
  dsimp only
  rw [if_neg (by omega), EB, Option.bind_some, if_pos rfl, EI (K + 2) (by omega), Option.bind_some, if_pos rfl, laws_FnExactBucketRun.j1]
  simp only [Bool.false_eq_true, if_false]
  rw [M1 (K + 1) (by omega), Option.bind_some]
  dsimp only
  rw [H1 (K + 1) (by omega), Option.bind_some, if_neg (by omega), if_pos rfl]
  simp only [laws_toBucket.f, Option.bind_some]
  rw [T (K + 1) (by omega), Option.bind_some, (hb (K + 1) (by omega)).1, Option.bind_some]
  dsimp only
  rw [EB, Option.bind_some, if_pos rfl, EI (K + 1) (by omega), Option.bind_some, if_pos rfl, laws_FnExactBucketRun.j2]
  simp only [bne_self_eq_false, Bool.false_eq_true, if_false]
  rw [H1 K (by omega), Option.bind_some, if_neg (by omega), if_pos rfl]
end Go.Proofs.Ytfjpfjofogbpgaa.Pure
namespace Go.Proofs.Ytfjpfjofogbpgaa
/-- The row. -/
theorem fnExactBucketRun_holds : Rows.FnExactBucketRunSaid := fnExactBucketRun.row_of Pure.FnExactBucketRun
end Go.Proofs.Ytfjpfjofogbpgaa
