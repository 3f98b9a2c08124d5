/- The law FnSack holds. -/
import Derived.Test.YtelcclkedpafaaaAid
import Derived.Test.YtelcclkedpafaaaSayFnSack
namespace Go.Proofs.Ytelcclkedpafaaa.Pure
set_option linter.unusedSimpArgs false
set_option linter.unusedVariables false
open Go.RowKit Go.Proofs.Ytelcclkedpafaaa.PFnSack Go.Proofs.YtelcclkedpafaaaW.PrintWords Go.Proofs.YtelcclkedpafaaaW.PrintLast Go.Proofs.YtelcclkedpafaaaW.PrintMore Go.Proofs.Ytelcclkedpafaaa.Aid
theorem inR (a b c : Int) : impl_inRange.f a b c = some (decide (b ≤ a ∧ a ≤ c)) := by
  unfold impl_inRange.f
  by_cases h : a ≥ b
  · rw [if_pos h]; simp [show b ≤ a from h]
  · rw [if_neg h]; simp; omega
theorem inS (a b c : Int) : spec_l01In.f a b c = some (decide (b ≤ a ∧ a ≤ c)) := by
  unfold spec_l01In.f
  by_cases h : a ≥ b
  · rw [if_pos h]; simp [show b ≤ a from h]
  · rw [if_neg h]; simp; omega
theorem ww (i : Nat) (h : i < 4000000000000000000) : wrap64 ((i : Int) + 1) = ((i + 1 : Nat) : Int) := by rw [w64 (by omega) (by omega)]; simp
theorem set_mid {α : Type} (A R : List α) (z v : α) : (A ++ z :: R).set A.length v = A ++ v :: R := by
  simp [List.set_append]
theorem rd43 {l : List S43} {i : Nat} (h : i < l.length) : rd_T43 l (i : Int) = l[i] := by simp [rd_T43, List.getD_eq_getElem?_getD, h]
/-- A source of choices that stands right: its bytes, its place (at most b), its seed. -/
structure Sr (c : List Int) (a s b : Int) : Prop where
  bytes : ∀ x ∈ c, 0 ≤ x ∧ x ≤ 255
  len : (c.length : Int) ≤ 140737488355328
  a0 : 0 ≤ a
  ab : a ≤ b
  bb : b ≤ 1000000000000000
  s0 : 0 ≤ s
  s1 : s < 2147483648
theorem Sr.mono {c : List Int} {a s b b' : Int} (h : Sr c a s b) (h1 : b ≤ b') (h2 : b' ≤ 1000000000000000) : Sr c a s b' := ⟨h.bytes, h.len, h.a0, Int.le_trans h.ab h1, h2, h.s0, h.s1⟩
theorem mod_b {x n : Int} (hx : 0 ≤ x) (hn : 0 < n) : 0 ≤ Int.tmod x n ∧ Int.tmod x n < n := by
  rw [tmod_nonneg_eq hx]; exact ⟨Int.emod_nonneg _ (by omega), Int.emod_lt_of_pos _ hn⟩
theorem byte_ok {c : List Int} {a s b : Int} (h : Sr c a s b) (hb : b ≤ 900000000000000) : ∃ v s', spec_l00Src_byte.f c a s = some (v, a + 1, s') ∧ 0 ≤ v ∧ v ≤ 255 ∧ Sr c (a + 1) s' (b + 1) := by
  obtain ⟨h1, h2, h3, h4, h5, h6, h7⟩ := h
  unfold spec_l00Src_byte.f
  rw [w64 (x := a + 1) (by omega) (by omega)]
  by_cases q : a + 1 ≤ (c.length : Int)
  · rw [if_pos q, w64 (x := a + 1 - 1) (by omega) (by omega), if_pos (by omega), if_pos (by omega)]
    have r := rd_byte h1 (a + 1 - 1)
    generalize rd c (a + 1 - 1) = v at r ⊢
    rw [w64 (x := v) (by omega) (by omega), w64 (x := s * 31) (by omega) (by omega), w64 (x := s * 31 + v) (by omega) (by omega), w64 (x := s * 31 + v + 7) (by omega) (by omega)]
    have m := mod_b (x := s * 31 + v + 7) (n := 2147483648) (by omega) (by omega)
    exact ⟨v, _, rfl, r.1, r.2, ⟨h1, h2, by omega, by omega, by omega, m.1, m.2⟩⟩
  · rw [if_neg q]
    by_cases q2 : a + 1 > 3000
    · rw [if_pos q2]
      exact ⟨0, s, rfl, by omega, by omega, ⟨h1, h2, by omega, by omega, by omega, h6, h7⟩⟩
    · rw [if_neg q2, w64 (x := s * 1103515245) (by omega) (by omega), w64 (x := s * 1103515245 + 12345) (by omega) (by omega)]
      have m := mod_b (x := s * 1103515245 + 12345) (n := 2147483648) (by omega) (by omega)
      generalize Int.tmod (s * 1103515245 + 12345) 2147483648 = s' at m ⊢
      have e : 0 ≤ Int.tdiv s' 65536 ∧ Int.tdiv s' 65536 ≤ 32767 := by rw [tdiv_nonneg_eq m.1]; omega
      rw [w64 (x := Int.tdiv s' 65536) (by omega) (by omega)]
      have m2 := mod_b (x := Int.tdiv s' 65536) (n := 256) e.1 (by omega)
      exact ⟨_, s', rfl, m2.1, by omega, ⟨h1, h2, by omega, by omega, by omega, m.1, m.2⟩⟩
theorem next_ok {c : List Int} {a s b : Int} (h : Sr c a s b) (hb : b ≤ 800000000000000) (n : Int) (hn : 1 ≤ n) (hn2 : n ≤ 10000000) : ∃ v a' s', spec_l00Src_next.f c a s n = some (v, a', s') ∧ 0 ≤ v ∧ v < n ∧ Sr c a' s' (b + 3) := by
  unfold spec_l00Src_next.f
  by_cases q : n ≤ 1
  · rw [if_pos q]; exact ⟨0, a, s, rfl, by omega, by omega, h.mono (by omega) (by omega)⟩
  rw [if_neg q]
  by_cases q2 : n ≤ 256
  · obtain ⟨v, s', e, v0, v1, h'⟩ := byte_ok h (by omega)
    rw [if_pos q2, e]
    simp only [Option.bind_some]
    rw [if_neg (by omega)]
    have m := mod_b (x := v) (n := n) v0 (by omega)
    exact ⟨_, _, _, rfl, m.1, m.2, h'.mono (by omega) (by omega)⟩
  · obtain ⟨v, s1, e1, v0, v1, h1⟩ := byte_ok h (by omega)
    obtain ⟨u, s2, e2, u0, u1, h2⟩ := byte_ok h1 (by omega)
    obtain ⟨t, s3, e3, t0, t1, h3⟩ := byte_ok h2 (by omega)
    rw [if_neg q2, e1]
    simp only [Option.bind_some]
    rw [e2]
    simp only [Option.bind_some]
    rw [e3]
    simp only [Option.bind_some]
    rw [if_neg (by omega), w64 (x := v * 65536) (by omega) (by omega), w64 (x := u * 256) (by omega) (by omega), w64 (x := v * 65536 + u * 256) (by omega) (by omega), w64 (x := v * 65536 + u * 256 + t) (by omega) (by omega)]
    have m := mod_b (x := v * 65536 + u * 256 + t) (n := n) (by omega) (by omega)
    exact ⟨_, _, _, rfl, m.1, m.2, h3.mono (by omega) (by omega)⟩
theorem source_ok {l : List Int} (hl : ∀ x ∈ l, 0 ≤ x ∧ x ≤ 255) (h2 : (l.length : Int) ≤ 140737488355328) : spec_l00Source.f l = some (l, 0, (l.length : Int) % 1000) ∧ Sr l 0 ((l.length : Int) % 1000) 0 :=
  ⟨rfl, ⟨hl, h2, by omega, by omega, by omega, by omega, by omega⟩⟩
def chain : Int → List S43 → Bool
  | _, [] => true
  | b, x :: r => decide (b < x.f0) && (decide (x.f0 < x.f1) && (decide (x.f1 ≤ 1000000) && chain x.f1 r))
def okB (l : List S43) : Bool := decide (l.length ≤ 16) && chain (-1) l
theorem ok_i_l0 (l : List S43) (hl : l.length ≤ 2000000) (d : Nat) : ∀ (k i : Nat) (b : Int), l.length = i + d → d < k → impl_RangesOK.l0 k b l (l.length : Int) (i : Int) = some (chain b (l.drop i)) := by
  induction d with
  | zero =>
    intro k i b hi hk
    obtain ⟨k, rfl⟩ : ∃ m, k = m + 1 := ⟨k - 1, by omega⟩
    simp only [impl_RangesOK.l0]
    rw [if_neg (by omega), List.drop_of_length_le (by omega)]; rfl
  | succ d ih =>
    intro k i b hi hk
    obtain ⟨k, rfl⟩ : ∃ m, k = m + 1 := ⟨k - 1, by omega⟩
    simp only [impl_RangesOK.l0]
    rw [if_pos (by omega), if_pos (by omega), if_pos (by omega), rd43 (by omega), ww i (by omega), List.drop_eq_getElem_cons (by omega)]
    simp only [chain]
    by_cases h1 : l[i].f0 ≤ b
    · rw [if_pos h1, decide_eq_false (by omega)]; rfl
    · rw [if_neg h1, decide_eq_true (by omega)]
      by_cases h2 : l[i].f1 ≤ l[i].f0
      · rw [if_pos h2, decide_eq_false (p := l[i].f0 < l[i].f1) (by omega)]; rfl
      · rw [if_neg h2, decide_eq_true (p := l[i].f0 < l[i].f1) (by omega)]
        by_cases h3 : l[i].f1 > 1000000
        · rw [if_pos h3, decide_eq_false (p := l[i].f1 ≤ 1000000) (by omega)]; rfl
        · rw [if_neg h3, decide_eq_true (p := l[i].f1 ≤ 1000000) (by omega), ih k (i + 1) _ (by omega) (by omega)]; rfl
theorem rok_i (l : List S43) (hl : l.length ≤ 2000000) (k : Nat) (hk : l.length < k) : impl_RangesOK.f k l = some (okB l) := by
  unfold impl_RangesOK.f okB
  by_cases h : (l.length : Int) > 16
  · rw [if_pos h, decide_eq_false (by omega)]; rfl
  · rw [if_neg h, decide_eq_true (by omega)]
    have := ok_i_l0 l hl l.length k 0 (-1) (by omega) hk
    simpa using this
theorem ok_s_l0 (l : List S43) (hl : l.length ≤ 2000000) (d : Nat) : ∀ (k i : Nat) (b : Int) (hi : l.length = i + d), d < k → -1 ≤ b → (i = 0 → b = -1) → (∀ h : 0 < i, b = (l[i - 1]'(by omega)).f1) → spec_RangesOK.l0 k l (i : Int) = some (chain b (l.drop i)) := by
  induction d with
  | zero =>
    intro k i b hi hk _ _ _
    obtain ⟨k, rfl⟩ : ∃ m, k = m + 1 := ⟨k - 1, by omega⟩
    simp only [spec_RangesOK.l0]
    rw [if_neg (by omega), List.drop_of_length_le (by omega)]; rfl
  | succ d ih =>
    intro k i b hi hk hb h0 hp
    obtain ⟨k, rfl⟩ : ∃ m, k = m + 1 := ⟨k - 1, by omega⟩
    simp only [spec_RangesOK.l0, inS, Option.bind_some]
    rw [if_pos (by omega), if_pos (by omega), rd43 (by omega), ww i (by omega), List.drop_eq_getElem_cons (by omega)]
    simp only [chain]
    have next : 0 ≤ l[i].f1 → spec_RangesOK.l0 k l ((i + 1 : Nat) : Int) = some (chain l[i].f1 (l.drop (i + 1))) := fun hf => ih k (i + 1) l[i].f1 (by omega) (by omega) (by omega) (by omega) (fun _ => by simp)
    by_cases h1 : 1 ≤ l[i].f1 ∧ l[i].f1 ≤ 1000000
    · rw [decide_eq_true h1, if_pos rfl, w64 (x := l[i].f1 - 1) (by omega) (by omega)]
      by_cases h2 : 0 ≤ l[i].f0 ∧ l[i].f0 ≤ l[i].f1 - 1
      · rw [decide_eq_true h2, if_pos rfl, decide_eq_true (p := l[i].f0 < l[i].f1) (by omega), decide_eq_true h1.2]
        by_cases hz : i = 0
        · rw [if_neg (by omega), next (by omega), decide_eq_true (p := b < l[i].f0) (by have := h0 hz; omega)]; rfl
        · rw [if_pos (by omega)]
          have e : (i : Int) - 1 = ((i - 1 : Nat) : Int) := by omega
          rw [w64 (x := (i : Int) - 1) (by omega) (by omega), e, if_pos (by omega), if_pos (by omega), rd43 (by omega), ← hp (by omega)]
          by_cases h3 : b ≥ l[i].f0
          · rw [if_pos h3, decide_eq_false (by omega)]; rfl
          · rw [if_neg h3, next (by omega), decide_eq_true (p := b < l[i].f0) (by omega)]; rfl
      · rw [decide_eq_false h2, if_neg (by decide)]
        by_cases h3 : b < l[i].f0
        · rw [decide_eq_false (p := l[i].f0 < l[i].f1) (by omega)]; simp
        · rw [decide_eq_false h3]; rfl
    · rw [decide_eq_false h1, if_neg (by decide)]
      by_cases h3 : b < l[i].f0
      · by_cases h4 : l[i].f0 < l[i].f1
        · rw [decide_eq_false (p := l[i].f1 ≤ 1000000) (by omega)]; simp
        · rw [decide_eq_false h4]; simp
      · rw [decide_eq_false h3]; rfl
theorem rok_s (l : List S43) (hl : l.length ≤ 2000000) (k : Nat) (hk : l.length < k) : spec_RangesOK.f k l = some (okB l) := by
  unfold spec_RangesOK.f okB
  by_cases h : (l.length : Int) > 16
  · rw [if_pos h, decide_eq_false (by omega)]; rfl
  · rw [if_neg h, decide_eq_true (by omega)]
    have := ok_s_l0 l hl l.length k 0 (-1) (by omega) hk (by omega) (by omega) (by omega)
    simpa using this
theorem chain_mono {b b' : Int} {l : List S43} (h : b' ≤ b) (hc : chain b l = true) : chain b' l = true := by
  cases l with
  | nil => rfl
  | cons x r => simp only [chain, Bool.and_eq_true, decide_eq_true_eq] at hc ⊢; exact ⟨by omega, hc.2⟩
def joinS : Int → Int → List S43 → List S43
  | f, t, [] => [⟨f, t⟩]
  | f, t, x :: r => if x.f0 ≤ t then joinS (min f x.f0) (max t x.f1) r else ⟨f, t⟩ :: x :: r
def addS : Int → Int → List S43 → List S43
  | f, t, [] => [⟨f, t⟩]
  | f, t, x :: r => if x.f1 < f then x :: addS f t r else joinS f t (x :: r)
theorem joinS_len (l : List S43) : ∀ f t, (joinS f t l).length ≤ l.length + 1 := by
  induction l with
  | nil => intro f t; simp [joinS]
  | cons x r ih => intro f t; have := ih (min f x.f0) (max t x.f1); simp only [joinS]; split <;> simp <;> omega
theorem addS_len (l : List S43) : ∀ f t, (addS f t l).length ≤ l.length + 1 := by
  induction l with
  | nil => intro f t; simp [addS]
  | cons x r ih => intro f t; have := ih f t; have := joinS_len (x :: r) f t; simp only [addS]; split <;> simp at * <;> omega
theorem lt16 {n : Nat} (h : n ≤ 3000000) : n < 8796093022208 := by omega
theorem join_s_l1 (l : List S43) (hl : l.length ≤ 1000000) (d : Nat) : ∀ (k i : Nat) (o : List S43) (f t : Int), l.length = i + d → d < k → o.length ≤ i → spec_l17Add.l1 k l o (i : Int) f t = some (o ++ joinS f t (l.drop i)) := by
  induction d with
  | zero =>
    intro k i o f t hi hk ho
    obtain ⟨k, rfl⟩ : ∃ m, k = m + 1 := ⟨k - 1, by omega⟩
    simp only [spec_l17Add.l1, Option.bind_some, Int.toNat_natCast]
    rw [if_neg (by omega), if_pos (lt16 (by omega)), if_pos (by omega), if_pos (by omega), List.drop_of_length_le (by omega), if_pos (lt16 (by simp; omega))]
    simp [joinS]
  | succ d ih =>
    intro k i o f t hi hk ho
    obtain ⟨k, rfl⟩ : ∃ m, k = m + 1 := ⟨k - 1, by omega⟩
    simp only [spec_l17Add.l1, Option.bind_some, Int.toNat_natCast]
    rw [if_pos (by omega), if_pos (by omega), rd43 (by omega), ww i (by omega), mn_eq, mx_eq]
    by_cases h : l[i].f0 ≤ t
    · rw [if_pos h, ih k (i + 1) _ _ _ (by omega) (by omega) (by omega), List.drop_eq_getElem_cons (i := i) (by omega)]
      simp only [joinS]; rw [if_pos h]
    · rw [if_neg h, if_pos (lt16 (by omega)), if_pos (by omega), if_pos (lt16 (by simp; omega)), List.drop_eq_getElem_cons (i := i) (by omega)]
      simp only [joinS]; rw [if_neg h]; simp
theorem add_s_l0 (l : List S43) (hl : l.length ≤ 1000000) (d : Nat) : ∀ (k i : Nat) (o : List S43) (f t : Int), l.length = i + d → d + 2 < k → o.length ≤ i → spec_l17Add.l0 k l o (i : Int) f t = some (o ++ addS f t (l.drop i)) := by
  induction d with
  | zero =>
    intro k i o f t hi hk ho
    obtain ⟨k, rfl⟩ : ∃ m, k = m + 2 := ⟨k - 2, by omega⟩
    simp only [spec_l17Add.l0, spec_l17Add.j1]
    rw [if_neg (by omega), join_s_l1 l hl 0 k i o f t hi (by omega) ho, List.drop_of_length_le (by omega)]
    simp [joinS, addS]
  | succ d ih =>
    intro k i o f t hi hk ho
    obtain ⟨k, rfl⟩ : ∃ m, k = m + 1 := ⟨k - 1, by omega⟩
    simp only [spec_l17Add.l0]
    rw [if_pos (by omega), if_pos (by omega), rd43 (by omega), ww i (by omega)]
    by_cases h : l[i].f1 < f
    · rw [if_pos h, if_pos (lt16 (by omega)), ih k (i + 1) _ _ _ (by omega) (by omega) (by simp; omega), List.drop_eq_getElem_cons (i := i) (by omega)]
      simp only [addS]; rw [if_pos h]; simp
    · rw [if_neg h]
      obtain ⟨k, rfl⟩ : ∃ m, k = m + 1 := ⟨k - 1, by omega⟩
      simp only [spec_l17Add.j1]
      rw [join_s_l1 l hl (d + 1) k i o f t hi (by omega) ho, List.drop_eq_getElem_cons (i := i) (by omega)]
      simp only [addS]; rw [if_neg h]
def pIn (a : Int) (x : S43) : Bool := decide (x.f0 ≤ a) && decide (a < x.f1)
theorem find_l0 (l : List S43) (a : Int) (hl : l.length ≤ 2000000) (d : Nat) : ∀ (k i : Nat), l.length = i + d → d < k → spec_l17Find.l0 k l a (i : Int) = some (ixFrom (pIn a) (l.drop i) i) := by
  induction d with
  | zero =>
    intro k i hi hk
    obtain ⟨k, rfl⟩ : ∃ m, k = m + 1 := ⟨k - 1, by omega⟩
    simp only [spec_l17Find.l0]
    rw [if_neg (by omega), List.drop_of_length_le (by omega)]; rfl
  | succ d ih =>
    intro k i hi hk
    obtain ⟨k, rfl⟩ : ∃ m, k = m + 1 := ⟨k - 1, by omega⟩
    simp only [spec_l17Find.l0]
    rw [if_pos (by omega), if_pos (by omega), rd43 (by omega), ww i (by omega), List.drop_eq_getElem_cons (by omega)]
    simp only [ixFrom]
    by_cases h1 : a ≥ l[i].f0
    · rw [if_pos h1]
      by_cases h2 : a < l[i].f1
      · rw [if_pos h2, if_pos (show pIn a l[i] = true by simp [pIn, h2]; exact h1)]
      · rw [if_neg h2, if_neg (show ¬ pIn a l[i] = true by simp [pIn]; omega), ih k (i + 1) (by omega) (by omega)]
    · rw [if_neg h1, if_neg (show ¬ pIn a l[i] = true by simp [pIn]; omega), ih k (i + 1) (by omega) (by omega)]
theorem find_s (l : List S43) (a : Int) (hl : l.length ≤ 2000000) (k : Nat) (hk : l.length < k) : spec_l17Find.f k l a = some (ixFrom (pIn a) l 0) := by
  have := find_l0 l a hl l.length k 0 (by omega) hk
  simpa [spec_l17Find.f] using this
theorem holder_i (l : List S43) (a : Int) : impl_holder.f l a = some (ixFrom (pIn a) l 0) := rfl
def sackL (l : List S43) (rec : List Int) : Nat → List S43 → List S43
  | 0, o => o
  | n + 1, o => if o.length < 3 then (if ixFrom (pIn (rec.getD n 0)) l 0 < 0 then sackL l rec n o else
      (if o.any (fun y => y.f0 == (l.getD (ixFrom (pIn (rec.getD n 0)) l 0).toNat z43).f0 && (y.f1 == (l.getD (ixFrom (pIn (rec.getD n 0)) l 0).toNat z43).f1)) = true then sackL l rec n o else sackL l rec n (o ++ [l.getD (ixFrom (pIn (rec.getD n 0)) l 0).toNat z43]))) else o
theorem ix_bd {p : S43 → Bool} (l : List S43) : ∀ i : Nat, ixFrom p l i = -1 ∨ ((i : Int) ≤ ixFrom p l i ∧ ixFrom p l i < i + l.length) := by
  induction l with
  | nil => intro i; left; rfl
  | cons x r ih =>
    intro i
    simp only [ixFrom, List.length_cons]
    split
    · right; omega
    · rcases ih (i + 1) with h | h
      · left; exact h
      · right; omega
theorem sackL_len (l : List S43) (rec : List Int) (n : Nat) : ∀ o : List S43, o.length ≤ 3 → (sackL l rec n o).length ≤ 3 := by
  induction n with
  | zero => intro o h; exact h
  | succ n ih =>
    intro o h
    simp only [sackL]
    split
    · split
      · exact ih o h
      · split
        · exact ih o h
        · exact ih _ (by simp; omega)
    · exact h
theorem gdI {l : List Int} {n : Nat} : rd l (n : Int) = l.getD n 0 := by simp [rd]
theorem gd43' {l : List S43} {t : Int} : rd_T43 l t = l.getD t.toNat z43 := rfl
/-- The reference's look for the range among those told. -/
theorem sack_s_l1 (l : List S43) (rec : List Int) (o : List S43) (i0 t : Int) (ho : o.length ≤ 3) (ht : 0 ≤ t ∧ t < l.length) (d : Nat) : ∀ (k j : Nat) (b : Bool), o.length = j + d → spec_SackBlocks.l1 (k + d + 1) l rec o i0 t b (j : Int) =
    if (b || (o.drop j).any (fun y => y.f0 == (l.getD t.toNat z43).f0 && (y.f1 == (l.getD t.toNat z43).f1))) = true then spec_SackBlocks.l0 k l rec o (wrap64 (i0 - 1)) else spec_SackBlocks.l0 k l rec (o ++ [l.getD t.toNat z43]) (wrap64 (i0 - 1)) := by
  induction d with
  | zero =>
    intro k j b hj
    simp only [spec_SackBlocks.l1]
    rw [if_neg (by omega), List.drop_of_length_le (by omega)]
    cases b with
    | true => simp
    | false =>
      rw [if_neg (by decide), if_pos (by omega), if_pos (by omega), if_pos (by omega), gd43']
      simp
  | succ d ih =>
    intro k j b hj
    rw [show k + (d + 1) + 1 = (k + d + 1) + 1 by omega]
    rw [spec_SackBlocks.l1]
    have e : o.getD ((j : Int)).toNat z43 = o[j] := by simp [List.getD_eq_getElem?_getD, show j < o.length by omega]
    rw [if_pos (by omega), ww j (by omega), List.drop_eq_getElem_cons (i := j) (by omega)]
    cases b with
    | true => rw [if_pos rfl, ih k (j + 1) true (by omega)]; simp
    | false =>
      rw [if_neg (by decide), if_pos (by omega), if_pos (by omega), if_pos (by omega), gd43', gd43', e, ih k (j + 1) _ (by omega)]
      simp only [List.any_cons, Bool.false_or]
theorem sack_s_l0 (l : List S43) (rec : List Int) (hl : l.length ≤ 4096) (hr : rec.length ≤ 4096) (n : Nat) : ∀ (k : Nat) (o : List S43), n ≤ rec.length → o.length ≤ 3 → spec_SackBlocks.l0 (k + l.length + 6 * n + 9) l rec o ((n : Int) - 1) = some (sackL l rec n o, 0) := by
  induction n with
  | zero =>
    intro k o hn ho
    simp only [spec_SackBlocks.l0, spec_SackBlocks.j2, Nat.mul_zero, Nat.add_zero]
    rw [if_neg (by omega)]
    simp [sackL]
  | succ n ih =>
    intro k o hn ho
    rw [show k + l.length + 6 * (n + 1) + 9 = (k + l.length + 6 * n + 9 + 4) + 1 + 1 by omega]
    rw [spec_SackBlocks.l0]
    rw [show ((n + 1 : Nat) : Int) - 1 = (n : Int) by omega, if_pos (by omega)]
    rw [spec_SackBlocks.j2]
    simp only [sackL]
    by_cases h3 : o.length < 3
    · rw [decide_eq_true (by omega), if_pos rfl, if_pos h3, if_pos (by omega), if_pos (by omega), find_s l _ (by omega) _ (by omega), gdI]
      simp only [Option.bind_some]
      have hb := ix_bd (p := pIn (rec.getD n 0)) l 0
      generalize ixFrom (pIn (rec.getD n 0)) l 0 = t at hb ⊢
      by_cases h4 : t < 0
      · rw [if_pos h4, if_pos h4, w64 (x := (n : Int) - 1) (by omega) (by omega), show k + l.length + 6 * n + 9 + 4 = (k + 4) + l.length + 6 * n + 9 by omega]
        exact ih (k + 4) o (by omega) ho
      · rw [if_neg h4, if_neg h4]
        have hd : k + l.length + 6 * n + 9 + 4 = (k + (3 - o.length) + l.length + 6 * n + 9) + o.length + 1 := by omega
        have := sack_s_l1 l rec o (n : Int) t ho (by omega) o.length (k + (3 - o.length) + l.length + 6 * n + 9) 0 false (by omega)
        rw [hd, show (0 : Int) = ((0 : Nat) : Int) from rfl, this, w64 (x := (n : Int) - 1) (by omega) (by omega)]
        simp only [List.drop_zero, Bool.false_or]
        split
        · exact ih _ o (by omega) ho
        · exact ih _ _ (by omega) (by simp; omega)
    · rw [decide_eq_false (by omega), if_neg (by decide), if_neg h3]
theorem cont_l0 (o : List S43) (a b : Int) (ho : o.length ≤ 1000) (d : Nat) : ∀ (k j : Nat), o.length = j + d → d < k → impl_Range_53.l0 k o (o.length : Int) (j : Int) a b = some (ixFrom (fun y : S43 => y.f0 == a && (y.f1 == b)) (o.drop j) j) := by
  induction d with
  | zero =>
    intro k j hj hk
    obtain ⟨k, rfl⟩ : ∃ m, k = m + 1 := ⟨k - 1, by omega⟩
    simp only [impl_Range_53.l0]
    rw [if_neg (by omega), List.drop_of_length_le (by omega)]; rfl
  | succ d ih =>
    intro k j hj hk
    obtain ⟨k, rfl⟩ : ∃ m, k = m + 1 := ⟨k - 1, by omega⟩
    simp only [impl_Range_53.l0]
    rw [if_pos (by omega), if_pos (by omega), if_pos (by omega), rd43 (by omega), ww j (by omega), List.drop_eq_getElem_cons (i := j) (by omega), ih k (j + 1) (by omega) (by omega)]
    simp only [ixFrom]
    have e : (a == o[j].f0 && (b == o[j].f1)) = (o[j].f0 == a && (o[j].f1 == b)) := by rw [Bool.beq_comm, Bool.beq_comm (a := b)]
    rw [e]
    split <;> rfl
theorem ix_any (p : S43 → Bool) (l : List S43) : ∀ i : Nat, decide (ixFrom p l i ≥ 0) = l.any p := by
  induction l with
  | nil => intro i; rfl
  | cons x r ih =>
    intro i
    have e : ixFrom p (x :: r) i = if p x = true then (i : Int) else ixFrom p r (i + 1) := rfl
    rw [List.any_cons, e]
    by_cases h : p x = true
    · rw [if_pos h, h]; simp
    · rw [if_neg h, Bool.eq_false_iff.mpr h, ih (i + 1)]; simp
theorem cont_ok (o : List S43) (a b : Int) (ho : o.length ≤ 1000) (k : Nat) (hk : o.length < k) : impl_Range_49.f k o a b = some (o.any (fun y : S43 => y.f0 == a && (y.f1 == b))) := by
  unfold impl_Range_49.f impl_Range_53.f
  have := cont_l0 o a b ho o.length k 0 (by omega) hk
  rw [show (0 : Int) = ((0 : Nat) : Int) from rfl, this]
  simp only [Option.bind_some, List.drop_zero]
  exact congrArg some (ix_any _ _ 0)
theorem sack_i_l0 (l : List S43) (rec : List Int) (hl : l.length ≤ 4096) (hr : rec.length ≤ 4096) (n : Nat) : ∀ (k : Nat) (o : List S43), n ≤ rec.length → o.length ≤ 3 → impl_SackBlocks.l0 (k + 6 * n + 9) l rec o ((n : Int) - 1) = some (sackL l rec n o, 0) := by
  induction n with
  | zero =>
    intro k o hn ho
    simp only [impl_SackBlocks.l0, impl_SackBlocks.j2, Nat.mul_zero, Nat.add_zero]
    rw [if_neg (by omega)]
    simp [sackL]
  | succ n ih =>
    intro k o hn ho
    rw [show k + 6 * (n + 1) + 9 = (k + 4 + 6 * n + 9) + 1 + 1 by omega]
    rw [impl_SackBlocks.l0]
    rw [show ((n + 1 : Nat) : Int) - 1 = (n : Int) by omega, if_pos (by omega)]
    rw [impl_SackBlocks.j2]
    simp only [sackL]
    by_cases h3 : o.length < 3
    · rw [decide_eq_true (by omega), if_pos rfl, if_pos h3, if_pos (by omega), if_pos (by omega), holder_i, gdI]
      simp only [Option.bind_some]
      have hb := ix_bd (p := pIn (rec.getD n 0)) l 0
      generalize ixFrom (pIn (rec.getD n 0)) l 0 = t at hb ⊢
      by_cases h4 : t < 0
      · rw [if_neg (by omega), if_pos h4, w64 (x := (n : Int) - 1) (by omega) (by omega)]
        exact ih (k + 4) o (by omega) ho
      · rw [if_pos (by omega), if_pos (by omega), if_pos (by omega), if_neg h4, gd43', cont_ok o _ _ (by omega) (k + 4 + 6 * n + 9) (by omega)]
        rw [Option.bind_some, w64 (x := (n : Int) - 1) (by omega) (by omega), if_pos (show o.length < 8796093022208 by omega)]
        split
        · exact ih (k + 4) o (by omega) ho
        · exact ih (k + 4) _ (by omega) (by simp; omega)
    · rw [decide_eq_false (by omega), if_neg (by decide), if_neg h3]
theorem sack_both' (l : List S43) (rec : List Int) (hl : l.length ≤ 4096) (hr : rec.length ≤ 4096) (hq : okB l = true) (k : Nat) (hk : 40000 < k) :
    impl_SackBlocks.f k l rec = some (sackL l rec rec.length [], 0) ∧ spec_SackBlocks.f k l rec = some (sackL l rec rec.length [], 0) := by
  obtain ⟨k, rfl⟩ : ∃ m, k = m + 1 := ⟨k - 1, by omega⟩
  have e1 := sack_i_l0 l rec hl hr rec.length (k - 6 * rec.length - 9) [] (by omega) (by simp)
  have e2 := sack_s_l0 l rec hl hr rec.length (k - l.length - 6 * rec.length - 9) [] (by omega) (by simp)
  rw [show k - 6 * rec.length - 9 + 6 * rec.length + 9 = k by omega] at e1
  rw [show k - l.length - 6 * rec.length - 9 + l.length + 6 * rec.length + 9 = k by omega] at e2
  simp only [impl_SackBlocks.f, spec_SackBlocks.f]
  rw [if_neg (by omega), if_neg (by omega), decide_eq_false (by omega)]
  simp only [impl_SackBlocks.j0, spec_SackBlocks.j0, rok_i l (by omega) k (by omega), rok_s l (by omega) k (by omega), hq, Option.bind_some, if_true, Bool.false_eq_true, if_false]
  rw [w64 (x := (rec.length : Int) - 1) (by omega) (by omega)]
  exact ⟨e1, e2⟩
theorem sack_both (l : List S43) (rec : List Int) (hl : l.length ≤ 1048576) (hr : rec.length ≤ 1048576) : ∃ (o : List S43) (c : Int), o.length ≤ 3 ∧ ∀ k, 1100000 < k → impl_SackBlocks.f k l rec = some (o, c) ∧ spec_SackBlocks.f k l rec = some (o, c) := by
  by_cases h : (l.length : Int) > 4096
  · refine ⟨[], 2, by simp, fun k hk => ?_⟩
    obtain ⟨k, rfl⟩ : ∃ m, k = m + 1 := ⟨k - 1, by omega⟩
    simp [impl_SackBlocks.f, spec_SackBlocks.f, h, impl_SackBlocks.j0, spec_SackBlocks.j0]
  by_cases h2 : (rec.length : Int) > 4096
  · refine ⟨[], 2, by simp, fun k hk => ?_⟩
    obtain ⟨k, rfl⟩ : ∃ m, k = m + 1 := ⟨k - 1, by omega⟩
    simp [impl_SackBlocks.f, spec_SackBlocks.f, h, h2, impl_SackBlocks.j0, spec_SackBlocks.j0]
  cases hq : okB l with
  | false =>
    refine ⟨[], 1, by simp, fun k hk => ?_⟩
    obtain ⟨k, rfl⟩ : ∃ m, k = m + 1 := ⟨k - 1, by omega⟩
    simp [impl_SackBlocks.f, spec_SackBlocks.f, h, h2, impl_SackBlocks.j0, spec_SackBlocks.j0, rok_i l (by omega) k (by omega), rok_s l (by omega) k (by omega), hq]
  | true => exact ⟨_, _, sackL_len l rec _ [] (by simp), fun k hk => sack_both' l rec (by omega) (by omega) hq k (by omega)⟩
def lostL (b s : Int) (l : List S43) : Nat → Int → Int
  | 0, _ => b
  | n + 1, q => if (l.getD n z43).f1 ≤ b then b else if wrap64 ((l.length : Int) - (n : Int)) ≥ 3 then max b (l.getD n z43).f0 else if wrap64 (q + wrap64 ((l.getD n z43).f1 - max b (l.getD n z43).f0)) > wrap64 (2 * s) then max b (l.getD n z43).f0 else lostL b s l n (wrap64 (q + wrap64 ((l.getD n z43).f1 - max b (l.getD n z43).f0)))
theorem gd43 {l : List S43} {n : Nat} : rd_T43 l (n : Int) = l.getD n z43 := by simp [rd_T43]
theorem lost_s_l0 (b s : Int) (l : List S43) (hl : l.length ≤ 2000000) (n : Nat) : ∀ (k : Nat) (q : Int), n ≤ l.length → n < k → spec_LostBelow.l0 k l b s q ((n : Int) - 1) = some (lostL b s l n q, 0) := by
  induction n with
  | zero =>
    intro k q hn hk
    obtain ⟨k, rfl⟩ : ∃ m, k = m + 1 := ⟨k - 1, by omega⟩
    simp only [spec_LostBelow.l0]
    rw [if_neg (by omega)]; rfl
  | succ n ih =>
    intro k q hn hk
    obtain ⟨k, rfl⟩ : ∃ m, k = m + 1 := ⟨k - 1, by omega⟩
    simp only [spec_LostBelow.l0, lostL]
    rw [show ((n + 1 : Nat) : Int) - 1 = (n : Int) by omega, if_pos (by omega), if_pos (by omega), if_pos (by omega), gd43, mx_eq, w64 (x := (n : Int) - 1) (by omega) (by omega), ih k _ (by omega) (by omega)]
    split
    · rfl
    · split
      · rfl
      · split <;> rfl
theorem lost_i_l0 (b s : Int) (l : List S43) (hl : l.length ≤ 2000000) (n : Nat) : ∀ (k : Nat) (q : Int), n ≤ l.length → 2 * n + 1 < k → impl_LostBelow.l0 k l b s ((l.length : Int) - n) q ((n : Int) - 1) = some (lostL b s l n q, 0) := by
  induction n with
  | zero =>
    intro k q hn hk
    obtain ⟨k, rfl⟩ : ∃ m, k = m + 2 := ⟨k - 2, by omega⟩
    simp only [impl_LostBelow.l0, impl_LostBelow.j2]
    rw [if_neg (by omega)]; rfl
  | succ n ih =>
    intro k q hn hk
    obtain ⟨k, rfl⟩ : ∃ m, k = m + 1 := ⟨k - 1, by omega⟩
    obtain ⟨k, rfl⟩ : ∃ m, k = m + 1 := ⟨k - 1, by omega⟩
    rw [impl_LostBelow.l0]
    rw [show ((n + 1 : Nat) : Int) - 1 = (n : Int) by omega, if_pos (by omega), if_pos (by omega), if_pos (by omega)]
    rw [impl_LostBelow.j2]
    simp only [lostL]
    rw [if_pos (show (0 : Int) ≤ n by omega), if_pos (show (n : Int) < l.length by omega), gd43, mx_eq, w64 (x := (n : Int) - 1) (by omega) (by omega)]
    rw [w64 (x := (l.length : Int) - ((n + 1 : Nat) : Int) + 1) (by omega) (by omega), show (l.length : Int) - ((n + 1 : Nat) : Int) + 1 = (l.length : Int) - n by omega, ih k _ (by omega) (by omega), Int.max_comm (l.getD n z43).f0 b, w64 (x := (l.length : Int) - (n : Int)) (by omega) (by omega)]
    by_cases h1 : (l.getD n z43).f1 ≤ b
    · rw [decide_eq_false (by omega), if_neg (by decide), if_pos h1]
    · rw [decide_eq_true (by omega), if_pos rfl, if_neg h1]
      split
      · rfl
      · split <;> rfl
theorem lost_both' (l : List S43) (b s : Int) (hl : l.length ≤ 1048576) (hq : okB l = true) (h1 : 0 ≤ b ∧ b ≤ 1000000) (h2 : 1 ≤ s ∧ s ≤ 65535) (k : Nat) (hk : 2 * l.length + 3 < k) :
    impl_LostBelow.f k l b s = some (lostL b s l l.length 0, 0) ∧ spec_LostBelow.f k l b s = some (lostL b s l l.length 0, 0) := by
  have h16 : l.length ≤ 16 := by simp only [okB, Bool.and_eq_true, decide_eq_true_eq] at hq; exact hq.1
  obtain ⟨k, rfl⟩ : ∃ m, k = m + 1 := ⟨k - 1, by omega⟩
  have e1 := lost_i_l0 b s l (by omega) l.length k 0 (by omega) (by omega)
  have e2 := lost_s_l0 b s l (by omega) l.length k 0 (by omega) (by omega)
  rw [show (l.length : Int) - l.length = 0 by omega] at e1
  simp only [impl_LostBelow.f, spec_LostBelow.f, if_neg (show ¬ (l.length : Int) > 4096 by omega), rok_i l (by omega) (k + 1) (by omega), rok_s l (by omega) (k + 1) (by omega), hq, inR, inS, decide_eq_true h1, decide_eq_true h2, Option.bind_some, if_true, Bool.not_true, impl_LostBelow.j0, spec_LostBelow.j0, Bool.false_eq_true, if_false]
  rw [w64 (x := (l.length : Int) - 1) (by omega) (by omega)]
  exact ⟨e1, e2⟩
theorem lost_both (l : List S43) (b s : Int) (hl : l.length ≤ 1048576) : ∃ (r : Int) (c : Int), ∀ k, 3000000 < k → impl_LostBelow.f k l b s = some (r, c) ∧ spec_LostBelow.f k l b s = some (r, c) := by
  by_cases h : (l.length : Int) > 4096
  · exact ⟨0, 2, fun k hk => by simp [impl_LostBelow.f, spec_LostBelow.f, h]⟩
  cases hq : okB l with
  | false => exact ⟨0, 1, fun k hk => by simp [impl_LostBelow.f, spec_LostBelow.f, h, rok_i l (by omega) k (by omega), rok_s l (by omega) k (by omega), hq]⟩
  | true =>
    by_cases h1 : 0 ≤ b ∧ b ≤ 1000000
    · by_cases h2 : 1 ≤ s ∧ s ≤ 65535
      · exact ⟨_, _, fun k hk => lost_both' l b s hl hq h1 h2 k (by omega)⟩
      · refine ⟨0, 4, fun k hk => ?_⟩
        obtain ⟨k, rfl⟩ : ∃ m, k = m + 1 := ⟨k - 1, by omega⟩
        simp [impl_LostBelow.f, spec_LostBelow.f, h, rok_i l (by omega) (k + 1) (by omega), rok_s l (by omega) (k + 1) (by omega), hq, inR, inS, h1, h2, impl_LostBelow.j0, spec_LostBelow.j0]
    · refine ⟨0, 4, fun k hk => ?_⟩
      obtain ⟨k, rfl⟩ : ∃ m, k = m + 1 := ⟨k - 1, by omega⟩
      simp [impl_LostBelow.f, spec_LostBelow.f, h, rok_i l (by omega) (k + 1) (by omega), rok_s l (by omega) (k + 1) (by omega), hq, inR, inS, h1, impl_LostBelow.j0, spec_LostBelow.j0]
theorem chain_join (l : List S43) : ∀ (b f t : Int), chain b l = true → b < f → f < t → t ≤ 1000000 → chain b (joinS f t l) = true := by
  induction l with
  | nil => intro b f t _ h1 h2 h3; simp [joinS, chain]; omega
  | cons x r ih =>
    intro b f t hc h1 h2 h3
    have hc' := hc
    simp only [chain, Bool.and_eq_true, decide_eq_true_eq] at hc
    simp only [joinS]
    by_cases h : x.f0 ≤ t
    · rw [if_pos h]
      exact ih b _ _ (chain_mono (by omega) hc.2.2.2) (by omega) (by omega) (by omega)
    · rw [if_neg h]
      simp only [chain, Bool.and_eq_true, decide_eq_true_eq]
      exact ⟨h1, h2, h3, by omega, hc.2⟩
theorem chain_add (l : List S43) : ∀ (b f t : Int), chain b l = true → b < f → f < t → t ≤ 1000000 → chain b (addS f t l) = true := by
  induction l with
  | nil => intro b f t _ h1 h2 h3; simp [addS, chain]; omega
  | cons x r ih =>
    intro b f t hc h1 h2 h3
    have hc' := hc
    simp only [chain, Bool.and_eq_true, decide_eq_true_eq] at hc
    simp only [addS]
    by_cases h : x.f1 < f
    · rw [if_pos h]
      simp only [chain, Bool.and_eq_true, decide_eq_true_eq]
      exact ⟨hc.1, hc.2.1, hc.2.2.1, ih _ _ _ hc.2.2.2 (by omega) h2 h3⟩
    · rw [if_neg h]
      exact chain_join _ _ _ _ hc' h1 h2 h3
theorem top_join (l : List S43) : ∀ (f t B : Int), (∀ y ∈ l, y.f1 ≤ B) → t ≤ B → ∀ y ∈ joinS f t l, y.f1 ≤ B := by
  induction l with
  | nil => intro f t B _ h y hy; simp [joinS] at hy; subst hy; exact h
  | cons x r ih =>
    intro f t B hl h
    simp only [joinS]
    have hx := hl x (by simp)
    split
    · exact ih _ _ B (fun y hy => hl y (by simp [hy])) (by omega)
    · intro y hy
      rcases List.mem_cons.1 hy with rfl | hy
      · exact h
      · exact hl y hy
theorem top_add (l : List S43) : ∀ (f t B : Int), (∀ y ∈ l, y.f1 ≤ B) → t ≤ B → ∀ y ∈ addS f t l, y.f1 ≤ B := by
  induction l with
  | nil => intro f t B _ h y hy; simp [addS] at hy; subst hy; exact h
  | cons x r ih =>
    intro f t B hl h
    simp only [addS]
    have hx := hl x (by simp)
    split
    · intro y hy
      rcases List.mem_cons.1 hy with rfl | hy
      · exact hx
      · exact ih _ _ B (fun y hy => hl y (by simp [hy])) h y hy
    · exact top_join _ _ _ B hl h
theorem rof_l0 (c : List Int) (d : Nat) : ∀ (l : List S43) (a s b : Int), Sr c a s b → b ≤ 1000 → (l.length : Int) + d ≤ 16 → chain (-1) l = true → (∀ y ∈ l, y.f1 ≤ 110) → d ≤ 10 → b + 6 * d ≤ 1000 →
    ∃ r a' s', r.length ≤ l.length + d ∧ chain (-1) r = true ∧ (∀ y ∈ r, y.f1 ≤ 110) ∧ ∀ k : Nat, spec_l00Src_ranges.l0 (k + 30 + d) l (d : Int) c a s = some (r, a', s') := by
  induction d with
  | zero =>
    intro l a s b _ _ _ hc ht _ _
    refine ⟨l, a, s, by omega, hc, ht, fun k => ?_⟩
    rw [spec_l00Src_ranges.l0, if_neg (by omega)]
  | succ d ih =>
    intro l a s b hs hb hl hc ht hd hbd
    obtain ⟨v, a1, s1, e1, v0, v1, h1⟩ := next_ok hs (by omega) 100 (by omega) (by omega)
    obtain ⟨u, a2, s2, e2, u0, u1, h2⟩ := next_ok h1 (by omega) 12 (by omega) (by omega)
    have ha : ∃ o : List S43, o.length ≤ l.length + 1 ∧ chain (-1) o = true ∧ (∀ y ∈ o, y.f1 ≤ 110) ∧ ∀ k : Nat, spec_l17Add.f (k + 30 + d) l v (wrap64 (v + u)) = some o := by
      rw [w64 (x := v + u) (by omega) (by omega)]
      unfold spec_l17Add.f
      by_cases h : v = v + u
      · exact ⟨l, by omega, hc, ht, fun k => by rw [if_pos h]⟩
      · refine ⟨addS v (v + u) l, addS_len l _ _, chain_add _ _ _ _ hc (by omega) (by omega) (by omega), top_add _ _ _ _ ht (by omega), fun k => ?_⟩
        rw [if_neg h]
        have := add_s_l0 l (by omega) l.length (k + 30 + d) 0 [] v (v + u) (by omega) (by omega) (by simp)
        simpa using this
    obtain ⟨o, ol, oc, ot, oe⟩ := ha
    obtain ⟨r, a', s', rl, rc, rt, re⟩ := ih o a2 s2 (b + 3 + 3) h2 (by omega) (by omega) oc ot (by omega) (by omega)
    refine ⟨r, a', s', by omega, rc, rt, fun k => ?_⟩
    rw [show k + 30 + (d + 1) = (k + 30 + d) + 1 by omega, spec_l00Src_ranges.l0, if_pos (by omega), e1]
    simp only [Option.bind_some]
    rw [e2]
    simp only [Option.bind_some]
    rw [oe]
    simp only [Option.bind_some]
    rw [if_pos (by omega), w64 (x := ((d + 1 : Nat) : Int) - 1) (by omega) (by omega), show ((d + 1 : Nat) : Int) - 1 = (d : Int) by omega]
    exact re k
theorem rof_ok (l : List Int) (hl : ∀ x ∈ l, 0 ≤ x ∧ x ≤ 255) (h2 : (l.length : Int) ≤ 140737488355328) : ∃ r : List S43, r.length ≤ 9 ∧ chain (-1) r = true ∧ (∀ y ∈ r, y.f1 ≤ 110) ∧ ∀ k, 50 < k → spec_RangesOf.f k l = some r := by
  obtain ⟨e, hs⟩ := source_ok hl h2
  obtain ⟨v, a1, s1, e1, v0, v1, h1⟩ := next_ok hs (by omega) 10 (by omega) (by omega)
  obtain ⟨d, rfl⟩ : ∃ d : Nat, v = (d : Int) := ⟨v.toNat, by omega⟩
  obtain ⟨r, a', s', rl, rc, rt, re⟩ := rof_l0 l d [] a1 s1 3 h1 (by omega) (by simp; omega) rfl (by simp) (by omega) (by omega)
  simp only [List.length_nil] at rl
  refine ⟨r, by omega, rc, rt, fun k hk => ?_⟩
  have re' := re (k - 30 - d)
  rw [show k - 30 - d + 30 + d = k by omega] at re'
  unfold spec_RangesOf.f
  rw [e]
  simp only [Option.bind_some, spec_l00Src_ranges.f]
  rw [e1]
  simp only [Option.bind_some]
  rw [re']
  rfl
theorem sameR_l0 (l : List S43) (hl : l.length ≤ 2000000) (d : Nat) : ∀ (k i : Nat), l.length = i + d → d < k → laws_sameRanges.l0 k l l (i : Int) = some true := by
  induction d with
  | zero =>
    intro k i hi hk
    obtain ⟨k, rfl⟩ : ∃ m, k = m + 1 := ⟨k - 1, by omega⟩
    simp only [laws_sameRanges.l0]
    rw [if_neg (by omega)]
  | succ d ih =>
    intro k i hi hk
    obtain ⟨k, rfl⟩ : ∃ m, k = m + 1 := ⟨k - 1, by omega⟩
    simp only [laws_sameRanges.l0]
    rw [if_pos (by omega), if_pos (by omega), if_pos (by omega), ww i (by omega), if_neg (by simp)]
    exact ih k (i + 1) (by omega) (by omega)
theorem sameR (l : List S43) (hl : l.length ≤ 2000000) (k : Nat) (hk : l.length < k) : laws_sameRanges.f k l l = some true := by
  unfold laws_sameRanges.f
  rw [if_pos rfl]
  exact sameR_l0 l hl l.length k 0 (by omega) hk
theorem at_some (l : List Int) (hl : ∀ x ∈ l, 0 ≤ x ∧ x ≤ 255) (i n : Int) (hi : 0 ≤ i) (hi2 : i ≤ 100000) (hn : 1 < n) (hn2 : n ≤ 1000000000) : ∃ r, laws_at.f l i n = some r ∧ 0 ≤ r ∧ r < n := choice l hl i n hi hi2 hn hn2
def eqR (y z : S43) : Bool := y.f0 == z.f0 && (y.f1 == z.f1)
theorem sackL_pair (l : List S43) (rec : List Int) (n : Nat) : ∀ o : List S43, o.Pairwise (fun y z => eqR y z = false) → (sackL l rec n o).Pairwise (fun y z => eqR y z = false) := by
  induction n with
  | zero => intro o h; exact h
  | succ n ih =>
    intro o h
    simp only [sackL]
    split
    · split
      · exact ih o h
      · split
        · exact ih o h
        · rename_i hn
          refine ih _ ?_
          rw [List.pairwise_append]
          refine ⟨h, by simp, fun y hy z hz => ?_⟩
          simp only [List.mem_singleton] at hz
          subst hz
          rw [← Bool.not_eq_true]
          intro hc
          exact hn (List.any_eq_true.2 ⟨y, hy, hc⟩)
    · exact h
def cntF (r : Int) : List S43 → Nat
  | [] => 0
  | x :: l => (if x.f0 ≥ r then 1 else 0) + cntF r l
def sumF (r : Int) : List S43 → Int
  | [] => 0
  | x :: l => (if x.f0 ≥ r then x.f1 - x.f0 else 0) + sumF r l
def qs (b : Int) : List S43 → Int
  | [] => 0
  | x :: l => (x.f1 - max b x.f0) + qs b l
theorem chain_mem (l : List S43) : ∀ b, chain b l = true → ∀ y ∈ l, b < y.f0 ∧ y.f0 < y.f1 ∧ y.f1 ≤ 1000000 := by
  induction l with
  | nil => intro b _ y hy; simp at hy
  | cons x r ih =>
    intro b hc y hy
    simp only [chain, Bool.and_eq_true, decide_eq_true_eq] at hc
    rcases List.mem_cons.1 hy with rfl | hy
    · exact ⟨hc.1, hc.2.1, hc.2.2.1⟩
    · have := ih x.f1 hc.2.2.2 y hy; omega
theorem chain_drop (l : List S43) : ∀ (n : Nat) (b : Int), chain b l = true → ∃ b', b ≤ b' ∧ chain b' (l.drop n) = true ∧ (∀ y ∈ l.take n, y.f1 ≤ b') := by
  induction l with
  | nil => intro n b h; exact ⟨b, by omega, by simpa using h, by simp⟩
  | cons x r ih =>
    intro n b hc
    cases n with
    | zero => exact ⟨b, by omega, hc, by simp⟩
    | succ n =>
      simp only [chain, Bool.and_eq_true, decide_eq_true_eq] at hc
      obtain ⟨b', h1, h2, h3⟩ := ih n x.f1 hc.2.2.2
      refine ⟨b', by omega, by simpa using h2, ?_⟩
      intro y hy
      simp only [List.take_succ_cons, List.mem_cons] at hy
      rcases hy with rfl | hy
      · exact h1
      · exact h3 y hy
theorem cnt_hi (r : Int) (l : List S43) (h : ∀ y ∈ l, r ≤ y.f0) : cntF r l = l.length := by
  induction l with
  | nil => rfl
  | cons x l ih => simp only [cntF, List.length_cons]; rw [if_pos (h x (by simp)), ih (fun y hy => h y (by simp [hy]))]; omega
theorem cnt_lo (r : Int) (l m : List S43) (h : ∀ y ∈ l, y.f0 < r) : cntF r (l ++ m) = cntF r m := by
  induction l with
  | nil => rfl
  | cons x l ih => simp only [List.cons_append, cntF]; rw [if_neg (by have := h x (by simp); omega), ih (fun y hy => h y (by simp [hy]))]; omega
theorem sum_hi (r b : Int) (l : List S43) (hb : b ≤ r) (h : ∀ y ∈ l, r ≤ y.f0) : sumF r l = qs b l := by
  induction l with
  | nil => rfl
  | cons x l ih =>
    have := h x (by simp)
    simp only [sumF, qs]; rw [if_pos this, ih (fun y hy => h y (by simp [hy]))]; omega
theorem sum_lo (r : Int) (l m : List S43) (h : ∀ y ∈ l, y.f0 < r) : sumF r (l ++ m) = sumF r m := by
  induction l with
  | nil => rfl
  | cons x l ih => simp only [List.cons_append, sumF]; rw [if_neg (by have := h x (by simp); omega), ih (fun y hy => h y (by simp [hy]))]; omega
theorem qs_bd (b : Int) (hb : 0 ≤ b ∧ b ≤ 60) (l : List S43) (h : ∀ y ∈ l, 0 ≤ y.f0 ∧ y.f0 < y.f1 ∧ y.f1 ≤ 110) : -(200 * (l.length : Int)) ≤ qs b l ∧ qs b l ≤ 200 * (l.length : Int) := by
  induction l with
  | nil => simp [qs]
  | cons x l ih =>
    have := ih (fun y hy => h y (by simp [hy]))
    have := h x (by simp)
    simp only [qs, List.length_cons]; omega
theorem sum_bd (r : Int) (l : List S43) (h : ∀ y ∈ l, 0 ≤ y.f0 ∧ y.f0 < y.f1 ∧ y.f1 ≤ 110) : 0 ≤ sumF r l ∧ sumF r l ≤ 200 * (l.length : Int) := by
  induction l with
  | nil => simp [sumF]
  | cons x l ih =>
    have := ih (fun y hy => h y (by simp [hy]))
    have := h x (by simp)
    simp only [sumF, List.length_cons]; split <;> omega
theorem at_n (l : List S43) (hc : chain (-1) l = true) (n : Nat) (hn : n < l.length) (b : Int) (hb : b ≤ l[n].f0) : cntF l[n].f0 l = l.length - n ∧ sumF l[n].f0 l = qs b (l.drop n) := by
  obtain ⟨b', h1, h2, h3⟩ := chain_drop l n (-1) hc
  have hm := chain_mem _ b' h2
  have hd := List.drop_eq_getElem_cons (l := l) (i := n) hn
  rw [hd] at h2
  simp only [chain, Bool.and_eq_true, decide_eq_true_eq] at h2
  have hlo : ∀ y ∈ l.take n, y.f0 < l[n].f0 := by
    intro y hy
    have := h3 y hy
    have := chain_mem l (-1) hc y (List.mem_of_mem_take hy)
    omega
  have hhi : ∀ y ∈ l.drop n, l[n].f0 ≤ y.f0 := by
    intro y hy
    rw [hd] at hy
    rcases List.mem_cons.1 hy with rfl | hy
    · omega
    · have := chain_mem _ _ h2.2.2.2 y hy; omega
  have e := List.take_append_drop n l
  constructor
  · have := cnt_lo l[n].f0 (l.take n) (l.drop n) hlo
    rw [e] at this
    rw [this, cnt_hi _ _ hhi]; simp
  · have := sum_lo l[n].f0 (l.take n) (l.drop n) hlo
    rw [e] at this
    rw [this, sum_hi _ b _ hb hhi]
theorem lost_law (l : List S43) (b s : Int) (hb : 0 ≤ b ∧ b ≤ 60) (hs : 1 ≤ s ∧ s ≤ 100) (hl : l.length ≤ 9) (hc : chain (-1) l = true) (ht : ∀ y ∈ l, y.f1 ≤ 110) (n : Nat) : ∀ q : Int, n ≤ l.length → q = qs b (l.drop n) →
    b ≤ lostL b s l n q ∧ (lostL b s l n q = b ∨ (3 ≤ cntF (lostL b s l n q) l ∨ sumF (lostL b s l n q) l > 2 * s)) := by
  have hall : ∀ y ∈ l, 0 ≤ y.f0 ∧ y.f0 < y.f1 ∧ y.f1 ≤ 110 := fun y hy => by
    have := chain_mem l (-1) hc y hy
    have := ht y hy
    omega
  induction n with
  | zero => intro q _ _; exact ⟨Int.le_refl _, Or.inl rfl⟩
  | succ n ih =>
    intro q hn hq
    have hd := List.drop_eq_getElem_cons (l := l) (i := n) (by omega)
    have e : l.getD n z43 = l[n] := by simp [List.getD_eq_getElem?_getD, show n < l.length by omega]
    have hx := hall l[n] (by simp)
    have b1 := qs_bd b hb (l.drop (n + 1)) (fun y hy => hall y (List.mem_of_mem_drop hy))
    have l1 : (l.drop (n + 1)).length ≤ 9 := by simp; omega
    have hq' : q + (l[n].f1 - max b l[n].f0) = qs b (l.drop n) := by rw [hd, hq]; simp only [qs]; omega
    simp only [lostL]
    rw [e, w64 (x := (l.length : Int) - n) (by omega) (by omega), w64 (x := l[n].f1 - max b l[n].f0) (by omega) (by omega), w64 (x := q + (l[n].f1 - max b l[n].f0)) (by omega) (by omega), w64 (x := 2 * s) (by omega) (by omega), hq']
    by_cases c1 : l[n].f1 ≤ b
    · rw [if_pos c1]; exact ⟨by omega, Or.inl rfl⟩
    rw [if_neg c1]
    have key : b < l[n].f0 → cntF (max b l[n].f0) l = l.length - n ∧ sumF (max b l[n].f0) l = qs b (l.drop n) := fun h => by
      have := at_n l hc n (by omega) b (by omega)
      rw [show max b l[n].f0 = l[n].f0 by omega]
      exact this
    by_cases c2 : (l.length : Int) - n ≥ 3
    · rw [if_pos c2]
      refine ⟨by omega, ?_⟩
      by_cases h : b < l[n].f0
      · right; left; rw [(key h).1]; omega
      · left; omega
    rw [if_neg c2]
    by_cases c3 : qs b (l.drop n) > 2 * s
    · rw [if_pos c3]
      refine ⟨by omega, ?_⟩
      by_cases h : b < l[n].f0
      · right; right; rw [(key h).2]; exact c3
      · left; omega
    rw [if_neg c3]
    exact ih _ (by omega) rfl
theorem sack_l3 (l : List S43) (s r : Int) (hl : l.length ≤ 9) (hall : ∀ y ∈ l, 0 ≤ y.f0 ∧ y.f0 < y.f1 ∧ y.f1 ≤ 110) (d : Nat) : ∀ (k i c : Nat) (q : Int), l.length = i + d → c ≤ i → 0 ≤ q → q ≤ 200 * (i : Int) → laws_FnSack.l3 (k + d + 1) l s r (c : Int) q (i : Int) =
    if 3 ≤ c + cntF r (l.drop i) then some true else some (decide (q + sumF r (l.drop i) > wrap64 (2 * s))) := by
  induction d with
  | zero =>
    intro k i c q hi hc h0 h1
    rw [laws_FnSack.l3, if_neg (by omega), List.drop_of_length_le (by omega)]
    simp only [cntF, sumF, Int.add_zero, Nat.add_zero]
    by_cases h : 3 ≤ c
    · rw [if_pos h, if_pos (by omega)]
    · rw [if_neg h, if_neg (by omega)]
  | succ d ih =>
    intro k i c q hi hc h0 h1
    have hx := hall l[i] (by simp)
    rw [show k + (d + 1) + 1 = (k + d + 1) + 1 by omega, laws_FnSack.l3, if_pos (by omega), if_pos (by omega), rd43 (by omega), ww i (by omega), ww c (by omega), w64 (x := l[i].f1 - l[i].f0) (by omega) (by omega), w64 (x := q + (l[i].f1 - l[i].f0)) (by omega) (by omega), List.drop_eq_getElem_cons (i := i) (by omega)]
    have e1 : cntF r (l[i] :: l.drop (i + 1)) = (if l[i].f0 ≥ r then 1 else 0) + cntF r (l.drop (i + 1)) := rfl
    have e2 : sumF r (l[i] :: l.drop (i + 1)) = (if l[i].f0 ≥ r then l[i].f1 - l[i].f0 else 0) + sumF r (l.drop (i + 1)) := rfl
    rw [e1, e2]
    by_cases h : l[i].f0 ≥ r
    · rw [if_pos h, if_pos h, if_pos h, ih k (i + 1) (c + 1) _ (by omega) (by omega) (by omega) (by omega), Nat.add_assoc, Int.add_assoc]
    · rw [if_neg h, if_neg h, if_neg h, ih k (i + 1) c _ (by omega) (by omega) (by omega) (by omega), Nat.zero_add, Int.zero_add]
theorem sack_l2 (l o : List S43) (b s r : Int) (j : Nat) (hj : j < o.length) (hl : o.length ≤ 3) (hp : o.Pairwise (fun y z => eqR y z = false)) (d : Nat) : ∀ (k i : Nat), j = i + d → laws_FnSack.l2 (k + d + 1) l o b s r (j : Int) (i : Int) = laws_FnSack.l1 k l o b s r (wrap64 ((j : Int) + 1)) := by
  induction d with
  | zero => intro k i hi; rw [laws_FnSack.l2, if_neg (by omega)]
  | succ d ih =>
    intro k i hi
    have hh := List.pairwise_iff_getElem.1 hp i j (by omega) hj (by omega)
    rw [show k + (d + 1) + 1 = (k + d + 1) + 1 by omega, laws_FnSack.l2, if_pos (by omega), if_pos (by omega), if_pos (by omega), if_pos (by omega), if_pos (by omega), rd43 (by omega), rd43 hj, ww i (by omega)]
    unfold eqR at hh
    rw [hh, if_neg (by decide)]
    exact ih k (i + 1) (by omega)
theorem sack_l1 (l o : List S43) (b s r : Int) (hl : o.length ≤ 3) (hp : o.Pairwise (fun y z => eqR y z = false)) (H : r = b ∨ ∀ k, 15 < k → laws_FnSack.l3 k l s r 0 0 0 = some true) (d : Nat) : ∀ (k j : Nat), o.length = j + d → laws_FnSack.l1 (k + 10 * d + 20) l o b s r (j : Int) = some true := by
  induction d with
  | zero =>
    intro k j hj
    rw [show k + 10 * 0 + 20 = (k + 19) + 1 by omega, laws_FnSack.l1, if_neg (by omega)]
    by_cases h : r = b
    · rw [if_pos h]
    · rw [if_neg h]
      rcases H with H | H
      · exact absurd H h
      · exact H _ (by omega)
  | succ d ih =>
    intro k j hj
    rw [show k + 10 * (d + 1) + 20 = (k + 10 * d + 29) + 1 by omega, laws_FnSack.l1, if_pos (by omega)]
    have := sack_l2 l o b s r j (by omega) hl hp j ((k + (8 - j)) + 10 * d + 20) 0 (by omega)
    rw [show k + (8 - j) + 10 * d + 20 + j + 1 = k + 10 * d + 29 by omega, ww j (by omega)] at this
    exact this.trans (ih _ (j + 1) (by omega))
theorem sack_l0 (l1 : List Int) (h1 : ∀ x ∈ l1, 0 ≤ x ∧ x ≤ 255) (l : List S43) (d : Nat) : ∀ (i : Nat) (rec : List Int), 6 = i + d → rec.length = i → ∃ rec' : List Int, rec'.length = 6 ∧ ∀ k, laws_FnSack.l0 (k + d) l1 l rec (i : Int) = laws_FnSack.l0 k l1 l rec' 6 := by
  induction d with
  | zero => intro i rec hi hr; exact ⟨rec, by omega, fun k => by rw [show i = 6 by omega]; rfl⟩
  | succ d ih =>
    intro i rec hi hr
    obtain ⟨v, hv, _, _⟩ := at_some l1 h1 (i : Int) 115 (by omega) (by omega) (by omega) (by omega)
    obtain ⟨rec', hl, he⟩ := ih (i + 1) (rec ++ [v]) (by omega) (by simp; omega)
    refine ⟨rec', hl, fun k => ?_⟩
    rw [show k + (d + 1) = (k + d) + 1 by omega, laws_FnSack.l0, if_pos (by omega), hv]
    simp only [Option.bind_some]
    rw [if_pos (by omega), ww i (by omega)]
    exact he k
theorem FnSack : fnSack.Say := by
  intro l0 l1 ⟨m0, w0⟩ ⟨m1, w1⟩
  obtain ⟨K, hK⟩ : ∃ K : Nat, K = 4000000 := ⟨_, rfl⟩
  refine ⟨K + 6 + 3, ?_⟩
  simp only [laws_FnSack.f]
  by_cases c0 : (l0.length : Int) > 1048576
  · rw [if_pos c0]; simp only [laws_FnSack.j0, if_true]
  rw [if_neg c0]
  by_cases c1 : (l1.length : Int) > 1048576
  · rw [decide_eq_true c1]; simp only [laws_FnSack.j0, if_true]
  rw [decide_eq_false c1]
  rw [show K + 6 + 3 = (K + 2 + 6) + 1 by omega, laws_FnSack.j0]
  rw [if_neg (by decide)]
  obtain ⟨l, ll, lc, lt, le⟩ := rof_ok l0 (bs w0) (by omega)
  rw [le (K + 2 + 6) (by omega)]
  simp only [Option.bind_some]
  obtain ⟨rec, hr, he⟩ := sack_l0 l1 (bs w1) l 6 0 [] (by omega) rfl
  have he' := he (K + 2)
  refine Eq.trans he' ?_
  have okq : okB l = true := by simp [okB, lc]; omega
  obtain ⟨b, hb, b0, b1⟩ := at_some l1 (bs w1) 7 60 (by omega) (by omega) (by omega) (by omega)
  obtain ⟨s, hs, s0, s1⟩ := at_some l1 (bs w1) 8 12 (by omega) (by omega) (by omega) (by omega)
  have sb := sack_both' l rec (by omega) (by omega) okq (K + 1) (by omega)
  rw [show K + 2 = (K + 1) + 1 by omega, laws_FnSack.l0, if_neg (by omega), sb.1, sb.2, hb, hs]
  simp only [Option.bind_some]
  rw [w64 (x := 1 + s) (by omega) (by omega)]
  have lb := lost_both' l b (1 + s) (by omega) okq (by omega) (by omega) (K + 1) (by omega)
  rw [lb.1, lb.2]
  simp only [Option.bind_some, if_true]
  have ol := sackL_len l rec 6 [] (by simp)
  have op := sackL_pair l rec 6 [] (by simp)
  rw [hr]
  rw [sameR _ (by omega) (K + 1) (by omega)]
  simp only [Option.bind_some, if_true]
  have LL := lost_law l b (1 + s) (by omega) (by omega) ll lc lt l.length 0 (by omega) (by simp [qs])
  rw [if_neg (by omega), decide_eq_false (by omega), laws_FnSack.j2, if_neg (by decide)]
  generalize lostL b (1 + s) l l.length 0 = r at LL ⊢
  have hall : ∀ y ∈ l, 0 ≤ y.f0 ∧ y.f0 < y.f1 ∧ y.f1 ≤ 110 := fun y hy => by
    have := chain_mem l (-1) lc y hy
    have := lt y hy
    omega
  have H : r = b ∨ ∀ k, 15 < k → laws_FnSack.l3 k l (1 + s) r 0 0 0 = some true := by
    rcases LL.2 with h | h
    · exact Or.inl h
    · right
      intro k hk
      have := sack_l3 l (1 + s) r ll hall l.length (k - l.length - 1) 0 0 0 (by omega) (by omega) (by omega) (by omega)
      rw [show k - l.length - 1 + l.length + 1 = k by omega] at this
      refine Eq.trans this ?_
      simp only [List.drop_zero, Nat.zero_add, Int.zero_add]
      by_cases h3 : 3 ≤ cntF r l
      · rw [if_pos h3]
      · rw [if_neg h3, w64 (x := 2 * (1 + s)) (by omega) (by omega), decide_eq_true (by omega)]
  have e := sack_l1 l (sackL l rec 6 []) b (1 + s) r ol op H (sackL l rec 6 []).length (K - 10 * (sackL l rec 6 []).length - 20) 0 (by omega)
  rw [show K - 10 * (sackL l rec 6 []).length - 20 + 10 * (sackL l rec 6 []).length + 20 = K by omega] at e
  exact e
end Go.Proofs.Ytelcclkedpafaaa.Pure
namespace Go.Proofs.Ytelcclkedpafaaa
/-- The row. -/
theorem fnSack_holds : Rows.FnSackSaid := fnSack.row_of Pure.FnSack
end Go.Proofs.Ytelcclkedpafaaa
