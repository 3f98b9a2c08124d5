/- The law FnRanges holds. -/
import Derived.Test.YtelcclkedpafaaaAid
import Derived.Test.YtelcclkedpafaaaSayFnRanges
namespace Go.Proofs.Ytelcclkedpafaaa.Pure
set_option linter.unusedSimpArgs false
set_option linter.unusedVariables false
open Go.RowKit Go.Proofs.Ytelcclkedpafaaa.PFnRanges Go.Proofs.YtelcclkedpafaaaW.PrintWords Go.Proofs.YtelcclkedpafaaaW.PrintLast Go.Proofs.YtelcclkedpafaaaW.PrintMore Go.Proofs.Ytelcclkedpafaaa.Aid
theorem inR (a b c : Int) : impl_inRange.f a b c = some (decide (b ≤ a ∧ a ≤ c)) := by
  unfold impl_inRange.f
  by_cases h : a ≥ b
  · rw [if_pos h]; simp [show b ≤ a from h]
  · rw [if_neg h]; simp; omega
theorem inS (a b c : Int) : spec_l01In.f a b c = some (decide (b ≤ a ∧ a ≤ c)) := by
  unfold spec_l01In.f
  by_cases h : a ≥ b
  · rw [if_pos h]; simp [show b ≤ a from h]
  · rw [if_neg h]; simp; omega
theorem ww (i : Nat) (h : i < 4000000000000000000) : wrap64 ((i : Int) + 1) = ((i + 1 : Nat) : Int) := by rw [w64 (by omega) (by omega)]; simp
theorem set_mid {α : Type} (A R : List α) (z v : α) : (A ++ z :: R).set A.length v = A ++ v :: R := by
  simp [List.set_append]
theorem rd43 {l : List S43} {i : Nat} (h : i < l.length) : rd_T43 l (i : Int) = l[i] := by simp [rd_T43, List.getD_eq_getElem?_getD, h]
/-- A source of choices that stands right: its bytes, its place (at most b), its seed. -/
structure Sr (c : List Int) (a s b : Int) : Prop where
  bytes : ∀ x ∈ c, 0 ≤ x ∧ x ≤ 255
  len : (c.length : Int) ≤ 140737488355328
  a0 : 0 ≤ a
  ab : a ≤ b
  bb : b ≤ 1000000000000000
  s0 : 0 ≤ s
  s1 : s < 2147483648
theorem Sr.mono {c : List Int} {a s b b' : Int} (h : Sr c a s b) (h1 : b ≤ b') (h2 : b' ≤ 1000000000000000) : Sr c a s b' := ⟨h.bytes, h.len, h.a0, Int.le_trans h.ab h1, h2, h.s0, h.s1⟩
theorem mod_b {x n : Int} (hx : 0 ≤ x) (hn : 0 < n) : 0 ≤ Int.tmod x n ∧ Int.tmod x n < n := by
  rw [tmod_nonneg_eq hx]; exact ⟨Int.emod_nonneg _ (by omega), Int.emod_lt_of_pos _ hn⟩
theorem byte_ok {c : List Int} {a s b : Int} (h : Sr c a s b) (hb : b ≤ 900000000000000) : ∃ v s', spec_l00Src_byte.f c a s = some (v, a + 1, s') ∧ 0 ≤ v ∧ v ≤ 255 ∧ Sr c (a + 1) s' (b + 1) := by
  obtain ⟨h1, h2, h3, h4, h5, h6, h7⟩ := h
  unfold spec_l00Src_byte.f
  rw [w64 (x := a + 1) (by omega) (by omega)]
  by_cases q : a + 1 ≤ (c.length : Int)
  · rw [if_pos q, w64 (x := a + 1 - 1) (by omega) (by omega), if_pos (by omega), if_pos (by omega)]
    have r := rd_byte h1 (a + 1 - 1)
    generalize rd c (a + 1 - 1) = v at r ⊢
    rw [w64 (x := v) (by omega) (by omega), w64 (x := s * 31) (by omega) (by omega), w64 (x := s * 31 + v) (by omega) (by omega), w64 (x := s * 31 + v + 7) (by omega) (by omega)]
    have m := mod_b (x := s * 31 + v + 7) (n := 2147483648) (by omega) (by omega)
    exact ⟨v, _, rfl, r.1, r.2, ⟨h1, h2, by omega, by omega, by omega, m.1, m.2⟩⟩
  · rw [if_neg q]
    by_cases q2 : a + 1 > 3000
    · rw [if_pos q2]
      exact ⟨0, s, rfl, by omega, by omega, ⟨h1, h2, by omega, by omega, by omega, h6, h7⟩⟩
    · rw [if_neg q2, w64 (x := s * 1103515245) (by omega) (by omega), w64 (x := s * 1103515245 + 12345) (by omega) (by omega)]
      have m := mod_b (x := s * 1103515245 + 12345) (n := 2147483648) (by omega) (by omega)
      generalize Int.tmod (s * 1103515245 + 12345) 2147483648 = s' at m ⊢
      have e : 0 ≤ Int.tdiv s' 65536 ∧ Int.tdiv s' 65536 ≤ 32767 := by rw [tdiv_nonneg_eq m.1]; omega
      rw [w64 (x := Int.tdiv s' 65536) (by omega) (by omega)]
      have m2 := mod_b (x := Int.tdiv s' 65536) (n := 256) e.1 (by omega)
      exact ⟨_, s', rfl, m2.1, by omega, ⟨h1, h2, by omega, by omega, by omega, m.1, m.2⟩⟩
theorem next_ok {c : List Int} {a s b : Int} (h : Sr c a s b) (hb : b ≤ 800000000000000) (n : Int) (hn : 1 ≤ n) (hn2 : n ≤ 10000000) : ∃ v a' s', spec_l00Src_next.f c a s n = some (v, a', s') ∧ 0 ≤ v ∧ v < n ∧ Sr c a' s' (b + 3) := by
  unfold spec_l00Src_next.f
  by_cases q : n ≤ 1
  · rw [if_pos q]; exact ⟨0, a, s, rfl, by omega, by omega, h.mono (by omega) (by omega)⟩
  rw [if_neg q]
  by_cases q2 : n ≤ 256
  · obtain ⟨v, s', e, v0, v1, h'⟩ := byte_ok h (by omega)
    rw [if_pos q2, e]
    simp only [Option.bind_some]
    rw [if_neg (by omega)]
    have m := mod_b (x := v) (n := n) v0 (by omega)
    exact ⟨_, _, _, rfl, m.1, m.2, h'.mono (by omega) (by omega)⟩
  · obtain ⟨v, s1, e1, v0, v1, h1⟩ := byte_ok h (by omega)
    obtain ⟨u, s2, e2, u0, u1, h2⟩ := byte_ok h1 (by omega)
    obtain ⟨t, s3, e3, t0, t1, h3⟩ := byte_ok h2 (by omega)
    rw [if_neg q2, e1]
    simp only [Option.bind_some]
    rw [e2]
    simp only [Option.bind_some]
    rw [e3]
    simp only [Option.bind_some]
    rw [if_neg (by omega), w64 (x := v * 65536) (by omega) (by omega), w64 (x := u * 256) (by omega) (by omega), w64 (x := v * 65536 + u * 256) (by omega) (by omega), w64 (x := v * 65536 + u * 256 + t) (by omega) (by omega)]
    have m := mod_b (x := v * 65536 + u * 256 + t) (n := n) (by omega) (by omega)
    exact ⟨_, _, _, rfl, m.1, m.2, h3.mono (by omega) (by omega)⟩
theorem source_ok {l : List Int} (hl : ∀ x ∈ l, 0 ≤ x ∧ x ≤ 255) (h2 : (l.length : Int) ≤ 140737488355328) : spec_l00Source.f l = some (l, 0, (l.length : Int) % 1000) ∧ Sr l 0 ((l.length : Int) % 1000) 0 :=
  ⟨rfl, ⟨hl, h2, by omega, by omega, by omega, by omega, by omega⟩⟩
def chain : Int → List S43 → Bool
  | _, [] => true
  | b, x :: r => decide (b < x.f0) && (decide (x.f0 < x.f1) && (decide (x.f1 ≤ 1000000) && chain x.f1 r))
def okB (l : List S43) : Bool := decide (l.length ≤ 16) && chain (-1) l
theorem ok_i_l0 (l : List S43) (hl : l.length ≤ 2000000) (d : Nat) : ∀ (k i : Nat) (b : Int), l.length = i + d → d < k → impl_RangesOK.l0 k b l (l.length : Int) (i : Int) = some (chain b (l.drop i)) := by
  induction d with
  | zero =>
    intro k i b hi hk
    obtain ⟨k, rfl⟩ : ∃ m, k = m + 1 := ⟨k - 1, by omega⟩
    simp only [impl_RangesOK.l0]
    rw [if_neg (by omega), List.drop_of_length_le (by omega)]; rfl
  | succ d ih =>
    intro k i b hi hk
    obtain ⟨k, rfl⟩ : ∃ m, k = m + 1 := ⟨k - 1, by omega⟩
    simp only [impl_RangesOK.l0]
    rw [if_pos (by omega), if_pos (by omega), if_pos (by omega), rd43 (by omega), ww i (by omega), List.drop_eq_getElem_cons (by omega)]
    simp only [chain]
    by_cases h1 : l[i].f0 ≤ b
    · rw [if_pos h1, decide_eq_false (by omega)]; rfl
    · rw [if_neg h1, decide_eq_true (by omega)]
      by_cases h2 : l[i].f1 ≤ l[i].f0
      · rw [if_pos h2, decide_eq_false (p := l[i].f0 < l[i].f1) (by omega)]; rfl
      · rw [if_neg h2, decide_eq_true (p := l[i].f0 < l[i].f1) (by omega)]
        by_cases h3 : l[i].f1 > 1000000
        · rw [if_pos h3, decide_eq_false (p := l[i].f1 ≤ 1000000) (by omega)]; rfl
        · rw [if_neg h3, decide_eq_true (p := l[i].f1 ≤ 1000000) (by omega), ih k (i + 1) _ (by omega) (by omega)]; rfl
theorem rok_i (l : List S43) (hl : l.length ≤ 2000000) (k : Nat) (hk : l.length < k) : impl_RangesOK.f k l = some (okB l) := by
  unfold impl_RangesOK.f okB
  by_cases h : (l.length : Int) > 16
  · rw [if_pos h, decide_eq_false (by omega)]; rfl
  · rw [if_neg h, decide_eq_true (by omega)]
    have := ok_i_l0 l hl l.length k 0 (-1) (by omega) hk
    simpa using this
theorem ok_s_l0 (l : List S43) (hl : l.length ≤ 2000000) (d : Nat) : ∀ (k i : Nat) (b : Int) (hi : l.length = i + d), d < k → -1 ≤ b → (i = 0 → b = -1) → (∀ h : 0 < i, b = (l[i - 1]'(by omega)).f1) → spec_RangesOK.l0 k l (i : Int) = some (chain b (l.drop i)) := by
  induction d with
  | zero =>
    intro k i b hi hk _ _ _
    obtain ⟨k, rfl⟩ : ∃ m, k = m + 1 := ⟨k - 1, by omega⟩
    simp only [spec_RangesOK.l0]
    rw [if_neg (by omega), List.drop_of_length_le (by omega)]; rfl
  | succ d ih =>
    intro k i b hi hk hb h0 hp
    obtain ⟨k, rfl⟩ : ∃ m, k = m + 1 := ⟨k - 1, by omega⟩
    simp only [spec_RangesOK.l0, inS, Option.bind_some]
    rw [if_pos (by omega), if_pos (by omega), rd43 (by omega), ww i (by omega), List.drop_eq_getElem_cons (by omega)]
    simp only [chain]
    have next : 0 ≤ l[i].f1 → spec_RangesOK.l0 k l ((i + 1 : Nat) : Int) = some (chain l[i].f1 (l.drop (i + 1))) := fun hf => ih k (i + 1) l[i].f1 (by omega) (by omega) (by omega) (by omega) (fun _ => by simp)
    by_cases h1 : 1 ≤ l[i].f1 ∧ l[i].f1 ≤ 1000000
    · rw [decide_eq_true h1, if_pos rfl, w64 (x := l[i].f1 - 1) (by omega) (by omega)]
      by_cases h2 : 0 ≤ l[i].f0 ∧ l[i].f0 ≤ l[i].f1 - 1
      · rw [decide_eq_true h2, if_pos rfl, decide_eq_true (p := l[i].f0 < l[i].f1) (by omega), decide_eq_true h1.2]
        by_cases hz : i = 0
        · rw [if_neg (by omega), next (by omega), decide_eq_true (p := b < l[i].f0) (by have := h0 hz; omega)]; rfl
        · rw [if_pos (by omega)]
          have e : (i : Int) - 1 = ((i - 1 : Nat) : Int) := by omega
          rw [w64 (x := (i : Int) - 1) (by omega) (by omega), e, if_pos (by omega), if_pos (by omega), rd43 (by omega), ← hp (by omega)]
          by_cases h3 : b ≥ l[i].f0
          · rw [if_pos h3, decide_eq_false (by omega)]; rfl
          · rw [if_neg h3, next (by omega), decide_eq_true (p := b < l[i].f0) (by omega)]; rfl
      · rw [decide_eq_false h2, if_neg (by decide)]
        by_cases h3 : b < l[i].f0
        · rw [decide_eq_false (p := l[i].f0 < l[i].f1) (by omega)]; simp
        · rw [decide_eq_false h3]; rfl
    · rw [decide_eq_false h1, if_neg (by decide)]
      by_cases h3 : b < l[i].f0
      · by_cases h4 : l[i].f0 < l[i].f1
        · rw [decide_eq_false (p := l[i].f1 ≤ 1000000) (by omega)]; simp
        · rw [decide_eq_false h4]; simp
      · rw [decide_eq_false h3]; rfl
theorem rok_s (l : List S43) (hl : l.length ≤ 2000000) (k : Nat) (hk : l.length < k) : spec_RangesOK.f k l = some (okB l) := by
  unfold spec_RangesOK.f okB
  by_cases h : (l.length : Int) > 16
  · rw [if_pos h, decide_eq_false (by omega)]; rfl
  · rw [if_neg h, decide_eq_true (by omega)]
    have := ok_s_l0 l hl l.length k 0 (-1) (by omega) hk (by omega) (by omega) (by omega)
    simpa using this
theorem chain_mono {b b' : Int} {l : List S43} (h : b' ≤ b) (hc : chain b l = true) : chain b' l = true := by
  cases l with
  | nil => rfl
  | cons x r => simp only [chain, Bool.and_eq_true, decide_eq_true_eq] at hc ⊢; exact ⟨by omega, hc.2⟩
theorem bounds_i (a b : Int) : impl_boundsOK.f a b = some (decide (0 ≤ a ∧ a ≤ 1000000) && decide (a ≤ b ∧ b ≤ 1000000)) := by
  unfold impl_boundsOK.f
  simp only [inR, Option.bind_some]
  by_cases h : 0 ≤ a ∧ a ≤ 1000000 <;> simp [h]
theorem bounds_s (a b : Int) : spec_l17Bounds.f a b = some (decide (0 ≤ a ∧ a ≤ 1000000) && decide (a ≤ b ∧ b ≤ 1000000)) := by
  unfold spec_l17Bounds.f
  simp only [inS, Option.bind_some]
  by_cases h : 0 ≤ a ∧ a ≤ 1000000 <;> simp [h]
def joinS : Int → Int → List S43 → List S43
  | f, t, [] => [⟨f, t⟩]
  | f, t, x :: r => if x.f0 ≤ t then joinS (min f x.f0) (max t x.f1) r else ⟨f, t⟩ :: x :: r
def addS : Int → Int → List S43 → List S43
  | f, t, [] => [⟨f, t⟩]
  | f, t, x :: r => if x.f1 < f then x :: addS f t r else joinS f t (x :: r)
theorem joinS_len (l : List S43) : ∀ f t, (joinS f t l).length ≤ l.length + 1 := by
  induction l with
  | nil => intro f t; simp [joinS]
  | cons x r ih => intro f t; have := ih (min f x.f0) (max t x.f1); simp only [joinS]; split <;> simp <;> omega
theorem addS_len (l : List S43) : ∀ f t, (addS f t l).length ≤ l.length + 1 := by
  induction l with
  | nil => intro f t; simp [addS]
  | cons x r ih => intro f t; have := ih f t; have := joinS_len (x :: r) f t; simp only [addS]; split <;> simp at * <;> omega
theorem lt16 {n : Nat} (h : n ≤ 3000000) : n < 8796093022208 := by omega
theorem join_s_l1 (l : List S43) (hl : l.length ≤ 1000000) (d : Nat) : ∀ (k i : Nat) (o : List S43) (f t : Int), l.length = i + d → d < k → o.length ≤ i → spec_l17Add.l1 k l o (i : Int) f t = some (o ++ joinS f t (l.drop i)) := by
  induction d with
  | zero =>
    intro k i o f t hi hk ho
    obtain ⟨k, rfl⟩ : ∃ m, k = m + 1 := ⟨k - 1, by omega⟩
    simp only [spec_l17Add.l1, Option.bind_some, Int.toNat_natCast]
    rw [if_neg (by omega), if_pos (lt16 (by omega)), if_pos (by omega), if_pos (by omega), List.drop_of_length_le (by omega), if_pos (lt16 (by simp; omega))]
    simp [joinS]
  | succ d ih =>
    intro k i o f t hi hk ho
    obtain ⟨k, rfl⟩ : ∃ m, k = m + 1 := ⟨k - 1, by omega⟩
    simp only [spec_l17Add.l1, Option.bind_some, Int.toNat_natCast]
    rw [if_pos (by omega), if_pos (by omega), rd43 (by omega), ww i (by omega), mn_eq, mx_eq]
    by_cases h : l[i].f0 ≤ t
    · rw [if_pos h, ih k (i + 1) _ _ _ (by omega) (by omega) (by omega), List.drop_eq_getElem_cons (i := i) (by omega)]
      simp only [joinS]; rw [if_pos h]
    · rw [if_neg h, if_pos (lt16 (by omega)), if_pos (by omega), if_pos (lt16 (by simp; omega)), List.drop_eq_getElem_cons (i := i) (by omega)]
      simp only [joinS]; rw [if_neg h]; simp
theorem add_s_l0 (l : List S43) (hl : l.length ≤ 1000000) (d : Nat) : ∀ (k i : Nat) (o : List S43) (f t : Int), l.length = i + d → d + 2 < k → o.length ≤ i → spec_l17Add.l0 k l o (i : Int) f t = some (o ++ addS f t (l.drop i)) := by
  induction d with
  | zero =>
    intro k i o f t hi hk ho
    obtain ⟨k, rfl⟩ : ∃ m, k = m + 2 := ⟨k - 2, by omega⟩
    simp only [spec_l17Add.l0, spec_l17Add.j1]
    rw [if_neg (by omega), join_s_l1 l hl 0 k i o f t hi (by omega) ho, List.drop_of_length_le (by omega)]
    simp [joinS, addS]
  | succ d ih =>
    intro k i o f t hi hk ho
    obtain ⟨k, rfl⟩ : ∃ m, k = m + 1 := ⟨k - 1, by omega⟩
    simp only [spec_l17Add.l0]
    rw [if_pos (by omega), if_pos (by omega), rd43 (by omega), ww i (by omega)]
    by_cases h : l[i].f1 < f
    · rw [if_pos h, if_pos (lt16 (by omega)), ih k (i + 1) _ _ _ (by omega) (by omega) (by simp; omega), List.drop_eq_getElem_cons (i := i) (by omega)]
      simp only [addS]; rw [if_pos h]; simp
    · rw [if_neg h]
      obtain ⟨k, rfl⟩ : ∃ m, k = m + 1 := ⟨k - 1, by omega⟩
      simp only [spec_l17Add.j1]
      rw [join_s_l1 l hl (d + 1) k i o f t hi (by omega) ho, List.drop_eq_getElem_cons (i := i) (by omega)]
      simp only [addS]; rw [if_neg h]
def fin (r : List S43) : Option (List S43 × Int) := if (r.length : Int) > 16 then (some (([] : List (S43)), 7)) else (some (r, 0))
theorem add_i_end (l : List S43) (hl : l.length ≤ 1000000) (k i : Nat) (o q : List S43) (f t : Int) (hi : l.length = i) (ho : o.length ≤ i) (hq : q.length ≤ i) : impl_RangesAdd.l0 (k + 1) f t o q l (l.length : Int) (i : Int) = fin (o ++ (⟨f, t⟩ :: q)) := by
  simp only [impl_RangesAdd.l0, Option.bind_some]
  rw [if_neg (by omega), if_pos (lt16 (by omega)), if_pos (lt16 (by simp; omega))]
  unfold fin
  simp
theorem add_i3 (l : List S43) (hl : l.length ≤ 1000000) (d : Nat) : ∀ (k i : Nat) (o q : List S43) (f t b : Int), l.length = i + d → d < k → o.length ≤ i → q.length ≤ i → chain b (l.drop i) = true → t ≤ b → f ≤ b →
    impl_RangesAdd.l0 k f t o q l (l.length : Int) (i : Int) = fin (o ++ (⟨f, t⟩ :: (q ++ l.drop i))) := by
  induction d with
  | zero =>
    intro k i o q f t b hi hk ho hq hc h1 h2
    obtain ⟨k, rfl⟩ : ∃ m, k = m + 1 := ⟨k - 1, by omega⟩
    rw [add_i_end l hl k i o q f t (by omega) ho hq, List.drop_of_length_le (by omega)]; simp
  | succ d ih =>
    intro k i o q f t b hi hk ho hq hc h1 h2
    obtain ⟨k, rfl⟩ : ∃ m, k = m + 1 := ⟨k - 1, by omega⟩
    rw [List.drop_eq_getElem_cons (i := i) (by omega)] at hc ⊢
    simp only [chain, Bool.and_eq_true, decide_eq_true_eq] at hc
    simp only [impl_RangesAdd.l0]
    rw [if_pos (by omega), if_pos (by omega), if_pos (by omega), rd43 (by omega), ww i (by omega), if_neg (by omega), if_pos (by omega), if_pos (lt16 (by omega)), ih k (i + 1) _ _ _ _ l[i].f1 (by omega) (by omega) (by omega) (by simp; omega) hc.2.2.2 (by omega) (by omega)]
    simp only [List.append_assoc, List.singleton_append, List.cons_append, List.nil_append]
theorem add_i2 (l : List S43) (hl : l.length ≤ 1000000) (d : Nat) : ∀ (k i : Nat) (o : List S43) (f t b : Int), l.length = i + d → d < k → o.length ≤ i → chain b (l.drop i) = true → f ≤ b →
    impl_RangesAdd.l0 k f t o [] l (l.length : Int) (i : Int) = fin (o ++ joinS f t (l.drop i)) := by
  induction d with
  | zero =>
    intro k i o f t b hi hk ho hc h2
    obtain ⟨k, rfl⟩ : ∃ m, k = m + 1 := ⟨k - 1, by omega⟩
    rw [add_i_end l hl k i o [] f t (by omega) ho (by simp), List.drop_of_length_le (by omega)]; simp [joinS]
  | succ d ih =>
    intro k i o f t b hi hk ho hc h2
    obtain ⟨k, rfl⟩ : ∃ m, k = m + 1 := ⟨k - 1, by omega⟩
    rw [List.drop_eq_getElem_cons (i := i) (by omega)] at hc ⊢
    simp only [chain, Bool.and_eq_true, decide_eq_true_eq] at hc
    simp only [impl_RangesAdd.l0, joinS]
    rw [if_pos (by omega), if_pos (by omega), if_pos (by omega), rd43 (by omega), ww i (by omega), if_neg (by omega), mn_eq, mx_eq]
    by_cases h : l[i].f0 ≤ t
    · rw [if_pos h, if_neg (by omega), ih k (i + 1) _ _ _ l[i].f1 (by omega) (by omega) (by omega) hc.2.2.2 (by omega)]
    · rw [if_neg h, if_pos (by omega), if_pos (lt16 (by simp)), add_i3 l hl d k (i + 1) _ _ _ _ l[i].f1 (by omega) (by omega) (by omega) (by simp) hc.2.2.2 (by omega) (by omega)]
      simp only [List.append_assoc, List.singleton_append, List.cons_append, List.nil_append]
theorem add_i1 (l : List S43) (hl : l.length ≤ 1000000) (d : Nat) : ∀ (k i : Nat) (o : List S43) (f t b : Int), l.length = i + d → d < k → o.length ≤ i → chain b (l.drop i) = true →
    impl_RangesAdd.l0 k f t o [] l (l.length : Int) (i : Int) = fin (o ++ addS f t (l.drop i)) := by
  induction d with
  | zero =>
    intro k i o f t b hi hk ho hc
    obtain ⟨k, rfl⟩ : ∃ m, k = m + 1 := ⟨k - 1, by omega⟩
    rw [add_i_end l hl k i o [] f t (by omega) ho (by simp), List.drop_of_length_le (by omega)]; simp [addS]
  | succ d ih =>
    intro k i o f t b hi hk ho hc
    obtain ⟨k, rfl⟩ : ∃ m, k = m + 1 := ⟨k - 1, by omega⟩
    rw [List.drop_eq_getElem_cons (i := i) (by omega)] at hc ⊢
    simp only [chain, Bool.and_eq_true, decide_eq_true_eq] at hc
    simp only [impl_RangesAdd.l0, addS]
    rw [if_pos (by omega), if_pos (by omega), if_pos (by omega), rd43 (by omega), ww i (by omega), mn_eq, mx_eq]
    by_cases h : l[i].f1 < f
    · rw [if_pos h, if_pos h, if_pos (lt16 (by omega)), ih k (i + 1) _ _ _ l[i].f1 (by omega) (by omega) (by simp; omega) hc.2.2.2]; simp
    · rw [if_neg h, if_neg h]
      simp only [joinS]
      by_cases h2 : l[i].f0 ≤ t
      · rw [if_pos h2, if_neg (by omega), add_i2 l hl d k (i + 1) _ _ _ l[i].f1 (by omega) (by omega) (by omega) hc.2.2.2 (by omega)]
      · rw [if_neg h2, if_pos (by omega), if_pos (lt16 (by simp)), add_i3 l hl d k (i + 1) _ _ _ _ l[i].f1 (by omega) (by omega) (by omega) (by simp) hc.2.2.2 (by omega) (by omega)]
        simp only [List.append_assoc, List.singleton_append, List.cons_append, List.nil_append]
theorem okB_chain {l : List S43} (h : okB l = true) : l.length ≤ 16 ∧ chain (-1) l = true := by
  simp only [okB, Bool.and_eq_true, decide_eq_true_eq] at h; exact h
/-- What both come to for right ranges and bounds. -/
def addR (l : List S43) (a b : Int) : List S43 := if a = b then l else addS a b l
theorem add_both' (l : List S43) (a b : Int) (hl : l.length ≤ 1000000) (hq : okB l = true) (h2 : (decide (0 ≤ a ∧ a ≤ 1000000) && decide (a ≤ b ∧ b ≤ 1000000)) = true) (k : Nat) (hk : l.length + 3 < k) :
    impl_RangesAdd.f k l a b = fin (addR l a b) ∧ spec_RangesAdd.f k l a b = fin (addR l a b) := by
  have hc := okB_chain hq
  have h : ¬ (l.length : Int) > 4096 := by omega
  have e1 := add_i1 l hl l.length k 0 [] a b (-1) (by omega) (by omega) (by simp) (by simpa using hc.2)
  have e2 := add_s_l0 l hl l.length k 0 [] a b (by omega) (by omega) (by simp)
  simp only [List.nil_append, List.drop_zero] at e1 e2
  have hL := addS_len l a b
  simp only [impl_RangesAdd.f, spec_RangesAdd.f, if_neg h, rok_i l (by omega) k (by omega), rok_s l (by omega) k (by omega), hq, bounds_i, bounds_s, h2, Option.bind_some, if_true, spec_l17Add.f, List.nil_append, List.length_nil, Nat.zero_add, addR]
  by_cases hab : a = b
  · rw [if_pos hab, if_pos hab, if_pos hab, if_pos (lt16 (by omega))]
    simp only [Option.bind_some, fin]
    rw [if_neg (by omega), if_neg (by omega), if_pos (lt16 (by omega))]
    exact ⟨rfl, rfl⟩
  · rw [if_neg hab, if_neg hab, if_neg hab]
    refine ⟨e1, ?_⟩
    have e3 : spec_l17Add.l0 k l [] 0 a b = some (addS a b l) := e2
    rw [e3]
    simp only [Option.bind_some, fin]
    by_cases h3 : ((addS a b l).length : Int) > 16
    · rw [if_pos h3, if_pos h3]
    · rw [if_neg h3, if_neg h3, if_pos (lt16 (by omega))]
def pIn (a : Int) (x : S43) : Bool := decide (x.f0 ≤ a) && decide (a < x.f1)
theorem find_l0 (l : List S43) (a : Int) (hl : l.length ≤ 2000000) (d : Nat) : ∀ (k i : Nat), l.length = i + d → d < k → spec_l17Find.l0 k l a (i : Int) = some (ixFrom (pIn a) (l.drop i) i) := by
  induction d with
  | zero =>
    intro k i hi hk
    obtain ⟨k, rfl⟩ : ∃ m, k = m + 1 := ⟨k - 1, by omega⟩
    simp only [spec_l17Find.l0]
    rw [if_neg (by omega), List.drop_of_length_le (by omega)]; rfl
  | succ d ih =>
    intro k i hi hk
    obtain ⟨k, rfl⟩ : ∃ m, k = m + 1 := ⟨k - 1, by omega⟩
    simp only [spec_l17Find.l0]
    rw [if_pos (by omega), if_pos (by omega), rd43 (by omega), ww i (by omega), List.drop_eq_getElem_cons (by omega)]
    simp only [ixFrom]
    by_cases h1 : a ≥ l[i].f0
    · rw [if_pos h1]
      by_cases h2 : a < l[i].f1
      · rw [if_pos h2, if_pos (show pIn a l[i] = true by simp [pIn, h2]; exact h1)]
      · rw [if_neg h2, if_neg (show ¬ pIn a l[i] = true by simp [pIn]; omega), ih k (i + 1) (by omega) (by omega)]
    · rw [if_neg h1, if_neg (show ¬ pIn a l[i] = true by simp [pIn]; omega), ih k (i + 1) (by omega) (by omega)]
theorem find_s (l : List S43) (a : Int) (hl : l.length ≤ 2000000) (k : Nat) (hk : l.length < k) : spec_l17Find.f k l a = some (ixFrom (pIn a) l 0) := by
  have := find_l0 l a hl l.length k 0 (by omega) hk
  simpa [spec_l17Find.f] using this
theorem holder_i (l : List S43) (a : Int) : impl_holder.f l a = some (ixFrom (pIn a) l 0) := rfl
def cutL (b : Int) : List S43 → List S43
  | [] => []
  | x :: r => if x.f1 > b then ⟨max x.f0 b, x.f1⟩ :: cutL b r else cutL b r
theorem cutL_len (b : Int) (l : List S43) : (cutL b l).length ≤ l.length := by
  induction l with
  | nil => simp [cutL]
  | cons x r ih => simp only [cutL]; split <;> simp <;> omega
theorem cut_i_l0 (l : List S43) (b : Int) (hl : l.length ≤ 2000000) (d : Nat) : ∀ (k i : Nat) (o : List S43), l.length = i + d → d < k → o.length ≤ i → impl_RangesCut.l0 k b o l (l.length : Int) (i : Int) = some (o ++ cutL b (l.drop i), 0) := by
  induction d with
  | zero =>
    intro k i o hi hk ho
    obtain ⟨k, rfl⟩ : ∃ m, k = m + 1 := ⟨k - 1, by omega⟩
    simp only [impl_RangesCut.l0]
    rw [if_neg (by omega), List.drop_of_length_le (by omega)]; simp [cutL]
  | succ d ih =>
    intro k i o hi hk ho
    obtain ⟨k, rfl⟩ : ∃ m, k = m + 1 := ⟨k - 1, by omega⟩
    simp only [impl_RangesCut.l0]
    rw [if_pos (by omega), if_pos (by omega), if_pos (by omega), rd43 (by omega), ww i (by omega), List.drop_eq_getElem_cons (by omega)]
    simp only [cutL, mx_eq]
    by_cases h : l[i].f1 > b
    · rw [if_pos h, if_pos h, if_pos (by omega), ih k (i + 1) _ (by omega) (by omega) (by simp; omega)]; simp
    · rw [if_neg h, if_neg h, ih k (i + 1) _ (by omega) (by omega) (by omega)]
theorem chain_join (l : List S43) : ∀ (b f t : Int), chain b l = true → b < f → f < t → t ≤ 1000000 → chain b (joinS f t l) = true := by
  induction l with
  | nil => intro b f t _ h1 h2 h3; simp [joinS, chain]; omega
  | cons x r ih =>
    intro b f t hc h1 h2 h3
    have hc' := hc
    simp only [chain, Bool.and_eq_true, decide_eq_true_eq] at hc
    simp only [joinS]
    by_cases h : x.f0 ≤ t
    · rw [if_pos h]
      exact ih b _ _ (chain_mono (by omega) hc.2.2.2) (by omega) (by omega) (by omega)
    · rw [if_neg h]
      simp only [chain, Bool.and_eq_true, decide_eq_true_eq]
      exact ⟨h1, h2, h3, by omega, hc.2⟩
theorem chain_add (l : List S43) : ∀ (b f t : Int), chain b l = true → b < f → f < t → t ≤ 1000000 → chain b (addS f t l) = true := by
  induction l with
  | nil => intro b f t _ h1 h2 h3; simp [addS, chain]; omega
  | cons x r ih =>
    intro b f t hc h1 h2 h3
    have hc' := hc
    simp only [chain, Bool.and_eq_true, decide_eq_true_eq] at hc
    simp only [addS]
    by_cases h : x.f1 < f
    · rw [if_pos h]
      simp only [chain, Bool.and_eq_true, decide_eq_true_eq]
      exact ⟨hc.1, hc.2.1, hc.2.2.1, ih _ _ _ hc.2.2.2 (by omega) h2 h3⟩
    · rw [if_neg h]
      exact chain_join _ _ _ _ hc' h1 h2 h3
theorem top_join (l : List S43) : ∀ (f t B : Int), (∀ y ∈ l, y.f1 ≤ B) → t ≤ B → ∀ y ∈ joinS f t l, y.f1 ≤ B := by
  induction l with
  | nil => intro f t B _ h y hy; simp [joinS] at hy; subst hy; exact h
  | cons x r ih =>
    intro f t B hl h
    simp only [joinS]
    have hx := hl x (by simp)
    split
    · exact ih _ _ B (fun y hy => hl y (by simp [hy])) (by omega)
    · intro y hy
      rcases List.mem_cons.1 hy with rfl | hy
      · exact h
      · exact hl y hy
theorem top_add (l : List S43) : ∀ (f t B : Int), (∀ y ∈ l, y.f1 ≤ B) → t ≤ B → ∀ y ∈ addS f t l, y.f1 ≤ B := by
  induction l with
  | nil => intro f t B _ h y hy; simp [addS] at hy; subst hy; exact h
  | cons x r ih =>
    intro f t B hl h
    simp only [addS]
    have hx := hl x (by simp)
    split
    · intro y hy
      rcases List.mem_cons.1 hy with rfl | hy
      · exact hx
      · exact ih _ _ B (fun y hy => hl y (by simp [hy])) h y hy
    · exact top_join _ _ _ B hl h
theorem rof_l0 (c : List Int) (d : Nat) : ∀ (l : List S43) (a s b : Int), Sr c a s b → b ≤ 1000 → (l.length : Int) + d ≤ 16 → chain (-1) l = true → (∀ y ∈ l, y.f1 ≤ 110) → d ≤ 10 → b + 6 * d ≤ 1000 →
    ∃ r a' s', r.length ≤ l.length + d ∧ chain (-1) r = true ∧ (∀ y ∈ r, y.f1 ≤ 110) ∧ ∀ k : Nat, spec_l00Src_ranges.l0 (k + 30 + d) l (d : Int) c a s = some (r, a', s') := by
  induction d with
  | zero =>
    intro l a s b _ _ _ hc ht _ _
    refine ⟨l, a, s, by omega, hc, ht, fun k => ?_⟩
    rw [spec_l00Src_ranges.l0, if_neg (by omega)]
  | succ d ih =>
    intro l a s b hs hb hl hc ht hd hbd
    obtain ⟨v, a1, s1, e1, v0, v1, h1⟩ := next_ok hs (by omega) 100 (by omega) (by omega)
    obtain ⟨u, a2, s2, e2, u0, u1, h2⟩ := next_ok h1 (by omega) 12 (by omega) (by omega)
    have ha : ∃ o : List S43, o.length ≤ l.length + 1 ∧ chain (-1) o = true ∧ (∀ y ∈ o, y.f1 ≤ 110) ∧ ∀ k : Nat, spec_l17Add.f (k + 30 + d) l v (wrap64 (v + u)) = some o := by
      rw [w64 (x := v + u) (by omega) (by omega)]
      unfold spec_l17Add.f
      by_cases h : v = v + u
      · exact ⟨l, by omega, hc, ht, fun k => by rw [if_pos h]⟩
      · refine ⟨addS v (v + u) l, addS_len l _ _, chain_add _ _ _ _ hc (by omega) (by omega) (by omega), top_add _ _ _ _ ht (by omega), fun k => ?_⟩
        rw [if_neg h]
        have := add_s_l0 l (by omega) l.length (k + 30 + d) 0 [] v (v + u) (by omega) (by omega) (by simp)
        simpa using this
    obtain ⟨o, ol, oc, ot, oe⟩ := ha
    obtain ⟨r, a', s', rl, rc, rt, re⟩ := ih o a2 s2 (b + 3 + 3) h2 (by omega) (by omega) oc ot (by omega) (by omega)
    refine ⟨r, a', s', by omega, rc, rt, fun k => ?_⟩
    rw [show k + 30 + (d + 1) = (k + 30 + d) + 1 by omega, spec_l00Src_ranges.l0, if_pos (by omega), e1]
    simp only [Option.bind_some]
    rw [e2]
    simp only [Option.bind_some]
    rw [oe]
    simp only [Option.bind_some]
    rw [if_pos (by omega), w64 (x := ((d + 1 : Nat) : Int) - 1) (by omega) (by omega), show ((d + 1 : Nat) : Int) - 1 = (d : Int) by omega]
    exact re k
theorem rof_ok (l : List Int) (hl : ∀ x ∈ l, 0 ≤ x ∧ x ≤ 255) (h2 : (l.length : Int) ≤ 140737488355328) : ∃ r : List S43, r.length ≤ 9 ∧ chain (-1) r = true ∧ (∀ y ∈ r, y.f1 ≤ 110) ∧ ∀ k, 50 < k → spec_RangesOf.f k l = some r := by
  obtain ⟨e, hs⟩ := source_ok hl h2
  obtain ⟨v, a1, s1, e1, v0, v1, h1⟩ := next_ok hs (by omega) 10 (by omega) (by omega)
  obtain ⟨d, rfl⟩ : ∃ d : Nat, v = (d : Int) := ⟨v.toNat, by omega⟩
  obtain ⟨r, a', s', rl, rc, rt, re⟩ := rof_l0 l d [] a1 s1 3 h1 (by omega) (by simp; omega) rfl (by simp) (by omega) (by omega)
  simp only [List.length_nil] at rl
  refine ⟨r, by omega, rc, rt, fun k hk => ?_⟩
  have re' := re (k - 30 - d)
  rw [show k - 30 - d + 30 + d = k by omega] at re'
  unfold spec_RangesOf.f
  rw [e]
  simp only [Option.bind_some, spec_l00Src_ranges.f]
  rw [e1]
  simp only [Option.bind_some]
  rw [re']
  rfl
theorem sameR_l0 (l : List S43) (hl : l.length ≤ 2000000) (d : Nat) : ∀ (k i : Nat), l.length = i + d → d < k → laws_sameRanges.l0 k l l (i : Int) = some true := by
  induction d with
  | zero =>
    intro k i hi hk
    obtain ⟨k, rfl⟩ : ∃ m, k = m + 1 := ⟨k - 1, by omega⟩
    simp only [laws_sameRanges.l0]
    rw [if_neg (by omega)]
  | succ d ih =>
    intro k i hi hk
    obtain ⟨k, rfl⟩ : ∃ m, k = m + 1 := ⟨k - 1, by omega⟩
    simp only [laws_sameRanges.l0]
    rw [if_pos (by omega), if_pos (by omega), if_pos (by omega), ww i (by omega), if_neg (by simp)]
    exact ih k (i + 1) (by omega) (by omega)
theorem sameR (l : List S43) (hl : l.length ≤ 2000000) (k : Nat) (hk : l.length < k) : laws_sameRanges.f k l l = some true := by
  unfold laws_sameRanges.f
  rw [if_pos rfl]
  exact sameR_l0 l hl l.length k 0 (by omega) hk
def hasL (l : List S43) (x : Int) : Bool := l.any (pIn x)
theorem ix_any' (l : List S43) (x : Int) : ∀ i : Nat, (decide (ixFrom (pIn x) l i ≥ 0)) = hasL l x := by
  induction l with
  | nil => intro i; simp [ixFrom, hasL]
  | cons y r ih =>
    intro i
    have e : ixFrom (pIn x) (y :: r) i = if pIn x y = true then (i : Int) else ixFrom (pIn x) r (i + 1) := rfl
    rw [e]
    cases h : pIn x y with
    | true => rw [if_pos rfl]; simp [hasL, h]
    | false => rw [if_neg (by decide), ih (i + 1)]; simp [hasL, h]
theorem pIn_iff (x : Int) (y : S43) : pIn x y = true ↔ y.f0 ≤ x ∧ x < y.f1 := by simp [pIn]
theorem pIn_no {x : Int} {y : S43} (h : ¬(y.f0 ≤ x ∧ x < y.f1)) : pIn x y = false := by rw [← Bool.not_eq_true, pIn_iff]; exact h
theorem has_cons (y : S43) (r : List S43) (x : Int) : hasL (y :: r) x = (pIn x y || hasL r x) := rfl
theorem chain_mem (l : List S43) : ∀ b, chain b l = true → ∀ y ∈ l, b < y.f0 ∧ y.f0 < y.f1 ∧ y.f1 ≤ 1000000 := by
  induction l with
  | nil => intro b _ y hy; simp at hy
  | cons x r ih =>
    intro b hc y hy
    simp only [chain, Bool.and_eq_true, decide_eq_true_eq] at hc
    rcases List.mem_cons.1 hy with rfl | hy
    · exact ⟨hc.1, hc.2.1, hc.2.2.1⟩
    · have := ih x.f1 hc.2.2.2 y hy; omega
theorem chain_has (l : List S43) (b x : Int) (hc : chain b l = true) (h : x ≤ b) : hasL l x = false := by
  induction l generalizing b with
  | nil => rfl
  | cons y r ih =>
    simp only [chain, Bool.and_eq_true, decide_eq_true_eq] at hc
    rw [has_cons, pIn_no (by omega), ih y.f1 hc.2.2.2 (by omega)]; rfl
theorem at_some (l : List Int) (hl : ∀ x ∈ l, 0 ≤ x ∧ x ≤ 255) (i n : Int) (hi : 0 ≤ i) (hi2 : i ≤ 100000) (hn : 1 < n) (hn2 : n ≤ 1000000000) : ∃ r, laws_at.f l i n = some r ∧ 0 ≤ r ∧ r < n := choice l hl i n hi hi2 hn hn2
theorem join_has (x : Int) (l : List S43) : ∀ (f t b : Int), f < t → chain b l = true → (∀ y ∈ l, f ≤ y.f1) → hasL (joinS f t l) x = (decide (f ≤ x ∧ x < t) || hasL l x) := by
  induction l with
  | nil => intro f t b _ _ _; simp [joinS, hasL, pIn]
  | cons y r ih =>
    intro f t b hft hc hf
    have hy := hf y (by simp)
    simp only [chain, Bool.and_eq_true, decide_eq_true_eq] at hc
    simp only [joinS]
    by_cases h : y.f0 ≤ t
    · rw [if_pos h, ih _ _ y.f1 (by omega) hc.2.2.2 (fun z hz => by have := chain_mem r y.f1 hc.2.2.2 z hz; omega), has_cons]
      rw [← Bool.or_assoc]
      congr 1
      rw [pIn, ← Bool.decide_and, ← Bool.decide_or]
      exact decide_eq_decide.2 (by omega)
    · rw [if_neg h, has_cons, pIn, ← Bool.decide_and]
theorem add_has (x : Int) (l : List S43) : ∀ (f t b : Int), f < t → chain b l = true → hasL (addS f t l) x = (decide (f ≤ x ∧ x < t) || hasL l x) := by
  induction l with
  | nil => intro f t b _ _; simp [addS, hasL, pIn]
  | cons y r ih =>
    intro f t b hft hc
    have hc' := hc
    simp only [chain, Bool.and_eq_true, decide_eq_true_eq] at hc
    simp only [addS]
    by_cases h : y.f1 < f
    · rw [if_pos h, has_cons, ih _ _ y.f1 hft hc.2.2.2, has_cons, ← Bool.or_assoc, ← Bool.or_assoc, Bool.or_comm (pIn x y)]
    · rw [if_neg h]
      refine join_has x _ f t b hft hc' (fun z hz => ?_)
      rcases List.mem_cons.1 hz with rfl | hz
      · omega
      · have := chain_mem r y.f1 hc.2.2.2 z hz; omega
theorem join_fix (l : List S43) : ∀ (f t b : Int), f < t → chain b l = true → ∃ F T rest, joinS f t l = ⟨F, T⟩ :: rest ∧ F ≤ f ∧ t ≤ T ∧ joinS F T rest = ⟨F, T⟩ :: rest := by
  induction l with
  | nil => intro f t b _ _; exact ⟨f, t, [], rfl, by omega, by omega, rfl⟩
  | cons y r ih =>
    intro f t b hft hc
    simp only [chain, Bool.and_eq_true, decide_eq_true_eq] at hc
    simp only [joinS]
    by_cases h : y.f0 ≤ t
    · rw [if_pos h]
      obtain ⟨F, T, rest, e, h1, h2, h3⟩ := ih (min f y.f0) (max t y.f1) y.f1 (by omega) hc.2.2.2
      exact ⟨F, T, rest, e, by omega, by omega, h3⟩
    · rw [if_neg h]
      refine ⟨f, t, y :: r, rfl, by omega, by omega, ?_⟩
      simp only [joinS]
      rw [if_neg h]
theorem add_fix (l : List S43) : ∀ (f t b : Int), f < t → chain b l = true → addS f t (addS f t l) = addS f t l := by
  induction l with
  | nil =>
    intro f t b hft _
    simp only [addS]
    rw [if_neg (by omega)]
    simp only [joinS]
    rw [if_pos (by omega)]
    simp
  | cons y r ih =>
    intro f t b hft hc
    have hc' := hc
    simp only [chain, Bool.and_eq_true, decide_eq_true_eq] at hc
    by_cases h : y.f1 < f
    · have e : addS f t (y :: r) = y :: addS f t r := by simp only [addS]; rw [if_pos h]
      rw [e]
      have e2 : addS f t (y :: addS f t r) = y :: addS f t (addS f t r) := by simp only [addS]; rw [if_pos h]
      rw [e2, ih f t y.f1 hft hc.2.2.2]
    · have e : addS f t (y :: r) = joinS f t (y :: r) := by rw [addS, if_neg h]
      rw [e]
      obtain ⟨F, T, rest, e1, h1, h2, h3⟩ := join_fix (y :: r) f t b hft hc'
      rw [e1]
      have e4 : addS f t (⟨F, T⟩ :: rest) = joinS f t (⟨F, T⟩ :: rest) := by rw [addS, if_neg (by show ¬ T < f; omega)]
      rw [e4]
      have e5 : joinS f t (⟨F, T⟩ :: rest) = joinS (min f F) (max t T) rest := by rw [joinS, if_pos (by show F ≤ t; omega)]
      rw [e5, show min f F = F by omega, show max t T = T by omega]
      exact h3
theorem cut_has (c x : Int) (l : List S43) : ∀ b, chain b l = true → hasL (cutL c l) x = (decide (x ≥ c) && hasL l x) := by
  induction l with
  | nil => intro b _; simp [cutL, hasL]
  | cons y r ih =>
    intro b hc
    simp only [chain, Bool.and_eq_true, decide_eq_true_eq] at hc
    have i := ih y.f1 hc.2.2.2
    simp only [cutL]
    by_cases h : y.f1 > c
    · rw [if_pos h, has_cons, i, has_cons, Bool.and_or_distrib_left]
      congr 1
      rw [pIn, pIn, ← Bool.decide_and, ← Bool.decide_and, ← Bool.decide_and]
      exact decide_eq_decide.2 (by show max y.f0 c ≤ x ∧ x < y.f1 ↔ _; omega)
    · rw [if_neg h, i, has_cons, Bool.and_or_distrib_left]
      have : (decide (x ≥ c) && pIn x y) = false := by
        rw [pIn, ← Bool.decide_and, ← Bool.decide_and]; exact decide_eq_false (by omega)
      rw [this]; rfl
theorem chain_cut (c : Int) (l : List S43) : ∀ b, chain b l = true → chain b (cutL c l) = true := by
  induction l with
  | nil => intro b _; rfl
  | cons y r ih =>
    intro b hc
    simp only [chain, Bool.and_eq_true, decide_eq_true_eq] at hc
    have i := ih y.f1 hc.2.2.2
    simp only [cutL]
    split
    · simp only [chain, Bool.and_eq_true, decide_eq_true_eq]
      exact ⟨by omega, by omega, hc.2.2.1, i⟩
    · exact chain_mono (by omega) i
theorem has_ok (l : List S43) (a : Int) (hl : l.length ≤ 16) (hq : chain (-1) l = true) (k : Nat) (hk : 20 < k) : spec_RangesHas.f k l a = some (hasL l a, 0) ∧ impl_RangesHas.f k l a = some (hasL l a, 0) := by
  have okq : okB l = true := by simp [okB, hq]; omega
  constructor
  · simp only [spec_RangesHas.f]
    rw [if_neg (by omega), rok_s l (by omega) k (by omega), okq]
    simp only [Option.bind_some, if_true]
    rw [find_s l a (by omega) k (by omega)]
    simp only [Option.bind_some]
    rw [ix_any']
  · simp only [impl_RangesHas.f]
    rw [if_neg (by omega), rok_i l (by omega) k (by omega), okq]
    simp only [Option.bind_some, if_true]
    rw [holder_i]
    simp only [Option.bind_some]
    rw [ix_any']
theorem ranges_l0 (l r q : List S43) (a b c : Int) (hl : l.length ≤ 16 ∧ r.length ≤ 16 ∧ q.length ≤ 16) (hc : chain (-1) l = true ∧ chain (-1) r = true ∧ chain (-1) q = true)
    (hr : ∀ x, hasL r x = (decide (a ≤ x ∧ x < b) || hasL l x)) (hq : ∀ x, hasL q x = (decide (x ≥ c) && hasL r x)) (d : Nat) : ∀ (k i : Nat), 140 = i + d → laws_FnRanges.l0 (k + d + 30) l a b c r q (i : Int) = some true := by
  induction d with
  | zero =>
    intro k i hi
    rw [show k + 0 + 30 = (k + 29) + 1 by omega, laws_FnRanges.l0, if_neg (by omega)]
  | succ d ih =>
    intro k i hi
    rw [show k + (d + 1) + 30 = (k + d + 30) + 1 by omega, laws_FnRanges.l0, if_pos (by omega), (has_ok l _ hl.1 hc.1 _ (by omega)).1, (has_ok r _ hl.2.1 hc.2.1 _ (by omega)).2, (has_ok q _ hl.2.2 hc.2.2 _ (by omega)).2]
    simp only [Option.bind_some, if_true]
    rw [ww i (by omega), ih k (i + 1) (by omega), hq, hr]
    cases e : hasL l (i : Int) with
    | true => simp
    | false =>
      simp only [Bool.false_eq_true, if_false, Bool.or_false]
      by_cases h : (i : Int) ≥ a
      · rw [if_pos h]
        by_cases h2 : (i : Int) < b
        · rw [decide_eq_true (p := a ≤ (i : Int) ∧ (i : Int) < b) (by omega), decide_eq_true h2]; simp
        · rw [decide_eq_false (p := a ≤ (i : Int) ∧ (i : Int) < b) (by omega), decide_eq_false h2]; simp
      · rw [if_neg h, decide_eq_false (p := a ≤ (i : Int) ∧ (i : Int) < b) (by omega)]; simp
theorem FnRanges : fnRanges.Say := by
  intro l0 l1 ⟨m0, w0⟩ ⟨m1, w1⟩
  obtain ⟨K, hK⟩ : ∃ K : Nat, K = 3000000 := ⟨_, rfl⟩
  refine ⟨K + 3, ?_⟩
  simp only [laws_FnRanges.f]
  by_cases c0 : (l0.length : Int) > 1048576
  · rw [if_pos c0]; simp only [laws_FnRanges.j0, if_true]
  rw [if_neg c0]
  by_cases c1 : (l1.length : Int) > 1048576
  · rw [decide_eq_true c1]; simp only [laws_FnRanges.j0, if_true]
  rw [decide_eq_false c1]
  rw [laws_FnRanges.j0, if_neg (by decide)]
  obtain ⟨l, ll, lc, lt, le⟩ := rof_ok l0 (bs w0) (by omega)
  obtain ⟨a, ha, a0, a1⟩ := at_some l1 (bs w1) 0 110 (by omega) (by omega) (by omega) (by omega)
  obtain ⟨b, hb, b0, b1⟩ := at_some l1 (bs w1) 1 20 (by omega) (by omega) (by omega) (by omega)
  obtain ⟨c, hc, c0', c1'⟩ := at_some l1 (bs w1) 2 110 (by omega) (by omega) (by omega) (by omega)
  rw [le (K + 2) (by omega), Option.bind_some, ha, Option.bind_some, hb, Option.bind_some, hc, Option.bind_some]
  rw [w64 (x := a + b) (by omega) (by omega)]
  obtain ⟨e, he⟩ : ∃ e, e = a + b := ⟨_, rfl⟩
  rw [← he]
  have okl : okB l = true := by simp [okB, lc]; omega
  have h2 : (decide (0 ≤ a ∧ a ≤ 1000000) && decide (a ≤ e ∧ e ≤ 1000000)) = true := by simp; omega
  have rl : (addR l a e).length ≤ 10 := by
    have := addS_len l a e
    unfold addR; split <;> omega
  have rc : chain (-1) (addR l a e) = true := by
    unfold addR; split
    · exact lc
    · exact chain_add l _ _ _ lc (by omega) (by omega) (by omega)
  have rh : ∀ x, hasL (addR l a e) x = (decide (a ≤ x ∧ x < e) || hasL l x) := by
    intro x
    unfold addR; split
    · rw [decide_eq_false (by omega)]; rfl
    · exact add_has x l a e (-1) (by omega) lc
  have rf : addR (addR l a e) a e = addR l a e := by
    unfold addR; split
    · rfl
    · exact add_fix l a e (-1) (by omega) lc
  have okr : okB (addR l a e) = true := by simp [okB, rc]; omega
  have A1 := add_both' l a e (by omega) okl h2 (K + 2) (by omega)
  have A2 := add_both' (addR l a e) a e (by omega) okr h2 (K + 1) (by omega)
  rw [rf] at A2
  have fn : fin (addR l a e) = some (addR l a e, 0) := by unfold fin; rw [if_neg (by omega)]
  rw [fn] at A1 A2
  generalize addR l a e = r at *
  have ql := cutL_len c r
  have qc := chain_cut c r (-1) rc
  have okq : okB (cutL c r) = true := by simp [okB, qc]; omega
  have C : impl_RangesCut.f (K + 1) r c = some (cutL c r, 0) := by
    have e1 := cut_i_l0 r c (by omega) r.length (K + 1) 0 [] (by omega) (by omega) (by simp)
    simp only [List.nil_append, List.drop_zero] at e1
    simp only [impl_RangesCut.f]
    rw [if_neg (by omega), rok_i r (by omega) (K + 1) (by omega), okr]
    simp only [inR, Option.bind_some, if_true]
    rw [decide_eq_true (by omega), if_pos rfl]
    exact e1
  rw [A1.1, A1.2]
  simp only [Option.bind_some, if_true]
  rw [sameR r (by omega) (K + 2) (by omega), Option.bind_some, laws_FnRanges.j1, if_neg (by decide), if_pos rfl, A2.1, C]
  simp only [Option.bind_some, if_true]
  rw [sameR r (by omega) (K + 1) (by omega)]
  simp only [Option.bind_some, if_true]
  rw [rok_i r (by omega) (K + 1) (by omega), okr]
  simp only [Option.bind_some, if_true]
  rw [rok_i (cutL c r) (by omega) (K + 1) (by omega), okq]
  simp only [Option.bind_some, Bool.not_true]
  rw [laws_FnRanges.j2, if_neg (by decide)]
  have e := ranges_l0 l r (cutL c r) a e c ⟨by omega, by omega, by omega⟩ ⟨lc, rc, qc⟩ rh (fun x => cut_has c x r (-1) rc) 140 (K - 170) 0 (by omega)
  rw [show K - 170 + 140 + 30 = K by omega] at e
  exact e
end Go.Proofs.Ytelcclkedpafaaa.Pure
namespace Go.Proofs.Ytelcclkedpafaaa
/-- The row. -/
theorem fnRanges_holds : Rows.FnRangesSaid := fnRanges.row_of Pure.FnRanges
end Go.Proofs.Ytelcclkedpafaaa
