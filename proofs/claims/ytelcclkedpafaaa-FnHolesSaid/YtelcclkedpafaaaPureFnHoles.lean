/- The law FnHoles holds. -/
import Derived.Test.YtelcclkedpafaaaAid
import Derived.Test.YtelcclkedpafaaaSayFnHoles
namespace Go.Proofs.Ytelcclkedpafaaa.Pure
set_option linter.unusedSimpArgs false
set_option linter.unusedVariables false
open Go.RowKit Go.Proofs.Ytelcclkedpafaaa.PFnHoles Go.Proofs.YtelcclkedpafaaaW.PrintWords Go.Proofs.YtelcclkedpafaaaW.PrintLast Go.Proofs.YtelcclkedpafaaaW.PrintMore Go.Proofs.Ytelcclkedpafaaa.Aid
theorem inR (a b c : Int) : impl_inRange.f a b c = some (decide (b ≤ a ∧ a ≤ c)) := by
  unfold impl_inRange.f
  by_cases h : a ≥ b
  · rw [if_pos h]; simp [show b ≤ a from h]
  · rw [if_neg h]; simp; omega
theorem inS (a b c : Int) : spec_l01In.f a b c = some (decide (b ≤ a ∧ a ≤ c)) := by
  unfold spec_l01In.f
  by_cases h : a ≥ b
  · rw [if_pos h]; simp [show b ≤ a from h]
  · rw [if_neg h]; simp; omega
theorem ww (i : Nat) (h : i < 4000000000000000000) : wrap64 ((i : Int) + 1) = ((i + 1 : Nat) : Int) := by rw [w64 (by omega) (by omega)]; simp
theorem set_mid {α : Type} (A R : List α) (z v : α) : (A ++ z :: R).set A.length v = A ++ v :: R := by
  simp [List.set_append]
theorem rd43 {l : List S43} {i : Nat} (h : i < l.length) : rd_T43 l (i : Int) = l[i] := by simp [rd_T43, List.getD_eq_getElem?_getD, h]
def ixFrom {α : Type} (p : α → Bool) : List α → Nat → Int
  | [], _ => -1
  | x :: r, i => if p x = true then (i : Int) else ixFrom p r (i + 1)
/-- A source of choices that stands right: its bytes, its place (at most b), its seed. -/
structure Sr (c : List Int) (a s b : Int) : Prop where
  bytes : ∀ x ∈ c, 0 ≤ x ∧ x ≤ 255
  len : (c.length : Int) ≤ 140737488355328
  a0 : 0 ≤ a
  ab : a ≤ b
  bb : b ≤ 1000000000000000
  s0 : 0 ≤ s
  s1 : s < 2147483648
theorem Sr.mono {c : List Int} {a s b b' : Int} (h : Sr c a s b) (h1 : b ≤ b') (h2 : b' ≤ 1000000000000000) : Sr c a s b' := ⟨h.bytes, h.len, h.a0, Int.le_trans h.ab h1, h2, h.s0, h.s1⟩
theorem mod_b {x n : Int} (hx : 0 ≤ x) (hn : 0 < n) : 0 ≤ Int.tmod x n ∧ Int.tmod x n < n := by
  rw [tmod_nonneg_eq hx]; exact ⟨Int.emod_nonneg _ (by omega), Int.emod_lt_of_pos _ hn⟩
theorem byte_ok {c : List Int} {a s b : Int} (h : Sr c a s b) (hb : b ≤ 900000000000000) : ∃ v s', spec_l00Src_byte.f c a s = some (v, a + 1, s') ∧ 0 ≤ v ∧ v ≤ 255 ∧ Sr c (a + 1) s' (b + 1) := by
  obtain ⟨h1, h2, h3, h4, h5, h6, h7⟩ := h
  unfold spec_l00Src_byte.f
  rw [w64 (x := a + 1) (by omega) (by omega)]
  by_cases q : a + 1 ≤ (c.length : Int)
  · rw [if_pos q, w64 (x := a + 1 - 1) (by omega) (by omega), if_pos (by omega), if_pos (by omega)]
    have r := rd_byte h1 (a + 1 - 1)
    generalize rd c (a + 1 - 1) = v at r ⊢
    rw [w64 (x := v) (by omega) (by omega), w64 (x := s * 31) (by omega) (by omega), w64 (x := s * 31 + v) (by omega) (by omega), w64 (x := s * 31 + v + 7) (by omega) (by omega)]
    have m := mod_b (x := s * 31 + v + 7) (n := 2147483648) (by omega) (by omega)
    exact ⟨v, _, rfl, r.1, r.2, ⟨h1, h2, by omega, by omega, by omega, m.1, m.2⟩⟩
  · rw [if_neg q]
    by_cases q2 : a + 1 > 3000
    · rw [if_pos q2]
      exact ⟨0, s, rfl, by omega, by omega, ⟨h1, h2, by omega, by omega, by omega, h6, h7⟩⟩
    · rw [if_neg q2, w64 (x := s * 1103515245) (by omega) (by omega), w64 (x := s * 1103515245 + 12345) (by omega) (by omega)]
      have m := mod_b (x := s * 1103515245 + 12345) (n := 2147483648) (by omega) (by omega)
      generalize Int.tmod (s * 1103515245 + 12345) 2147483648 = s' at m ⊢
      have e : 0 ≤ Int.tdiv s' 65536 ∧ Int.tdiv s' 65536 ≤ 32767 := by rw [tdiv_nonneg_eq m.1]; omega
      rw [w64 (x := Int.tdiv s' 65536) (by omega) (by omega)]
      have m2 := mod_b (x := Int.tdiv s' 65536) (n := 256) e.1 (by omega)
      exact ⟨_, s', rfl, m2.1, by omega, ⟨h1, h2, by omega, by omega, by omega, m.1, m.2⟩⟩
theorem next_ok {c : List Int} {a s b : Int} (h : Sr c a s b) (hb : b ≤ 800000000000000) (n : Int) (hn : 1 ≤ n) (hn2 : n ≤ 10000000) : ∃ v a' s', spec_l00Src_next.f c a s n = some (v, a', s') ∧ 0 ≤ v ∧ v < n ∧ Sr c a' s' (b + 3) := by
  unfold spec_l00Src_next.f
  by_cases q : n ≤ 1
  · rw [if_pos q]; exact ⟨0, a, s, rfl, by omega, by omega, h.mono (by omega) (by omega)⟩
  rw [if_neg q]
  by_cases q2 : n ≤ 256
  · obtain ⟨v, s', e, v0, v1, h'⟩ := byte_ok h (by omega)
    rw [if_pos q2, e]
    simp only [Option.bind_some]
    rw [if_neg (by omega)]
    have m := mod_b (x := v) (n := n) v0 (by omega)
    exact ⟨_, _, _, rfl, m.1, m.2, h'.mono (by omega) (by omega)⟩
  · obtain ⟨v, s1, e1, v0, v1, h1⟩ := byte_ok h (by omega)
    obtain ⟨u, s2, e2, u0, u1, h2⟩ := byte_ok h1 (by omega)
    obtain ⟨t, s3, e3, t0, t1, h3⟩ := byte_ok h2 (by omega)
    rw [if_neg q2, e1]
    simp only [Option.bind_some]
    rw [e2]
    simp only [Option.bind_some]
    rw [e3]
    simp only [Option.bind_some]
    rw [if_neg (by omega), w64 (x := v * 65536) (by omega) (by omega), w64 (x := u * 256) (by omega) (by omega), w64 (x := v * 65536 + u * 256) (by omega) (by omega), w64 (x := v * 65536 + u * 256 + t) (by omega) (by omega)]
    have m := mod_b (x := v * 65536 + u * 256 + t) (n := n) (by omega) (by omega)
    exact ⟨_, _, _, rfl, m.1, m.2, h3.mono (by omega) (by omega)⟩
theorem source_ok {l : List Int} (hl : ∀ x ∈ l, 0 ≤ x ∧ x ≤ 255) (h2 : (l.length : Int) ≤ 140737488355328) : spec_l00Source.f l = some (l, 0, (l.length : Int) % 1000) ∧ Sr l 0 ((l.length : Int) % 1000) 0 :=
  ⟨rfl, ⟨hl, h2, by omega, by omega, by omega, by omega, by omega⟩⟩
def chain : Int → List S43 → Bool
  | _, [] => true
  | b, x :: r => decide (b < x.f0) && (decide (x.f0 < x.f1) && (decide (x.f1 ≤ 1000000) && chain x.f1 r))
def okB (l : List S43) : Bool := decide (l.length ≤ 16) && chain (-1) l
theorem ok_i_l0 (l : List S43) (hl : l.length ≤ 2000000) (d : Nat) : ∀ (k i : Nat) (b : Int), l.length = i + d → d < k → impl_RangesOK.l0 k b l (l.length : Int) (i : Int) = some (chain b (l.drop i)) := by
  induction d with
  | zero =>
    intro k i b hi hk
    obtain ⟨k, rfl⟩ : ∃ m, k = m + 1 := ⟨k - 1, by omega⟩
    simp only [impl_RangesOK.l0]
    rw [if_neg (by omega), List.drop_of_length_le (by omega)]; rfl
  | succ d ih =>
    intro k i b hi hk
    obtain ⟨k, rfl⟩ : ∃ m, k = m + 1 := ⟨k - 1, by omega⟩
    simp only [impl_RangesOK.l0]
    rw [if_pos (by omega), if_pos (by omega), if_pos (by omega), rd43 (by omega), ww i (by omega), List.drop_eq_getElem_cons (by omega)]
    simp only [chain]
    by_cases h1 : l[i].f0 ≤ b
    · rw [if_pos h1, decide_eq_false (by omega)]; rfl
    · rw [if_neg h1, decide_eq_true (by omega)]
      by_cases h2 : l[i].f1 ≤ l[i].f0
      · rw [if_pos h2, decide_eq_false (p := l[i].f0 < l[i].f1) (by omega)]; rfl
      · rw [if_neg h2, decide_eq_true (p := l[i].f0 < l[i].f1) (by omega)]
        by_cases h3 : l[i].f1 > 1000000
        · rw [if_pos h3, decide_eq_false (p := l[i].f1 ≤ 1000000) (by omega)]; rfl
        · rw [if_neg h3, decide_eq_true (p := l[i].f1 ≤ 1000000) (by omega), ih k (i + 1) _ (by omega) (by omega)]; rfl
theorem rok_i (l : List S43) (hl : l.length ≤ 2000000) (k : Nat) (hk : l.length < k) : impl_RangesOK.f k l = some (okB l) := by
  unfold impl_RangesOK.f okB
  by_cases h : (l.length : Int) > 16
  · rw [if_pos h, decide_eq_false (by omega)]; rfl
  · rw [if_neg h, decide_eq_true (by omega)]
    have := ok_i_l0 l hl l.length k 0 (-1) (by omega) hk
    simpa using this
theorem ok_s_l0 (l : List S43) (hl : l.length ≤ 2000000) (d : Nat) : ∀ (k i : Nat) (b : Int) (hi : l.length = i + d), d < k → -1 ≤ b → (i = 0 → b = -1) → (∀ h : 0 < i, b = (l[i - 1]'(by omega)).f1) → spec_RangesOK.l0 k l (i : Int) = some (chain b (l.drop i)) := by
  induction d with
  | zero =>
    intro k i b hi hk _ _ _
    obtain ⟨k, rfl⟩ : ∃ m, k = m + 1 := ⟨k - 1, by omega⟩
    simp only [spec_RangesOK.l0]
    rw [if_neg (by omega), List.drop_of_length_le (by omega)]; rfl
  | succ d ih =>
    intro k i b hi hk hb h0 hp
    obtain ⟨k, rfl⟩ : ∃ m, k = m + 1 := ⟨k - 1, by omega⟩
    simp only [spec_RangesOK.l0, inS, Option.bind_some]
    rw [if_pos (by omega), if_pos (by omega), rd43 (by omega), ww i (by omega), List.drop_eq_getElem_cons (by omega)]
    simp only [chain]
    have next : 0 ≤ l[i].f1 → spec_RangesOK.l0 k l ((i + 1 : Nat) : Int) = some (chain l[i].f1 (l.drop (i + 1))) := fun hf => ih k (i + 1) l[i].f1 (by omega) (by omega) (by omega) (by omega) (fun _ => by simp)
    by_cases h1 : 1 ≤ l[i].f1 ∧ l[i].f1 ≤ 1000000
    · rw [decide_eq_true h1, if_pos rfl, w64 (x := l[i].f1 - 1) (by omega) (by omega)]
      by_cases h2 : 0 ≤ l[i].f0 ∧ l[i].f0 ≤ l[i].f1 - 1
      · rw [decide_eq_true h2, if_pos rfl, decide_eq_true (p := l[i].f0 < l[i].f1) (by omega), decide_eq_true h1.2]
        by_cases hz : i = 0
        · rw [if_neg (by omega), next (by omega), decide_eq_true (p := b < l[i].f0) (by have := h0 hz; omega)]; rfl
        · rw [if_pos (by omega)]
          have e : (i : Int) - 1 = ((i - 1 : Nat) : Int) := by omega
          rw [w64 (x := (i : Int) - 1) (by omega) (by omega), e, if_pos (by omega), if_pos (by omega), rd43 (by omega), ← hp (by omega)]
          by_cases h3 : b ≥ l[i].f0
          · rw [if_pos h3, decide_eq_false (by omega)]; rfl
          · rw [if_neg h3, next (by omega), decide_eq_true (p := b < l[i].f0) (by omega)]; rfl
      · rw [decide_eq_false h2, if_neg (by decide)]
        by_cases h3 : b < l[i].f0
        · rw [decide_eq_false (p := l[i].f0 < l[i].f1) (by omega)]; simp
        · rw [decide_eq_false h3]; rfl
    · rw [decide_eq_false h1, if_neg (by decide)]
      by_cases h3 : b < l[i].f0
      · by_cases h4 : l[i].f0 < l[i].f1
        · rw [decide_eq_false (p := l[i].f1 ≤ 1000000) (by omega)]; simp
        · rw [decide_eq_false h4]; simp
      · rw [decide_eq_false h3]; rfl
theorem rok_s (l : List S43) (hl : l.length ≤ 2000000) (k : Nat) (hk : l.length < k) : spec_RangesOK.f k l = some (okB l) := by
  unfold spec_RangesOK.f okB
  by_cases h : (l.length : Int) > 16
  · rw [if_pos h, decide_eq_false (by omega)]; rfl
  · rw [if_neg h, decide_eq_true (by omega)]
    have := ok_s_l0 l hl l.length k 0 (-1) (by omega) hk (by omega) (by omega) (by omega)
    simpa using this
theorem bounds_i (a b : Int) : impl_boundsOK.f a b = some (decide (0 ≤ a ∧ a ≤ 1000000) && decide (a ≤ b ∧ b ≤ 1000000)) := by
  unfold impl_boundsOK.f
  simp only [inR, Option.bind_some]
  by_cases h : 0 ≤ a ∧ a ≤ 1000000 <;> simp [h]
theorem bounds_s (a b : Int) : spec_l17Bounds.f a b = some (decide (0 ≤ a ∧ a ≤ 1000000) && decide (a ≤ b ∧ b ≤ 1000000)) := by
  unfold spec_l17Bounds.f
  simp only [inS, Option.bind_some]
  by_cases h : 0 ≤ a ∧ a ≤ 1000000 <;> simp [h]
def holeL (tt : Int) : Int → List S43 → List S43
  | at_, [] => if tt > at_ then [⟨at_, tt⟩] else []
  | at_, x :: r => if min tt x.f0 > at_ then ⟨at_, min tt x.f0⟩ :: holeL tt (max at_ x.f1) r else holeL tt (max at_ x.f1) r
theorem holeL_len (tt : Int) (l : List S43) : ∀ at_, (holeL tt at_ l).length ≤ l.length + 1 := by
  induction l with
  | nil => intro a; simp only [holeL]; split <;> simp
  | cons x r ih => intro a; have := ih (max a x.f1); simp only [holeL]; split <;> simp <;> omega
theorem holeL_nil (tt : Int) (l : List S43) : ∀ at_, tt ≤ at_ → holeL tt at_ l = [] := by
  induction l with
  | nil => intro a h; simp only [holeL]; rw [if_neg (by omega)]
  | cons x r ih => intro a h; simp only [holeL]; rw [if_neg (by omega)]; exact ih _ (by omega)
theorem hole_s_l0 (l : List S43) (tt : Int) (hl : l.length ≤ 2000000) (d : Nat) : ∀ (k i : Nat) (o : List S43) (a : Int), l.length = i + d → d < k → o.length ≤ i → spec_RangesHole.l0 k l tt o a (i : Int) = some (o ++ holeL tt a (l.drop i), 0) := by
  induction d with
  | zero =>
    intro k i o a hi hk ho
    obtain ⟨k, rfl⟩ : ∃ m, k = m + 1 := ⟨k - 1, by omega⟩
    simp only [spec_RangesHole.l0]
    rw [if_neg (by omega), List.drop_of_length_le (by omega)]
    simp only [holeL]
    by_cases h : tt > a
    · rw [if_pos h, if_pos h, if_pos (by omega)]
    · rw [if_neg h, if_neg h]; simp
  | succ d ih =>
    intro k i o a hi hk ho
    obtain ⟨k, rfl⟩ : ∃ m, k = m + 1 := ⟨k - 1, by omega⟩
    simp only [spec_RangesHole.l0]
    rw [if_pos (by omega), if_pos (by omega), rd43 (by omega), ww i (by omega), List.drop_eq_getElem_cons (by omega)]
    simp only [holeL, mx_eq, mn_eq]
    by_cases h : min tt l[i].f0 > a
    · rw [if_pos h, if_pos h, if_pos (by omega), ih k (i + 1) _ _ (by omega) (by omega) (by simp; omega)]; simp
    · rw [if_neg h, if_neg h, ih k (i + 1) _ _ (by omega) (by omega) (by omega)]
theorem chain_mono {b b' : Int} {l : List S43} (h : b' ≤ b) (hc : chain b l = true) : chain b' l = true := by
  cases l with
  | nil => rfl
  | cons x r => simp only [chain, Bool.and_eq_true, decide_eq_true_eq] at hc ⊢; exact ⟨by omega, hc.2⟩
theorem hole_i_l0 (l : List S43) (tt : Int) (hl : l.length ≤ 2000000) (d : Nat) : ∀ (k i : Nat) (o : List S43) (a b : Int), l.length = i + d → d < k → o.length ≤ i → chain b (l.drop i) = true → impl_RangesHole.l0 k a tt o l (l.length : Int) (i : Int) = some (o ++ holeL tt a (l.drop i), 0) := by
  induction d with
  | zero =>
    intro k i o a b hi hk ho hc
    obtain ⟨k, rfl⟩ : ∃ m, k = m + 1 := ⟨k - 1, by omega⟩
    simp only [impl_RangesHole.l0]
    rw [if_neg (by omega), List.drop_of_length_le (by omega)]
    simp only [holeL]
    by_cases h : a < tt
    · rw [if_pos h, if_pos (show tt > a from h), if_pos (by omega)]
    · rw [if_neg h, if_neg (show ¬ tt > a from h)]; simp
  | succ d ih =>
    intro k i o a b hi hk ho hc
    obtain ⟨k, rfl⟩ : ∃ m, k = m + 1 := ⟨k - 1, by omega⟩
    simp only [impl_RangesHole.l0]
    rw [List.drop_eq_getElem_cons (by omega)] at hc ⊢
    simp only [chain, Bool.and_eq_true, decide_eq_true_eq] at hc
    rw [if_pos (by omega), if_pos (by omega), if_pos (by omega), rd43 (by omega), ww i (by omega)]
    simp only [holeL, mx_eq]
    by_cases h : l[i].f0 ≥ tt
    · rw [if_pos h, show min tt l[i].f0 = tt by omega, holeL_nil tt _ _ (by omega)]
      by_cases h2 : a < tt
      · rw [if_pos h2, if_pos (by omega), if_pos (show tt > a from h2)]
      · rw [if_neg h2, if_neg (show ¬ tt > a from h2)]; simp
    · rw [if_neg h, show min tt l[i].f0 = l[i].f0 by omega]
      by_cases h2 : l[i].f0 > a
      · rw [if_pos h2, if_pos h2, if_pos (by omega), ih k (i + 1) _ _ l[i].f1 (by omega) (by omega) (by simp; omega) hc.2.2.2]; simp
      · rw [if_neg h2, if_neg h2, ih k (i + 1) _ _ l[i].f1 (by omega) (by omega) (by omega) hc.2.2.2]
def joinS : Int → Int → List S43 → List S43
  | f, t, [] => [⟨f, t⟩]
  | f, t, x :: r => if x.f0 ≤ t then joinS (min f x.f0) (max t x.f1) r else ⟨f, t⟩ :: x :: r
def addS : Int → Int → List S43 → List S43
  | f, t, [] => [⟨f, t⟩]
  | f, t, x :: r => if x.f1 < f then x :: addS f t r else joinS f t (x :: r)
theorem joinS_len (l : List S43) : ∀ f t, (joinS f t l).length ≤ l.length + 1 := by
  induction l with
  | nil => intro f t; simp [joinS]
  | cons x r ih => intro f t; have := ih (min f x.f0) (max t x.f1); simp only [joinS]; split <;> simp <;> omega
theorem addS_len (l : List S43) : ∀ f t, (addS f t l).length ≤ l.length + 1 := by
  induction l with
  | nil => intro f t; simp [addS]
  | cons x r ih => intro f t; have := ih f t; have := joinS_len (x :: r) f t; simp only [addS]; split <;> simp at * <;> omega
theorem lt16 {n : Nat} (h : n ≤ 3000000) : n < 8796093022208 := by omega
theorem join_s_l1 (l : List S43) (hl : l.length ≤ 1000000) (d : Nat) : ∀ (k i : Nat) (o : List S43) (f t : Int), l.length = i + d → d < k → o.length ≤ i → spec_l17Add.l1 k l o (i : Int) f t = some (o ++ joinS f t (l.drop i)) := by
  induction d with
  | zero =>
    intro k i o f t hi hk ho
    obtain ⟨k, rfl⟩ : ∃ m, k = m + 1 := ⟨k - 1, by omega⟩
    simp only [spec_l17Add.l1, Option.bind_some, Int.toNat_natCast]
    rw [if_neg (by omega), if_pos (lt16 (by omega)), if_pos (by omega), if_pos (by omega), List.drop_of_length_le (by omega), if_pos (lt16 (by simp; omega))]
    simp [joinS]
  | succ d ih =>
    intro k i o f t hi hk ho
    obtain ⟨k, rfl⟩ : ∃ m, k = m + 1 := ⟨k - 1, by omega⟩
    simp only [spec_l17Add.l1, Option.bind_some, Int.toNat_natCast]
    rw [if_pos (by omega), if_pos (by omega), rd43 (by omega), ww i (by omega), mn_eq, mx_eq]
    by_cases h : l[i].f0 ≤ t
    · rw [if_pos h, ih k (i + 1) _ _ _ (by omega) (by omega) (by omega), List.drop_eq_getElem_cons (i := i) (by omega)]
      simp only [joinS]; rw [if_pos h]
    · rw [if_neg h, if_pos (lt16 (by omega)), if_pos (by omega), if_pos (lt16 (by simp; omega)), List.drop_eq_getElem_cons (i := i) (by omega)]
      simp only [joinS]; rw [if_neg h]; simp
theorem add_s_l0 (l : List S43) (hl : l.length ≤ 1000000) (d : Nat) : ∀ (k i : Nat) (o : List S43) (f t : Int), l.length = i + d → d + 2 < k → o.length ≤ i → spec_l17Add.l0 k l o (i : Int) f t = some (o ++ addS f t (l.drop i)) := by
  induction d with
  | zero =>
    intro k i o f t hi hk ho
    obtain ⟨k, rfl⟩ : ∃ m, k = m + 2 := ⟨k - 2, by omega⟩
    simp only [spec_l17Add.l0, spec_l17Add.j1]
    rw [if_neg (by omega), join_s_l1 l hl 0 k i o f t hi (by omega) ho, List.drop_of_length_le (by omega)]
    simp [joinS, addS]
  | succ d ih =>
    intro k i o f t hi hk ho
    obtain ⟨k, rfl⟩ : ∃ m, k = m + 1 := ⟨k - 1, by omega⟩
    simp only [spec_l17Add.l0]
    rw [if_pos (by omega), if_pos (by omega), rd43 (by omega), ww i (by omega)]
    by_cases h : l[i].f1 < f
    · rw [if_pos h, if_pos (lt16 (by omega)), ih k (i + 1) _ _ _ (by omega) (by omega) (by simp; omega), List.drop_eq_getElem_cons (i := i) (by omega)]
      simp only [addS]; rw [if_pos h]; simp
    · rw [if_neg h]
      obtain ⟨k, rfl⟩ : ∃ m, k = m + 1 := ⟨k - 1, by omega⟩
      simp only [spec_l17Add.j1]
      rw [join_s_l1 l hl (d + 1) k i o f t hi (by omega) ho, List.drop_eq_getElem_cons (i := i) (by omega)]
      simp only [addS]; rw [if_neg h]
def pIn (a : Int) (x : S43) : Bool := decide (x.f0 ≤ a) && decide (a < x.f1)
theorem find_l0 (l : List S43) (a : Int) (hl : l.length ≤ 2000000) (d : Nat) : ∀ (k i : Nat), l.length = i + d → d < k → spec_l17Find.l0 k l a (i : Int) = some (ixFrom (pIn a) (l.drop i) i) := by
  induction d with
  | zero =>
    intro k i hi hk
    obtain ⟨k, rfl⟩ : ∃ m, k = m + 1 := ⟨k - 1, by omega⟩
    simp only [spec_l17Find.l0]
    rw [if_neg (by omega), List.drop_of_length_le (by omega)]; rfl
  | succ d ih =>
    intro k i hi hk
    obtain ⟨k, rfl⟩ : ∃ m, k = m + 1 := ⟨k - 1, by omega⟩
    simp only [spec_l17Find.l0]
    rw [if_pos (by omega), if_pos (by omega), rd43 (by omega), ww i (by omega), List.drop_eq_getElem_cons (by omega)]
    simp only [ixFrom]
    by_cases h1 : a ≥ l[i].f0
    · rw [if_pos h1]
      by_cases h2 : a < l[i].f1
      · rw [if_pos h2, if_pos (show pIn a l[i] = true by simp [pIn, h2]; exact h1)]
      · rw [if_neg h2, if_neg (show ¬ pIn a l[i] = true by simp [pIn]; omega), ih k (i + 1) (by omega) (by omega)]
    · rw [if_neg h1, if_neg (show ¬ pIn a l[i] = true by simp [pIn]; omega), ih k (i + 1) (by omega) (by omega)]
theorem find_s (l : List S43) (a : Int) (hl : l.length ≤ 2000000) (k : Nat) (hk : l.length < k) : spec_l17Find.f k l a = some (ixFrom (pIn a) l 0) := by
  have := find_l0 l a hl l.length k 0 (by omega) hk
  simpa [spec_l17Find.f] using this
theorem chain_join (l : List S43) : ∀ (b f t : Int), chain b l = true → b < f → f < t → t ≤ 1000000 → chain b (joinS f t l) = true := by
  induction l with
  | nil => intro b f t _ h1 h2 h3; simp [joinS, chain]; omega
  | cons x r ih =>
    intro b f t hc h1 h2 h3
    have hc' := hc
    simp only [chain, Bool.and_eq_true, decide_eq_true_eq] at hc
    simp only [joinS]
    by_cases h : x.f0 ≤ t
    · rw [if_pos h]
      exact ih b _ _ (chain_mono (by omega) hc.2.2.2) (by omega) (by omega) (by omega)
    · rw [if_neg h]
      simp only [chain, Bool.and_eq_true, decide_eq_true_eq]
      exact ⟨h1, h2, h3, by omega, hc.2⟩
theorem chain_add (l : List S43) : ∀ (b f t : Int), chain b l = true → b < f → f < t → t ≤ 1000000 → chain b (addS f t l) = true := by
  induction l with
  | nil => intro b f t _ h1 h2 h3; simp [addS, chain]; omega
  | cons x r ih =>
    intro b f t hc h1 h2 h3
    have hc' := hc
    simp only [chain, Bool.and_eq_true, decide_eq_true_eq] at hc
    simp only [addS]
    by_cases h : x.f1 < f
    · rw [if_pos h]
      simp only [chain, Bool.and_eq_true, decide_eq_true_eq]
      exact ⟨hc.1, hc.2.1, hc.2.2.1, ih _ _ _ hc.2.2.2 (by omega) h2 h3⟩
    · rw [if_neg h]
      exact chain_join _ _ _ _ hc' h1 h2 h3
theorem top_join (l : List S43) : ∀ (f t B : Int), (∀ y ∈ l, y.f1 ≤ B) → t ≤ B → ∀ y ∈ joinS f t l, y.f1 ≤ B := by
  induction l with
  | nil => intro f t B _ h y hy; simp [joinS] at hy; subst hy; exact h
  | cons x r ih =>
    intro f t B hl h
    simp only [joinS]
    have hx := hl x (by simp)
    split
    · exact ih _ _ B (fun y hy => hl y (by simp [hy])) (by omega)
    · intro y hy
      rcases List.mem_cons.1 hy with rfl | hy
      · exact h
      · exact hl y hy
theorem top_add (l : List S43) : ∀ (f t B : Int), (∀ y ∈ l, y.f1 ≤ B) → t ≤ B → ∀ y ∈ addS f t l, y.f1 ≤ B := by
  induction l with
  | nil => intro f t B _ h y hy; simp [addS] at hy; subst hy; exact h
  | cons x r ih =>
    intro f t B hl h
    simp only [addS]
    have hx := hl x (by simp)
    split
    · intro y hy
      rcases List.mem_cons.1 hy with rfl | hy
      · exact hx
      · exact ih _ _ B (fun y hy => hl y (by simp [hy])) h y hy
    · exact top_join _ _ _ B hl h
theorem rof_l0 (c : List Int) (d : Nat) : ∀ (l : List S43) (a s b : Int), Sr c a s b → b ≤ 1000 → (l.length : Int) + d ≤ 16 → chain (-1) l = true → (∀ y ∈ l, y.f1 ≤ 110) → d ≤ 10 → b + 6 * d ≤ 1000 →
    ∃ r a' s', r.length ≤ l.length + d ∧ chain (-1) r = true ∧ (∀ y ∈ r, y.f1 ≤ 110) ∧ ∀ k : Nat, spec_l00Src_ranges.l0 (k + 30 + d) l (d : Int) c a s = some (r, a', s') := by
  induction d with
  | zero =>
    intro l a s b _ _ _ hc ht _ _
    refine ⟨l, a, s, by omega, hc, ht, fun k => ?_⟩
    rw [spec_l00Src_ranges.l0, if_neg (by omega)]
  | succ d ih =>
    intro l a s b hs hb hl hc ht hd hbd
    obtain ⟨v, a1, s1, e1, v0, v1, h1⟩ := next_ok hs (by omega) 100 (by omega) (by omega)
    obtain ⟨u, a2, s2, e2, u0, u1, h2⟩ := next_ok h1 (by omega) 12 (by omega) (by omega)
    have ha : ∃ o : List S43, o.length ≤ l.length + 1 ∧ chain (-1) o = true ∧ (∀ y ∈ o, y.f1 ≤ 110) ∧ ∀ k : Nat, spec_l17Add.f (k + 30 + d) l v (wrap64 (v + u)) = some o := by
      rw [w64 (x := v + u) (by omega) (by omega)]
      unfold spec_l17Add.f
      by_cases h : v = v + u
      · exact ⟨l, by omega, hc, ht, fun k => by rw [if_pos h]⟩
      · refine ⟨addS v (v + u) l, addS_len l _ _, chain_add _ _ _ _ hc (by omega) (by omega) (by omega), top_add _ _ _ _ ht (by omega), fun k => ?_⟩
        rw [if_neg h]
        have := add_s_l0 l (by omega) l.length (k + 30 + d) 0 [] v (v + u) (by omega) (by omega) (by simp)
        simpa using this
    obtain ⟨o, ol, oc, ot, oe⟩ := ha
    obtain ⟨r, a', s', rl, rc, rt, re⟩ := ih o a2 s2 (b + 3 + 3) h2 (by omega) (by omega) oc ot (by omega) (by omega)
    refine ⟨r, a', s', by omega, rc, rt, fun k => ?_⟩
    rw [show k + 30 + (d + 1) = (k + 30 + d) + 1 by omega, spec_l00Src_ranges.l0, if_pos (by omega), e1]
    simp only [Option.bind_some]
    rw [e2]
    simp only [Option.bind_some]
    rw [oe]
    simp only [Option.bind_some]
    rw [if_pos (by omega), w64 (x := ((d + 1 : Nat) : Int) - 1) (by omega) (by omega), show ((d + 1 : Nat) : Int) - 1 = (d : Int) by omega]
    exact re k
theorem rof_ok (l : List Int) (hl : ∀ x ∈ l, 0 ≤ x ∧ x ≤ 255) (h2 : (l.length : Int) ≤ 140737488355328) : ∃ r : List S43, r.length ≤ 9 ∧ chain (-1) r = true ∧ (∀ y ∈ r, y.f1 ≤ 110) ∧ ∀ k, 50 < k → spec_RangesOf.f k l = some r := by
  obtain ⟨e, hs⟩ := source_ok hl h2
  obtain ⟨v, a1, s1, e1, v0, v1, h1⟩ := next_ok hs (by omega) 10 (by omega) (by omega)
  obtain ⟨d, rfl⟩ : ∃ d : Nat, v = (d : Int) := ⟨v.toNat, by omega⟩
  obtain ⟨r, a', s', rl, rc, rt, re⟩ := rof_l0 l d [] a1 s1 3 h1 (by omega) (by simp; omega) rfl (by simp) (by omega) (by omega)
  simp only [List.length_nil] at rl
  refine ⟨r, by omega, rc, rt, fun k hk => ?_⟩
  have re' := re (k - 30 - d)
  rw [show k - 30 - d + 30 + d = k by omega] at re'
  unfold spec_RangesOf.f
  rw [e]
  simp only [Option.bind_some, spec_l00Src_ranges.f]
  rw [e1]
  simp only [Option.bind_some]
  rw [re']
  rfl
theorem sameR_l0 (l : List S43) (hl : l.length ≤ 2000000) (d : Nat) : ∀ (k i : Nat), l.length = i + d → d < k → laws_sameRanges.l0 k l l (i : Int) = some true := by
  induction d with
  | zero =>
    intro k i hi hk
    obtain ⟨k, rfl⟩ : ∃ m, k = m + 1 := ⟨k - 1, by omega⟩
    simp only [laws_sameRanges.l0]
    rw [if_neg (by omega)]
  | succ d ih =>
    intro k i hi hk
    obtain ⟨k, rfl⟩ : ∃ m, k = m + 1 := ⟨k - 1, by omega⟩
    simp only [laws_sameRanges.l0]
    rw [if_pos (by omega), if_pos (by omega), if_pos (by omega), ww i (by omega), if_neg (by simp)]
    exact ih k (i + 1) (by omega) (by omega)
theorem sameR (l : List S43) (hl : l.length ≤ 2000000) (k : Nat) (hk : l.length < k) : laws_sameRanges.f k l l = some true := by
  unfold laws_sameRanges.f
  rw [if_pos rfl]
  exact sameR_l0 l hl l.length k 0 (by omega) hk
theorem at_some (l : List Int) (hl : ∀ x ∈ l, 0 ≤ x ∧ x ≤ 255) (i n : Int) (hi : 0 ≤ i) (hi2 : i ≤ 100000) (hn : 1 < n) (hn2 : n ≤ 1000000000) : ∃ r, laws_at.f l i n = some r ∧ 0 ≤ r ∧ r < n := choice l hl i n hi hi2 hn hn2
def hasL (l : List S43) (x : Int) : Bool := l.any (pIn x)
theorem ix_any (l : List S43) (x : Int) : ∀ i : Nat, (decide (ixFrom (pIn x) l i ≥ 0)) = hasL l x := by
  induction l with
  | nil => intro i; simp [ixFrom, hasL]
  | cons y r ih =>
    intro i
    have e : ixFrom (pIn x) (y :: r) i = if pIn x y = true then (i : Int) else ixFrom (pIn x) r (i + 1) := rfl
    rw [e]
    cases h : pIn x y with
    | true => rw [if_pos rfl]; simp [hasL, h]
    | false => rw [if_neg (by decide), ih (i + 1)]; simp [hasL, h]
theorem pIn_iff (x : Int) (y : S43) : pIn x y = true ↔ y.f0 ≤ x ∧ x < y.f1 := by simp [pIn]
theorem chain_has (l : List S43) (b x : Int) (hc : chain b l = true) (h : x ≤ b) : hasL l x = false := by
  induction l generalizing b with
  | nil => rfl
  | cons y r ih =>
    simp only [chain, Bool.and_eq_true, decide_eq_true_eq] at hc
    have e : pIn x y = false := by rw [← Bool.not_eq_true, pIn_iff]; omega
    have := ih y.f1 hc.2.2.2 (by omega)
    simp only [hasL] at this ⊢
    rw [List.any_cons, e, this]; rfl
theorem hole_has (tt x : Int) (l : List S43) : ∀ (a b : Int), chain b l = true → hasL (holeL tt a l) x = (decide (a ≤ x ∧ x < tt) && !hasL l x) := by
  induction l with
  | nil =>
    intro a b _
    simp only [holeL]
    by_cases h : tt > a
    · rw [if_pos h]; simp [hasL, pIn]
    · rw [if_neg h, decide_eq_false (by omega)]; rfl
  | cons y r ih =>
    intro a b hc
    simp only [chain, Bool.and_eq_true, decide_eq_true_eq] at hc
    have i := ih (max a y.f1) y.f1 hc.2.2.2
    have hr : x ≤ y.f1 → hasL r x = false := chain_has r y.f1 x hc.2.2.2
    have hy : hasL (y :: r) x = (pIn x y || hasL r x) := rfl
    have step : hasL (holeL tt a (y :: r)) x = (decide (a ≤ x ∧ x < min tt y.f0) || hasL (holeL tt (max a y.f1) r) x) := by
      simp only [holeL]
      by_cases h : min tt y.f0 > a
      · rw [if_pos h]; simp [hasL, pIn]
      · rw [if_neg h, decide_eq_false (by omega)]; rfl
    rw [step, i, hy]
    by_cases h1 : x < y.f0
    · have e : pIn x y = false := by rw [← Bool.not_eq_true, pIn_iff]; omega
      rw [e, hr (by omega), decide_eq_false (p := max a y.f1 ≤ x ∧ x < tt) (by omega)]
      simp only [Bool.false_and, Bool.or_false, Bool.not_false, Bool.and_true]
      exact decide_eq_decide.2 (by omega)
    · rw [decide_eq_false (p := a ≤ x ∧ x < min tt y.f0) (by omega), Bool.false_or]
      by_cases h2 : x < y.f1
      · have e : pIn x y = true := by rw [pIn_iff]; omega
        rw [e, decide_eq_false (p := max a y.f1 ≤ x ∧ x < tt) (by omega)]; simp
      · have e : pIn x y = false := by rw [← Bool.not_eq_true, pIn_iff]; omega
        rw [e, Bool.false_or]
        congr 1
        exact decide_eq_decide.2 (by omega)
theorem holes_l1 (l : List S43) (a b : Int) (o : List S43) (hl : o.length ≤ 100) (x : Int) (p : Bool) (hp : p = hasL l x) (ho : hasL o x = (decide (a ≤ x ∧ x < b) && !hasL l x)) (d : Nat) : ∀ (k i : Nat) (q : Bool), o.length = i + d → (q || hasL (o.drop i) x) = hasL o x → laws_FnHoles.l1 (k + d + 1) l a b o x p q (i : Int) = laws_FnHoles.l0 k l a b o (wrap64 (x + 1)) := by
  induction d with
  | zero =>
    intro k i q hi hq
    rw [laws_FnHoles.l1, if_neg (by omega)]
    rw [List.drop_of_length_le (by omega)] at hq
    have hq' : q = (decide (a ≤ x ∧ x < b) && !hasL l x) := by rw [← ho, ← hq]; simp [hasL]
    subst hp
    cases e : hasL l x with
    | true => rw [if_pos rfl, hq', e]; simp
    | false =>
      rw [if_neg (by decide), hq', e]
      by_cases h : x ≥ a
      · rw [if_pos h, if_neg]
        simp [h]
      · rw [if_neg h, decide_eq_false (by omega)]; simp
  | succ d ih =>
    intro k i q hi hq
    rw [show k + (d + 1) + 1 = (k + d + 1) + 1 by omega, laws_FnHoles.l1, if_pos (by omega), ww i (by omega)]
    rw [List.drop_eq_getElem_cons (i := i) (by omega)] at hq
    have e : hasL (o[i] :: o.drop (i + 1)) x = (pIn x o[i] || hasL (o.drop (i + 1)) x) := rfl
    rw [e] at hq
    cases q with
    | true => rw [if_pos rfl]; exact ih k (i + 1) true (by omega) (by simpa using hq)
    | false =>
      rw [if_neg (by decide), if_pos (by omega), rd43 (by omega)]
      by_cases h : x ≥ o[i].f0
      · rw [if_pos h]
        refine ih k (i + 1) _ (by omega) ?_
        rw [← hq, Bool.false_or]; congr 1; rw [pIn, decide_eq_true (show o[i].f0 ≤ x from h), Bool.true_and]
      · rw [if_neg h]
        refine ih k (i + 1) _ (by omega) ?_
        have e2 : pIn x o[i] = false := by rw [← Bool.not_eq_true, pIn_iff]; omega
        rw [← hq, e2]; rfl
theorem has_s (l : List S43) (a : Int) (hl : l.length ≤ 16) (hq : chain (-1) l = true) (k : Nat) (hk : 20 < k) : spec_RangesHas.f k l a = some (hasL l a, 0) := by
  have okq : okB l = true := by simp [okB, hq]; omega
  simp only [spec_RangesHas.f]
  rw [if_neg (by omega), rok_s l (by omega) k (by omega), okq]
  simp only [Option.bind_some, if_true]
  rw [find_s l a (by omega) k (by omega)]
  simp only [Option.bind_some]
  rw [ix_any]
theorem holes_l0 (l : List S43) (a b : Int) (hl : l.length ≤ 16) (hc : chain (-1) l = true) (d : Nat) : ∀ (k i : Nat), 180 = i + d → laws_FnHoles.l0 (k + 50 * d + 30) l a b (holeL b a l) (i : Int) = some true := by
  have hL := holeL_len b l a
  induction d with
  | zero =>
    intro k i hi
    rw [show k + 50 * 0 + 30 = (k + 29) + 1 by omega, laws_FnHoles.l0, if_neg (by omega)]
  | succ d ih =>
    intro k i hi
    rw [show k + 50 * (d + 1) + 30 = (k + 50 * d + 79) + 1 by omega, laws_FnHoles.l0, if_pos (by omega), has_s l _ hl hc _ (by omega)]
    simp only [Option.bind_some]
    have := holes_l1 l a b (holeL b a l) (by omega) (i : Int) (hasL l i) rfl (hole_has b i l a (-1) hc) (holeL b a l).length (k + (48 - (holeL b a l).length) + 50 * d + 30) 0 false (by omega) (by simp)
    rw [show k + 50 * d + 79 = k + (48 - (holeL b a l).length) + 50 * d + 30 + (holeL b a l).length + 1 by omega]
    refine Eq.trans this ?_
    rw [ww i (by omega)]
    exact ih _ (i + 1) (by omega)
theorem FnHoles : fnHoles.Say := by
  intro l0 l1 ⟨m0, w0⟩ ⟨m1, w1⟩
  obtain ⟨K, hK⟩ : ∃ K : Nat, K = 3000000 := ⟨_, rfl⟩
  refine ⟨K + 2, ?_⟩
  simp only [laws_FnHoles.f]
  by_cases c0 : (l0.length : Int) > 1048576
  · rw [if_pos c0]; simp only [laws_FnHoles.j0, if_true]
  rw [if_neg c0]
  by_cases c1 : (l1.length : Int) > 1048576
  · rw [decide_eq_true c1]; simp only [laws_FnHoles.j0, if_true]
  rw [decide_eq_false c1]
  simp only [laws_FnHoles.j0]
  rw [if_neg (by decide)]
  obtain ⟨l, ll, lc, lt, le⟩ := rof_ok l0 (bs w0) (by omega)
  obtain ⟨a, ha, a0, a1⟩ := at_some l1 (bs w1) 0 110 (by omega) (by omega) (by omega) (by omega)
  obtain ⟨b, hb, b0, b1⟩ := at_some l1 (bs w1) 1 60 (by omega) (by omega) (by omega) (by omega)
  rw [le (K + 1) (by omega)]
  simp only [Option.bind_some]
  rw [ha, hb]
  simp only [Option.bind_some]
  rw [w64 (x := a + b) (by omega) (by omega)]
  have okq : okB l = true := by simp [okB, lc]; omega
  have h2 : (decide (0 ≤ a ∧ a ≤ 1000000) && decide (a ≤ a + b ∧ a + b ≤ 1000000)) = true := by simp; omega
  have e1 := hole_i_l0 l (a + b) (by omega) l.length (K + 1) 0 [] a (-1) (by omega) (by omega) (by simp) (by simpa using lc)
  have e2 := hole_s_l0 l (a + b) (by omega) l.length (K + 1) 0 [] a (by omega) (by omega) (by simp)
  simp only [List.nil_append, List.drop_zero] at e1 e2
  have h : ¬ (l.length : Int) > 4096 := by omega
  have r1 : impl_RangesHole.f (K + 1) l a (a + b) = some (holeL (a + b) a l, 0) := by
    simp only [impl_RangesHole.f, if_neg h, rok_i l (by omega) (K + 1) (by omega), okq, bounds_i, h2, Option.bind_some, if_true]
    exact e1
  have r2 : spec_RangesHole.f (K + 1) l a (a + b) = some (holeL (a + b) a l, 0) := by
    simp only [spec_RangesHole.f, if_neg h, rok_s l (by omega) (K + 1) (by omega), okq, bounds_s, h2, Option.bind_some, if_true]
    exact e2
  have hL := holeL_len (a + b) l a
  rw [r1, r2]
  simp only [Option.bind_some, if_true]
  rw [sameR _ (by omega) (K + 1) (by omega)]
  simp only [Option.bind_some, laws_FnHoles.j1]
  rw [if_neg (by decide)]
  have e := holes_l0 l a (a + b) (by omega) lc 180 (K - 50 * 180 - 30) 0 (by omega)
  rw [show K - 50 * 180 - 30 + 50 * 180 + 30 = K by omega] at e
  exact e
end Go.Proofs.Ytelcclkedpafaaa.Pure
namespace Go.Proofs.Ytelcclkedpafaaa
/-- The row. -/
theorem fnHoles_holds : Rows.FnHolesSaid := fnHoles.row_of Pure.FnHoles
end Go.Proofs.Ytelcclkedpafaaa
