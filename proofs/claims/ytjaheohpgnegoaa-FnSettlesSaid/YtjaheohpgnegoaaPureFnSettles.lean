/- A round trip that is always the same is learnt within 200 samples: the smoothed time is it to one part in eight, and the time-out is close to it, for all bytes. -/
import Derived.Test.YtjaheohpgnegoaaAid
import Derived.Test.YtjaheohpgnegoaaSayFnSettles
namespace Go.Proofs.Ytjaheohpgnegoaa.Pure
set_option linter.unusedSimpArgs false
set_option linter.unusedVariables false
open Go.RowKit Go.Proofs.Ytjaheohpgnegoaa.PFnSettles Go.Proofs.YtjaheohpgnegoaaW.PrintWords Go.Proofs.YtjaheohpgnegoaaW.PrintLast Go.Proofs.YtjaheohpgnegoaaW.PrintMore Go.Proofs.Ytjaheohpgnegoaa.Aid
theorem inR (a b c : Int) : impl_inRange.f a b c = some (decide (b ≤ a ∧ a ≤ c)) := by
  unfold impl_inRange.f
  by_cases h : a ≥ b
  · rw [if_pos h]; simp [show b ≤ a from h]
  · rw [if_neg h]; simp; omega
theorem inS (a b c : Int) : spec_l01In.f a b c = some (decide (b ≤ a ∧ a ≤ c)) := by
  unfold spec_l01In.f
  by_cases h : a ≥ b
  · rw [if_pos h]; simp [show b ≤ a from h]
  · rw [if_neg h]; simp; omega
def T (a : Bool) (s p b : Int) : Prop := (0 ≤ b ∧ b ≤ 12) ∧ (0 ≤ s ∧ s ≤ 800000) ∧ (0 ≤ p ∧ p ≤ 800000) ∧ (a = true ∨ (s = 0 ∧ p = 0))
instance (a : Bool) (s p b : Int) : Decidable (T a s p b) := by unfold T; infer_instance
theorem ok_i (a : Bool) (s p b : Int) : impl_TimingOK.f a s p b = some (decide (T a s p b)) := by
  unfold impl_TimingOK.f T
  simp only [inR, Option.bind_some]
  by_cases h1 : 0 ≤ b ∧ b ≤ 12
  · by_cases h2 : 0 ≤ s ∧ s ≤ 800000
    · by_cases h3 : 0 ≤ p ∧ p ≤ 800000
      · cases a
        · by_cases h4 : s = 0
          · subst h4; by_cases h5 : p = 0
            · subst h5; simp [h1]
            · simp [h1, h3, h5]
          · simp [h1, h2, h3, h4]
        · simp [h1, h2, h3]
      · simp [h1, h2, h3]
    · simp [h1, h2]
  · simp [h1]
theorem ok_s (a : Bool) (s p b : Int) : spec_TimingOK.f a s p b = some (decide (T a s p b)) := by
  unfold spec_TimingOK.f T
  simp only [inS, Option.bind_some]
  by_cases h1 : 0 ≤ b ∧ b ≤ 12
  · cases a
    · by_cases h4 : s = 0
      · subst h4; by_cases h5 : p = 0
        · subst h5; simp [h1]
        · simp [h1, h5]
      · simp [h1, h4]
    · by_cases h2 : 0 ≤ s ∧ s ≤ 800000
      · by_cases h3 : 0 ≤ p ∧ p ≤ 800000
        · simp [h1, h2, h3]
        · simp [h1, h2, h3]
      · simp [h1, h2]
  · simp [h1]
/-- A source of choices that stands right: its bytes, its place (at most b), its seed. -/
structure Sr (c : List Int) (a s b : Int) : Prop where
  bytes : ∀ x ∈ c, 0 ≤ x ∧ x ≤ 255
  len : (c.length : Int) ≤ 140737488355328
  a0 : 0 ≤ a
  ab : a ≤ b
  bb : b ≤ 1000000000000000
  s0 : 0 ≤ s
  s1 : s < 2147483648
theorem Sr.mono {c : List Int} {a s b b' : Int} (h : Sr c a s b) (h1 : b ≤ b') (h2 : b' ≤ 1000000000000000) : Sr c a s b' := ⟨h.bytes, h.len, h.a0, Int.le_trans h.ab h1, h2, h.s0, h.s1⟩
theorem mod_b {x n : Int} (hx : 0 ≤ x) (hn : 0 < n) : 0 ≤ Int.tmod x n ∧ Int.tmod x n < n := by
  rw [tmod_nonneg_eq hx]; exact ⟨Int.emod_nonneg _ (by omega), Int.emod_lt_of_pos _ hn⟩
theorem byte_ok {c : List Int} {a s b : Int} (h : Sr c a s b) (hb : b ≤ 900000000000000) : ∃ v s', spec_l00Src_byte.f c a s = some (v, a + 1, s') ∧ 0 ≤ v ∧ v ≤ 255 ∧ Sr c (a + 1) s' (b + 1) := by
  obtain ⟨h1, h2, h3, h4, h5, h6, h7⟩ := h
  unfold spec_l00Src_byte.f
  rw [w64 (x := a + 1) (by omega) (by omega)]
  by_cases q : a + 1 ≤ (c.length : Int)
  · rw [if_pos q, w64 (x := a + 1 - 1) (by omega) (by omega), if_pos (by omega), if_pos (by omega)]
    have r := rd_byte h1 (a + 1 - 1)
    generalize rd c (a + 1 - 1) = v at r ⊢
    rw [w64 (x := v) (by omega) (by omega), w64 (x := s * 31) (by omega) (by omega), w64 (x := s * 31 + v) (by omega) (by omega), w64 (x := s * 31 + v + 7) (by omega) (by omega)]
    have m := mod_b (x := s * 31 + v + 7) (n := 2147483648) (by omega) (by omega)
    exact ⟨v, _, rfl, r.1, r.2, ⟨h1, h2, by omega, by omega, by omega, m.1, m.2⟩⟩
  · rw [if_neg q]
    by_cases q2 : a + 1 > 3000
    · rw [if_pos q2]
      exact ⟨0, s, rfl, by omega, by omega, ⟨h1, h2, by omega, by omega, by omega, h6, h7⟩⟩
    · rw [if_neg q2, w64 (x := s * 1103515245) (by omega) (by omega), w64 (x := s * 1103515245 + 12345) (by omega) (by omega)]
      have m := mod_b (x := s * 1103515245 + 12345) (n := 2147483648) (by omega) (by omega)
      generalize Int.tmod (s * 1103515245 + 12345) 2147483648 = s' at m ⊢
      have e : 0 ≤ Int.tdiv s' 65536 ∧ Int.tdiv s' 65536 ≤ 32767 := by rw [tdiv_nonneg_eq m.1]; omega
      rw [w64 (x := Int.tdiv s' 65536) (by omega) (by omega)]
      have m2 := mod_b (x := Int.tdiv s' 65536) (n := 256) e.1 (by omega)
      exact ⟨_, s', rfl, m2.1, by omega, ⟨h1, h2, by omega, by omega, by omega, m.1, m.2⟩⟩
theorem next_ok {c : List Int} {a s b : Int} (h : Sr c a s b) (hb : b ≤ 800000000000000) (n : Int) (hn : 1 ≤ n) (hn2 : n ≤ 10000000) : ∃ v a' s', spec_l00Src_next.f c a s n = some (v, a', s') ∧ 0 ≤ v ∧ v < n ∧ Sr c a' s' (b + 3) := by
  unfold spec_l00Src_next.f
  by_cases q : n ≤ 1
  · rw [if_pos q]; exact ⟨0, a, s, rfl, by omega, by omega, h.mono (by omega) (by omega)⟩
  rw [if_neg q]
  by_cases q2 : n ≤ 256
  · obtain ⟨v, s', e, v0, v1, h'⟩ := byte_ok h (by omega)
    rw [if_pos q2, e]
    simp only [Option.bind_some]
    rw [if_neg (by omega)]
    have m := mod_b (x := v) (n := n) v0 (by omega)
    exact ⟨_, _, _, rfl, m.1, m.2, h'.mono (by omega) (by omega)⟩
  · obtain ⟨v, s1, e1, v0, v1, h1⟩ := byte_ok h (by omega)
    obtain ⟨u, s2, e2, u0, u1, h2⟩ := byte_ok h1 (by omega)
    obtain ⟨t, s3, e3, t0, t1, h3⟩ := byte_ok h2 (by omega)
    rw [if_neg q2, e1]
    simp only [Option.bind_some]
    rw [e2]
    simp only [Option.bind_some]
    rw [e3]
    simp only [Option.bind_some]
    rw [if_neg (by omega), w64 (x := v * 65536) (by omega) (by omega), w64 (x := u * 256) (by omega) (by omega), w64 (x := v * 65536 + u * 256) (by omega) (by omega), w64 (x := v * 65536 + u * 256 + t) (by omega) (by omega)]
    have m := mod_b (x := v * 65536 + u * 256 + t) (n := n) (by omega) (by omega)
    exact ⟨_, _, _, rfl, m.1, m.2, h3.mono (by omega) (by omega)⟩
theorem source_ok {l : List Int} (hl : ∀ x ∈ l, 0 ≤ x ∧ x ≤ 255) (h2 : (l.length : Int) ≤ 140737488355328) : spec_l00Source.f l = some (l, 0, (l.length : Int) % 1000) ∧ Sr l 0 ((l.length : Int) % 1000) 0 :=
  ⟨rfl, ⟨hl, h2, by omega, by omega, by omega, by omega, by omega⟩⟩
theorem chance_ok {c : List Int} {a s b : Int} (h : Sr c a s b) (hb : b ≤ 800000000000000) (n : Int) (hn : 1 ≤ n) (hn2 : n ≤ 10000000) : ∃ v a' s', spec_l00Src_chance.f c a s n = some (v, a', s') ∧ Sr c a' s' (b + 3) := by
  obtain ⟨v, a', s', e, v0, v1, h'⟩ := next_ok h hb n hn hn2
  unfold spec_l00Src_chance.f
  rw [e]
  exact ⟨_, a', s', rfl, h'⟩
theorem sample_T {a : Bool} {s p b r : Int} {g : Bool} (h : T a s p b) (h2 : 0 ≤ r ∧ r ≤ 100000) : ∃ a' s' p' b', spec_l16Sample.f a s p b r g = some (a', s', p', b') ∧ T a' s' p' b' ∧ (g = false → b' = 0) := by
  obtain ⟨h1, h3, h4, h5⟩ := h
  unfold spec_l16Sample.f
  cases g with
  | true => exact ⟨a, s, p, b, rfl, ⟨h1, h3, h4, h5⟩, by simp⟩
  | false =>
    cases a with
    | true =>
      have e : Int.tdiv s 8 = s / 8 := tdiv_nonneg_eq h3.1
      have e2 : Int.tdiv p 4 = p / 4 := tdiv_nonneg_eq h4.1
      rw [if_neg (by decide), if_pos rfl, e, e2, mx_eq]
      rw [w64 (x := s / 8) (by omega) (by omega), w64 (x := r - s / 8) (by omega) (by omega), w64 (x := -(r - s / 8)) (by omega) (by omega), w64 (x := p / 4) (by omega) (by omega), w64 (x := max (r - s / 8) (-(r - s / 8)) - p / 4) (by omega) (by omega), w64 (by omega) (by omega), w64 (by omega) (by omega)]
      exact ⟨_, _, _, _, rfl, ⟨by omega, by omega, by omega, .inl rfl⟩, fun _ => rfl⟩
    | false =>
      rw [if_neg (by decide), if_neg (by decide), w64 (x := 8 * r) (by omega) (by omega), w64 (x := 2 * r) (by omega) (by omega)]
      exact ⟨_, _, _, _, rfl, ⟨by omega, by omega, by omega, .inl rfl⟩, fun _ => rfl⟩
theorem rd4 (a b c d i : Int) (h0 : 0 ≤ i) (h1 : i < 4) : rd [a, b, c, d] i = a ∨ rd [a, b, c, d] i = b ∨ rd [a, b, c, d] i = c ∨ rd [a, b, c, d] i = d := by
  have : i = 0 ∨ i = 1 ∨ i = 2 ∨ i = 3 := by omega
  rcases this with rfl | rfl | rfl | rfl <;> simp [rd]
theorem timing_l0 (d : Nat) : ∀ (k : Nat) (i : Int) (c : List Int) (at_ se b : Int) (a : Bool) (s p bk : Int), i = d → d < k → Sr c at_ se b → b ≤ 1000000000 - 20 * d → T a s p bk →
    ∃ a' s' p' b' x y, spec_l00Src_timing.l0 k i c at_ se a s p bk = some (a', s', p', b', x, y) ∧ T a' s' p' b' := by
  induction d with
  | zero =>
    intro k i c at_ se b a s p bk hi hk hs hb ht
    obtain ⟨k, rfl⟩ : ∃ m, k = m + 1 := ⟨k - 1, by omega⟩
    simp only [spec_l00Src_timing.l0]
    rw [if_neg (by omega)]
    exact ⟨_, _, _, _, _, _, rfl, ht⟩
  | succ d ih =>
    intro k i c at_ se b a s p bk hi hk hs hb ht
    obtain ⟨k, rfl⟩ : ∃ m, k = m + 1 := ⟨k - 1, by omega⟩
    simp only [spec_l00Src_timing.l0]
    obtain ⟨v1, a1, s1, e1, v10, v11, h1⟩ := next_ok hs (by omega) 300 (by omega) (by omega)
    obtain ⟨v2, a2, s2, e2, v20, v21, h2⟩ := next_ok h1 (by omega) 4 (by omega) (by omega)
    obtain ⟨v3, a3, s3, e3, h3⟩ := chance_ok h2 (by omega) 4 (by omega) (by omega)
    obtain ⟨v4, a4, s4, e4, h4⟩ := chance_ok h3 (by omega) 4 (by omega) (by omega)
    have hr : 0 ≤ rd [v1, 0, 100, 100000] v2 ∧ rd [v1, 0, 100, 100000] v2 ≤ 100000 := by rcases rd4 v1 0 100 100000 v2 v20 (by omega) with h | h | h | h <;> omega
    obtain ⟨a', s', p', b', e5, ht', -⟩ := sample_T (g := v3) ht hr
    rw [if_pos (by omega), e1]
    simp only [Option.bind_some]
    rw [e2]
    simp only [Option.bind_some]
    rw [if_pos v20, if_pos (by simpa using v21), e3]
    simp only [Option.bind_some]
    rw [e5]
    simp only [Option.bind_some]
    rw [e4]
    simp only [Option.bind_some]
    have b0 := hs.a0
    have b1 := hs.ab
    rw [w64 (x := i - 1) (by omega) (by omega)]
    cases v4 with
    | true =>
      rw [if_pos rfl]
      obtain ⟨t1, t2, t3, t4⟩ := ht'
      rw [w64 (x := b' + 1) (by omega) (by omega), mn_eq]
      exact ih k (i - 1) c a4 s4 _ a' s' p' _ (by omega) (by omega) h4 (by omega) ⟨by omega, t2, t3, t4⟩
    | false =>
      rw [if_neg (by decide)]
      exact ih k (i - 1) c a4 s4 _ a' s' p' b' (by omega) (by omega) h4 (by omega) ht'
theorem timingOf_ok {l : List Int} (hl : ∀ x ∈ l, 0 ≤ x ∧ x ≤ 255) (h2 : (l.length : Int) ≤ 140737488355328) (k : Nat) (hk : 20 < k) : ∃ a s p b, spec_TimingOf.f k l = some (a, s, p, b) ∧ T a s p b := by
  obtain ⟨e0, h0⟩ := source_ok hl h2
  obtain ⟨v1, a1, s1, e1, v10, v11, h1⟩ := next_ok h0 (by omega) 8 (by omega) (by omega)
  obtain ⟨a', s', p', b', x, y, e, ht⟩ := timing_l0 v1.toNat k v1 l a1 s1 _ false 0 0 0 (by omega) (by omega) h1 (by omega) (by unfold T; exact ⟨by omega, by omega, by omega, .inr ⟨rfl, rfl⟩⟩)
  refine ⟨a', s', p', b', ?_, ht⟩
  simp only [spec_TimingOf.f, e0, Option.bind_some, spec_l00Src_timing.f, e1, e]
theorem sample_i (a : Bool) (s p b r : Int) (g : Bool) (h : T a s p b) (h2 : 0 ≤ r ∧ r ≤ 100000) : ∃ a' s' p' b', spec_l16Sample.f a s p b r g = some (a', s', p', b') ∧ T a' s' p' b' ∧ impl_Sample.f a s p b r g = some (a', s', p', b', 0) ∧ spec_Sample.f a s p b r g = some (a', s', p', b', 0) ∧ (g = false → b' = 0) := by
  obtain ⟨a', s', p', b', e, ht, hz⟩ := sample_T (g := g) h h2
  refine ⟨a', s', p', b', e, ht, ?_, ?_, hz⟩
  · have e' := e
    simp only [impl_Sample.f, ok_i, inR, Option.bind_some, decide_eq_true h, decide_eq_true h2, if_true]
    unfold spec_l16Sample.f at e'
    cases g <;> cases a <;> simp_all
  · simp only [spec_Sample.f, ok_s, inS, Option.bind_some, decide_eq_true h, decide_eq_true h2, if_true, e]
/-- The time-out, ahead of its greatest value: before and behind the back-offs. -/
def base (a : Bool) (s p : Int) : Int := if a = true then max (s / 8 + max p 1) 200 else 1000
def R (a : Bool) (s p b : Int) : Int := min 60000 (base a s p * 2 ^ b.toNat)
theorem base_bd {a : Bool} {s p b : Int} (h : T a s p b) : 200 ≤ base a s p ∧ base a s p ≤ 1000000 ∧ (a = true → s / 8 ≤ base a s p) := by
  obtain ⟨h1, h2, h3, h4⟩ := h
  unfold base
  cases a
  · simp
  · simp only [if_true]; omega
theorem pow_bd {b : Int} (h0 : 0 ≤ b) (h : b ≤ 12) : 1 ≤ (2 : Int) ^ b.toNat ∧ (2 : Int) ^ b.toNat ≤ 4096 := by
  have : b = 0 ∨ b = 1 ∨ b = 2 ∨ b = 3 ∨ b = 4 ∨ b = 5 ∨ b = 6 ∨ b = 7 ∨ b = 8 ∨ b = 9 ∨ b = 10 ∨ b = 11 ∨ b = 12 := by omega
  rcases this with rfl | rfl | rfl | rfl | rfl | rfl | rfl | rfl | rfl | rfl | rfl | rfl | rfl <;> decide
theorem mul_bd2 {x y : Int} (h0 : 0 ≤ x) (hx : x ≤ 1000000) (h1 : 1 ≤ y) (h2 : y ≤ 4096) : x ≤ x * y ∧ x * y ≤ 4096000000 := by
  have a := Int.mul_le_mul_of_nonneg_left h1 h0
  have b := Int.mul_le_mul hx h2 (by omega) (by omega)
  exact ⟨by omega, by omega⟩
theorem shl_ok {x b : Int} (h0 : 0 ≤ x) (hx : x ≤ 1000000) (h1 : 0 ≤ b) (h2 : b ≤ 12) : shl .i64 x b = x * 2 ^ b.toNat := by
  have p := pow_bd h1 h2
  have m := mul_bd2 h0 hx p.1 p.2
  unfold shl
  rw [Nat.min_eq_left (by have : IntKind.bits .i64 = 64 := rfl; omega)]
  rw [i64_w, w64 (by omega) (by omega)]
theorem rto_i {a : Bool} {s p b : Int} (h : T a s p b) : impl_Rto.f a s p b = some (R a s p b, 0) := by
  have hb := base_bd h
  obtain ⟨h1, h2, h3, h4⟩ := id h
  have e : (IntKind.u64.wrap b) = b := by simp [IntKind.wrap, IntKind.bits]; omega
  have e8 : Int.tdiv s 8 = s / 8 := tdiv_nonneg_eq h2.1
  simp only [impl_Rto.f, ok_i, Option.bind_some, decide_eq_true h, if_true, mn_eq, mx_eq, e, e8]
  rw [w64 (x := s / 8) (by omega) (by omega), w64 (x := s / 8 + max p 1) (by omega) (by omega)]
  unfold R base at *
  cases a
  · simp only [Bool.false_eq_true, if_false, if_pos h1.1] at *
    rw [shl_ok (by omega) (by omega) h1.1 h1.2]
    simp [Int.min_comm]
  · simp only [if_true, if_pos h1.1] at *
    rw [shl_ok (by omega) (by omega) h1.1 h1.2]
    simp [Int.min_comm]
theorem R_bd {a : Bool} {s p b : Int} (h : T a s p b) : 200 ≤ R a s p b ∧ R a s p b ≤ 60000 ∧ (a = true → R a s p b < s / 8 → 60000 ≤ R a s p b) := by
  have hb := base_bd h
  have pw := pow_bd h.1.1 h.1.2
  have m := mul_bd2 (x := base a s p) (by omega) hb.2.1 pw.1 pw.2
  unfold R
  refine ⟨by omega, by omega, fun ha hlt => ?_⟩
  have := hb.2.2 ha
  omega
theorem R_twice {a : Bool} {s p b : Int} (h : T a s p b) (hb : b < 12) : R a s p (b + 1) = min 60000 (2 * R a s p b) := by
  have e : (b + 1).toNat = b.toNat + 1 := by have := h.1.1; omega
  unfold R
  rw [e, Int.pow_succ, ← Int.mul_assoc]
  generalize base a s p * 2 ^ b.toNat = y
  omega
theorem at_some (l : List Int) (hl : ∀ x ∈ l, 0 ≤ x ∧ x ≤ 255) (i n : Int) (hi : 0 ≤ i) (hi2 : i ≤ 100000) (hn : 1 < n) (hn2 : n ≤ 1000000000) : ∃ r, laws_at.f l i n = some r ∧ 0 ≤ r ∧ r < n := choice l hl i n hi hi2 hn hn2
/-- What bounds the distance (eight times) and the spread, round by round. -/
def it : Nat → Nat × Nat → Nat × Nat
  | 0, x => x
  | k + 1, x => it k (x.1 - x.1 / 8, x.2 + (x.1 + 7) / 8 - x.2 / 4)
theorem sample_val {s p r b : Int} (h : T true s p b) (h2 : 0 ≤ r ∧ r ≤ 100000) : spec_l16Sample.f true s p b r false = some (true, s + (r - s / 8), p + (max (r - s / 8) (-(r - s / 8)) - p / 4), 0) := by
  obtain ⟨h1, h3, h4, h5⟩ := h
  unfold spec_l16Sample.f
  have e : Int.tdiv s 8 = s / 8 := tdiv_nonneg_eq h3.1
  have e2 : Int.tdiv p 4 = p / 4 := tdiv_nonneg_eq h4.1
  rw [if_neg (by decide), if_pos rfl, e, e2, mx_eq]
  rw [w64 (x := s / 8) (by omega) (by omega), w64 (x := r - s / 8) (by omega) (by omega), w64 (x := -(r - s / 8)) (by omega) (by omega), w64 (x := p / 4) (by omega) (by omega), w64 (x := max (r - s / 8) (-(r - s / 8)) - p / 4) (by omega) (by omega), w64 (by omega) (by omega), w64 (by omega) (by omega)]
theorem loop (d : Nat) : ∀ (k : Nat) (i r s p : Int) (e q : Nat), i = 200 - d → d < k → 0 ≤ r → r ≤ 3000 → 0 ≤ i → T true s p 0 → s - 8 * r ≤ e → -(e : Int) ≤ s - 8 * r → p ≤ q → it d (e, q) = (7, 7) → laws_FnSettles.l0 k r i true s p 0 = some true := by
  induction d with
  | zero =>
    intro k i r s p e q hi hk r0 r1 i0 ht h1 h2 h3 hit
    obtain ⟨k, rfl⟩ : ∃ m, k = m + 1 := ⟨k - 1, by omega⟩
    simp only [it, Prod.mk.injEq] at hit
    obtain ⟨rfl, rfl⟩ := hit
    have hs := ht.2.1
    have hp := ht.2.2.1
    have e8 : Int.tdiv s 8 = s / 8 := tdiv_nonneg_eq hs.1
    simp only [laws_FnSettles.l0]
    rw [if_neg (by omega), (rto_i ht)]
    simp only [Option.bind_some, if_true]
    rw [e8, w64 (x := s / 8) (by omega) (by omega), w64 (x := s / 8 - r) (by omega) (by omega), if_pos (by omega), if_pos (by omega), w64 (x := r + 32) (by omega) (by omega), mx_eq]
    refine congrArg some (decide_eq_true ?_)
    unfold R base
    simp only [if_true, Int.toNat_zero, Int.pow_zero, Int.mul_one]
    omega
  | succ d ih =>
    intro k i r s p e q hi hk r0 r1 i0 ht h1 h2 h3 hit
    obtain ⟨k, rfl⟩ : ∃ m, k = m + 1 := ⟨k - 1, by omega⟩
    simp only [laws_FnSettles.l0]
    obtain ⟨a', s', p', b', e1, ht', e2, e3, hz⟩ := sample_i true s p 0 r false ht (by omega)
    obtain rfl := hz rfl
    rw [sample_val ht (by omega)] at e1
    simp only [Option.some.injEq, Prod.mk.injEq, and_true] at e1
    obtain ⟨rfl, hs', hp'⟩ := e1
    rw [if_pos (by omega), e2, e3]
    simp only [Option.bind_some, if_true, beq_self_eq_true, Bool.not_true, Bool.or_self, Bool.false_eq_true, if_false]
    rw [w64 (x := i + 1) (by omega) (by omega)]
    have hp := ht.2.2.1
    exact ih k (i + 1) r s' p' (e - e / 8) (q + (e + 7) / 8 - q / 4) (by omega) (by omega) r0 r1 (by omega) ht' (by omega) (by omega) (by omega) hit
theorem it199 : it 199 (700000, 700000) = (7, 7) := by decide +kernel
theorem FnSettles : fnSettles.Say := by
  intro l0 l1 ⟨m0, w0⟩ ⟨m1, w1⟩
  refine ⟨1000, ?_⟩
  simp only [laws_FnSettles.f]
  by_cases c0 : (l0.length : Int) > 1048576
  · rw [if_pos c0]; simp only [laws_FnSettles.j0, if_true]
  rw [if_neg c0]
  by_cases c1 : (l1.length : Int) > 1048576
  · rw [decide_eq_true c1]; simp only [laws_FnSettles.j0, if_true]
  rw [decide_eq_false c1]
  simp only [laws_FnSettles.j0]
  rw [if_neg (by decide)]
  obtain ⟨a, s, p, b, e, ht⟩ := timingOf_ok (bs w0) (by omega) 999 (by omega)
  obtain ⟨r, hr, r0, r1⟩ := at_some l1 (bs w1) 0 3000 (by omega) (by omega) (by omega) (by omega)
  rw [e, hr]
  simp only [Option.bind_some]
  obtain ⟨k, hk⟩ : ∃ k, 999 = k + 1 := ⟨998, rfl⟩
  rw [hk]
  simp only [laws_FnSettles.l0]
  obtain ⟨a', s', p', b', e1, ht', e2, e3, hz⟩ := sample_i a s p b r false ht (by omega)
  obtain rfl := hz rfl
  rw [if_pos (by omega), e2, e3]
  simp only [Option.bind_some, if_true, beq_self_eq_true, Bool.not_true, Bool.or_self, Bool.false_eq_true, if_false]
  rw [w64 (x := 0 + 1) (by omega) (by omega)]
  have hs := ht.2.1
  have hp := ht.2.2.1
  cases a with
  | true =>
    rw [sample_val ht (by omega)] at e1
    simp only [Option.some.injEq, Prod.mk.injEq, and_true] at e1
    obtain ⟨rfl, hs', hp'⟩ := e1
    exact loop 199 k (0 + 1) r s' p' 700000 700000 (by omega) (by omega) r0 (by omega) (by omega) ht' (by omega) (by omega) (by omega) it199
  | false =>
    unfold spec_l16Sample.f at e1
    rw [if_neg (by decide), if_neg (by decide), w64 (x := 8 * r) (by omega) (by omega), w64 (x := 2 * r) (by omega) (by omega)] at e1
    simp only [Option.some.injEq, Prod.mk.injEq, and_true] at e1
    obtain ⟨rfl, hs', hp'⟩ := e1
    exact loop 199 k (0 + 1) r s' p' 700000 700000 (by omega) (by omega) r0 (by omega) (by omega) ht' (by omega) (by omega) (by omega) it199
end Go.Proofs.Ytjaheohpgnegoaa.Pure
namespace Go.Proofs.Ytjaheohpgnegoaa
/-- The row. -/
theorem fnSettles_holds : Rows.FnSettlesSaid := fnSettles.row_of Pure.FnSettles
end Go.Proofs.Ytjaheohpgnegoaa
