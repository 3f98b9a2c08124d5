/- The law FnWhen holds. -/
import Derived.Test.YtfjpfjofogbpgaaAid
import Derived.Test.YtfjpfjofogbpgaaSayFnWhen
namespace Go.Proofs.Ytfjpfjofogbpgaa.Pure
set_option linter.unusedSimpArgs false
set_option linter.unusedVariables false
open Go.RowKit Go.Proofs.Ytfjpfjofogbpgaa.PFnWhen Go.Proofs.YtfjpfjofogbpgaaW.PrintWords Go.Proofs.YtfjpfjofogbpgaaW.PrintLast Go.Proofs.YtfjpfjofogbpgaaW.PrintMore Go.Proofs.Ytfjpfjofogbpgaa.Aid
theorem inR (a b c : Int) : impl_inRange.f a b c = some (decide (b ≤ a ∧ a ≤ c)) := by
  unfold impl_inRange.f
  by_cases h : a ≥ b
  · rw [if_pos h]; simp [show b ≤ a from h]
  · rw [if_neg h]; simp; omega
theorem inS (a b c : Int) : spec_l01In.f a b c = some (decide (b ≤ a ∧ a ≤ c)) := by
  unfold spec_l01In.f
  by_cases h : a ≥ b
  · rw [if_pos h]; simp [show b ≤ a from h]
  · rw [if_neg h]; simp; omega
theorem bok_same (a b c d : Int) : impl_BucketOK.f a b c d = spec_BucketOK.f a b c d := rfl
def B (a b c d : Int) : Prop := (0 ≤ a ∧ a ≤ 1000) ∧ (1 ≤ b ∧ b ≤ 10000) ∧ (0 ≤ c ∧ c ≤ b) ∧ (0 ≤ d ∧ d ≤ 1000000)
instance (a b c d : Int) : Decidable (B a b c d) := by unfold B; infer_instance
theorem bok_s (a b c d : Int) : spec_BucketOK.f a b c d = some (decide (B a b c d)) := by
  unfold spec_BucketOK.f B
  simp only [inS, Option.bind_some]
  by_cases h1 : 0 ≤ a ∧ a ≤ 1000
  · by_cases h2 : 1 ≤ b ∧ b ≤ 10000
    · by_cases h3 : 0 ≤ c ∧ c ≤ b
      · simp [h1, h2, h3]
      · simp [h1, h2, h3]
    · simp [h1, h2]
  · simp [h1]
theorem bok_i (a b c d : Int) : impl_BucketOK.f a b c d = some (decide (B a b c d)) := by rw [bok_same, bok_s]
theorem when_same (a b c d n : Int) : impl_BucketWhen.f a b c d n = spec_BucketWhen.f a b c d n := rfl
/-- A source of choices that stands right: its bytes, its place (at most b), its seed. -/
structure Sr (c : List Int) (a s b : Int) : Prop where
  bytes : ∀ x ∈ c, 0 ≤ x ∧ x ≤ 255
  len : (c.length : Int) ≤ 140737488355328
  a0 : 0 ≤ a
  ab : a ≤ b
  bb : b ≤ 1000000000000000
  s0 : 0 ≤ s
  s1 : s < 2147483648
theorem Sr.mono {c : List Int} {a s b b' : Int} (h : Sr c a s b) (h1 : b ≤ b') (h2 : b' ≤ 1000000000000000) : Sr c a s b' := ⟨h.bytes, h.len, h.a0, Int.le_trans h.ab h1, h2, h.s0, h.s1⟩
theorem mod_b {x n : Int} (hx : 0 ≤ x) (hn : 0 < n) : 0 ≤ Int.tmod x n ∧ Int.tmod x n < n := by
  rw [tmod_nonneg_eq hx]; exact ⟨Int.emod_nonneg _ (by omega), Int.emod_lt_of_pos _ hn⟩
theorem byte_ok {c : List Int} {a s b : Int} (h : Sr c a s b) (hb : b ≤ 900000000000000) : ∃ v s', spec_l00Src_byte.f c a s = some (v, a + 1, s') ∧ 0 ≤ v ∧ v ≤ 255 ∧ Sr c (a + 1) s' (b + 1) := by
  obtain ⟨h1, h2, h3, h4, h5, h6, h7⟩ := h
  unfold spec_l00Src_byte.f
  rw [w64 (x := a + 1) (by omega) (by omega)]
  by_cases q : a + 1 ≤ (c.length : Int)
  · rw [if_pos q, w64 (x := a + 1 - 1) (by omega) (by omega), if_pos (by omega), if_pos (by omega)]
    have r := rd_byte h1 (a + 1 - 1)
    generalize rd c (a + 1 - 1) = v at r ⊢
    rw [w64 (x := v) (by omega) (by omega), w64 (x := s * 31) (by omega) (by omega), w64 (x := s * 31 + v) (by omega) (by omega), w64 (x := s * 31 + v + 7) (by omega) (by omega)]
    have m := mod_b (x := s * 31 + v + 7) (n := 2147483648) (by omega) (by omega)
    exact ⟨v, _, rfl, r.1, r.2, ⟨h1, h2, by omega, by omega, by omega, m.1, m.2⟩⟩
  · rw [if_neg q]
    by_cases q2 : a + 1 > 3000
    · rw [if_pos q2]
      exact ⟨0, s, rfl, by omega, by omega, ⟨h1, h2, by omega, by omega, by omega, h6, h7⟩⟩
    · rw [if_neg q2, w64 (x := s * 1103515245) (by omega) (by omega), w64 (x := s * 1103515245 + 12345) (by omega) (by omega)]
      have m := mod_b (x := s * 1103515245 + 12345) (n := 2147483648) (by omega) (by omega)
      generalize Int.tmod (s * 1103515245 + 12345) 2147483648 = s' at m ⊢
      have e : 0 ≤ Int.tdiv s' 65536 ∧ Int.tdiv s' 65536 ≤ 32767 := by rw [tdiv_nonneg_eq m.1]; omega
      rw [w64 (x := Int.tdiv s' 65536) (by omega) (by omega)]
      have m2 := mod_b (x := Int.tdiv s' 65536) (n := 256) e.1 (by omega)
      exact ⟨_, s', rfl, m2.1, by omega, ⟨h1, h2, by omega, by omega, by omega, m.1, m.2⟩⟩
theorem next_ok {c : List Int} {a s b : Int} (h : Sr c a s b) (hb : b ≤ 800000000000000) (n : Int) (hn : 1 ≤ n) (hn2 : n ≤ 10000000) : ∃ v a' s', spec_l00Src_next.f c a s n = some (v, a', s') ∧ 0 ≤ v ∧ v < n ∧ Sr c a' s' (b + 3) := by
  unfold spec_l00Src_next.f
  by_cases q : n ≤ 1
  · rw [if_pos q]; exact ⟨0, a, s, rfl, by omega, by omega, h.mono (by omega) (by omega)⟩
  rw [if_neg q]
  by_cases q2 : n ≤ 256
  · obtain ⟨v, s', e, v0, v1, h'⟩ := byte_ok h (by omega)
    rw [if_pos q2, e]
    simp only [Option.bind_some]
    rw [if_neg (by omega)]
    have m := mod_b (x := v) (n := n) v0 (by omega)
    exact ⟨_, _, _, rfl, m.1, m.2, h'.mono (by omega) (by omega)⟩
  · obtain ⟨v, s1, e1, v0, v1, h1⟩ := byte_ok h (by omega)
    obtain ⟨u, s2, e2, u0, u1, h2⟩ := byte_ok h1 (by omega)
    obtain ⟨t, s3, e3, t0, t1, h3⟩ := byte_ok h2 (by omega)
    rw [if_neg q2, e1]
    simp only [Option.bind_some]
    rw [e2]
    simp only [Option.bind_some]
    rw [e3]
    simp only [Option.bind_some]
    rw [if_neg (by omega), w64 (x := v * 65536) (by omega) (by omega), w64 (x := u * 256) (by omega) (by omega), w64 (x := v * 65536 + u * 256) (by omega) (by omega), w64 (x := v * 65536 + u * 256 + t) (by omega) (by omega)]
    have m := mod_b (x := v * 65536 + u * 256 + t) (n := n) (by omega) (by omega)
    exact ⟨_, _, _, rfl, m.1, m.2, h3.mono (by omega) (by omega)⟩
theorem source_ok {l : List Int} (hl : ∀ x ∈ l, 0 ≤ x ∧ x ≤ 255) (h2 : (l.length : Int) ≤ 140737488355328) : spec_l00Source.f l = some (l, 0, (l.length : Int) % 1000) ∧ Sr l 0 ((l.length : Int) % 1000) 0 :=
  ⟨rfl, ⟨hl, h2, by omega, by omega, by omega, by omega, by omega⟩⟩
theorem at_some (l : List Int) (hl : ∀ x ∈ l, 0 ≤ x ∧ x ≤ 255) (i n : Int) (hi : 0 ≤ i) (hi2 : i ≤ 100000) (hn : 1 < n) (hn2 : n ≤ 1000000000) : ∃ r, laws_at.f l i n = some r ∧ 0 ≤ r ∧ r < n := choice l hl i n hi hi2 hn hn2
theorem rd3 (a b c i : Int) (h0 : 0 ≤ i) (h1 : i < 3) : rd [a, b, c] i = a ∨ rd [a, b, c] i = b ∨ rd [a, b, c] i = c := by
  have : i = 0 ∨ i = 1 ∨ i = 2 := by omega
  rcases this with rfl | rfl | rfl <;> simp [rd]
theorem bucketOf_ok (l : List Int) (hl : ∀ x ∈ l, 0 ≤ x ∧ x ≤ 255) (h2 : (l.length : Int) ≤ 140737488355328) : ∃ a b c d, spec_BucketOf.f l = some (a, b, c, d) ∧ B a b c d := by
  obtain ⟨e, hs⟩ := source_ok hl h2
  obtain ⟨v1, p1, s1, e1, l1, u1, h1⟩ := next_ok hs (by omega) 20 (by omega) (by omega)
  obtain ⟨v2, p2, s2, e2, l2, u2, h2⟩ := next_ok h1 (by omega) 3 (by omega) (by omega)
  obtain ⟨v3, p3, s3, e3, l3, u3, h3⟩ := next_ok h2 (by omega) 5 (by omega) (by omega)
  obtain ⟨v4, p4, s4, e4, l4, u4, h4⟩ := next_ok h3 (by omega) 3 (by omega) (by omega)
  obtain ⟨bu, hbu⟩ : ∃ x, x = rd [1 + v1, 100, 10000] v2 := ⟨_, rfl⟩
  have hb : 1 ≤ bu ∧ bu ≤ 10000 := by have := rd3 (1 + v1) 100 10000 v2 l2 u2; rw [← hbu] at this; omega
  obtain ⟨v5, p5, s5, e5, l5, u5, h5⟩ := next_ok h4 (by omega) (bu + 1) (by omega) (by omega)
  obtain ⟨v6, p6, s6, e6, l6, u6, h6⟩ := next_ok h5 (by omega) 100 (by omega) (by omega)
  obtain ⟨v7, p7, s7, e7, l7, u7, h7⟩ := next_ok h6 (by omega) 20 (by omega) (by omega)
  obtain ⟨v8, p8, s8, e8, l8, u8, h8⟩ := next_ok h7 (by omega) 3 (by omega) (by omega)
  obtain ⟨ra, hra⟩ : ∃ x, x = rd [v3, 0, 1000] v4 := ⟨_, rfl⟩
  have hr : 0 ≤ ra ∧ ra ≤ 1000 := by have := rd3 v3 0 1000 v4 l4 u4; rw [← hra] at this; omega
  obtain ⟨no, hno⟩ : ∃ x, x = rd [0, v6, 1000000 - v7] v8 := ⟨_, rfl⟩
  have hn : 0 ≤ no ∧ no ≤ 1000000 := by have := rd3 0 v6 (1000000 - v7) v8 l8 u8; rw [← hno] at this; omega
  refine ⟨ra, bu, v5, no, ?_, ⟨hr, hb, ⟨l5, by omega⟩, hn⟩⟩
  unfold spec_BucketOf.f
  rw [e, Option.bind_some]
  unfold spec_l00Src_bucket.f
  rw [e1, Option.bind_some, Option.bind_some, e2, Option.bind_some]
  dsimp only
  rw [w64 (x := 1 + v1) (by omega) (by omega), if_pos l2, if_pos (by simpa using u2), e3, Option.bind_some, Option.bind_some, e4, Option.bind_some]
  dsimp only
  rw [if_pos l4, if_pos (by simpa using u4), ← hbu, w64 (x := bu + 1) (by omega) (by omega), e5, Option.bind_some, e6, Option.bind_some, e7, Option.bind_some, Option.bind_some, e8, Option.bind_some]
  dsimp only
  rw [w64 (x := 1000000 - v7) (by omega) (by omega), if_pos l8, if_pos (by simpa using u8), ← hno, ← hra]
  rfl
theorem wait_i (a b c d n : Int) (h : B a b c d) (h1 : 0 ≤ n ∧ n ≤ 1000000 - d) : impl_BucketWait.f a b c d n = some (a, b, min b (c + a * n), d + n, 0) := by
  have hm : 0 ≤ a * n ∧ a * n ≤ 1000 * 1000000 := by
    obtain ⟨⟨x1, x2⟩, _, _, x3⟩ := h
    constructor
    · exact Int.mul_nonneg x1 h1.1
    · exact Int.mul_le_mul x2 (by omega) h1.1 (by omega)
  unfold impl_BucketWait.f
  rw [bok_i, decide_eq_true h, Option.bind_some, if_pos rfl]
  obtain ⟨⟨x1, x2⟩, ⟨x3, x4⟩, ⟨x5, x6⟩, x7, x8⟩ := h
  unfold impl_Bucket_wait.f
  rw [inR, w64 (x := 1000000 - d) (by omega) (by omega), decide_eq_true h1, Option.bind_some, if_pos rfl, w64 (x := a * n) (by omega) (by omega), w64 (x := c + a * n) (by omega) (by omega), w64 (x := d + n) (by omega) (by omega), mn_eq]
  rfl
theorem take_i (a b c d n : Int) (h : B a b c d) (h1 : 0 ≤ n ∧ n ≤ 10000) : impl_BucketTake.f a b c d n = some (if c < n then (a, b, c, d, 15) else (a, b, c - n, d, 0)) := by
  unfold impl_BucketTake.f
  rw [bok_i, decide_eq_true h, Option.bind_some, if_pos rfl]
  obtain ⟨⟨x1, x2⟩, ⟨x3, x4⟩, ⟨x5, x6⟩, x7, x8⟩ := h
  unfold impl_Bucket_take.f
  rw [inR, decide_eq_true h1, Option.bind_some, if_pos rfl]
  by_cases c1 : c < n
  · rw [if_pos c1, if_pos c1]; rfl
  · rw [if_neg c1, if_neg c1, w64 (x := c - n) (by omega) (by omega)]; rfl
theorem FnWhen : fnWhen.Say := by
  intro l0 l1 ⟨m0, w0⟩ ⟨m1, w1⟩
  refine ⟨3, ?_⟩
  simp only [laws_FnWhen.f]
  by_cases c0 : (l0.length : Int) > 1048576
  · rw [if_pos c0]; simp only [laws_FnWhen.j0, if_true]
  rw [if_neg c0]
  by_cases c1 : (l1.length : Int) > 1048576
  · rw [decide_eq_true c1]; simp only [laws_FnWhen.j0, if_true]
  rw [decide_eq_false c1, laws_FnWhen.j0, if_neg (by decide)]
  obtain ⟨a, b, c, d, hb, hB⟩ := bucketOf_ok l0 (bs w0) (by omega)
  have hB' := hB
  obtain ⟨⟨x1, x2⟩, ⟨x3, x4⟩, ⟨x5, x6⟩, x7, x8⟩ := hB'
  obtain ⟨n, hn, n0, n1⟩ := at_some l1 (bs w1) 0 (b + 1) (by omega) (by omega) (by omega) (by omega)
  rw [hb, Option.bind_some]
  dsimp only
  rw [w64 (x := b + 1) (by omega) (by omega), hn, Option.bind_some, when_same]
  have W : spec_BucketWhen.f a b c d n = if n ≤ c then some (0, 0) else if a = 0 then some (0, 5) else if (n - c + a - 1) / a > 1000000 - d then some (0, 5) else some ((n - c + a - 1) / a, 0) := by
    unfold spec_BucketWhen.f
    rw [bok_s, decide_eq_true hB, Option.bind_some, if_pos rfl, inS, decide_eq_true (by omega), Option.bind_some, if_pos rfl]
    by_cases k1 : n ≤ c
    · rw [if_pos k1, if_pos k1]
    · rw [if_neg k1, if_neg k1]
      by_cases k2 : a = 0
      · rw [if_pos k2, if_pos k2]
      · have q0 : 0 ≤ (n - c + a - 1) / a := Int.ediv_nonneg (by omega) (by omega)
        have q1 : (n - c + a - 1) / a ≤ n - c + a - 1 := Int.ediv_le_self _ (by omega)
        rw [if_neg k2, if_neg k2, w64 (x := n - c) (by omega) (by omega), w64 (x := n - c + a) (by omega) (by omega), w64 (x := n - c + a - 1) (by omega) (by omega), tdiv_nonneg_eq (by omega), w64 (x := (n - c + a - 1) / a) (by omega) (by omega), w64 (x := 1000000 - d) (by omega) (by omega)]
  have five : ∀ t n, laws_FnWhen.j1 2 n t 5 false a b c d = some true := by
    intro t n; rw [laws_FnWhen.j1, if_neg (by decide), if_neg (by decide)]; rfl
  have zero : ∀ t, 0 ≤ t → t ≤ 1000000 - d → n ≤ c + a * t → (t = 0 ∨ c + a * (t - 1) < n) → laws_FnWhen.j1 2 n t 0 false a b c d = some true := by
    intro t t0 t1 t2 t3
    have hm : 0 ≤ a * t := Int.mul_nonneg x1 t0
    rw [laws_FnWhen.j1, if_neg (by decide), if_pos rfl, wait_i a b c d t hB ⟨t0, t1⟩, Option.bind_some]
    dsimp only
    rw [take_i a b _ _ n ⟨⟨x1, x2⟩, ⟨x3, x4⟩, ⟨by omega, by omega⟩, by omega, by omega⟩ ⟨n0, by omega⟩, Option.bind_some, if_neg (show ¬ min b (c + a * t) < n by omega)]
    simp only [if_true]
    rw [w64 (x := min b (c + a * t) - n) (by omega) (by omega)]
    rw [laws_FnWhen.j2, if_neg (by simp)]
    by_cases tz : t = 0
    · rw [if_pos tz]
    · rw [if_neg tz, w64 (x := t - 1) (by omega) (by omega), wait_i a b c d (t - 1) hB ⟨by omega, by omega⟩, Option.bind_some]
      have hm2 : 0 ≤ a * (t - 1) := Int.mul_nonneg x1 (by omega)
      dsimp only
      rw [take_i a b _ _ n ⟨⟨x1, x2⟩, ⟨x3, x4⟩, ⟨by omega, by omega⟩, by omega, by omega⟩ ⟨n0, by omega⟩, Option.bind_some, if_pos (show min b (c + a * (t - 1)) < n by omega)]
      rfl
  rw [W]
  by_cases k1 : n ≤ c
  · rw [if_pos k1, Option.bind_some, Option.bind_some]
    simp only [if_true, bne_self_eq_false]
    exact zero 0 (by omega) (by omega) (by omega) (Or.inl rfl)
  rw [if_neg k1]
  by_cases k2 : a = 0
  · rw [if_pos k2, Option.bind_some, Option.bind_some]
    simp only [if_true, bne_self_eq_false]
    exact five 0 n
  rw [if_neg k2]
  have q0 : 0 ≤ (n - c + a - 1) / a := Int.ediv_nonneg (by omega) (by omega)
  have qm := Int.emod_add_mul_ediv (n - c + a - 1) a
  have qr := Int.emod_lt_of_pos (n - c + a - 1) (show 0 < a by omega)
  have qs := Int.emod_nonneg (n - c + a - 1) k2
  generalize (n - c + a - 1) / a = t at *
  generalize (n - c + a - 1) % a = m at *
  by_cases k3 : t > 1000000 - d
  · rw [if_pos k3, Option.bind_some, Option.bind_some]
    simp only [if_true, bne_self_eq_false]
    exact five 0 n
  rw [if_neg k3, Option.bind_some, Option.bind_some]
  simp only [if_true, bne_self_eq_false]
  exact zero t q0 (by omega) (by omega) (Or.inr (by rw [Int.mul_sub, Int.mul_one]; omega))
end Go.Proofs.Ytfjpfjofogbpgaa.Pure
namespace Go.Proofs.Ytfjpfjofogbpgaa
/-- The row. -/
theorem fnWhen_holds : Rows.FnWhenSaid := fnWhen.row_of Pure.FnWhen
end Go.Proofs.Ytfjpfjofogbpgaa
