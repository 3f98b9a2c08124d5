/- The statement FnEnvelope holds: what passes a bucket in any stretch of a run is never more than its burst and what the rate yields in the ticks waited. -/
import Derived.Test.YtfjpfjofogbpgaaAid
import Derived.Test.YtfjpfjofogbpgaaSayFnEnvelope
namespace Go.Proofs.Ytfjpfjofogbpgaa.Pure
set_option linter.unusedSimpArgs false
set_option linter.unusedVariables false
open Go.RowKit Go.Proofs.Ytfjpfjofogbpgaa.PFnEnvelope Go.Proofs.YtfjpfjofogbpgaaW.PrintWords Go.Proofs.YtfjpfjofogbpgaaW.PrintLast Go.Proofs.YtfjpfjofogbpgaaW.PrintMore Go.Proofs.Ytfjpfjofogbpgaa.Aid
theorem inR (a b c : Int) : impl_inRange.f a b c = some (decide (b ≤ a ∧ a ≤ c)) := by
  unfold impl_inRange.f
  by_cases h : a ≥ b
  · rw [if_pos h]; simp [show b ≤ a from h]
  · rw [if_neg h]; simp; omega
theorem inS (a b c : Int) : spec_l01In.f a b c = some (decide (b ≤ a ∧ a ≤ c)) := by
  unfold spec_l01In.f
  by_cases h : a ≥ b
  · rw [if_pos h]; simp [show b ≤ a from h]
  · rw [if_neg h]; simp; omega
theorem bok_same (a b c d : Int) : impl_BucketOK.f a b c d = spec_BucketOK.f a b c d := rfl
def B (a b c d : Int) : Prop := (0 ≤ a ∧ a ≤ 1000) ∧ (1 ≤ b ∧ b ≤ 10000) ∧ (0 ≤ c ∧ c ≤ b) ∧ (0 ≤ d ∧ d ≤ 1000000)
instance (a b c d : Int) : Decidable (B a b c d) := by unfold B; infer_instance
theorem bok_s (a b c d : Int) : spec_BucketOK.f a b c d = some (decide (B a b c d)) := by
  unfold spec_BucketOK.f B
  simp only [inS, Option.bind_some]
  by_cases h1 : 0 ≤ a ∧ a ≤ 1000
  · by_cases h2 : 1 ≤ b ∧ b ≤ 10000
    · by_cases h3 : 0 ≤ c ∧ c ≤ b
      · simp [h1, h2, h3]
      · simp [h1, h2, h3]
    · simp [h1, h2]
  · simp [h1]
theorem bok_i (a b c d : Int) : impl_BucketOK.f a b c d = some (decide (B a b c d)) := by rw [bok_same, bok_s]
theorem ww (i : Nat) (h : i < 4000000000000000000) : wrap64 ((i : Int) + 1) = ((i + 1 : Nat) : Int) := by rw [w64 (by omega) (by omega)]; simp
theorem rd43 {l : List S47} {i : Nat} (h : i < l.length) : rd_T47 l (i : Int) = l[i] := by simp [rd_T47, List.getD_eq_getElem?_getD, h]
theorem set_mid {α : Type} (A R : List α) (z v : α) : (A ++ z :: R).set A.length v = A ++ v :: R := by
  simp [List.set_append]
theorem rdi {l : List Int} {i : Nat} (h : i < l.length) : rd l (i : Int) = l[i] := by simp [rd, List.getD_eq_getElem?_getD, h]
/-- A source of choices that stands right: its bytes, its place (at most b), its seed. -/
structure Sr (c : List Int) (a s b : Int) : Prop where
  bytes : ∀ x ∈ c, 0 ≤ x ∧ x ≤ 255
  len : (c.length : Int) ≤ 140737488355328
  a0 : 0 ≤ a
  ab : a ≤ b
  bb : b ≤ 1000000000000000
  s0 : 0 ≤ s
  s1 : s < 2147483648
theorem Sr.mono {c : List Int} {a s b b' : Int} (h : Sr c a s b) (h1 : b ≤ b') (h2 : b' ≤ 1000000000000000) : Sr c a s b' := ⟨h.bytes, h.len, h.a0, Int.le_trans h.ab h1, h2, h.s0, h.s1⟩
theorem mod_b {x n : Int} (hx : 0 ≤ x) (hn : 0 < n) : 0 ≤ Int.tmod x n ∧ Int.tmod x n < n := by
  rw [tmod_nonneg_eq hx]; exact ⟨Int.emod_nonneg _ (by omega), Int.emod_lt_of_pos _ hn⟩
theorem byte_ok {c : List Int} {a s b : Int} (h : Sr c a s b) (hb : b ≤ 900000000000000) : ∃ v s', spec_l00Src_byte.f c a s = some (v, a + 1, s') ∧ 0 ≤ v ∧ v ≤ 255 ∧ Sr c (a + 1) s' (b + 1) := by
  obtain ⟨h1, h2, h3, h4, h5, h6, h7⟩ := h
  unfold spec_l00Src_byte.f
  rw [w64 (x := a + 1) (by omega) (by omega)]
  by_cases q : a + 1 ≤ (c.length : Int)
  · rw [if_pos q, w64 (x := a + 1 - 1) (by omega) (by omega), if_pos (by omega), if_pos (by omega)]
    have r := rd_byte h1 (a + 1 - 1)
    generalize rd c (a + 1 - 1) = v at r ⊢
    rw [w64 (x := v) (by omega) (by omega), w64 (x := s * 31) (by omega) (by omega), w64 (x := s * 31 + v) (by omega) (by omega), w64 (x := s * 31 + v + 7) (by omega) (by omega)]
    have m := mod_b (x := s * 31 + v + 7) (n := 2147483648) (by omega) (by omega)
    exact ⟨v, _, rfl, r.1, r.2, ⟨h1, h2, by omega, by omega, by omega, m.1, m.2⟩⟩
  · rw [if_neg q]
    by_cases q2 : a + 1 > 3000
    · rw [if_pos q2]
      exact ⟨0, s, rfl, by omega, by omega, ⟨h1, h2, by omega, by omega, by omega, h6, h7⟩⟩
    · rw [if_neg q2, w64 (x := s * 1103515245) (by omega) (by omega), w64 (x := s * 1103515245 + 12345) (by omega) (by omega)]
      have m := mod_b (x := s * 1103515245 + 12345) (n := 2147483648) (by omega) (by omega)
      generalize Int.tmod (s * 1103515245 + 12345) 2147483648 = s' at m ⊢
      have e : 0 ≤ Int.tdiv s' 65536 ∧ Int.tdiv s' 65536 ≤ 32767 := by rw [tdiv_nonneg_eq m.1]; omega
      rw [w64 (x := Int.tdiv s' 65536) (by omega) (by omega)]
      have m2 := mod_b (x := Int.tdiv s' 65536) (n := 256) e.1 (by omega)
      exact ⟨_, s', rfl, m2.1, by omega, ⟨h1, h2, by omega, by omega, by omega, m.1, m.2⟩⟩
theorem next_ok {c : List Int} {a s b : Int} (h : Sr c a s b) (hb : b ≤ 800000000000000) (n : Int) (hn : 1 ≤ n) (hn2 : n ≤ 10000000) : ∃ v a' s', spec_l00Src_next.f c a s n = some (v, a', s') ∧ 0 ≤ v ∧ v < n ∧ Sr c a' s' (b + 3) := by
  unfold spec_l00Src_next.f
  by_cases q : n ≤ 1
  · rw [if_pos q]; exact ⟨0, a, s, rfl, by omega, by omega, h.mono (by omega) (by omega)⟩
  rw [if_neg q]
  by_cases q2 : n ≤ 256
  · obtain ⟨v, s', e, v0, v1, h'⟩ := byte_ok h (by omega)
    rw [if_pos q2, e]
    simp only [Option.bind_some]
    rw [if_neg (by omega)]
    have m := mod_b (x := v) (n := n) v0 (by omega)
    exact ⟨_, _, _, rfl, m.1, m.2, h'.mono (by omega) (by omega)⟩
  · obtain ⟨v, s1, e1, v0, v1, h1⟩ := byte_ok h (by omega)
    obtain ⟨u, s2, e2, u0, u1, h2⟩ := byte_ok h1 (by omega)
    obtain ⟨t, s3, e3, t0, t1, h3⟩ := byte_ok h2 (by omega)
    rw [if_neg q2, e1]
    simp only [Option.bind_some]
    rw [e2]
    simp only [Option.bind_some]
    rw [e3]
    simp only [Option.bind_some]
    rw [if_neg (by omega), w64 (x := v * 65536) (by omega) (by omega), w64 (x := u * 256) (by omega) (by omega), w64 (x := v * 65536 + u * 256) (by omega) (by omega), w64 (x := v * 65536 + u * 256 + t) (by omega) (by omega)]
    have m := mod_b (x := v * 65536 + u * 256 + t) (n := n) (by omega) (by omega)
    exact ⟨_, _, _, rfl, m.1, m.2, h3.mono (by omega) (by omega)⟩
theorem source_ok {l : List Int} (hl : ∀ x ∈ l, 0 ≤ x ∧ x ≤ 255) (h2 : (l.length : Int) ≤ 140737488355328) : spec_l00Source.f l = some (l, 0, (l.length : Int) % 1000) ∧ Sr l 0 ((l.length : Int) % 1000) 0 :=
  ⟨rfl, ⟨hl, h2, by omega, by omega, by omega, by omega, by omega⟩⟩
theorem chance_ok {c : List Int} {a s b : Int} (h : Sr c a s b) (hb : b ≤ 800000000000000) (n : Int) (hn : 1 ≤ n) (hn2 : n ≤ 10000000) : ∃ v a' s', spec_l00Src_chance.f c a s n = some (v, a', s') ∧ Sr c a' s' (b + 3) := by
  obtain ⟨v, a', s', e, v0, v1, h'⟩ := next_ok h hb n hn hn2
  unfold spec_l00Src_chance.f
  rw [e]
  exact ⟨_, a', s', rfl, h'⟩
theorem rd3 (a b c i : Int) (h0 : 0 ≤ i) (h1 : i < 3) : rd [a, b, c] i = a ∨ rd [a, b, c] i = b ∨ rd [a, b, c] i = c := by
  have : i = 0 ∨ i = 1 ∨ i = 2 := by omega
  rcases this with rfl | rfl | rfl <;> simp [rd]
theorem bucketOf_ok (l : List Int) (hl : ∀ x ∈ l, 0 ≤ x ∧ x ≤ 255) (h2 : (l.length : Int) ≤ 140737488355328) : ∃ a b c d, spec_BucketOf.f l = some (a, b, c, d) ∧ B a b c d := by
  obtain ⟨e, hs⟩ := source_ok hl h2
  obtain ⟨v1, p1, s1, e1, l1, u1, h1⟩ := next_ok hs (by omega) 20 (by omega) (by omega)
  obtain ⟨v2, p2, s2, e2, l2, u2, h2⟩ := next_ok h1 (by omega) 3 (by omega) (by omega)
  obtain ⟨v3, p3, s3, e3, l3, u3, h3⟩ := next_ok h2 (by omega) 5 (by omega) (by omega)
  obtain ⟨v4, p4, s4, e4, l4, u4, h4⟩ := next_ok h3 (by omega) 3 (by omega) (by omega)
  obtain ⟨bu, hbu⟩ : ∃ x, x = rd [1 + v1, 100, 10000] v2 := ⟨_, rfl⟩
  have hb : 1 ≤ bu ∧ bu ≤ 10000 := by have := rd3 (1 + v1) 100 10000 v2 l2 u2; rw [← hbu] at this; omega
  obtain ⟨v5, p5, s5, e5, l5, u5, h5⟩ := next_ok h4 (by omega) (bu + 1) (by omega) (by omega)
  obtain ⟨v6, p6, s6, e6, l6, u6, h6⟩ := next_ok h5 (by omega) 100 (by omega) (by omega)
  obtain ⟨v7, p7, s7, e7, l7, u7, h7⟩ := next_ok h6 (by omega) 20 (by omega) (by omega)
  obtain ⟨v8, p8, s8, e8, l8, u8, h8⟩ := next_ok h7 (by omega) 3 (by omega) (by omega)
  obtain ⟨ra, hra⟩ : ∃ x, x = rd [v3, 0, 1000] v4 := ⟨_, rfl⟩
  have hr : 0 ≤ ra ∧ ra ≤ 1000 := by have := rd3 v3 0 1000 v4 l4 u4; rw [← hra] at this; omega
  obtain ⟨no, hno⟩ : ∃ x, x = rd [0, v6, 1000000 - v7] v8 := ⟨_, rfl⟩
  have hn : 0 ≤ no ∧ no ≤ 1000000 := by have := rd3 0 v6 (1000000 - v7) v8 l8 u8; rw [← hno] at this; omega
  refine ⟨ra, bu, v5, no, ?_, ⟨hr, hb, ⟨l5, by omega⟩, hn⟩⟩
  unfold spec_BucketOf.f
  rw [e, Option.bind_some]
  unfold spec_l00Src_bucket.f
  rw [e1, Option.bind_some, Option.bind_some, e2, Option.bind_some]
  dsimp only
  rw [w64 (x := 1 + v1) (by omega) (by omega), if_pos l2, if_pos (by simpa using u2), e3, Option.bind_some, Option.bind_some, e4, Option.bind_some]
  dsimp only
  rw [if_pos l4, if_pos (by simpa using u4), ← hbu, w64 (x := bu + 1) (by omega) (by omega), e5, Option.bind_some, e6, Option.bind_some, e7, Option.bind_some, Option.bind_some, e8, Option.bind_some]
  dsimp only
  rw [w64 (x := 1000000 - v7) (by omega) (by omega), if_pos l8, if_pos (by simpa using u8), ← hno, ← hra]
  rfl
theorem same_l0 (l : List Int) (hl : l.length ≤ 2000000) (d : Nat) : ∀ (k i : Nat), l.length = i + d → d < k → laws_sameInts.l0 k l l (i : Int) = some true := by
  induction d with
  | zero =>
    intro k i hi hk
    obtain ⟨k, rfl⟩ : ∃ m, k = m + 1 := ⟨k - 1, by omega⟩
    simp only [laws_sameInts.l0]
    rw [if_neg (by omega)]
  | succ d ih =>
    intro k i hi hk
    obtain ⟨k, rfl⟩ : ∃ m, k = m + 1 := ⟨k - 1, by omega⟩
    simp only [laws_sameInts.l0, if_true]
    rw [if_pos (by omega), if_pos (by omega), if_pos (by omega), ww i (by omega)]
    exact ih k (i + 1) (by omega) (by omega)
theorem same_ok (l : List Int) (hl : l.length ≤ 2000000) (k : Nat) (hk : l.length < k) : laws_sameInts.f k l l = some true := by
  unfold laws_sameInts.f
  rw [if_pos rfl]
  exact same_l0 l hl l.length k 0 (by omega) hk
def cnt (q : Int) : List Int → Nat
  | [] => 0
  | x :: r => (if x = q then 1 else 0) + cnt q r
def Act (x : S47) : Prop := (x.f0 = 1 ∧ 0 ≤ x.f1 ∧ x.f1 ≤ 149) ∨ (x.f0 = 2 ∧ 0 ≤ x.f1 ∧ x.f1 ≤ 8)
theorem acts_l0 {c : List Int} (m : Nat) : ∀ (xs : List S47) (a s b : Int) (k : Nat), Sr c a s b → b + 20 * m ≤ 700000000000000 → 2 * m + 2 ≤ k → xs.length + m ≤ 40 → (∀ x ∈ xs, Act x) →
    ∃ ys a' s', spec_l00Src_bucketActs.l0 k xs (m : Int) c a s = some (ys, a', s') ∧ ys.length ≤ 40 ∧ ∀ x ∈ ys, Act x := by
  induction m with
  | zero =>
    intro xs a s b k h hb hk hx hA
    obtain ⟨k, rfl⟩ : ∃ m, k = m + 2 := ⟨k - 2, by omega⟩
    rw [spec_l00Src_bucketActs.l0, if_neg (by omega), spec_l00Src_bucketActs.j1, if_neg (by decide)]
    exact ⟨xs, a, s, rfl, by omega, hA⟩
  | succ m ih =>
    intro xs a s b k h hb hk hx hA
    obtain ⟨k, rfl⟩ : ∃ m, k = m + 2 := ⟨k - 2, by omega⟩
    rw [spec_l00Src_bucketActs.l0, if_pos (by omega), decide_eq_true (by omega), spec_l00Src_bucketActs.j1, if_pos rfl]
    obtain ⟨v, a1, s1, e1, h1⟩ := chance_ok h (by omega) 3 (by omega) (by omega)
    rw [e1, Option.bind_some]
    dsimp only
    rw [w64 (x := ((m + 1 : Nat) : Int) - 1) (by omega) (by omega), show ((m + 1 : Nat) : Int) - 1 = (m : Int) by omega]
    by_cases q : v = true
    · obtain ⟨v2, a2, s2, e2, l2, u2, h2⟩ := next_ok h1 (by omega) 9 (by omega) (by omega)
      rw [if_pos q, e2, Option.bind_some]
      dsimp only
      rw [if_pos (by omega)]
      exact ih _ a2 s2 (b + 3 + 3) k h2 (by omega) (by omega) (by simp; omega) (by
        intro x hx; rw [List.mem_append, List.mem_singleton] at hx
        rcases hx with hx | rfl
        · exact hA x hx
        · exact Or.inr ⟨rfl, l2, by dsimp only; omega⟩)
    · obtain ⟨v2, a2, s2, e2, l2, u2, h2⟩ := next_ok h1 (by omega) 12 (by omega) (by omega)
      obtain ⟨v3, a3, s3, e3, l3, u3, h3⟩ := next_ok h2 (by omega) 150 (by omega) (by omega)
      obtain ⟨v4, a4, s4, e4, l4, u4, h4⟩ := next_ok h3 (by omega) 3 (by omega) (by omega)
      rw [if_neg q, e2, Option.bind_some]
      dsimp only
      rw [e3, Option.bind_some]
      dsimp only
      rw [Option.bind_some, e4, Option.bind_some]
      dsimp only
      rw [if_pos l4, if_pos (by simpa using u4), if_pos (by omega)]
      have r3 := rd3 1 v2 v3 v4 l4 u4
      generalize rd [1, v2, v3] v4 = n at *
      exact ih _ a4 s4 (b + 3 + 3 + 3 + 3) k h4 (by omega) (by omega) (by simp; omega) (by
        intro x hx; rw [List.mem_append, List.mem_singleton] at hx
        rcases hx with hx | rfl
        · exact hA x hx
        · exact Or.inl ⟨rfl, by dsimp only; omega, by dsimp only; omega⟩)
theorem actsOf_ok (l : List Int) (hl : ∀ x ∈ l, 0 ≤ x ∧ x ≤ 255) (h2 : (l.length : Int) ≤ 140737488355328) (k : Nat) (hk : 100 ≤ k) : ∃ ys, spec_BucketActsOf.f k l = some ys ∧ ys.length ≤ 40 ∧ ∀ x ∈ ys, Act x := by
  obtain ⟨e, hs⟩ := source_ok hl h2
  unfold spec_BucketActsOf.f
  rw [e, Option.bind_some]
  dsimp only
  unfold spec_l00Src_bucketActs.f spec_l00Src_size.f
  rw [Option.bind_some]
  dsimp only
  rw [w64 (x := (l.length : Int) / 12) (by omega) (by omega), w64 (x := 1 + (l.length : Int) / 12) (by omega) (by omega), mn_eq]
  obtain ⟨n, hn⟩ : ∃ n, n = min (1 + (l.length : Int) / 12) 30 := ⟨_, rfl⟩
  rw [← hn, w64 (x := n + 3) (by omega) (by omega)]
  obtain ⟨v, a1, s1, e1, l1, u1, h1⟩ := next_ok hs (by omega) (n + 3) (by omega) (by omega)
  rw [e1, Option.bind_some]
  dsimp only
  obtain ⟨m, rfl⟩ : ∃ m : Nat, v = (m : Int) := ⟨v.toNat, by omega⟩
  obtain ⟨ys, a', s', ey, hy, hA⟩ := acts_l0 m [] a1 s1 (0 + 3) k h1 (by omega) (by omega) (by simp; omega) (by simp)
  rw [ey, Option.bind_some]
  exact ⟨ys, rfl, hy, hA⟩
def Good (a b : Int) : List S47 → List Int → Int → Prop
  | [], _, _ => True
  | x :: xs, r :: rs, c => ∃ c', 0 ≤ c' ∧ c' ≤ b ∧ (r = 0 → x.f0 = 1 → c' = c - x.f1) ∧ (r = 0 → x.f0 ≠ 1 → c' ≤ c + a * x.f1) ∧ (r ≠ 0 → c' ≤ c) ∧ Good a b xs rs c'
  | _ :: _, [], _ => False
theorem step_g (a b c e : Int) (hB : B a b c e) (x : S47) (hx : Act x) : ∃ c' e' r, B a b c' e' ∧ spec_l10Step.f a b c e x.f0 x.f1 = some (a, b, c', e', r) ∧ (x.f0 = 1 → impl_Bucket_take.f a b c e x.f1 = some (r, a, b, c', e')) ∧ (x.f0 = 2 → impl_Bucket_wait.f a b c e x.f1 = some (r, a, b, c', e')) ∧
    (r = 0 → x.f0 = 1 → c' = c - x.f1) ∧ (r = 0 → x.f0 ≠ 1 → c' ≤ c + a * x.f1) ∧ (r ≠ 0 → c' ≤ c) := by
  obtain ⟨k, n⟩ := x
  have hB' := hB
  obtain ⟨⟨x1, x2⟩, ⟨x3, x4⟩, ⟨x5, x6⟩, x7, x8⟩ := hB'
  unfold Act at hx
  unfold spec_l10Step.f spec_l10Take.f spec_l10Wait.f impl_Bucket_take.f impl_Bucket_wait.f
  dsimp only at hx ⊢
  rw [inS, inS, inR, inR]
  simp only [Option.bind_some]
  rcases hx with ⟨rfl, n0, n1⟩ | ⟨rfl, n0, n1⟩
  · have h : 0 ≤ n ∧ n ≤ 10000 := by omega
    by_cases h3 : c < n
    · exact ⟨c, e, 15, hB, by simp [h, show n > c from h3], by simp [h, h3], by simp, by simp, by simp, by simp⟩
    · rw [w64 (x := c - n) (by omega) (by omega)]
      exact ⟨c - n, e, 0, ⟨⟨x1, x2⟩, ⟨x3, x4⟩, ⟨by omega, by omega⟩, x7, x8⟩, by simp [h, show ¬ n > c from h3], by simp [h, h3], by simp, by simp, by simp, by simp⟩
  · have hm : 0 ≤ a * n ∧ a * n ≤ 1000 * 8 := ⟨Int.mul_nonneg x1 n0, Int.mul_le_mul x2 n1 n0 (by omega)⟩
    rw [w64 (x := 1000000 - e) (by omega) (by omega), w64 (x := a * n) (by omega) (by omega), w64 (x := c + a * n) (by omega) (by omega), w64 (x := e + n) (by omega) (by omega), mn_eq]
    by_cases h : 0 ≤ n ∧ n ≤ 1000000 - e
    · exact ⟨min b (c + a * n), e + n, 0, ⟨⟨x1, x2⟩, ⟨x3, x4⟩, ⟨by omega, by omega⟩, by omega, by omega⟩, by simp [h], by simp, by simp [h], by simp, fun _ _ => by omega, by simp⟩
    · exact ⟨c, e, 4, hB, by simp [h], by simp, by simp [h], by simp, by simp, by simp⟩
theorem run_g (l : List S47) (hl : l.length ≤ 40) (hA : ∀ x ∈ l, Act x) (a b : Int) (d : Nat) : ∀ (i : Nat) (o : List Int) (c e : Int), l.length = i + d → o.length = i → B a b c e → ∃ c' e' rs, rs.length = d ∧ Good a b (l.drop i) rs c ∧ ∀ k, d < k →
    spec_BucketRun.l0 k l o (i : Int) a b c e = some (a, b, c', e', o ++ rs, 0) ∧ impl_BucketRun.l0 k (o ++ List.replicate d 0) l (l.length : Int) (i : Int) a b c e = some (a, b, c', e', o ++ rs, 0) := by
  induction d with
  | zero =>
    intro i o c e hi ho hB
    refine ⟨c, e, [], rfl, ?_, fun k hk => ?_⟩
    · rw [List.drop_of_length_le (by omega)]; exact trivial
    obtain ⟨k, rfl⟩ : ∃ m, k = m + 1 := ⟨k - 1, by omega⟩
    rw [spec_BucketRun.l0, impl_BucketRun.l0, if_neg (by omega), if_neg (by omega)]
    simp
  | succ d ih =>
    intro i o c e hi ho hB
    have hi' : i < l.length := by omega
    have hx : Act l[i] := hA _ (List.getElem_mem hi')
    obtain ⟨c1, e1, r, hB1, s1, s2, s3, g1, g2, g3⟩ := step_g a b c e hB l[i] hx
    obtain ⟨c', e', rs, ol, og, oe⟩ := ih (i + 1) (o ++ [r]) c1 e1 (by omega) (by simp; omega) hB1
    refine ⟨c', e', r :: rs, by simp [ol], ?_, fun k hk => ?_⟩
    · rw [List.drop_eq_getElem_cons hi']
      exact ⟨c1, hB1.2.2.1.1, hB1.2.2.1.2, g1, g2, g3, og⟩
    obtain ⟨k, rfl⟩ : ∃ m, k = m + 1 := ⟨k - 1, by omega⟩
    have oe' := oe k (by omega)
    rw [List.append_assoc, List.singleton_append] at oe'
    have es : (o ++ List.replicate (d + 1) (0 : Int)).set i r = (o ++ [r]) ++ List.replicate d 0 := by
      have := set_mid o (List.replicate d (0 : Int)) 0 r
      rw [ho] at this
      rw [List.replicate_succ, this]; simp
    have hlen : (i : Int) < ((o ++ List.replicate (d + 1) (0 : Int)).length : Int) := by simp; omega
    constructor
    · rw [spec_BucketRun.l0, if_pos (by omega), if_pos (by omega), rd43 hi', s1, Option.bind_some, if_pos (by omega), ww i (by omega)]
      exact oe'.1
    · rw [impl_BucketRun.l0, if_pos (by omega), if_pos (by omega), if_pos (by omega), rd43 hi', ww i (by omega)]
      rcases hx with ⟨k1, _⟩ | ⟨k1, _⟩
      · rw [if_pos k1, s2 k1, Option.bind_some, if_pos hlen, Int.toNat_natCast, es]; exact oe'.2
      · rw [if_neg (by omega), if_pos k1, s3 k1, Option.bind_some, if_pos hlen, Int.toNat_natCast, es]; exact oe'.2
theorem runs (a b c e : Int) (hB : B a b c e) (l : List S47) (hl : l.length ≤ 40) (hA : ∀ x ∈ l, Act x) : ∃ c' e' o, o.length = l.length ∧ Good a b l o c ∧ ∀ k, 50 ≤ k → impl_BucketRun.f k a b c e l = some (a, b, c', e', o, 0) ∧ spec_BucketRun.f k a b c e l = some (a, b, c', e', o, 0) := by
  obtain ⟨c', e', o, ol, og, oe⟩ := run_g l hl hA a b l.length 0 [] c e (by omega) rfl hB
  refine ⟨c', e', o, ol, og, fun k hk => ?_⟩
  have := oe k (by omega)
  rw [List.nil_append, List.nil_append] at this
  unfold impl_BucketRun.f spec_BucketRun.f impl_NewBucket.f
  have q1 : ¬ (l.length : Int) > 4096 := by omega
  have q2 : ¬ (l.length : Int) > 300 := by omega
  rw [Option.bind_some, if_neg q1, if_neg q1, bok_i, bok_s, decide_eq_true hB, Option.bind_some, Option.bind_some, if_pos rfl, if_pos rfl, if_neg q2, if_neg q2, if_pos (by omega), if_pos (by omega), Int.toNat_natCast]
  exact ⟨this.2, this.1⟩
theorem good_drop (a b : Int) (i : Nat) : ∀ (l : List S47) (o : List Int) (c : Int), Good a b l o c → c ≤ b → ∃ c', c' ≤ b ∧ Good a b (l.drop i) (o.drop i) c' := by
  induction i with
  | zero => intro l o c h hc; exact ⟨c, hc, h⟩
  | succ i ih =>
    intro l o c h hc
    cases l with
    | nil => exact ⟨c, hc, by simp [Good]⟩
    | cons x xs =>
      cases o with
      | nil => exact h.elim
      | cons r rs =>
        obtain ⟨c', h0, h1, _, _, _, h2⟩ := h
        exact ih xs rs c' h2 h1
theorem env_l1 (l : List S47) (o : List Int) (hl : l.length ≤ 40) (ho : o.length = l.length) (hA : ∀ x ∈ l, Act x) (a b c0 e : Int) (ha : 0 ≤ a ∧ a ≤ 1000) (hb : 1 ≤ b ∧ b ≤ 10000) (i : Int) (d : Nat) : ∀ (j : Nat) (p t c : Int) (k : Nat), l.length = j + d → Good a b (l.drop j) (o.drop j) c → 0 ≤ p → p ≤ 149 * j → 0 ≤ t → t ≤ 8 * j → p + c ≤ b + a * t →
    laws_FnEnvelope.l1 (k + d + 1) l o i p t (j : Int) a b c0 e = laws_FnEnvelope.l0 k l o (wrap64 (i + 1)) a b c0 e := by
  induction d with
  | zero =>
    intro j p t c k hj hg p0 p1 t0 t1 hp
    rw [laws_FnEnvelope.l1, if_neg (by omega)]
  | succ d ih =>
    intro j p t c k hj hg p0 p1 t0 t1 hp
    have hj' : j < l.length := by omega
    have hj2 : j < o.length := by omega
    have hx : Act l[j] := hA _ (List.getElem_mem hj')
    rw [List.drop_eq_getElem_cons hj', List.drop_eq_getElem_cons hj2] at hg
    obtain ⟨c', q0, q1, g1, g2, g3, g4⟩ := hg
    have hm : 0 ≤ a * t ∧ a * t ≤ 1000 * 320 := ⟨Int.mul_nonneg ha.1 t0, Int.mul_le_mul ha.2 (by omega) t0 (by omega)⟩
    rw [show k + (d + 1) + 1 = (k + d + 1) + 1 by omega, laws_FnEnvelope.l1, if_pos (by omega), if_pos (by omega), if_pos (by omega), rdi hj2, rd43 hj', ww j (by omega)]
    generalize l[j] = x at *
    generalize o[j] = r at *
    by_cases hr : r = 0
    · rw [if_pos hr]
      rcases hx with ⟨k1, n0, n1⟩ | ⟨k1, n0, n1⟩
      · have g := g1 hr k1
        rw [if_pos k1, w64 (x := p + x.f1) (by omega) (by omega), w64 (x := a * t) (by omega) (by omega), w64 (x := b + a * t) (by omega) (by omega), if_neg (by omega)]
        exact ih (j + 1) (p + x.f1) t c' k (by omega) g4 (by omega) (by omega) t0 (by omega) (by omega)
      · have g := g2 hr (by omega)
        have hm2 : 0 ≤ a * (t + x.f1) ∧ a * (t + x.f1) ≤ 1000 * 320 := ⟨Int.mul_nonneg ha.1 (by omega), Int.mul_le_mul ha.2 (by omega) (by omega) (by omega)⟩
        have hd : a * (t + x.f1) = a * t + a * x.f1 := Int.mul_add _ _ _
        rw [if_neg (by omega), w64 (x := t + x.f1) (by omega) (by omega), w64 (x := a * (t + x.f1)) (by omega) (by omega), w64 (x := b + a * (t + x.f1)) (by omega) (by omega), if_neg (by omega)]
        exact ih (j + 1) p (t + x.f1) c' k (by omega) g4 p0 (by omega) (by omega) (by omega) (by omega)
    · have g := g3 hr
      rw [if_neg hr]
      exact ih (j + 1) p t c' k (by omega) g4 p0 (by omega) t0 (by omega) (by omega)
theorem env_l0 (l : List S47) (o : List Int) (hl : l.length ≤ 40) (ho : o.length = l.length) (hA : ∀ x ∈ l, Act x) (a b c0 e : Int) (ha : 0 ≤ a ∧ a ≤ 1000) (hb : 1 ≤ b ∧ b ≤ 10000) (hc : c0 ≤ b) (hg : Good a b l o c0) (d : Nat) : ∀ (i : Nat) (k : Nat), l.length = i + d →
    laws_FnEnvelope.l0 (k + 50 * d + 1) l o (i : Int) a b c0 e = some true := by
  induction d with
  | zero =>
    intro i k hi
    rw [laws_FnEnvelope.l0, if_neg (by omega)]
  | succ d ih =>
    intro i k hi
    obtain ⟨c, hcb, hg'⟩ := good_drop a b i l o c0 hg hc
    rw [show k + 50 * (d + 1) + 1 = ((k + 50 - (d + 1) - 1) + 50 * d + (d + 1) + 1) + 1 by omega, laws_FnEnvelope.l0, if_pos (by omega)]
    rw [env_l1 l o hl ho hA a b c0 e ha hb i (d + 1) i 0 0 c _ hi hg' (by omega) (by omega) (by omega) (by omega) (by omega), ww i (by omega)]
    rw [show k + 50 - (d + 1) - 1 + 50 * d = (k + 50 - (d + 1) - 2) + 50 * d + 1 by omega]
    exact ih (i + 1) _ (by omega)
theorem FnEnvelope : fnEnvelope.Say := by
  intro l0 l1 ⟨m0, w0⟩ ⟨m1, w1⟩
  refine ⟨5000, ?_⟩
  simp only [laws_FnEnvelope.f]
  by_cases c0 : (l0.length : Int) > 1048576
  · rw [if_pos c0]; simp only [laws_FnEnvelope.j0, if_true]
  rw [if_neg c0]
  by_cases c1 : (l1.length : Int) > 1048576
  · rw [decide_eq_true c1]; simp only [laws_FnEnvelope.j0, if_true]
  rw [decide_eq_false c1, laws_FnEnvelope.j0, if_neg (by decide)]
  obtain ⟨a, b, c, d, hb, hB⟩ := bucketOf_ok l0 (bs w0) (by omega)
  rw [hb, Option.bind_some]
  dsimp only
  have main : ∀ d, B a b c d → laws_FnEnvelope.j1 4999 l1 a b c d = some true := by
    intro d hB
    have hB' := hB
    obtain ⟨⟨x1, x2⟩, ⟨x3, x4⟩, ⟨x5, x6⟩, x7, x8⟩ := hB'
    rw [laws_FnEnvelope.j1]
    obtain ⟨ys, ey, hy, hA⟩ := actsOf_ok l1 (bs w1) (by omega) 4998 (by omega)
    obtain ⟨c', e', o, ol, og, oe⟩ := runs a b c d hB ys hy hA
    rw [ey, Option.bind_some, (oe 4998 (by omega)).1, Option.bind_some, (oe 4998 (by omega)).2, Option.bind_some]
    dsimp only
    rw [if_pos rfl, same_ok o (by omega) 4998 (by omega), Option.bind_some, if_pos rfl, bok_i, decide_eq_true hB, Option.bind_some, laws_FnEnvelope.j2, if_neg (by decide)]
    have := env_l0 ys o hy ol hA a b c d ⟨x1, x2⟩ ⟨x3, x4⟩ x6 og ys.length 0 (4997 - 50 * ys.length - 1) (by omega)
    rw [show 4997 - 50 * ys.length - 1 + 50 * ys.length + 1 = 4997 by omega] at this
    exact this
  by_cases q : d > 500000
  · rw [if_pos q]; exact main 0 ⟨hB.1, hB.2.1, hB.2.2.1, by omega, by omega⟩
  · rw [if_neg q]; exact main d hB
end Go.Proofs.Ytfjpfjofogbpgaa.Pure
namespace Go.Proofs.Ytfjpfjofogbpgaa
/-- The row. -/
theorem fnEnvelope_holds : Rows.FnEnvelopeSaid := fnEnvelope.row_of Pure.FnEnvelope
end Go.Proofs.Ytfjpfjofogbpgaa
