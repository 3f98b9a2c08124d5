/- The root of a drawn number is the greatest whole number whose cube is not above it, for all bytes. -/
import Derived.Test.YtonjioglefdfiaaAid
import Derived.Test.YtonjioglefdfiaaSayFnRoot
namespace Go.Proofs.Ytonjioglefdfiaa.Pure
open Go.RowKit Go.Proofs.Ytonjioglefdfiaa.PFnRoot Go.Proofs.YtonjioglefdfiaaW.PrintWords Go.Proofs.YtonjioglefdfiaaW.PrintLast Go.Proofs.YtonjioglefdfiaaW.PrintMore Go.Proofs.Ytonjioglefdfiaa.Aid
theorem cube_mono {a b : Int} (h0 : 0 ≤ a) (h : a ≤ b) : a * a * a ≤ b * b * b := by
  have h1 : a * a ≤ b * b := Int.mul_le_mul h h h0 (by omega)
  exact Int.mul_le_mul h1 h h0 (Int.mul_nonneg (by omega) (by omega))
def IsRoot (n r : Int) : Prop := 0 ≤ r ∧ r ≤ 1048576 ∧ r * r * r ≤ n ∧ ∀ x : Int, 0 ≤ x → x ≤ 1048576 → x * x * x ≤ n → x ≤ r
theorem IsRoot.unique {n a b : Int} (ha : IsRoot n a) (hb : IsRoot n b) : a = b := by
  have := ha.2.2.2 b hb.1 hb.2.1 hb.2.2.1
  have := hb.2.2.2 a ha.1 ha.2.1 ha.2.2.1
  omega
theorem cube_bd {a : Int} (h0 : 0 ≤ a) (h : a ≤ 1048577) : 0 ≤ a * a ∧ a * a ≤ 1100000000000 ∧ 0 ≤ a * a * a ∧ a * a * a ≤ 1200000000000000000 := by
  have h1 : a * a ≤ 1048577 * 1048577 := Int.mul_le_mul h h h0 (by omega)
  have h2 := cube_mono h0 h
  have h3 : 0 ≤ a * a := Int.mul_nonneg h0 h0
  have h4 : 0 ≤ a * a * a := Int.mul_nonneg h3 h0
  exact ⟨h3, by omega, h4, by omega⟩
theorem cube_w {a : Int} (h0 : 0 ≤ a) (h : a ≤ 1048577) : wrap64 ((wrap64 (a * a)) * a) = a * a * a := by
  have := cube_bd h0 h
  rw [w64 (x := a * a) (by omega) (by omega), w64 (by omega) (by omega)]
/-- The program's root: bit by bit. -/
theorem root_bits (n : Int) (d : Nat) : ∀ (k : Nat) (r b : Int), 0 ≤ r → r ≤ 1048576 → r * r * r ≤ n → b = 2 ^ d / 2 → b ≤ 1048576 → (∀ x : Int, 0 ≤ x → x ≤ 1048576 → x * x * x ≤ n → x < r + 2 ^ d) → d < k →
    ∃ q, impl_cubeRoot.l0 k n r b = some q ∧ IsRoot n q := by
  induction d with
  | zero =>
    intro k r b h0 h1 h2 hb hb2 hx hk
    obtain ⟨k, rfl⟩ : ∃ m, k = m + 1 := ⟨k - 1, by omega⟩
    have hb' : b = 0 := by rw [hb]; rfl
    refine ⟨r, ?_, h0, h1, h2, fun x a1 a2 a3 => ?_⟩
    · simp only [impl_cubeRoot.l0]; rw [if_neg (by omega)]
    · have := hx x a1 a2 a3; simp at this; omega
  | succ d ih =>
    intro k r b h0 h1 h2 hb hb2 hx hk
    obtain ⟨k, rfl⟩ : ∃ m, k = m + 1 := ⟨k - 1, by omega⟩
    have e2 : (2 : Int) ^ (d + 1) = 2 * 2 ^ d := by rw [Int.pow_succ]; omega
    have hpos : 0 < (2 : Int) ^ d := Int.pow_pos (by decide)
    have hbd : b = 2 ^ d := by rw [hb, e2]; omega
    have hnx : b / 2 = 2 ^ d / 2 := by rw [hbd]
    rw [e2] at hx
    simp only [impl_cubeRoot.l0]
    rw [if_pos (by omega), w64 (x := r + b) (by omega) (by omega)]
    by_cases c1 : r + b ≤ 1048576
    · rw [if_pos c1, cube_w (by omega) (by omega)]
      by_cases c2 : (r + b) * (r + b) * (r + b) ≤ n
      · rw [if_pos c2]
        exact ih k (r + b) (b / 2) (by omega) c1 c2 hnx (by omega) (fun x a1 a2 a3 => by have := hx x a1 a2 a3; omega) (by omega)
      · rw [if_neg c2]
        refine ih k r (b / 2) h0 h1 h2 hnx (by omega) (fun x a1 a2 a3 => ?_) (by omega)
        have : x < r + b := by
          apply Int.not_le.mp
          intro hle
          have := cube_mono (a := r + b) (b := x) (by omega) hle
          omega
        omega
    · rw [if_neg c1]
      exact ih k r (b / 2) h0 h1 h2 hnx (by omega) (fun x a1 a2 a3 => by omega) (by omega)
/-- The reference's root: by halves. -/
theorem root_half (n : Int) (d : Nat) : ∀ (k : Nat) (lo hi : Int), 0 ≤ lo → lo ≤ hi → hi ≤ 1048576 → lo * lo * lo ≤ n → (∀ x : Int, 0 ≤ x → x ≤ 1048576 → x * x * x ≤ n → x ≤ hi) → hi - lo = d → d < k →
    ∃ q, spec_l16Root.l0 k n lo hi = some q ∧ IsRoot n q := by
  induction d using Nat.strongRecOn with
  | _ d ih =>
    intro k lo hi h0 h1 h2 h3 hx hd hk
    obtain ⟨k, rfl⟩ : ∃ m, k = m + 1 := ⟨k - 1, by omega⟩
    simp only [spec_l16Root.l0]
    by_cases c : lo < hi
    · rw [if_pos c, w64 (x := lo + hi) (by omega) (by omega), w64 (x := lo + hi + 1) (by omega) (by omega), tdiv_nonneg_eq (a := lo + hi + 1) (by omega)]
      obtain ⟨m, hm⟩ : ∃ m, m = (lo + hi + 1) / 2 := ⟨_, rfl⟩
      rw [← hm, w64 (x := m) (by omega) (by omega), cube_w (by omega) (by omega), w64 (x := m - 1) (by omega) (by omega)]
      by_cases c2 : m * m * m ≤ n
      · rw [if_pos c2]
        exact ih (hi - m).toNat (by omega) k m hi (by omega) (by omega) h2 c2 hx (by omega) (by omega)
      · rw [if_neg c2]
        refine ih (m - 1 - lo).toNat (by omega) k lo (m - 1) h0 (by omega) (by omega) h3 (fun x a1 a2 a3 => ?_) (by omega) (by omega)
        have : x < m := by
          apply Int.not_le.mp
          intro hle
          have := cube_mono (a := m) (b := x) (by omega) hle
          omega
        omega
    · rw [if_neg c]
      obtain rfl : lo = hi := by omega
      exact ⟨lo, rfl, h0, h2, h3, hx⟩
theorem both_roots (n : Int) (h0 : 0 ≤ n) (h : n ≤ 1152921504606846976) : ∃ q, IsRoot n q ∧ impl_cubeRoot.f 2000000 n = some q ∧ spec_l16Root.f 2000000 n = some q := by
  obtain ⟨q, hq, rq⟩ := root_bits n 21 2000000 0 1048576 (by omega) (by omega) (by omega) (by decide) (by omega) (fun x a1 a2 a3 => by omega) (by omega)
  obtain ⟨p, hp, rp⟩ := root_half n 1048576 2000000 0 1048576 (by omega) (by omega) (by omega) (by omega) (fun x a1 a2 a3 => a2) (by omega) (by omega)
  obtain rfl := rq.unique rp
  exact ⟨q, rq, hq, hp⟩
theorem roots_ok (n : Int) (h0 : 0 ≤ n) (h : n ≤ 1152921504606846976) : ∃ q, IsRoot n q ∧ impl_CubeRoot.f 2000000 n = some (q, 0) ∧ spec_CubeRoot.f 2000000 n = some (q, 0) := by
  obtain ⟨q, rq, hp, hs⟩ := both_roots n h0 h
  refine ⟨q, rq, ?_, ?_⟩
  · simp only [impl_CubeRoot.f, impl_inRange.f]
    rw [if_pos h0]
    simp only [Option.bind_some]
    rw [if_pos (by simpa using h), hp]; rfl
  · simp only [spec_CubeRoot.f, spec_l01In.f]
    rw [if_pos h0]
    simp only [Option.bind_some]
    rw [if_pos (by simpa using h), hs]; rfl
theorem mul_bd {a b A B : Int} (h0 : 0 ≤ a) (h1 : a ≤ A) (h2 : 0 ≤ b) (h3 : b ≤ B) : 0 ≤ a * b ∧ a * b ≤ A * B := ⟨Int.mul_nonneg h0 h2, Int.mul_le_mul h1 h3 h2 (by omega)⟩
theorem at_some (l : List Int) (hl : ∀ x ∈ l, 0 ≤ x ∧ x ≤ 255) (i n : Int) (hi : 0 ≤ i) (hi2 : i ≤ 100000) (hn : 1 < n) (hn2 : n ≤ 1000000000) : ∃ r, laws_at.f l i n = some r ∧ 0 ≤ r ∧ r < n := choice l hl i n hi hi2 hn hn2
theorem FnRoot : fnRoot.Say := by
  intro l0 l1 ⟨m0, w0⟩ ⟨m1, w1⟩
  refine ⟨2000001, ?_⟩
  simp only [laws_FnRoot.f]
  by_cases c0 : (l0.length : Int) > 1048576
  · rw [if_pos c0]; simp only [laws_FnRoot.j0, if_true]
  rw [if_neg c0]
  by_cases c1 : (l1.length : Int) > 1048576
  · rw [decide_eq_true c1]; simp only [laws_FnRoot.j0, if_true]
  rw [decide_eq_false c1]
  simp only [laws_FnRoot.j0]
  rw [if_neg (by decide)]
  obtain ⟨a, ha, a0, a1⟩ := at_some l0 (bs w0) 0 9000 (by omega) (by omega) (by omega) (by omega)
  obtain ⟨b, hb, b0, b1⟩ := at_some l0 (bs w0) 1 9000 (by omega) (by omega) (by omega) (by omega)
  obtain ⟨c, hc, c0, c1⟩ := at_some l0 (bs w0) 2 9000 (by omega) (by omega) (by omega) (by omega)
  obtain ⟨d, hd, d0, d1⟩ := at_some l1 (bs w1) 0 9000 (by omega) (by omega) (by omega) (by omega)
  rw [ha, hb, hc, hd]
  simp only [Option.bind_some]
  have e1 := mul_bd (A := 8999) (B := 8999) a0 (by omega) b0 (by omega)
  have e2 := mul_bd (A := 8999 * 8999) (B := 8999) e1.1 (by omega) c0 (by omega)
  rw [w64 (x := a * b) (by omega) (by omega), w64 (x := a * b * c) (by omega) (by omega), w64 (x := a * b * c + d) (by omega) (by omega)]
  have hn : 0 ≤ a * b * c + d ∧ a * b * c + d ≤ 728757008998 + 27000 := by omega
  generalize a * b * c + d = n at hn ⊢
  obtain ⟨q, rq, h1, h2⟩ := roots_ok n hn.1 (by omega)
  rw [h1, h2]
  simp only [Option.bind_some, if_true]
  obtain ⟨q0, q1, q2, q3⟩ := rq
  have hq : q ≤ 9000 := by
    apply Int.not_lt.mp
    intro hlt
    have := cube_mono (a := 9001) (b := q) (by omega) (by omega)
    omega
  rw [cube_w q0 (by omega), if_pos q2, w64 (x := q + 1) (by omega) (by omega), cube_w (a := q + 1) (by omega) (by omega)]
  congr 1
  apply decide_eq_true
  apply Int.not_le.mp
  intro hle
  have := q3 (q + 1) (by omega) (by omega) hle
  omega
end Go.Proofs.Ytonjioglefdfiaa.Pure
namespace Go.Proofs.Ytonjioglefdfiaa
/-- The row. -/
theorem fnRoot_holds : Rows.FnRootSaid := fnRoot.row_of Pure.FnRoot
end Go.Proofs.Ytonjioglefdfiaa
