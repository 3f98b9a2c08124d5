/- The program's cube root and the reference's are the same number and code, for every int. -/
import Derived.Test.YtonjioglefdfiaaAid
import Derived.Test.YtonjioglefdfiaaPFnExactCubeRootx1
namespace Go.Proofs.Ytonjioglefdfiaa.Pure
open Go.RowKit Go.Proofs.Ytonjioglefdfiaa.PFnExactCubeRoot Go.Proofs.YtonjioglefdfiaaW.PrintWords Go.Proofs.YtonjioglefdfiaaW.PrintLast Go.Proofs.YtonjioglefdfiaaW.PrintMore Go.Proofs.Ytonjioglefdfiaa.Aid
theorem cube_mono {a b : Int} (h0 : 0 ≤ a) (h : a ≤ b) : a * a * a ≤ b * b * b := by
  have h1 : a * a ≤ b * b := Int.mul_le_mul h h h0 (by omega)
  exact Int.mul_le_mul h1 h h0 (Int.mul_nonneg (by omega) (by omega))
def IsRoot (n r : Int) : Prop := 0 ≤ r ∧ r ≤ 1048576 ∧ r * r * r ≤ n ∧ ∀ x : Int, 0 ≤ x → x ≤ 1048576 → x * x * x ≤ n → x ≤ r
theorem IsRoot.unique {n a b : Int} (ha : IsRoot n a) (hb : IsRoot n b) : a = b := by
  have := ha.2.2.2 b hb.1 hb.2.1 hb.2.2.1
  have := hb.2.2.2 a ha.1 ha.2.1 ha.2.2.1
  omega
theorem cube_bd {a : Int} (h0 : 0 ≤ a) (h : a ≤ 1048577) : 0 ≤ a * a ∧ a * a ≤ 1100000000000 ∧ 0 ≤ a * a * a ∧ a * a * a ≤ 1200000000000000000 := by
  have h1 : a * a ≤ 1048577 * 1048577 := Int.mul_le_mul h h h0 (by omega)
  have h2 := cube_mono h0 h
  have h3 : 0 ≤ a * a := Int.mul_nonneg h0 h0
  have h4 : 0 ≤ a * a * a := Int.mul_nonneg h3 h0
  exact ⟨h3, by omega, h4, by omega⟩
theorem cube_w {a : Int} (h0 : 0 ≤ a) (h : a ≤ 1048577) : wrap64 ((wrap64 (a * a)) * a) = a * a * a := by
  have := cube_bd h0 h
  rw [w64 (x := a * a) (by omega) (by omega), w64 (by omega) (by omega)]
/-- The program's root: bit by bit. -/
theorem root_bits (n : Int) (d : Nat) : ∀ (k : Nat) (r b : Int), 0 ≤ r → r ≤ 1048576 → r * r * r ≤ n → b = 2 ^ d / 2 → b ≤ 1048576 → (∀ x : Int, 0 ≤ x → x ≤ 1048576 → x * x * x ≤ n → x < r + 2 ^ d) → d < k →
    ∃ q, impl_cubeRoot.l0 k n r b = some q ∧ IsRoot n q := by
  induction d with
  | zero =>
    intro k r b h0 h1 h2 hb hb2 hx hk
    obtain ⟨k, rfl⟩ : ∃ m, k = m + 1 := ⟨k - 1, by omega⟩
    have hb' : b = 0 := by rw [hb]; rfl
    refine ⟨r, ?_, h0, h1, h2, fun x a1 a2 a3 => ?_⟩
    · simp only [impl_cubeRoot.l0]; rw [if_neg (by omega)]
    · have := hx x a1 a2 a3; simp at this; omega
  | succ d ih =>
    intro k r b h0 h1 h2 hb hb2 hx hk
    obtain ⟨k, rfl⟩ : ∃ m, k = m + 1 := ⟨k - 1, by omega⟩
    have e2 : (2 : Int) ^ (d + 1) = 2 * 2 ^ d := by rw [Int.pow_succ]; omega
    have hpos : 0 < (2 : Int) ^ d := Int.pow_pos (by decide)
    have hbd : b = 2 ^ d := by rw [hb, e2]; omega
    have hnx : b / 2 = 2 ^ d / 2 := by rw [hbd]
    rw [e2] at hx
    simp only [impl_cubeRoot.l0]
    rw [if_pos (by omega), w64 (x := r + b) (by omega) (by omega)]
    by_cases c1 : r + b ≤ 1048576
    · rw [if_pos c1, cube_w (by omega) (by omega)]
      by_cases c2 : (r + b) * (r + b) * (r + b) ≤ n
      · rw [if_pos c2]
        exact ih k (r + b) (b / 2) (by omega) c1 c2 hnx (by omega) (fun x a1 a2 a3 => by have := hx x a1 a2 a3; omega) (by omega)
      · rw [if_neg c2]
        refine ih k r (b / 2) h0 h1 h2 hnx (by omega) (fun x a1 a2 a3 => ?_) (by omega)
        have : x < r + b := by
          apply Int.not_le.mp
          intro hle
          have := cube_mono (a := r + b) (b := x) (by omega) hle
          omega
        omega
    · rw [if_neg c1]
      exact ih k r (b / 2) h0 h1 h2 hnx (by omega) (fun x a1 a2 a3 => by omega) (by omega)
/-- The reference's root: by halves. -/
theorem root_half (n : Int) (d : Nat) : ∀ (k : Nat) (lo hi : Int), 0 ≤ lo → lo ≤ hi → hi ≤ 1048576 → lo * lo * lo ≤ n → (∀ x : Int, 0 ≤ x → x ≤ 1048576 → x * x * x ≤ n → x ≤ hi) → hi - lo = d → d < k →
    ∃ q, spec_l16Root.l0 k n lo hi = some q ∧ IsRoot n q := by
  induction d using Nat.strongRecOn with
  | _ d ih =>
    intro k lo hi h0 h1 h2 h3 hx hd hk
    obtain ⟨k, rfl⟩ : ∃ m, k = m + 1 := ⟨k - 1, by omega⟩
    simp only [spec_l16Root.l0]
    by_cases c : lo < hi
    · rw [if_pos c, w64 (x := lo + hi) (by omega) (by omega), w64 (x := lo + hi + 1) (by omega) (by omega), tdiv_nonneg_eq (a := lo + hi + 1) (by omega)]
      obtain ⟨m, hm⟩ : ∃ m, m = (lo + hi + 1) / 2 := ⟨_, rfl⟩
      rw [← hm, w64 (x := m) (by omega) (by omega), cube_w (by omega) (by omega), w64 (x := m - 1) (by omega) (by omega)]
      by_cases c2 : m * m * m ≤ n
      · rw [if_pos c2]
        exact ih (hi - m).toNat (by omega) k m hi (by omega) (by omega) h2 c2 hx (by omega) (by omega)
      · rw [if_neg c2]
        refine ih (m - 1 - lo).toNat (by omega) k lo (m - 1) h0 (by omega) (by omega) h3 (fun x a1 a2 a3 => ?_) (by omega) (by omega)
        have : x < m := by
          apply Int.not_le.mp
          intro hle
          have := cube_mono (a := m) (b := x) (by omega) hle
          omega
        omega
    · rw [if_neg c]
      obtain rfl : lo = hi := by omega
      exact ⟨lo, rfl, h0, h2, h3, hx⟩
theorem both_roots (n : Int) (h0 : 0 ≤ n) (h : n ≤ 1152921504606846976) : ∃ q, IsRoot n q ∧ impl_cubeRoot.f 2000000 n = some q ∧ spec_l16Root.f 2000000 n = some q := by
  obtain ⟨q, hq, rq⟩ := root_bits n 21 2000000 0 1048576 (by omega) (by omega) (by omega) (by decide) (by omega) (fun x a1 a2 a3 => by omega) (by omega)
  obtain ⟨p, hp, rp⟩ := root_half n 1048576 2000000 0 1048576 (by omega) (by omega) (by omega) (by omega) (fun x a1 a2 a3 => a2) (by omega) (by omega)
  obtain rfl := rq.unique rp
  exact ⟨q, rq, hq, hp⟩
theorem roots_ok (n : Int) (h0 : 0 ≤ n) (h : n ≤ 1152921504606846976) : ∃ q, IsRoot n q ∧ impl_CubeRoot.f 2000000 n = some (q, 0) ∧ spec_CubeRoot.f 2000000 n = some (q, 0) := by
  obtain ⟨q, rq, hp, hs⟩ := both_roots n h0 h
  refine ⟨q, rq, ?_, ?_⟩
  · simp only [impl_CubeRoot.f, impl_inRange.f]
    rw [if_pos h0]
    simp only [Option.bind_some]
    rw [if_pos (by simpa using h), hp]; rfl
  · simp only [spec_CubeRoot.f, spec_l01In.f]
    rw [if_pos h0]
    simp only [Option.bind_some]
    rw [if_pos (by simpa using h), hs]; rfl
theorem FnExactCubeRoot : laws_FnExactCubeRoot.Pure := by
  intro n hn
  have hb := bounds_i64 hn
  refine ⟨2000000, ?_⟩
  simp only [laws_FnExactCubeRoot.f]
  by_cases h : 0 ≤ n ∧ n ≤ 1152921504606846976
  · obtain ⟨q, -, h1, h2⟩ := roots_ok n h.1 h.2
    rw [h1, h2]; simp
  · have e1 : impl_CubeRoot.f 2000000 n = some (0, 4) := by
      simp only [impl_CubeRoot.f, impl_inRange.f]
      by_cases h0 : n ≥ 0
      · rw [if_pos h0]; simp only [Option.bind_some]; rw [if_neg (by simp; omega)]
      · rw [if_neg h0]; simp
    have e2 : spec_CubeRoot.f 2000000 n = some (0, 4) := by
      simp only [spec_CubeRoot.f, spec_l01In.f]
      by_cases h0 : n ≥ 0
      · rw [if_pos h0]; simp only [Option.bind_some]; rw [if_neg (by simp; omega)]
      · rw [if_neg h0]; simp
    rw [e1, e2]; simp
end Go.Proofs.Ytonjioglefdfiaa.Pure
