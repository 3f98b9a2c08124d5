/- The curve rises, is at its most at the origin, and is as far below it ahead as above it behind, for all bytes. -/
import Derived.Test.YtonjioglefdfiaaAid
import Derived.Test.YtonjioglefdfiaaSayFnCubic
namespace Go.Proofs.Ytonjioglefdfiaa.Pure
set_option linter.unusedSimpArgs false
set_option linter.unusedVariables false
open Go.RowKit Go.Proofs.Ytonjioglefdfiaa.PFnCubic Go.Proofs.YtonjioglefdfiaaW.PrintWords Go.Proofs.YtonjioglefdfiaaW.PrintLast Go.Proofs.YtonjioglefdfiaaW.PrintMore Go.Proofs.Ytonjioglefdfiaa.Aid
theorem inR (a b c : Int) : impl_inRange.f a b c = some (decide (b ≤ a ∧ a ≤ c)) := by
  unfold impl_inRange.f
  by_cases h : a ≥ b
  · rw [if_pos h]; simp [show b ≤ a from h]
  · rw [if_neg h]; simp; omega
theorem inS (a b c : Int) : spec_l01In.f a b c = some (decide (b ≤ a ∧ a ≤ c)) := by
  unfold spec_l01In.f
  by_cases h : a ≥ b
  · rw [if_pos h]; simp [show b ≤ a from h]
  · rw [if_neg h]; simp; omega
theorem td (x b : Int) : Int.tdiv x b = if 0 ≤ x then x / b else -((-x) / b) := by
  by_cases h : 0 ≤ x
  · rw [if_pos h, Int.tdiv_eq_ediv_of_nonneg h]
  · rw [if_neg h, ← Int.tdiv_eq_ediv_of_nonneg (by omega), Int.neg_tdiv, Int.neg_neg]
theorem sq_bd {d : Int} (h0 : -1000000 ≤ d) (h : d ≤ 1000000) : 0 ≤ d * d ∧ d * d ≤ 1000000000000 := by
  by_cases c : 0 ≤ d
  · have := Int.mul_le_mul h h c (by omega : (0 : Int) ≤ 1000000)
    exact ⟨Int.mul_nonneg c c, by omega⟩
  · have h2 : 0 ≤ -d := by omega
    have := Int.mul_le_mul (by omega : -d ≤ 1000000) (by omega : -d ≤ 1000000) h2 (by omega : (0 : Int) ≤ 1000000)
    have e : -d * -d = d * d := Int.neg_mul_neg d d
    have := Int.mul_nonneg h2 h2
    exact ⟨by omega, by omega⟩
theorem cb_bd {d : Int} (h0 : -1000000 ≤ d) (h : d ≤ 1000000) : -1000000000000000000 ≤ d * d * d ∧ d * d * d ≤ 1000000000000000000 := by
  have s := sq_bd h0 h
  by_cases c : 0 ≤ d
  · have := Int.mul_le_mul s.2 h c (by omega : (0 : Int) ≤ 1000000000000)
    have := Int.mul_nonneg s.1 c
    exact ⟨by omega, by omega⟩
  · have h2 : 0 ≤ -d := by omega
    have := Int.mul_le_mul s.2 (by omega : -d ≤ 1000000) h2 (by omega : (0 : Int) ≤ 1000000000000)
    have e : d * d * -d = -(d * d * d) := Int.mul_neg _ _
    have := Int.mul_nonneg s.1 h2
    exact ⟨by omega, by omega⟩
/-- The height of the curve, before it is held within its bounds. -/
def hi (d : Int) : Int := Int.tdiv (Int.tdiv (d * d * d) 1000000 * 4) 10000
theorem hi_raw {d : Int} (h0 : -1000000 ≤ d) (h : d ≤ 1000000) : wrap64 (Int.tdiv (wrap64 ((wrap64 (Int.tdiv (wrap64 ((wrap64 (d * d)) * d)) 1000000)) * 4)) 10000) = hi d ∧ -400000000 ≤ hi d ∧ hi d ≤ 400000000 := by
  have s := sq_bd h0 h
  have c := cb_bd h0 h
  unfold hi
  rw [w64 (x := d * d) (by omega) (by omega), w64 (x := d * d * d) (by omega) (by omega)]
  generalize d * d * d = x at c ⊢
  rw [td x 1000000]
  have e : ∀ y, y = (if 0 ≤ x then x / 1000000 else -(-x / 1000000)) → -1000000000000 ≤ y ∧ y ≤ 1000000000000 := fun y hy => by omega
  have e1 := e _ rfl
  generalize (if 0 ≤ x then x / 1000000 else -(-x / 1000000)) = y at e1 ⊢
  rw [w64 (x := y) (by omega) (by omega), w64 (x := y * 4) (by omega) (by omega), td (y * 4) 10000]
  have f : ∀ z, z = (if 0 ≤ y * 4 then y * 4 / 10000 else -(-(y * 4) / 10000)) → -400000000 ≤ z ∧ z ≤ 400000000 := fun z hz => by omega
  have f1 := f _ rfl
  rw [w64 (by omega) (by omega)]
  exact ⟨rfl, f1⟩
theorem curves (m o t : Int) (m0 : 0 ≤ m) (m1 : m ≤ 100000) (o0 : 0 ≤ o) (o1 : o ≤ 1000000) (t0 : 0 ≤ t) (t1 : t ≤ 1000000) :
    impl_curve.f m o t = some (max 1 (min 100000 (m + hi (min (t - o) 100000)))) ∧ spec_l16At.f m o t = some (max 1 (min 100000 (m + hi (min (t - o) 100000)))) := by
  unfold impl_curve.f spec_l16At.f
  simp only [mn_eq, mx_eq]
  rw [w64 (x := t - o) (by omega) (by omega)]
  have h := hi_raw (d := min (t - o) 100000) (by omega) (by omega)
  rw [h.1]
  refine ⟨?_, ?_⟩
  · generalize hi (min (t - o) 100000) = z at h ⊢
    rw [w64 (by omega) (by omega)]
    congr 1
    omega
  · by_cases c : t - o > 100000
    · rw [if_pos c, show min (t - o) 100000 = 100000 by omega, show hi 100000 = 400000 from by decide]
      simp only [show ((((100000 * 100000) * 100000) / 1000000) * 4) / 10000 = (400000 : Int) from by decide]
      rw [w64 (by omega) (by omega)]
    · rw [if_neg c]
      rw [show min (t - o) 100000 = t - o by omega] at h ⊢
      rw [h.1]
      generalize hi (t - o) = z at h ⊢
      rw [w64 (x := m + z) (by omega) (by omega)]
theorem both_at (m o t : Int) (h : 0 ≤ m ∧ m ≤ 100000) (h1 : 0 ≤ o ∧ o ≤ 1000000) (h2 : 0 ≤ t ∧ t ≤ 1000000) :
    impl_CubicAt.f m o t = some (max 1 (min 100000 (m + hi (min (t - o) 100000))), 0) ∧ spec_CubicAt.f m o t = some (max 1 (min 100000 (m + hi (min (t - o) 100000))), 0) := by
  have c := curves m o t h.1 h.2 h1.1 h1.2 h2.1 h2.2
  simp only [impl_CubicAt.f, spec_CubicAt.f, inR, inS, Option.bind_some, decide_eq_true h, decide_eq_true h1, decide_eq_true h2, c.1, c.2, if_true, and_self]
theorem at_some (l : List Int) (hl : ∀ x ∈ l, 0 ≤ x ∧ x ≤ 255) (i n : Int) (hi : 0 ≤ i) (hi2 : i ≤ 100000) (hn : 1 < n) (hn2 : n ≤ 1000000000) : ∃ r, laws_at.f l i n = some r ∧ 0 ≤ r ∧ r < n := choice l hl i n hi hi2 hn hn2
theorem cube_mono' {a b : Int} (h0 : 0 ≤ a) (h : a ≤ b) : a * a * a ≤ b * b * b := by
  have h1 : a * a ≤ b * b := Int.mul_le_mul h h h0 (by omega)
  exact Int.mul_le_mul h1 h h0 (Int.mul_nonneg (by omega) (by omega))
theorem hi_nonneg {d : Int} (h0 : 0 ≤ d) : hi d = d * d * d / 1000000 * 4 / 10000 := by
  have h1 : 0 ≤ d * d * d := Int.mul_nonneg (Int.mul_nonneg h0 h0) h0
  have h2 : 0 ≤ d * d * d / 1000000 * 4 := by omega
  unfold hi
  rw [Int.tdiv_eq_ediv_of_nonneg h1, Int.tdiv_eq_ediv_of_nonneg h2]
theorem hi_neg (d : Int) : hi (-d) = - hi d := by
  unfold hi
  have e : -d * -d * -d = -(d * d * d) := by rw [Int.neg_mul_neg, Int.mul_neg]
  rw [e, Int.neg_tdiv, Int.neg_mul, Int.neg_tdiv]
theorem hi_mono {a b : Int} (h0 : 0 ≤ a) (h : a ≤ b) : hi a ≤ hi b := by
  rw [hi_nonneg h0, hi_nonneg (by omega)]
  have := cube_mono' h0 h
  generalize a * a * a = x at *
  generalize b * b * b = y at *
  omega
theorem FnCubic : fnCubic.Say := by
  intro l0 l1 ⟨m0, w0⟩ ⟨m1, w1⟩
  refine ⟨1, ?_⟩
  simp only [laws_FnCubic.f]
  by_cases c0 : (l0.length : Int) > 1048576
  · rw [if_pos c0]; simp only [laws_FnCubic.j0, if_true]
  rw [if_neg c0]
  by_cases c1 : (l1.length : Int) > 1048576
  · rw [decide_eq_true c1]; simp only [laws_FnCubic.j0, if_true]
  rw [decide_eq_false c1]
  simp only [laws_FnCubic.j0]
  rw [if_neg (by decide)]
  obtain ⟨a, ha, a0, a1⟩ := at_some l0 (bs w0) 0 8000 (by omega) (by omega) (by omega) (by omega)
  obtain ⟨b, hb, b0, b1⟩ := at_some l0 (bs w0) 1 5000 (by omega) (by omega) (by omega) (by omega)
  obtain ⟨d, hd, d0, d1⟩ := at_some l1 (bs w1) 0 2500 (by omega) (by omega) (by omega) (by omega)
  obtain ⟨g, hg, g0, g1⟩ := at_some l1 (bs w1) 1 500 (by omega) (by omega) (by omega) (by omega)
  rw [ha, hb, hd, hg]
  simp only [Option.bind_some]
  rw [w64 (x := 20000 + a) (by omega) (by omega), w64 (x := 2500 + b) (by omega) (by omega), w64 (x := 2500 + b + d) (by omega) (by omega), w64 (x := 2500 + b - d) (by omega) (by omega), w64 (x := 2500 + b + d + g) (by omega) (by omega)]
  have e1 := both_at (20000 + a) (2500 + b) (2500 + b) (by omega) (by omega) (by omega)
  have e2 := both_at (20000 + a) (2500 + b) (2500 + b + d) (by omega) (by omega) (by omega)
  have e3 := both_at (20000 + a) (2500 + b) (2500 + b - d) (by omega) (by omega) (by omega)
  have e4 := both_at (20000 + a) (2500 + b) (2500 + b + d + g) (by omega) (by omega) (by omega)
  rw [e1.1, e2.1, e3.1, e4.1, e2.2]
  simp only [Option.bind_some, if_true]
  have z0 : hi (min (2500 + b - (2500 + b)) 100000) = 0 := by rw [show min (2500 + b - (2500 + b)) 100000 = 0 by omega]; decide
  have z1 : hi (min (2500 + b + d - (2500 + b)) 100000) = hi d := by rw [show min (2500 + b + d - (2500 + b)) 100000 = d by omega]
  have z2 : hi (min (2500 + b - d - (2500 + b)) 100000) = - hi d := by rw [show min (2500 + b - d - (2500 + b)) 100000 = -d by omega, hi_neg]
  have z3 : hi (min (2500 + b + d + g - (2500 + b)) 100000) = hi (d + g) := by rw [show min (2500 + b + d + g - (2500 + b)) 100000 = d + g by omega]
  rw [z0, z1, z2, z3]
  have u0 : hi 0 ≤ hi d := hi_mono (by omega) d0
  have u1 : hi d ≤ hi (d + g) := hi_mono d0 (by omega)
  have u2 : hi (d + g) ≤ hi 3000 := hi_mono (by omega) (by omega)
  have u3 : hi 0 = 0 := by decide
  have u4 : hi 3000 = 10 := by decide
  generalize hi d = x at *
  generalize hi (d + g) = y at *
  rw [show max 1 (min 100000 (20000 + a + 0)) = 20000 + a by omega, show max 1 (min 100000 (20000 + a + x)) = 20000 + a + x by omega, show max 1 (min 100000 (20000 + a + -x)) = 20000 + a - x by omega, show max 1 (min 100000 (20000 + a + y)) = 20000 + a + y by omega]
  rw [w64 (x := 20000 + a + x - (20000 + a)) (by omega) (by omega), w64 (x := 20000 + a - (20000 + a - x)) (by omega) (by omega)]
  repeat rw [if_pos (by omega)]
  exact congrArg some (decide_eq_true (by omega))
end Go.Proofs.Ytonjioglefdfiaa.Pure
namespace Go.Proofs.Ytonjioglefdfiaa
/-- The row. -/
theorem fnCubic_holds : Rows.FnCubicSaid := fnCubic.row_of Pure.FnCubic
end Go.Proofs.Ytonjioglefdfiaa
