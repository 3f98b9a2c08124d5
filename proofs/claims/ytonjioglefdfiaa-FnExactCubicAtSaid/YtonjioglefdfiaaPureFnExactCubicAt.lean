/- The program's height of the curve and the reference's are the same number and code, for all ints. -/
import Derived.Test.YtonjioglefdfiaaAid
import Derived.Test.YtonjioglefdfiaaSayFnExactCubicAt
namespace Go.Proofs.Ytonjioglefdfiaa.Pure
open Go.RowKit Go.Proofs.Ytonjioglefdfiaa.PFnExactCubicAt Go.Proofs.YtonjioglefdfiaaW.PrintWords Go.Proofs.YtonjioglefdfiaaW.PrintLast Go.Proofs.YtonjioglefdfiaaW.PrintMore Go.Proofs.Ytonjioglefdfiaa.Aid
theorem inR (a b c : Int) : impl_inRange.f a b c = some (decide (b ≤ a ∧ a ≤ c)) := by
  unfold impl_inRange.f
  by_cases h : a ≥ b
  · rw [if_pos h]; simp [show b ≤ a from h]
  · rw [if_neg h]; simp; omega
theorem inS (a b c : Int) : spec_l01In.f a b c = some (decide (b ≤ a ∧ a ≤ c)) := by
  unfold spec_l01In.f
  by_cases h : a ≥ b
  · rw [if_pos h]; simp [show b ≤ a from h]
  · rw [if_neg h]; simp; omega
theorem td (x b : Int) : Int.tdiv x b = if 0 ≤ x then x / b else -((-x) / b) := by
  by_cases h : 0 ≤ x
  · rw [if_pos h, Int.tdiv_eq_ediv_of_nonneg h]
  · rw [if_neg h, ← Int.tdiv_eq_ediv_of_nonneg (by omega), Int.neg_tdiv, Int.neg_neg]
theorem sq_bd {d : Int} (h0 : -1000000 ≤ d) (h : d ≤ 1000000) : 0 ≤ d * d ∧ d * d ≤ 1000000000000 := by
  by_cases c : 0 ≤ d
  · have := Int.mul_le_mul h h c (by omega : (0 : Int) ≤ 1000000)
    exact ⟨Int.mul_nonneg c c, by omega⟩
  · have h2 : 0 ≤ -d := by omega
    have := Int.mul_le_mul (by omega : -d ≤ 1000000) (by omega : -d ≤ 1000000) h2 (by omega : (0 : Int) ≤ 1000000)
    have e : -d * -d = d * d := Int.neg_mul_neg d d
    have := Int.mul_nonneg h2 h2
    exact ⟨by omega, by omega⟩
theorem cb_bd {d : Int} (h0 : -1000000 ≤ d) (h : d ≤ 1000000) : -1000000000000000000 ≤ d * d * d ∧ d * d * d ≤ 1000000000000000000 := by
  have s := sq_bd h0 h
  by_cases c : 0 ≤ d
  · have := Int.mul_le_mul s.2 h c (by omega : (0 : Int) ≤ 1000000000000)
    have := Int.mul_nonneg s.1 c
    exact ⟨by omega, by omega⟩
  · have h2 : 0 ≤ -d := by omega
    have := Int.mul_le_mul s.2 (by omega : -d ≤ 1000000) h2 (by omega : (0 : Int) ≤ 1000000000000)
    have e : d * d * -d = -(d * d * d) := Int.mul_neg _ _
    have := Int.mul_nonneg s.1 h2
    exact ⟨by omega, by omega⟩
/-- The height of the curve, before it is held within its bounds. -/
def hi (d : Int) : Int := Int.tdiv (Int.tdiv (d * d * d) 1000000 * 4) 10000
theorem hi_raw {d : Int} (h0 : -1000000 ≤ d) (h : d ≤ 1000000) : wrap64 (Int.tdiv (wrap64 ((wrap64 (Int.tdiv (wrap64 ((wrap64 (d * d)) * d)) 1000000)) * 4)) 10000) = hi d ∧ -400000000 ≤ hi d ∧ hi d ≤ 400000000 := by
  have s := sq_bd h0 h
  have c := cb_bd h0 h
  unfold hi
  rw [w64 (x := d * d) (by omega) (by omega), w64 (x := d * d * d) (by omega) (by omega)]
  generalize d * d * d = x at c ⊢
  rw [td x 1000000]
  have e : ∀ y, y = (if 0 ≤ x then x / 1000000 else -(-x / 1000000)) → -1000000000000 ≤ y ∧ y ≤ 1000000000000 := fun y hy => by omega
  have e1 := e _ rfl
  generalize (if 0 ≤ x then x / 1000000 else -(-x / 1000000)) = y at e1 ⊢
  rw [w64 (x := y) (by omega) (by omega), w64 (x := y * 4) (by omega) (by omega), td (y * 4) 10000]
  have f : ∀ z, z = (if 0 ≤ y * 4 then y * 4 / 10000 else -(-(y * 4) / 10000)) → -400000000 ≤ z ∧ z ≤ 400000000 := fun z hz => by omega
  have f1 := f _ rfl
  rw [w64 (by omega) (by omega)]
  exact ⟨rfl, f1⟩
theorem curves (m o t : Int) (m0 : 0 ≤ m) (m1 : m ≤ 100000) (o0 : 0 ≤ o) (o1 : o ≤ 1000000) (t0 : 0 ≤ t) (t1 : t ≤ 1000000) :
    impl_curve.f m o t = some (max 1 (min 100000 (m + hi (min (t - o) 100000)))) ∧ spec_l16At.f m o t = some (max 1 (min 100000 (m + hi (min (t - o) 100000)))) := by
  unfold impl_curve.f spec_l16At.f
  simp only [mn_eq, mx_eq]
  rw [w64 (x := t - o) (by omega) (by omega)]
  have h := hi_raw (d := min (t - o) 100000) (by omega) (by omega)
  rw [h.1]
  refine ⟨?_, ?_⟩
  · generalize hi (min (t - o) 100000) = z at h ⊢
    rw [w64 (by omega) (by omega)]
    congr 1
    omega
  · by_cases c : t - o > 100000
    · rw [if_pos c, show min (t - o) 100000 = 100000 by omega, show hi 100000 = 400000 from by decide]
      simp only [show ((((100000 * 100000) * 100000) / 1000000) * 4) / 10000 = (400000 : Int) from by decide]
      rw [w64 (by omega) (by omega)]
    · rw [if_neg c]
      rw [show min (t - o) 100000 = t - o by omega] at h ⊢
      rw [h.1]
      generalize hi (t - o) = z at h ⊢
      rw [w64 (x := m + z) (by omega) (by omega)]
theorem both_at (m o t : Int) (h : 0 ≤ m ∧ m ≤ 100000) (h1 : 0 ≤ o ∧ o ≤ 1000000) (h2 : 0 ≤ t ∧ t ≤ 1000000) :
    impl_CubicAt.f m o t = some (max 1 (min 100000 (m + hi (min (t - o) 100000))), 0) ∧ spec_CubicAt.f m o t = some (max 1 (min 100000 (m + hi (min (t - o) 100000))), 0) := by
  have c := curves m o t h.1 h.2 h1.1 h1.2 h2.1 h2.2
  simp only [impl_CubicAt.f, spec_CubicAt.f, inR, inS, Option.bind_some, decide_eq_true h, decide_eq_true h1, decide_eq_true h2, c.1, c.2, if_true, and_self]
theorem FnExactCubicAt : fnExactCubicAt.Say := by
  intro m o t hm ho ht
  simp only [laws_FnExactCubicAt.f]
  by_cases h : (0 ≤ m ∧ m ≤ 100000) ∧ (0 ≤ o ∧ o ≤ 1000000) ∧ (0 ≤ t ∧ t ≤ 1000000)
  · have c := both_at m o t h.1 h.2.1 h.2.2
    rw [c.1, c.2]; simp
  · have e : impl_CubicAt.f m o t = some (0, 4) ∧ spec_CubicAt.f m o t = some (0, 4) := by
      simp only [impl_CubicAt.f, spec_CubicAt.f, inR, inS, Option.bind_some]
      by_cases h0 : 0 ≤ m ∧ m ≤ 100000
      · by_cases h1 : 0 ≤ o ∧ o ≤ 1000000
        · have h2 : ¬ (0 ≤ t ∧ t ≤ 1000000) := fun h2 => h ⟨h0, h1, h2⟩
          simp [decide_eq_true h0, decide_eq_true h1, decide_eq_false h2]
        · simp [decide_eq_true h0, decide_eq_false h1]
      · simp [decide_eq_false h0]
    rw [e.1, e.2]; simp
end Go.Proofs.Ytonjioglefdfiaa.Pure
namespace Go.Proofs.Ytonjioglefdfiaa
/-- The row. -/
theorem fnExactCubicAt_holds : Rows.FnExactCubicAtSaid := fnExactCubicAt.row_of Pure.FnExactCubicAt
end Go.Proofs.Ytonjioglefdfiaa
