-- OWN TEXT of FnExactTcpStep: made by own_print.sh, finished by hand
import Derived.Test.YtacjjlnjmmfmnaaGFnExactTcpStepx0
namespace Go.Proofs.Ytacjjlnjmmfmnaa.PFnExactTcpStep
open Go.RowKit Go.Proofs.YtacjjlnjmmfmnaaW.PrintWords Go.Proofs.YtacjjlnjmmfmnaaW.PrintLast Go.Proofs.YtacjjlnjmmfmnaaW.PrintMore
attribute [local go_sem] max2_int min2_int max_two min_two max_three min_three max_four min_four   -- for this text's walks alone
set_option linter.unusedVariables false
set_option linter.unusedSimpArgs false

/-! ### impl_inRange: function 16 -/
def impl_inRange.f (a0 : Int) (a1 : Int) (a2 : Int) : Option (Bool) := if a0 ≥ a1 then (some (decide (a0 ≤ a2))) else (some false)
set_option maxHeartbeats 8000000 in
set_option maxRecDepth 100000 in
theorem impl_inRange.calls (a0 : Int) (a1 : Int) (a2 : Int) (r : Bool) (w : World) (h : impl_inRange.f a0 a1 a2 = some r) :
    Calls Try.prog 16 #[.int .i64 a0, .int .i64 a1, .int .i64 a2] w fun e w' => e = .returned (.bool r) ∧ Drawn0 w w' := by
  have H : (if a0 ≥ a1 then (some (decide (a0 ≤ a2))) else (some false)) = some r := h
  clear h
  by_cases c4 : a0 ≥ a1
  · rw [if_pos c4] at H
    have c4b0 : decide (a1 ≤ a0) = true := decide_eq_true c4
    clear c4
    obtain rfl := Option.some.inj H
    go_enter Try.func16, Try.ntmps16
    go_wp2
    go_ret
    exact ⟨by first | rfl | (simp; done) | (simp [*]; done), by repeat (first | exact Drawn0.refl _ | apply Drawn0.step)⟩
  · rw [if_neg c4] at H
    have c4b0 : decide (a1 ≤ a0) = false := decide_eq_false c4
    clear c4
    obtain rfl := Option.some.inj H
    go_enter Try.func16, Try.ntmps16
    go_wp2
    go_ret
    exact ⟨by first | rfl | (simp; done) | (simp [*]; done), by repeat (first | exact Drawn0.refl _ | apply Drawn0.step)⟩

/-! ### impl_closingEvent: function 24 -/
def impl_closingEvent.j0 : Nat → Int → Bool → Option (Int × Int)
  | 0, _, _ => none
  | k + 1, x0, x1 => if x1 = true then (if x0 = 4 then (some (7, 16)) else (if x0 = 5 then (some (8, 16)) else (if x0 = 6 then (some (10, 16)) else (some (x0, 16))))) else (some (x0, 0))
def impl_closingEvent.f (k : Nat) (a0 : Int) (a1 : Bool) (a2 : Bool) : Option (Int × Int) := if a2 = true then (if a0 = 5 then (impl_closingEvent.j0 k 6 a1) else (if a0 = 8 then (some (10, 0)) else (if a0 = 9 then (some (0, 0)) else (impl_closingEvent.j0 k a0 a1)))) else (impl_closingEvent.j0 k a0 a1)
theorem impl_closingEvent.mono_l : ∀ k, (∀ y0 y1, LeO (impl_closingEvent.j0 k y0 y1) (impl_closingEvent.j0 (k + 1) y0 y1))
  | 0 => fun _ _ r h => by simp [impl_closingEvent.j0] at h
  | k + 1 => by
    have ih0 := impl_closingEvent.mono_l k
    · intro y0 y1
      unfold impl_closingEvent.j0
      repeat' first
      | (with_reducible exact ih0 _ _)
      | (with_reducible exact LeO.refl _)
      | (with_reducible exact LeO.none _)
      | (with_reducible refine LeO.ite ?_ ?_)
      | (with_reducible refine LeO.bind ?_ (fun _ => ?_))
      | exact ih0 _ _
      | exact LeO.none _
      | refine LeO.ite ?_ ?_
      | refine LeO.bind ?_ (fun _ => ?_)
theorem impl_closingEvent.mono : ∀ a0 a1 a2 k, LeO (impl_closingEvent.f k a0 a1 a2) (impl_closingEvent.f (k + 1) a0 a1 a2) := by
  intro a0 a1 a2 k
  have ih0 := impl_closingEvent.mono_l k
  unfold impl_closingEvent.f
  repeat' first
      | (with_reducible exact ih0 _ _)
      | (with_reducible exact LeO.refl _)
      | (with_reducible exact LeO.none _)
      | (with_reducible refine LeO.ite ?_ ?_)
      | (with_reducible refine LeO.bind ?_ (fun _ => ?_))
      | exact ih0 _ _
      | exact LeO.none _
      | refine LeO.ite ?_ ?_
      | refine LeO.bind ?_ (fun _ => ?_)
set_option maxHeartbeats 8000000 in
set_option maxRecDepth 100000 in
theorem impl_closingEvent.calls (k : Nat) (a0 : Int) (a1 : Bool) (a2 : Bool) (r1 : Int) (r2 : Int) (w : World) (h : impl_closingEvent.f k a0 a1 a2 = some (r1, r2)) :
    Calls Try.prog 24 #[.int .i64 a0, .bool a1, .bool a2] w fun e w' => e = .returned (.tuple #[.int .i64 r1, .int .i64 r2]) ∧ Drawn0 w w' := by
  have H : (if a2 = true then (if a0 = 5 then (impl_closingEvent.j0 k 6 a1) else (if a0 = 8 then (some (10, 0)) else (if a0 = 9 then (some (0, 0)) else (impl_closingEvent.j0 k a0 a1)))) else (impl_closingEvent.j0 k a0 a1)) = some (r1, r2) := h
  clear h
  have HC4 := Aside0.mk H
  clear H
  go_enter Try.func24, Try.ntmps24
  go_upto_if 8 with (fail)
  go_cut [0] (fun v0 wc => ∃ (kq : Nat) (x0_3 : Int), v0 = .int .i64 x0_3 ∧ Aside0 (impl_closingEvent.j0 kq x0_3 a1 = some (r1, r2)) ∧ Aside0 (kq ≤ k) ∧ Drawn0 w wc)
  case first =>
    have H := HC4.out
    clear HC4
    by_cases c5 : a2 = true
    · subst c5
      have H1 : (if a0 = 5 then (impl_closingEvent.j0 k 6 a1) else (if a0 = 8 then (some (10, 0)) else (if a0 = 9 then (some (0, 0)) else (impl_closingEvent.j0 k a0 a1)))) = some (r1, r2) := by rw [if_pos rfl] at H; exact H
      clear H
      have H := H1
      clear H1
      by_cases c6 : a0 = 5
      · rw [if_pos c6] at H
        have c6b0 : (a0 == 5) = true := beq_iff_eq.mpr c6
        have c6b1 : (a0 != 5) = false := bne_eq_false_iff_eq.mpr c6
        clear c6
        (first | rw [c6b0] | (simp only [i64_w, i32_w]; rw [c6b0]) | skip)
        have H' := Aside0.mk H
        clear H
        go_wp2
        go_meet
        case rel => exact ⟨_, (6), (by first | rfl | (simp; done) | (simp [*]; done)), H', ⟨by first | omega | exact Nat.le_refl _⟩, by repeat (first | exact Drawn0.refl _ | apply Drawn0.step)⟩
      · rw [if_neg c6] at H
        have c6b0 : (a0 == 5) = false := beq_eq_false_iff_ne.mpr c6
        have c6b1 : (a0 != 5) = true := bne_iff_ne.mpr c6
        (first | rw [c6b0] | (simp only [i64_w, i32_w]; rw [c6b0]) | skip)
        by_cases c7 : a0 = 8
        · rw [if_pos c7] at H
          have c7b0 : (a0 == 8) = true := beq_iff_eq.mpr c7
          have c7b1 : (a0 != 8) = false := bne_eq_false_iff_eq.mpr c7
          clear c7
          simp only [Option.some.injEq, Prod.mk.injEq] at H
          obtain ⟨rfl, rfl⟩ := H
          go_wp2
          go_ret2
          exact ⟨by first | rfl | (simp; done) | (simp [*]; done), by repeat (first | exact Drawn0.refl _ | apply Drawn0.step)⟩
        · rw [if_neg c7] at H
          have c7b0 : (a0 == 8) = false := beq_eq_false_iff_ne.mpr c7
          have c7b1 : (a0 != 8) = true := bne_iff_ne.mpr c7
          by_cases c8 : a0 = 9
          · rw [if_pos c8] at H
            have c8b0 : (a0 == 9) = true := beq_iff_eq.mpr c8
            have c8b1 : (a0 != 9) = false := bne_eq_false_iff_eq.mpr c8
            clear c8
            simp only [Option.some.injEq, Prod.mk.injEq] at H
            obtain ⟨rfl, rfl⟩ := H
            go_wp2
            go_ret2
            exact ⟨by first | rfl | (simp; done) | (simp [*]; done), by repeat (first | exact Drawn0.refl _ | apply Drawn0.step)⟩
          · rw [if_neg c8] at H
            have c8b0 : (a0 == 9) = false := beq_eq_false_iff_ne.mpr c8
            have c8b1 : (a0 != 9) = true := bne_iff_ne.mpr c8
            have H' := Aside0.mk H
            clear H
            go_wp2
            go_meet
            case rel => exact ⟨_, (a0), (by first | rfl | (simp; done) | (simp [*]; done)), H', ⟨by first | omega | exact Nat.le_refl _⟩, by repeat (first | exact Drawn0.refl _ | apply Drawn0.step)⟩
    · replace c5 := Bool.eq_false_iff.mpr c5
      subst c5
      have H1 : (impl_closingEvent.j0 k a0 a1) = some (r1, r2) := by rw [if_neg (show ¬ (false = true) by decide)] at H; exact H
      clear H
      have H := H1
      clear H1
      have H' := Aside0.mk H
      clear H
      go_wp2
      go_meet
      case rel => exact ⟨_, (a0), (by first | rfl | (simp; done) | (simp [*]; done)), H', ⟨by first | omega | exact Nat.le_refl _⟩, by repeat (first | exact Drawn0.refl _ | apply Drawn0.step)⟩
  case rest =>
    clear HC4
    try clear c2
    try clear p2
    try clear c5
    try clear c6
    try clear c6b0
    try clear c6b1
    try clear c7
    try clear c7b0
    try clear c7b1
    try clear c8
    try clear c8b0
    try clear c8b1
    obtain ⟨kq, x0_3, rfl, HA, HJ3, ⟨mc3, rfl⟩⟩ := hcut
    cases kq with
    | zero => exact absurd HA.out (by simp [impl_closingEvent.j0])
    | succ kj3 =>
      have H := HA.out
      clear HA
      simp only [impl_closingEvent.j0] at H
      by_cases c9 : a1 = true
      · subst c9
        have H1 : (if x0_3 = 4 then (some (7, 16)) else (if x0_3 = 5 then (some (8, 16)) else (if x0_3 = 6 then (some (10, 16)) else (some (x0_3, 16))))) = some (r1, r2) := by rw [if_pos rfl] at H; exact H
        clear H
        have H := H1
        clear H1
        by_cases c10 : x0_3 = 4
        · rw [if_pos c10] at H
          have c10b0 : (x0_3 == 4) = true := beq_iff_eq.mpr c10
          have c10b1 : (x0_3 != 4) = false := bne_eq_false_iff_eq.mpr c10
          clear c10
          simp only [Option.some.injEq, Prod.mk.injEq] at H
          obtain ⟨rfl, rfl⟩ := H
          go_wp2
          go_ret2
          exact ⟨by first | rfl | (simp; done) | (simp [*]; done), by repeat (first | exact Drawn0.refl _ | apply Drawn0.step)⟩
        · rw [if_neg c10] at H
          have c10b0 : (x0_3 == 4) = false := beq_eq_false_iff_ne.mpr c10
          have c10b1 : (x0_3 != 4) = true := bne_iff_ne.mpr c10
          by_cases c11 : x0_3 = 5
          · rw [if_pos c11] at H
            have c11b0 : (x0_3 == 5) = true := beq_iff_eq.mpr c11
            have c11b1 : (x0_3 != 5) = false := bne_eq_false_iff_eq.mpr c11
            clear c11
            simp only [Option.some.injEq, Prod.mk.injEq] at H
            obtain ⟨rfl, rfl⟩ := H
            go_wp2
            go_ret2
            exact ⟨by first | rfl | (simp; done) | (simp [*]; done), by repeat (first | exact Drawn0.refl _ | apply Drawn0.step)⟩
          · rw [if_neg c11] at H
            have c11b0 : (x0_3 == 5) = false := beq_eq_false_iff_ne.mpr c11
            have c11b1 : (x0_3 != 5) = true := bne_iff_ne.mpr c11
            by_cases c12 : x0_3 = 6
            · rw [if_pos c12] at H
              have c12b0 : (x0_3 == 6) = true := beq_iff_eq.mpr c12
              have c12b1 : (x0_3 != 6) = false := bne_eq_false_iff_eq.mpr c12
              clear c12
              simp only [Option.some.injEq, Prod.mk.injEq] at H
              obtain ⟨rfl, rfl⟩ := H
              go_wp2
              go_ret2
              exact ⟨by first | rfl | (simp; done) | (simp [*]; done), by repeat (first | exact Drawn0.refl _ | apply Drawn0.step)⟩
            · rw [if_neg c12] at H
              have c12b0 : (x0_3 == 6) = false := beq_eq_false_iff_ne.mpr c12
              have c12b1 : (x0_3 != 6) = true := bne_iff_ne.mpr c12
              simp only [Option.some.injEq, Prod.mk.injEq] at H
              obtain ⟨rfl, rfl⟩ := H
              go_wp2
              go_ret2
              exact ⟨by first | rfl | (simp; done) | (simp [*]; done), by repeat (first | exact Drawn0.refl _ | apply Drawn0.step)⟩
      · replace c9 := Bool.eq_false_iff.mpr c9
        subst c9
        have H1 : (some (x0_3, 0)) = some (r1, r2) := by rw [if_neg (show ¬ (false = true) by decide)] at H; exact H
        clear H
        have H := H1
        clear H1
        simp only [Option.some.injEq, Prod.mk.injEq] at H
        obtain ⟨rfl, rfl⟩ := H
        go_wp2
        go_ret2
        exact ⟨by first | rfl | (simp; done) | (simp [*]; done), by repeat (first | exact Drawn0.refl _ | apply Drawn0.step)⟩

/-! ### impl_segmentEvent: function 21 -/
theorem pred23 (f a : Int) (B : Nat) (W : World) (hcell : W.cell? ⟨B, 0, none⟩ = some (.int .i64 a)) :
    Calls Try.prog 23 #[.int .i64 f, .pointer (some ⟨B, 0, none⟩)] W fun e w' => e = .returned (.bool (!(Go.bits .and .i64 a f == 0))) ∧ w' = W := by
  go_enter Try.func23, Try.ntmps23
  go_wp2
  go_ret
  exact ⟨by first | rfl | (simp; done), rfl⟩
def impl_segmentEvent.f (a0 a1 : Int) : Option (Int × Int) :=
  if (!(Go.bits .and .i64 a1 8 == 0)) = true then (if a0 = 1 then some (1, 0) else some (0, 0))
  else if a0 = 0 then some (0, 8)
  else if a0 = 1 then (if (!(Go.bits .and .i64 a1 2 == 0)) = true then some (1, 8) else if (!(Go.bits .and .i64 a1 16 == 0)) = true then some (1, 8) else if (!(Go.bits .and .i64 a1 1 == 0)) = true then some (3, 3) else some (1, 0))
  else if a0 = 2 then (if (!(Go.bits .and .i64 a1 1 == 0)) = true then (if (!(Go.bits .and .i64 a1 2 == 0)) = true then some (4, 2) else some (3, 3)) else some (2, 0))
  else if a0 = 3 then (if (!(Go.bits .and .i64 a1 2 == 0)) = true then impl_closingEvent.f 4 4 (!(Go.bits .and .i64 a1 4 == 0)) (!(Go.bits .and .i64 a1 16 == 0)) else if (!(Go.bits .and .i64 a1 1 == 0)) = true then some (3, 3) else some (3, 0))
  else impl_closingEvent.f 4 a0 (!(Go.bits .and .i64 a1 4 == 0)) (!(Go.bits .and .i64 a1 16 == 0))
set_option maxHeartbeats 8000000 in
set_option maxRecDepth 100000 in
theorem impl_segmentEvent.calls (a0 a1 r1 r2 : Int) (w : World) (h : impl_segmentEvent.f a0 a1 = some (r1, r2)) :
    Calls Try.prog 21 #[.int .i64 a0, .int .i64 a1] w fun e w' => e = .returned (.tuple #[.int .i64 r1, .int .i64 r2]) ∧ Below w.heap.size w w' := by
  have hc : ∀ f, Calls Try.prog 23 #[.int .i64 f, .pointer (some ⟨w.heap.size, 0, none⟩)] (w.alloc (.cells #[.int .i64 a1] 3)) fun e w' => e = .returned (.bool (!(Go.bits .and .i64 a1 f == 0))) ∧ w' = w.alloc (.cells #[.int .i64 a1] 3) := fun f => pred23 f a1 _ _ (by simp)
  have hB : Below w.heap.size w (w.alloc (.cells #[.int .i64 a1] 3)) := (Below.refl _ w).alloc (Nat.le_refl _) _
  unfold impl_segmentEvent.f at h
  have h8 := hc 8
  have h1 := hc 1
  have h2 := hc 2
  have h4 := hc 4
  have h16 := hc 16
  clear hc
  generalize (!(Go.bits .and .i64 a1 8 == 0)) = p8 at h h8
  generalize (!(Go.bits .and .i64 a1 1 == 0)) = p1 at h h1
  generalize (!(Go.bits .and .i64 a1 2 == 0)) = p2 at h h2
  generalize (!(Go.bits .and .i64 a1 4 == 0)) = p4 at h h4
  generalize (!(Go.bits .and .i64 a1 16 == 0)) = p16 at h h16
  cases p8 with
  | true =>
    rw [if_pos rfl] at h
    by_cases c1 : a0 = 1
    · subst c1
      rw [if_pos rfl] at h
      obtain ⟨rfl, rfl⟩ := Prod.mk.inj (Option.some.inj h)
      clear h
      go_enter Try.func21, Try.ntmps21
      go_wp2_with (go_at_call 23; first | ((with_reducible refine h8.mono ?_); rintro e w' ⟨rfl, rfl⟩) | ((with_reducible refine h1.mono ?_); rintro e w' ⟨rfl, rfl⟩) | ((with_reducible refine h2.mono ?_); rintro e w' ⟨rfl, rfl⟩) | ((with_reducible refine h4.mono ?_); rintro e w' ⟨rfl, rfl⟩) | ((with_reducible refine h16.mono ?_); rintro e w' ⟨rfl, rfl⟩))
      go_ret2
      exact ⟨rfl, hB⟩
    · rw [if_neg c1] at h
      have c1b0 : decide (a0 = 1) = false := decide_eq_false c1
      have c1b1 : (a0 == 1) = false := by simpa using c1
      obtain ⟨rfl, rfl⟩ := Prod.mk.inj (Option.some.inj h)
      clear h
      go_enter Try.func21, Try.ntmps21
      go_wp2_with (go_at_call 23; first | ((with_reducible refine h8.mono ?_); rintro e w' ⟨rfl, rfl⟩) | ((with_reducible refine h1.mono ?_); rintro e w' ⟨rfl, rfl⟩) | ((with_reducible refine h2.mono ?_); rintro e w' ⟨rfl, rfl⟩) | ((with_reducible refine h4.mono ?_); rintro e w' ⟨rfl, rfl⟩) | ((with_reducible refine h16.mono ?_); rintro e w' ⟨rfl, rfl⟩))
      go_ret2
      exact ⟨rfl, hB⟩
  | false =>
    rw [if_neg (by decide)] at h
    by_cases c0 : a0 = 0
    · subst c0
      rw [if_pos rfl] at h
      obtain ⟨rfl, rfl⟩ := Prod.mk.inj (Option.some.inj h)
      clear h
      go_enter Try.func21, Try.ntmps21
      go_wp2_with (go_at_call 23; first | ((with_reducible refine h8.mono ?_); rintro e w' ⟨rfl, rfl⟩) | ((with_reducible refine h1.mono ?_); rintro e w' ⟨rfl, rfl⟩) | ((with_reducible refine h2.mono ?_); rintro e w' ⟨rfl, rfl⟩) | ((with_reducible refine h4.mono ?_); rintro e w' ⟨rfl, rfl⟩) | ((with_reducible refine h16.mono ?_); rintro e w' ⟨rfl, rfl⟩))
      go_ret2
      exact ⟨rfl, hB⟩
    rw [if_neg c0] at h
    have c0b1 : (a0 == 0) = false := by simpa using c0
    by_cases c1 : a0 = 1
    · subst c1
      rw [if_pos rfl] at h
      cases p2 with
      | true =>
        rw [if_pos rfl] at h
        obtain ⟨rfl, rfl⟩ := Prod.mk.inj (Option.some.inj h)
        clear h
        go_enter Try.func21, Try.ntmps21
        go_wp2_with (go_at_call 23; first | ((with_reducible refine h8.mono ?_); rintro e w' ⟨rfl, rfl⟩) | ((with_reducible refine h1.mono ?_); rintro e w' ⟨rfl, rfl⟩) | ((with_reducible refine h2.mono ?_); rintro e w' ⟨rfl, rfl⟩) | ((with_reducible refine h4.mono ?_); rintro e w' ⟨rfl, rfl⟩) | ((with_reducible refine h16.mono ?_); rintro e w' ⟨rfl, rfl⟩))
        go_ret2
        exact ⟨rfl, hB⟩
      | false =>
        rw [if_neg (by decide)] at h
        cases p16 with
        | true =>
          rw [if_pos rfl] at h
          obtain ⟨rfl, rfl⟩ := Prod.mk.inj (Option.some.inj h)
          clear h
          go_enter Try.func21, Try.ntmps21
          go_wp2_with (go_at_call 23; first | ((with_reducible refine h8.mono ?_); rintro e w' ⟨rfl, rfl⟩) | ((with_reducible refine h1.mono ?_); rintro e w' ⟨rfl, rfl⟩) | ((with_reducible refine h2.mono ?_); rintro e w' ⟨rfl, rfl⟩) | ((with_reducible refine h4.mono ?_); rintro e w' ⟨rfl, rfl⟩) | ((with_reducible refine h16.mono ?_); rintro e w' ⟨rfl, rfl⟩))
          go_ret2
          exact ⟨rfl, hB⟩
        | false =>
          rw [if_neg (by decide)] at h
          cases p1 with
          | true =>
            rw [if_pos rfl] at h
            obtain ⟨rfl, rfl⟩ := Prod.mk.inj (Option.some.inj h)
            clear h
            go_enter Try.func21, Try.ntmps21
            go_wp2_with (go_at_call 23; first | ((with_reducible refine h8.mono ?_); rintro e w' ⟨rfl, rfl⟩) | ((with_reducible refine h1.mono ?_); rintro e w' ⟨rfl, rfl⟩) | ((with_reducible refine h2.mono ?_); rintro e w' ⟨rfl, rfl⟩) | ((with_reducible refine h4.mono ?_); rintro e w' ⟨rfl, rfl⟩) | ((with_reducible refine h16.mono ?_); rintro e w' ⟨rfl, rfl⟩))
            go_ret2
            exact ⟨rfl, hB⟩
          | false =>
            rw [if_neg (by decide)] at h
            obtain ⟨rfl, rfl⟩ := Prod.mk.inj (Option.some.inj h)
            clear h
            go_enter Try.func21, Try.ntmps21
            go_wp2_with (go_at_call 23; first | ((with_reducible refine h8.mono ?_); rintro e w' ⟨rfl, rfl⟩) | ((with_reducible refine h1.mono ?_); rintro e w' ⟨rfl, rfl⟩) | ((with_reducible refine h2.mono ?_); rintro e w' ⟨rfl, rfl⟩) | ((with_reducible refine h4.mono ?_); rintro e w' ⟨rfl, rfl⟩) | ((with_reducible refine h16.mono ?_); rintro e w' ⟨rfl, rfl⟩))
            go_ret2
            exact ⟨rfl, hB⟩
    rw [if_neg c1] at h
    have c1b1 : (a0 == 1) = false := by simpa using c1
    by_cases c2 : a0 = 2
    · subst c2
      rw [if_pos rfl] at h
      cases p1 with
      | true =>
        rw [if_pos rfl] at h
        cases p2 with
        | true =>
          rw [if_pos rfl] at h
          obtain ⟨rfl, rfl⟩ := Prod.mk.inj (Option.some.inj h)
          clear h
          go_enter Try.func21, Try.ntmps21
          go_wp2_with (go_at_call 23; first | ((with_reducible refine h8.mono ?_); rintro e w' ⟨rfl, rfl⟩) | ((with_reducible refine h1.mono ?_); rintro e w' ⟨rfl, rfl⟩) | ((with_reducible refine h2.mono ?_); rintro e w' ⟨rfl, rfl⟩) | ((with_reducible refine h4.mono ?_); rintro e w' ⟨rfl, rfl⟩) | ((with_reducible refine h16.mono ?_); rintro e w' ⟨rfl, rfl⟩))
          go_ret2
          exact ⟨rfl, hB⟩
        | false =>
          rw [if_neg (by decide)] at h
          obtain ⟨rfl, rfl⟩ := Prod.mk.inj (Option.some.inj h)
          clear h
          go_enter Try.func21, Try.ntmps21
          go_wp2_with (go_at_call 23; first | ((with_reducible refine h8.mono ?_); rintro e w' ⟨rfl, rfl⟩) | ((with_reducible refine h1.mono ?_); rintro e w' ⟨rfl, rfl⟩) | ((with_reducible refine h2.mono ?_); rintro e w' ⟨rfl, rfl⟩) | ((with_reducible refine h4.mono ?_); rintro e w' ⟨rfl, rfl⟩) | ((with_reducible refine h16.mono ?_); rintro e w' ⟨rfl, rfl⟩))
          go_ret2
          exact ⟨rfl, hB⟩
      | false =>
        rw [if_neg (by decide)] at h
        obtain ⟨rfl, rfl⟩ := Prod.mk.inj (Option.some.inj h)
        clear h
        go_enter Try.func21, Try.ntmps21
        go_wp2_with (go_at_call 23; first | ((with_reducible refine h8.mono ?_); rintro e w' ⟨rfl, rfl⟩) | ((with_reducible refine h1.mono ?_); rintro e w' ⟨rfl, rfl⟩) | ((with_reducible refine h2.mono ?_); rintro e w' ⟨rfl, rfl⟩) | ((with_reducible refine h4.mono ?_); rintro e w' ⟨rfl, rfl⟩) | ((with_reducible refine h16.mono ?_); rintro e w' ⟨rfl, rfl⟩))
        go_ret2
        exact ⟨rfl, hB⟩
    rw [if_neg c2] at h
    have c2b1 : (a0 == 2) = false := by simpa using c2
    by_cases c3 : a0 = 3
    · subst c3
      rw [if_pos rfl] at h
      cases p2 with
      | true =>
        rw [if_pos rfl] at h
        have hk := impl_closingEvent.calls 4 4 p4 p16 r1 r2 (w.alloc (.cells #[.int .i64 a1] 3)) h
        clear h
        go_enter Try.func21, Try.ntmps21
        go_wp2_with (first | (go_at_call 23; first | ((with_reducible refine h8.mono ?_); rintro e w' ⟨rfl, rfl⟩) | ((with_reducible refine h1.mono ?_); rintro e w' ⟨rfl, rfl⟩) | ((with_reducible refine h2.mono ?_); rintro e w' ⟨rfl, rfl⟩) | ((with_reducible refine h4.mono ?_); rintro e w' ⟨rfl, rfl⟩) | ((with_reducible refine h16.mono ?_); rintro e w' ⟨rfl, rfl⟩)) | (go_at_call 24; refine hk.mono ?_; rintro e w' ⟨rfl, ⟨nd, rfl⟩⟩))
        go_ret2
        exact ⟨rfl, by first | exact hB | exact pw_below_drewN hB _ | exact pw_below_drewN hB⟩
      | false =>
        rw [if_neg (by decide)] at h
        cases p1 with
        | true =>
          rw [if_pos rfl] at h
          obtain ⟨rfl, rfl⟩ := Prod.mk.inj (Option.some.inj h)
          clear h
          go_enter Try.func21, Try.ntmps21
          go_wp2_with (go_at_call 23; first | ((with_reducible refine h8.mono ?_); rintro e w' ⟨rfl, rfl⟩) | ((with_reducible refine h1.mono ?_); rintro e w' ⟨rfl, rfl⟩) | ((with_reducible refine h2.mono ?_); rintro e w' ⟨rfl, rfl⟩) | ((with_reducible refine h4.mono ?_); rintro e w' ⟨rfl, rfl⟩) | ((with_reducible refine h16.mono ?_); rintro e w' ⟨rfl, rfl⟩))
          go_ret2
          exact ⟨rfl, hB⟩
        | false =>
          rw [if_neg (by decide)] at h
          obtain ⟨rfl, rfl⟩ := Prod.mk.inj (Option.some.inj h)
          clear h
          go_enter Try.func21, Try.ntmps21
          go_wp2_with (go_at_call 23; first | ((with_reducible refine h8.mono ?_); rintro e w' ⟨rfl, rfl⟩) | ((with_reducible refine h1.mono ?_); rintro e w' ⟨rfl, rfl⟩) | ((with_reducible refine h2.mono ?_); rintro e w' ⟨rfl, rfl⟩) | ((with_reducible refine h4.mono ?_); rintro e w' ⟨rfl, rfl⟩) | ((with_reducible refine h16.mono ?_); rintro e w' ⟨rfl, rfl⟩))
          go_ret2
          exact ⟨rfl, hB⟩
    rw [if_neg c3] at h
    have c3b1 : (a0 == 3) = false := by simpa using c3
    have hk := impl_closingEvent.calls 4 a0 p4 p16 r1 r2 (w.alloc (.cells #[.int .i64 a1] 3)) h
    clear h
    go_enter Try.func21, Try.ntmps21
    go_wp2_with (first | (go_at_call 23; first | ((with_reducible refine h8.mono ?_); rintro e w' ⟨rfl, rfl⟩) | ((with_reducible refine h1.mono ?_); rintro e w' ⟨rfl, rfl⟩) | ((with_reducible refine h2.mono ?_); rintro e w' ⟨rfl, rfl⟩) | ((with_reducible refine h4.mono ?_); rintro e w' ⟨rfl, rfl⟩) | ((with_reducible refine h16.mono ?_); rintro e w' ⟨rfl, rfl⟩)) | (go_at_call 24; refine hk.mono ?_; rintro e w' ⟨rfl, ⟨nd, rfl⟩⟩))
    go_ret2
    exact ⟨rfl, by first | exact hB | exact pw_below_drewN hB _ | exact pw_below_drewN hB⟩

end Go.Proofs.Ytacjjlnjmmfmnaa.PFnExactTcpStep
