-- OWN TEXT of FnToeplitz: made by own_print.sh, finished by hand
import Derived.Test.YtecjjkmheionoaaGFnToeplitzx0
import Derived.Test.YtecjjkmheionoaaGFnToeplitzx1
namespace Go.Proofs.Ytecjjkmheionoaa.PFnToeplitz
open Go.RowKit Go.Proofs.YtecjjkmheionoaaW.PrintWords Go.Proofs.YtecjjkmheionoaaW.PrintLast Go.Proofs.YtecjjkmheionoaaW.PrintMore
attribute [local go_sem] max2_int min2_int max_two min_two max_three min_three max_four min_four   -- for this text's walks alone
set_option linter.unusedVariables false
set_option linter.unusedSimpArgs false

/-! ### impl_Toeplitz: function 18 -/
mutual
def impl_Toeplitz.j0 : Nat → List Int → List Int → Bool → Option (Int × Int)
  | 0, _, _, _ => none
  | k + 1, x0, x1, x18 => if x18 = true then (some (0, 2)) else (if (x1.length : Int) > 64 then (impl_Toeplitz.j1 k x0 x1 true) else ((impl_inRange.f (x0.length : Int) (wrap64 ((x1.length : Int) + 4)) 80).bind fun t136 => (impl_Toeplitz.j1 k x0 x1 (!t136))))
def impl_Toeplitz.j1 : Nat → List Int → List Int → Bool → Option (Int × Int)
  | 0, _, _, _ => none
  | k + 1, x0, x1, x30 => if x30 = true then (some (0, 4)) else (impl_Toeplitz.l0 k x0 0 x1 (x1.length : Int) 0)
def impl_Toeplitz.l0 : Nat → List Int → Int → List Int → Int → Int → Option (Int × Int)
  | 0, _, _, _, _, _ => none
  | k + 1, x0, x6, x31, x32, x33 => if x33 < x32 then (if 0 ≤ x33 then (if x33 < (x31.length : Int) then (if x33 < (x0.length : Int) then (if 0 ≤ (wrap64 (x33 + 1)) then (if (wrap64 (x33 + 1)) < (x0.length : Int) then (if 0 ≤ (wrap64 (x33 + 2)) then (if (wrap64 (x33 + 2)) < (x0.length : Int) then (if 0 ≤ (wrap64 (x33 + 3)) then (if (wrap64 (x33 + 3)) < (x0.length : Int) then (if (wrap64 (x33 + 4)) < (x0.length : Int) then (if 0 ≤ (wrap64 (x33 + 4)) then (impl_Toeplitz.j3 k x0 x6 (rd x31 x33) (Go.bits .or .u64 (Go.bits .or .u64 (Go.bits .or .u64 (Go.bits .or .u64 (IntKind.u64.wrap ((IntKind.u64.wrap (rd x0 x33)) * 4294967296)) (IntKind.u64.wrap ((IntKind.u64.wrap (rd x0 (wrap64 (x33 + 1)))) * 16777216))) (IntKind.u64.wrap ((IntKind.u64.wrap (rd x0 (wrap64 (x33 + 2)))) * 65536))) (IntKind.u64.wrap ((IntKind.u64.wrap (rd x0 (wrap64 (x33 + 3)))) * 256))) (IntKind.u64.wrap (rd x0 (wrap64 (x33 + 4))))) x31 x32 x33) else (none)) else (impl_Toeplitz.j3 k x0 x6 (rd x31 x33) (Go.bits .or .u64 (Go.bits .or .u64 (Go.bits .or .u64 (IntKind.u64.wrap ((IntKind.u64.wrap (rd x0 x33)) * 4294967296)) (IntKind.u64.wrap ((IntKind.u64.wrap (rd x0 (wrap64 (x33 + 1)))) * 16777216))) (IntKind.u64.wrap ((IntKind.u64.wrap (rd x0 (wrap64 (x33 + 2)))) * 65536))) (IntKind.u64.wrap ((IntKind.u64.wrap (rd x0 (wrap64 (x33 + 3)))) * 256))) x31 x32 x33)) else (none)) else (none)) else (none)) else (none)) else (none)) else (none)) else (none)) else (none)) else (none)) else (some (wrap64 (x6), 0))
def impl_Toeplitz.j3 : Nat → List Int → Int → Int → Int → List Int → Int → Int → Option (Int × Int)
  | 0, _, _, _, _, _, _, _ => none
  | k + 1, x0, x6, x8, x9, x31, x32, x33 => impl_Toeplitz.l1 k x0 x6 x8 x9 x31 x32 x33 0
def impl_Toeplitz.l1 : Nat → List Int → Int → Int → Int → List Int → Int → Int → Int → Option (Int × Int)
  | 0, _, _, _, _, _, _, _, _ => none
  | k + 1, x0, x6, x8, x9, x31, x32, x33, x81 => if x81 < 8 then (if 0 ≤ x81 then (if (Go.bits .and .u8 x8 (shr .u8 128 x81)) = 0 then (impl_Toeplitz.l1 k x0 x6 x8 x9 x31 x32 x33 (wrap64 (x81 + 1))) else (if 0 ≤ (wrap64 (8 - x81)) then (impl_Toeplitz.l1 k x0 (Go.bits .xor .u32 x6 ((shr .u64 x9 (wrap64 (8 - x81))) % 4294967296)) x8 x9 x31 x32 x33 (wrap64 (x81 + 1))) else (none))) else (none)) else (impl_Toeplitz.l0 k x0 x6 x31 x32 (wrap64 (x33 + 1)))
end
def impl_Toeplitz.f (k : Nat) (l0 : List Int) (l1 : List Int) : Option (Int × Int) := if (l0.length : Int) > 65536 then (impl_Toeplitz.j0 k l0 l1 true) else (impl_Toeplitz.j0 k l0 l1 (decide ((l1.length : Int) > 65536)))
theorem impl_Toeplitz.mono_l : ∀ k, (∀ y0 y1 y2, LeO (impl_Toeplitz.j0 k y0 y1 y2) (impl_Toeplitz.j0 (k + 1) y0 y1 y2)) ∧ (∀ y0 y1 y2, LeO (impl_Toeplitz.j1 k y0 y1 y2) (impl_Toeplitz.j1 (k + 1) y0 y1 y2)) ∧ (∀ y0 y1 y2 y3 y4, LeO (impl_Toeplitz.l0 k y0 y1 y2 y3 y4) (impl_Toeplitz.l0 (k + 1) y0 y1 y2 y3 y4)) ∧ (∀ y0 y1 y2 y3 y4 y5 y6, LeO (impl_Toeplitz.j3 k y0 y1 y2 y3 y4 y5 y6) (impl_Toeplitz.j3 (k + 1) y0 y1 y2 y3 y4 y5 y6)) ∧ (∀ y0 y1 y2 y3 y4 y5 y6 y7, LeO (impl_Toeplitz.l1 k y0 y1 y2 y3 y4 y5 y6 y7) (impl_Toeplitz.l1 (k + 1) y0 y1 y2 y3 y4 y5 y6 y7))
  | 0 => ⟨fun _ _ _ r h => by simp [impl_Toeplitz.j0] at h, fun _ _ _ r h => by simp [impl_Toeplitz.j1] at h, fun _ _ _ _ _ r h => by simp [impl_Toeplitz.l0] at h, fun _ _ _ _ _ _ _ r h => by simp [impl_Toeplitz.j3] at h, fun _ _ _ _ _ _ _ _ r h => by simp [impl_Toeplitz.l1] at h⟩
  | k + 1 => by
    obtain ⟨ih0, ih1, ih2, ih3, ih4⟩ := impl_Toeplitz.mono_l k
    refine ⟨?_, ?_, ?_, ?_, ?_⟩
    · intro y0 y1 y2
      unfold impl_Toeplitz.j0
      repeat' first
      | (with_reducible exact ih0 _ _ _)
      | (with_reducible exact ih1 _ _ _)
      | (with_reducible exact ih2 _ _ _ _ _)
      | (with_reducible exact ih3 _ _ _ _ _ _ _)
      | (with_reducible exact ih4 _ _ _ _ _ _ _ _)
      | (with_reducible exact LeO.refl _)
      | (with_reducible exact LeO.none _)
      | (with_reducible refine LeO.ite ?_ ?_)
      | (with_reducible refine LeO.bind ?_ (fun _ => ?_))
      | exact ih0 _ _ _
      | exact ih1 _ _ _
      | exact ih2 _ _ _ _ _
      | exact ih3 _ _ _ _ _ _ _
      | exact ih4 _ _ _ _ _ _ _ _
      | exact LeO.none _
      | refine LeO.ite ?_ ?_
      | refine LeO.bind ?_ (fun _ => ?_)
    · intro y0 y1 y2
      unfold impl_Toeplitz.j1
      repeat' first
      | (with_reducible exact ih0 _ _ _)
      | (with_reducible exact ih1 _ _ _)
      | (with_reducible exact ih2 _ _ _ _ _)
      | (with_reducible exact ih3 _ _ _ _ _ _ _)
      | (with_reducible exact ih4 _ _ _ _ _ _ _ _)
      | (with_reducible exact LeO.refl _)
      | (with_reducible exact LeO.none _)
      | (with_reducible refine LeO.ite ?_ ?_)
      | (with_reducible refine LeO.bind ?_ (fun _ => ?_))
      | exact ih0 _ _ _
      | exact ih1 _ _ _
      | exact ih2 _ _ _ _ _
      | exact ih3 _ _ _ _ _ _ _
      | exact ih4 _ _ _ _ _ _ _ _
      | exact LeO.none _
      | refine LeO.ite ?_ ?_
      | refine LeO.bind ?_ (fun _ => ?_)
    · intro y0 y1 y2 y3 y4
      unfold impl_Toeplitz.l0
      repeat' first
      | (with_reducible exact ih0 _ _ _)
      | (with_reducible exact ih1 _ _ _)
      | (with_reducible exact ih2 _ _ _ _ _)
      | (with_reducible exact ih3 _ _ _ _ _ _ _)
      | (with_reducible exact ih4 _ _ _ _ _ _ _ _)
      | (with_reducible exact LeO.refl _)
      | (with_reducible exact LeO.none _)
      | (with_reducible refine LeO.ite ?_ ?_)
      | (with_reducible refine LeO.bind ?_ (fun _ => ?_))
      | exact ih0 _ _ _
      | exact ih1 _ _ _
      | exact ih2 _ _ _ _ _
      | exact ih3 _ _ _ _ _ _ _
      | exact ih4 _ _ _ _ _ _ _ _
      | exact LeO.none _
      | refine LeO.ite ?_ ?_
      | refine LeO.bind ?_ (fun _ => ?_)
    · intro y0 y1 y2 y3 y4 y5 y6
      unfold impl_Toeplitz.j3
      repeat' first
      | (with_reducible exact ih0 _ _ _)
      | (with_reducible exact ih1 _ _ _)
      | (with_reducible exact ih2 _ _ _ _ _)
      | (with_reducible exact ih3 _ _ _ _ _ _ _)
      | (with_reducible exact ih4 _ _ _ _ _ _ _ _)
      | (with_reducible exact LeO.refl _)
      | (with_reducible exact LeO.none _)
      | (with_reducible refine LeO.ite ?_ ?_)
      | (with_reducible refine LeO.bind ?_ (fun _ => ?_))
      | exact ih0 _ _ _
      | exact ih1 _ _ _
      | exact ih2 _ _ _ _ _
      | exact ih3 _ _ _ _ _ _ _
      | exact ih4 _ _ _ _ _ _ _ _
      | exact LeO.none _
      | refine LeO.ite ?_ ?_
      | refine LeO.bind ?_ (fun _ => ?_)
    · intro y0 y1 y2 y3 y4 y5 y6 y7
      unfold impl_Toeplitz.l1
      repeat' first
      | (with_reducible exact ih0 _ _ _)
      | (with_reducible exact ih1 _ _ _)
      | (with_reducible exact ih2 _ _ _ _ _)
      | (with_reducible exact ih3 _ _ _ _ _ _ _)
      | (with_reducible exact ih4 _ _ _ _ _ _ _ _)
      | (with_reducible exact LeO.refl _)
      | (with_reducible exact LeO.none _)
      | (with_reducible refine LeO.ite ?_ ?_)
      | (with_reducible refine LeO.bind ?_ (fun _ => ?_))
      | exact ih0 _ _ _
      | exact ih1 _ _ _
      | exact ih2 _ _ _ _ _
      | exact ih3 _ _ _ _ _ _ _
      | exact ih4 _ _ _ _ _ _ _ _
      | exact LeO.none _
      | refine LeO.ite ?_ ?_
      | refine LeO.bind ?_ (fun _ => ?_)
theorem impl_Toeplitz.mono : ∀ a0 a1 k, LeO (impl_Toeplitz.f k a0 a1) (impl_Toeplitz.f (k + 1) a0 a1) := by
  intro a0 a1 k
  obtain ⟨ih0, ih1, ih2, ih3, ih4⟩ := impl_Toeplitz.mono_l k
  unfold impl_Toeplitz.f
  repeat' first
      | (with_reducible exact ih0 _ _ _)
      | (with_reducible exact ih1 _ _ _)
      | (with_reducible exact ih2 _ _ _ _ _)
      | (with_reducible exact ih3 _ _ _ _ _ _ _)
      | (with_reducible exact ih4 _ _ _ _ _ _ _ _)
      | (with_reducible exact LeO.refl _)
      | (with_reducible exact LeO.none _)
      | (with_reducible refine LeO.ite ?_ ?_)
      | (with_reducible refine LeO.bind ?_ (fun _ => ?_))
      | exact ih0 _ _ _
      | exact ih1 _ _ _
      | exact ih2 _ _ _ _ _
      | exact ih3 _ _ _ _ _ _ _
      | exact ih4 _ _ _ _ _ _ _ _
      | exact LeO.none _
      | refine LeO.ite ?_ ?_
      | refine LeO.bind ?_ (fun _ => ?_)
set_option maxHeartbeats 8000000 in
set_option maxRecDepth 100000 in
theorem impl_Toeplitz.calls (k : Nat) (A0 : Option Addr) (c0 : Nat) (l0 : List Int) (A1 : Option Addr) (c1 : Nat) (l1 : List Int) (r1 : Int) (r2 : Int) (w : World) (hr0 : Kd.C (Kd.int .u8) w A0 l0.length l0) (hc0 : l0.length ≤ c0) (hr1 : Kd.C (Kd.int .u8) w A1 l1.length l1) (hc1 : l1.length ≤ c1) (h : impl_Toeplitz.f k l0 l1 = some (r1, r2)) :
    Calls Try.prog 18 #[.slice A0 l0.length c0, .slice A1 l1.length c1] w fun e w' => e = .returned (.tuple #[.int .i64 r1, .int .i64 r2]) ∧ Drawn0 w w' := by
  have HR0 := Aside0.mk hr0
  have HC0 := Aside0.mk hc0
  clear hr0 hc0
  have HR1 := Aside0.mk hr1
  have HC1 := Aside0.mk hc1
  clear hr1 hc1
  have H : (if (l0.length : Int) > 65536 then (impl_Toeplitz.j0 k l0 l1 true) else (impl_Toeplitz.j0 k l0 l1 (decide ((l1.length : Int) > 65536)))) = some (r1, r2) := h
  clear h
  have HC3 := Aside0.mk H
  clear H
  go_enter Try.func18, Try.ntmps18
  go_upto_region 1 with (fail)
  repeat (go_quiet (fail); go_upto_region 1 with (fail))
  go_cut [18] (fun v18 wc => ∃ (kq : Nat) (x18_2 : Bool), v18 = .bool x18_2 ∧ Aside0 (impl_Toeplitz.j0 kq l0 l1 x18_2 = some (r1, r2)) ∧ Aside0 (kq ≤ k) ∧ Drawn0 w wc)
  case first =>
    have H := HC3.out
    clear HC3
    by_cases c4 : (l0.length : Int) > 65536
    · rw [if_pos c4] at H
      have c4b0 : decide (65536 < (l0.length : Int)) = true := decide_eq_true c4
      have c4b1 : decide (65536 < l0.length) = true := decide_eq_true (by omega)
      clear c4
      (first | rw [c4b0] | (simp only [i64_w, i32_w]; rw [c4b0]) | skip)
      have H' := Aside0.mk H
      clear H
      go_wp2
      repeat (go_quiet (fail); try go_wp2)
      go_meet
      case rel => exact ⟨_, (true), (by first | rfl | (simp; done) | (simp [*]; done)), H', ⟨by first | omega | exact Nat.le_refl _⟩, by repeat (first | exact Drawn0.refl _ | apply Drawn0.step)⟩
    · rw [if_neg c4] at H
      have c4b0 : decide (65536 < (l0.length : Int)) = false := decide_eq_false c4
      have c4b1 : decide (65536 < l0.length) = false := decide_eq_false (by omega)
      clear c4
      (first | rw [c4b0] | (simp only [i64_w, i32_w]; rw [c4b0]) | skip)
      have H' := Aside0.mk H
      clear H
      go_wp2
      repeat (go_quiet (fail); try go_wp2)
      go_meet
      case rel => exact ⟨_, (decide ((l1.length : Int) > 65536)), (by first | rfl | (simp; done) | (simp [*]; done)), H', ⟨by first | omega | exact Nat.le_refl _⟩, by repeat (first | exact Drawn0.refl _ | apply Drawn0.step)⟩
  case rest =>
    clear HC3
    try clear c1
    try clear p2
    try clear c4
    try clear c4b0
    try clear c4b1
    obtain ⟨kq, x18_2, rfl, HA, HJ2, ⟨mc2, rfl⟩⟩ := hcut
    cases kq with
    | zero => exact absurd HA.out (by simp [impl_Toeplitz.j0])
    | succ kj2 =>
      have H := HA.out
      clear HA
      simp only [impl_Toeplitz.j0] at H
      by_cases c5 : x18_2 = true
      · subst c5
        have H1 : (some (0, 2)) = some (r1, r2) := by rw [if_pos rfl] at H; exact H
        clear H
        have H := H1
        clear H1
        simp only [Option.some.injEq, Prod.mk.injEq] at H
        obtain ⟨rfl, rfl⟩ := H
        go_wp2
        repeat (go_quiet (fail); try go_wp2)
        go_ret2
        exact ⟨by first | rfl | (simp; done) | (simp [*]; done), by repeat (first | exact Drawn0.refl _ | apply Drawn0.step)⟩
      · replace c5 := Bool.eq_false_iff.mpr c5
        subst c5
        have H1 : (if (l1.length : Int) > 64 then (impl_Toeplitz.j1 kj2 l0 l1 true) else ((impl_inRange.f (l0.length : Int) (wrap64 ((l1.length : Int) + 4)) 80).bind fun t136 => (impl_Toeplitz.j1 kj2 l0 l1 (!t136)))) = some (r1, r2) := by rw [if_neg (show ¬ (false = true) by decide)] at H; exact H
        clear H
        have H := H1
        clear H1
        have HC6 := Aside0.mk H
        clear H
        go_upto_region 3 with (fail)
        repeat (go_quiet (fail); go_upto_region 3 with (fail))
        go_cut [30] (fun v30 wc => ∃ (kq : Nat) (x30_5 : Bool), v30 = .bool x30_5 ∧ Aside0 (impl_Toeplitz.j1 kq l0 l1 x30_5 = some (r1, r2)) ∧ Aside0 (kq ≤ kj2) ∧ Drawn0 w wc)
        case first =>
          have H := HC6.out
          clear HC6
          by_cases c7 : (l1.length : Int) > 64
          · rw [if_pos c7] at H
            have c7b0 : decide (64 < (l1.length : Int)) = true := decide_eq_true c7
            have c7b1 : decide (64 < l1.length) = true := decide_eq_true (by omega)
            clear c7
            (first | rw [c7b0] | (simp only [i64_w, i32_w]; rw [c7b0]) | skip)
            have H' := Aside0.mk H
            clear H
            go_wp2
            repeat (go_quiet (fail); try go_wp2)
            go_meet
            case rel => exact ⟨_, (true), (by first | rfl | (simp; done) | (simp [*]; done)), H', ⟨by have := HJ2.out; first | omega | exact Nat.le_refl _⟩, by repeat (first | exact Drawn0.refl _ | apply Drawn0.step)⟩
          · rw [if_neg c7] at H
            have c7b0 : decide (64 < (l1.length : Int)) = false := decide_eq_false c7
            have c7b1 : decide (64 < l1.length) = false := decide_eq_false (by omega)
            clear c7
            (first | rw [c7b0] | (simp only [i64_w, i32_w]; rw [c7b0]) | skip)
            replace H := Option.bind_eq_some_iff.mp H
            obtain ⟨t136, A80, H⟩ := H
            replace H : (impl_Toeplitz.j1 kj2 l0 l1 (!t136)) = some (r1, r2) := H
            have A8 := Aside0.mk A80
            clear A80
            have H' := Aside0.mk H
            clear H
            go_wp2_with (first | (go_at_call 24; (with_reducible refine (impl_inRange.calls (l0.length : Int) (wrap64 ((l1.length : Int) + 4)) 80 t136 _ A8.out).mono ?_); rintro e w' ⟨rfl, ⟨nd, rfl⟩⟩; (try first | exact ⟨rfl, _, World.drewN_drewN _ _ _⟩ | exact ⟨rfl, _, Eq.trans (World.drewN_drewN _ _ _) (congrArg (World.drewN _) (Nat.add_assoc _ _ _))⟩)))
            repeat (go_quiet (first | (go_at_call 24; (with_reducible refine (impl_inRange.calls (l0.length : Int) (wrap64 ((l1.length : Int) + 4)) 80 t136 _ A8.out).mono ?_); rintro e w' ⟨rfl, ⟨nd, rfl⟩⟩; (try first | exact ⟨rfl, _, World.drewN_drewN _ _ _⟩ | exact ⟨rfl, _, Eq.trans (World.drewN_drewN _ _ _) (congrArg (World.drewN _) (Nat.add_assoc _ _ _))⟩))); try go_wp2_with (first | (go_at_call 24; (with_reducible refine (impl_inRange.calls (l0.length : Int) (wrap64 ((l1.length : Int) + 4)) 80 t136 _ A8.out).mono ?_); rintro e w' ⟨rfl, ⟨nd, rfl⟩⟩; (try first | exact ⟨rfl, _, World.drewN_drewN _ _ _⟩ | exact ⟨rfl, _, Eq.trans (World.drewN_drewN _ _ _) (congrArg (World.drewN _) (Nat.add_assoc _ _ _))⟩))))
            go_meet
            case rel => exact ⟨_, (!t136), (by first | rfl | (simp; done) | (simp [*]; done)), H', ⟨by have := HJ2.out; first | omega | exact Nat.le_refl _⟩, by repeat (first | exact Drawn0.refl _ | apply Drawn0.step)⟩
        case rest =>
          clear HC6
          try clear c1
          try clear c2
          try clear p2
          try clear c4
          try clear c4b0
          try clear c4b1
          try clear c5
          try clear p6
          try clear c7
          try clear c7b0
          try clear c7b1
          try clear p2
          obtain ⟨kq, x30_5, rfl, HA, HJ5, ⟨mc5, rfl⟩⟩ := hcut
          cases kq with
          | zero => exact absurd HA.out (by simp [impl_Toeplitz.j1])
          | succ kj5 =>
            have H := HA.out
            clear HA
            simp only [impl_Toeplitz.j1] at H
            by_cases c9 : x30_5 = true
            · subst c9
              have H1 : (some (0, 4)) = some (r1, r2) := by rw [if_pos rfl] at H; exact H
              clear H
              have H := H1
              clear H1
              simp only [Option.some.injEq, Prod.mk.injEq] at H
              obtain ⟨rfl, rfl⟩ := H
              go_wp2
              repeat (go_quiet (fail); try go_wp2)
              go_ret2
              exact ⟨by first | rfl | (simp; done) | (simp [*]; done), by repeat (first | exact Drawn0.refl _ | apply Drawn0.step)⟩
            · replace c9 := Bool.eq_false_iff.mpr c9
              subst c9
              have H1 : (impl_Toeplitz.l0 kj5 l0 0 l1 (l1.length : Int) 0) = some (r1, r2) := by rw [if_neg (show ¬ (false = true) by decide)] at H; exact H
              clear H
              have H := H1
              clear H1
              have H' := Aside0.mk H
              clear H
              go_wp2
              repeat (go_quiet (fail); try go_wp2)
              go_loopg [6, 33] kj5 (fun kq v6 v33 w' => ∃ (x6_3 : Int) (x33_3 : Int), v6 = .int .u32 x6_3 ∧ v33 = .int .i64 x33_3 ∧ Aside0 (impl_Toeplitz.l0 kq l0 x6_3 l1 (l1.length : Int) x33_3 = some (r1, r2)) ∧ Aside0 (kq ≤ kj5) ∧ Drawn0 w w')
              case atStart => exact ⟨(0), (0), (by first | rfl | (simp; done) | (simp [*]; done)), (by first | rfl | (simp; done) | (simp [*]; done)), H', ⟨Nat.le_refl _⟩, by repeat (first | exact Drawn0.refl _ | apply Drawn0.step)⟩
              case round =>
                clear H'
                try clear c1
                try clear c2
                try clear p2
                try clear c4
                try clear c4b0
                try clear c4b1
                try clear c5
                try clear p6
                try clear c7
                try clear c7b0
                try clear c7b1
                try clear c9
                try clear p2
                try clear p6
                obtain ⟨x6_3, x33_3, rfl, rfl, HA, HK3, ⟨m3, rfl⟩⟩ := hrel
                cases gk with
                | zero => exact absurd HA.out (by simp [impl_Toeplitz.l0])
                | succ k3 =>
                  have H := HA.out
                  clear HA
                  simp only [impl_Toeplitz.l0] at H
                  by_cases c10 : x33_3 < (l1.length : Int)
                  · rw [if_pos c10] at H
                    have c10b0 : decide (x33_3 < (l1.length : Int)) = true := decide_eq_true c10
                    clear c10
                    by_cases c11 : 0 ≤ x33_3
                    · rw [if_pos c11] at H
                      have c11b0 : decide (0 ≤ x33_3) = true := decide_eq_true c11
                      clear c11
                      by_cases c12 : x33_3 < (l1.length : Int)
                      · rw [if_pos c12] at H
                        have c12b0 : decide (x33_3 < (l1.length : Int)) = true := decide_eq_true c12
                        clear c12
                        by_cases c13 : x33_3 < (l0.length : Int)
                        · rw [if_pos c13] at H
                          have c13b0 : decide (x33_3 < (l0.length : Int)) = true := decide_eq_true c13
                          clear c13
                          obtain ⟨ji14, hji14⟩ : ∃ j_ : Int, (wrap64 (x33_3 + 1)) = j_ := ⟨_, rfl⟩
                          replace H : (if 0 ≤ (ji14) then (if (ji14) < (l0.length : Int) then (if 0 ≤ (wrap64 (x33_3 + 2)) then (if (wrap64 (x33_3 + 2)) < (l0.length : Int) then (if 0 ≤ (wrap64 (x33_3 + 3)) then (if (wrap64 (x33_3 + 3)) < (l0.length : Int) then (if (wrap64 (x33_3 + 4)) < (l0.length : Int) then (if 0 ≤ (wrap64 (x33_3 + 4)) then (impl_Toeplitz.j3 k3 l0 x6_3 (rd l1 x33_3) (Go.bits .or .u64 (Go.bits .or .u64 (Go.bits .or .u64 (Go.bits .or .u64 (IntKind.u64.wrap ((IntKind.u64.wrap (rd l0 x33_3)) * 4294967296)) (IntKind.u64.wrap ((IntKind.u64.wrap (rd l0 (ji14))) * 16777216))) (IntKind.u64.wrap ((IntKind.u64.wrap (rd l0 (wrap64 (x33_3 + 2)))) * 65536))) (IntKind.u64.wrap ((IntKind.u64.wrap (rd l0 (wrap64 (x33_3 + 3)))) * 256))) (IntKind.u64.wrap (rd l0 (wrap64 (x33_3 + 4))))) l1 (l1.length : Int) x33_3) else (none)) else (impl_Toeplitz.j3 k3 l0 x6_3 (rd l1 x33_3) (Go.bits .or .u64 (Go.bits .or .u64 (Go.bits .or .u64 (IntKind.u64.wrap ((IntKind.u64.wrap (rd l0 x33_3)) * 4294967296)) (IntKind.u64.wrap ((IntKind.u64.wrap (rd l0 (ji14))) * 16777216))) (IntKind.u64.wrap ((IntKind.u64.wrap (rd l0 (wrap64 (x33_3 + 2)))) * 65536))) (IntKind.u64.wrap ((IntKind.u64.wrap (rd l0 (wrap64 (x33_3 + 3)))) * 256))) l1 (l1.length : Int) x33_3)) else (none)) else (none)) else (none)) else (none)) else (none)) else (none)) = some (r1, r2) := by first | (rw [hji14] at H; exact H) | (simp only [hji14] at H ⊢; exact H)
                          have hji14w : (IntKind.i64.wrap (x33_3 + 1)) = ji14 := (i64_w _).trans hji14
                          by_cases c15 : 0 ≤ (ji14)
                          · rw [if_pos c15] at H
                            have c15b0 : decide (0 ≤ (ji14)) = true := decide_eq_true c15
                            clear c15
                            by_cases c16 : (ji14) < (l0.length : Int)
                            · rw [if_pos c16] at H
                              have c16b0 : decide ((ji14) < (l0.length : Int)) = true := decide_eq_true c16
                              clear c16
                              obtain ⟨ji17, hji17⟩ : ∃ j_ : Int, (wrap64 (x33_3 + 2)) = j_ := ⟨_, rfl⟩
                              replace H : (if 0 ≤ (ji17) then (if (ji17) < (l0.length : Int) then (if 0 ≤ (wrap64 (x33_3 + 3)) then (if (wrap64 (x33_3 + 3)) < (l0.length : Int) then (if (wrap64 (x33_3 + 4)) < (l0.length : Int) then (if 0 ≤ (wrap64 (x33_3 + 4)) then (impl_Toeplitz.j3 k3 l0 x6_3 (rd l1 x33_3) (Go.bits .or .u64 (Go.bits .or .u64 (Go.bits .or .u64 (Go.bits .or .u64 (IntKind.u64.wrap ((IntKind.u64.wrap (rd l0 x33_3)) * 4294967296)) (IntKind.u64.wrap ((IntKind.u64.wrap (rd l0 (ji14))) * 16777216))) (IntKind.u64.wrap ((IntKind.u64.wrap (rd l0 (ji17))) * 65536))) (IntKind.u64.wrap ((IntKind.u64.wrap (rd l0 (wrap64 (x33_3 + 3)))) * 256))) (IntKind.u64.wrap (rd l0 (wrap64 (x33_3 + 4))))) l1 (l1.length : Int) x33_3) else (none)) else (impl_Toeplitz.j3 k3 l0 x6_3 (rd l1 x33_3) (Go.bits .or .u64 (Go.bits .or .u64 (Go.bits .or .u64 (IntKind.u64.wrap ((IntKind.u64.wrap (rd l0 x33_3)) * 4294967296)) (IntKind.u64.wrap ((IntKind.u64.wrap (rd l0 (ji14))) * 16777216))) (IntKind.u64.wrap ((IntKind.u64.wrap (rd l0 (ji17))) * 65536))) (IntKind.u64.wrap ((IntKind.u64.wrap (rd l0 (wrap64 (x33_3 + 3)))) * 256))) l1 (l1.length : Int) x33_3)) else (none)) else (none)) else (none)) else (none)) = some (r1, r2) := by first | (rw [hji17] at H; exact H) | (simp only [hji17] at H ⊢; exact H)
                              have hji17w : (IntKind.i64.wrap (x33_3 + 2)) = ji17 := (i64_w _).trans hji17
                              by_cases c18 : 0 ≤ (ji17)
                              · rw [if_pos c18] at H
                                have c18b0 : decide (0 ≤ (ji17)) = true := decide_eq_true c18
                                clear c18
                                by_cases c19 : (ji17) < (l0.length : Int)
                                · rw [if_pos c19] at H
                                  have c19b0 : decide ((ji17) < (l0.length : Int)) = true := decide_eq_true c19
                                  clear c19
                                  obtain ⟨ji20, hji20⟩ : ∃ j_ : Int, (wrap64 (x33_3 + 3)) = j_ := ⟨_, rfl⟩
                                  replace H : (if 0 ≤ (ji20) then (if (ji20) < (l0.length : Int) then (if (wrap64 (x33_3 + 4)) < (l0.length : Int) then (if 0 ≤ (wrap64 (x33_3 + 4)) then (impl_Toeplitz.j3 k3 l0 x6_3 (rd l1 x33_3) (Go.bits .or .u64 (Go.bits .or .u64 (Go.bits .or .u64 (Go.bits .or .u64 (IntKind.u64.wrap ((IntKind.u64.wrap (rd l0 x33_3)) * 4294967296)) (IntKind.u64.wrap ((IntKind.u64.wrap (rd l0 (ji14))) * 16777216))) (IntKind.u64.wrap ((IntKind.u64.wrap (rd l0 (ji17))) * 65536))) (IntKind.u64.wrap ((IntKind.u64.wrap (rd l0 (ji20))) * 256))) (IntKind.u64.wrap (rd l0 (wrap64 (x33_3 + 4))))) l1 (l1.length : Int) x33_3) else (none)) else (impl_Toeplitz.j3 k3 l0 x6_3 (rd l1 x33_3) (Go.bits .or .u64 (Go.bits .or .u64 (Go.bits .or .u64 (IntKind.u64.wrap ((IntKind.u64.wrap (rd l0 x33_3)) * 4294967296)) (IntKind.u64.wrap ((IntKind.u64.wrap (rd l0 (ji14))) * 16777216))) (IntKind.u64.wrap ((IntKind.u64.wrap (rd l0 (ji17))) * 65536))) (IntKind.u64.wrap ((IntKind.u64.wrap (rd l0 (ji20))) * 256))) l1 (l1.length : Int) x33_3)) else (none)) else (none)) = some (r1, r2) := by first | (rw [hji20] at H; exact H) | (simp only [hji20] at H ⊢; exact H)
                                  have hji20w : (IntKind.i64.wrap (x33_3 + 3)) = ji20 := (i64_w _).trans hji20
                                  by_cases c21 : 0 ≤ (ji20)
                                  · rw [if_pos c21] at H
                                    have c21b0 : decide (0 ≤ (ji20)) = true := decide_eq_true c21
                                    clear c21
                                    by_cases c22 : (ji20) < (l0.length : Int)
                                    · rw [if_pos c22] at H
                                      have c22b0 : decide ((ji20) < (l0.length : Int)) = true := decide_eq_true c22
                                      clear c22
                                      have HC23 := Aside0.mk H
                                      clear H
                                      have p137 : 0 ≤ (x33_3 : Int) := of_decide_eq_true (by first | (with_reducible assumption) | assumption)
                                      have q137 : x33_3 < (l1.length : Int) := of_decide_eq_true (by first | (with_reducible assumption) | assumption)
                                      obtain ⟨ad137, e137, hx137_0⟩ := Kd.at_int HR1.out x33_3 p137 q137
                                      cases e137
                                      replace p137 := eq_true p137
                                      replace q137 := eq_true q137
                                      have p138 : 0 ≤ (x33_3 : Int) := of_decide_eq_true (by first | (with_reducible assumption) | assumption)
                                      have q138 : x33_3 < (l0.length : Int) := of_decide_eq_true (by first | (with_reducible assumption) | assumption)
                                      obtain ⟨ad138, e138, hx138_0⟩ := Kd.at_int HR0.out x33_3 p138 q138
                                      cases e138
                                      replace p138 := eq_true p138
                                      replace q138 := eq_true q138
                                      have p139 : 0 ≤ ((ji14) : Int) := of_decide_eq_true (by first | (with_reducible assumption) | assumption)
                                      have q139 : (ji14) < (l0.length : Int) := of_decide_eq_true (by first | (with_reducible assumption) | assumption)
                                      obtain ⟨ad139, e139, hx139_0⟩ := Kd.at_int HR0.out (ji14) p139 q139
                                      obtain rfl : ad138 = ad139 := (by injection e139)
                                      replace p139 := eq_true p139
                                      replace q139 := eq_true q139
                                      have p140 : 0 ≤ ((ji17) : Int) := of_decide_eq_true (by first | (with_reducible assumption) | assumption)
                                      have q140 : (ji17) < (l0.length : Int) := of_decide_eq_true (by first | (with_reducible assumption) | assumption)
                                      obtain ⟨ad140, e140, hx140_0⟩ := Kd.at_int HR0.out (ji17) p140 q140
                                      obtain rfl : ad138 = ad140 := (by injection e140)
                                      replace p140 := eq_true p140
                                      replace q140 := eq_true q140
                                      have p141 : 0 ≤ ((ji20) : Int) := of_decide_eq_true (by first | (with_reducible assumption) | assumption)
                                      have q141 : (ji20) < (l0.length : Int) := of_decide_eq_true (by first | (with_reducible assumption) | assumption)
                                      obtain ⟨ad141, e141, hx141_0⟩ := Kd.at_int HR0.out (ji20) p141 q141
                                      obtain rfl : ad138 = ad141 := (by injection e141)
                                      replace p141 := eq_true p141
                                      replace q141 := eq_true q141
                                      go_upto_if 72 with (fail)
                                      repeat (go_quiet (fail); go_upto_if 72 with (fail))
                                      go_cut [9] (fun v9 wc => ∃ (kq : Nat) (x9_22 : Int), v9 = .int .u64 x9_22 ∧ Aside0 (impl_Toeplitz.j3 kq l0 x6_3 (rd l1 x33_3) x9_22 l1 (l1.length : Int) x33_3 = some (r1, r2)) ∧ Aside0 (kq ≤ k3) ∧ Drawn0 w wc)
                                      case first =>
                                        have H := HC23.out
                                        clear HC23
                                        by_cases c24 : (wrap64 (x33_3 + 4)) < (l0.length : Int)
                                        · rw [if_pos c24] at H
                                          have c24b0 : decide ((wrap64 (x33_3 + 4)) < (l0.length : Int)) = true := decide_eq_true c24
                                          clear c24
                                          (first | rw [c24b0] | (simp only [i64_w, i32_w]; rw [c24b0]) | skip)
                                          obtain ⟨ji25, hji25⟩ : ∃ j_ : Int, (wrap64 (x33_3 + 4)) = j_ := ⟨_, rfl⟩
                                          replace H : (if 0 ≤ (ji25) then (impl_Toeplitz.j3 k3 l0 x6_3 (rd l1 x33_3) (Go.bits .or .u64 (Go.bits .or .u64 (Go.bits .or .u64 (Go.bits .or .u64 (IntKind.u64.wrap ((IntKind.u64.wrap (rd l0 x33_3)) * 4294967296)) (IntKind.u64.wrap ((IntKind.u64.wrap (rd l0 (ji14))) * 16777216))) (IntKind.u64.wrap ((IntKind.u64.wrap (rd l0 (ji17))) * 65536))) (IntKind.u64.wrap ((IntKind.u64.wrap (rd l0 (ji20))) * 256))) (IntKind.u64.wrap (rd l0 (ji25)))) l1 (l1.length : Int) x33_3) else (none)) = some (r1, r2) := by first | (rw [hji25] at H; exact H) | (simp only [hji25] at H ⊢; exact H)
                                          (try rw [hji25] at c24b0)
                                          have hji25w : (IntKind.i64.wrap (x33_3 + 4)) = ji25 := (i64_w _).trans hji25
                                          by_cases c26 : 0 ≤ (ji25)
                                          · rw [if_pos c26] at H
                                            have c26b0 : decide (0 ≤ (ji25)) = true := decide_eq_true c26
                                            clear c26
                                            have H' := Aside0.mk H
                                            clear H
                                            have p142 : 0 ≤ ((ji25) : Int) := of_decide_eq_true (by first | (with_reducible assumption) | assumption)
                                            have q142 : (ji25) < (l0.length : Int) := of_decide_eq_true (by first | (with_reducible assumption) | assumption)
                                            obtain ⟨ad142, e142, hx142_0⟩ := Kd.at_int HR0.out (ji25) p142 q142
                                            obtain rfl : ad138 = ad142 := (by injection e142)
                                            replace p142 := eq_true p142
                                            replace q142 := eq_true q142
                                            go_wp2
                                            repeat (go_quiet (fail); try go_wp2)
                                            go_meet
                                            case rel => exact ⟨_, (Go.bits .or .u64 (Go.bits .or .u64 (Go.bits .or .u64 (Go.bits .or .u64 (IntKind.u64.wrap ((IntKind.u64.wrap (rd l0 x33_3)) * 4294967296)) (IntKind.u64.wrap ((IntKind.u64.wrap (rd l0 (ji14))) * 16777216))) (IntKind.u64.wrap ((IntKind.u64.wrap (rd l0 (ji17))) * 65536))) (IntKind.u64.wrap ((IntKind.u64.wrap (rd l0 (ji20))) * 256))) (IntKind.u64.wrap (rd l0 (ji25)))), (by first | rfl | (simp; done) | (simp only [← hji14, ← hji17, ← hji20, ← hji25] <;> (first | rfl | simp)) | (simp [*]; done)), H', ⟨by have := HJ2.out; have := HJ5.out; have := HK3.out; first | omega | exact Nat.le_refl _⟩, by repeat (first | exact Drawn0.refl _ | apply Drawn0.step)⟩
                                          · rw [if_neg c26] at H
                                            exact absurd H (by simp)
                                        · rw [if_neg c24] at H
                                          have c24b0 : decide ((wrap64 (x33_3 + 4)) < (l0.length : Int)) = false := decide_eq_false c24
                                          clear c24
                                          (first | rw [c24b0] | (simp only [i64_w, i32_w]; rw [c24b0]) | skip)
                                          have H' := Aside0.mk H
                                          clear H
                                          go_wp2
                                          repeat (go_quiet (fail); try go_wp2)
                                          go_meet
                                          case rel => exact ⟨_, (Go.bits .or .u64 (Go.bits .or .u64 (Go.bits .or .u64 (IntKind.u64.wrap ((IntKind.u64.wrap (rd l0 x33_3)) * 4294967296)) (IntKind.u64.wrap ((IntKind.u64.wrap (rd l0 (ji14))) * 16777216))) (IntKind.u64.wrap ((IntKind.u64.wrap (rd l0 (ji17))) * 65536))) (IntKind.u64.wrap ((IntKind.u64.wrap (rd l0 (ji20))) * 256))), (by first | rfl | (simp; done) | (simp only [← hji14, ← hji17, ← hji20] <;> (first | rfl | simp)) | (simp [*]; done)), H', ⟨by have := HJ2.out; have := HJ5.out; have := HK3.out; first | omega | exact Nat.le_refl _⟩, by repeat (first | exact Drawn0.refl _ | apply Drawn0.step)⟩
                                      case rest =>
                                        clear HC23
                                        try clear c1
                                        try clear p1
                                        try clear q1
                                        try clear hx1
                                        try clear c2
                                        try clear p2
                                        try clear c4
                                        try clear c4b0
                                        try clear c4b1
                                        try clear c5
                                        try clear p6
                                        try clear c7
                                        try clear c7b0
                                        try clear c7b1
                                        try clear c9
                                        try clear c10
                                        try clear c10b0
                                        try clear c11
                                        try clear c11b0
                                        try clear c12
                                        try clear c12b0
                                        try clear c13
                                        try clear c13b0
                                        try clear p13
                                        try clear q13
                                        try clear hx13
                                        try clear p14
                                        try clear q14
                                        try clear hx14
                                        try clear c15
                                        try clear c15b0
                                        try clear c16
                                        try clear c16b0
                                        try clear c18
                                        try clear c18b0
                                        try clear c19
                                        try clear c19b0
                                        try clear c21
                                        try clear c21b0
                                        try clear c22
                                        try clear c22b0
                                        try clear c24
                                        try clear c24b0
                                        try clear c26
                                        try clear c26b0
                                        try clear hx137_0
                                        try clear hx138_0
                                        try clear hx139_0
                                        try clear hx140_0
                                        try clear hx141_0
                                        try clear hx142_0
                                        try clear p137
                                        try clear p138
                                        try clear p139
                                        try clear p140
                                        try clear p141
                                        try clear p142
                                        try clear p2
                                        try clear p6
                                        try clear q137
                                        try clear q138
                                        try clear q139
                                        try clear q140
                                        try clear q141
                                        try clear q142
                                        obtain ⟨kq, x9_22, rfl, HA, HJ22, ⟨mc22, rfl⟩⟩ := hcut
                                        cases kq with
                                        | zero => exact absurd HA.out (by simp [impl_Toeplitz.j3])
                                        | succ kj22 =>
                                          have H := HA.out
                                          clear HA
                                          simp only [impl_Toeplitz.j3] at H
                                          have H' := Aside0.mk H
                                          clear H
                                          go_wp2
                                          repeat (go_quiet (fail); try go_wp2)
                                          go_loopg [6, 81] kj22 (fun kq v6 v81 w' => ∃ (x6_5 : Int) (x81_5 : Int), v6 = .int .u32 x6_5 ∧ v81 = .int .i64 x81_5 ∧ Aside0 (impl_Toeplitz.l1 kq l0 x6_5 (rd l1 x33_3) x9_22 l1 (l1.length : Int) x33_3 x81_5 = some (r1, r2)) ∧ Aside0 (kq ≤ kj22) ∧ Drawn0 w w')
                                          case atStart => exact ⟨(x6_3), (0), (by first | rfl | (simp; done) | (simp [*]; done)), (by first | rfl | (simp; done) | (simp [*]; done)), H', ⟨Nat.le_refl _⟩, by repeat (first | exact Drawn0.refl _ | apply Drawn0.step)⟩
                                          case round =>
                                            clear H'
                                            try clear c1
                                            try clear p1
                                            try clear q1
                                            try clear hx1
                                            try clear c2
                                            try clear p2
                                            try clear c4
                                            try clear c4b0
                                            try clear c4b1
                                            try clear c5
                                            try clear p6
                                            try clear c7
                                            try clear c7b0
                                            try clear c7b1
                                            try clear c9
                                            try clear c10
                                            try clear c10b0
                                            try clear c11
                                            try clear c11b0
                                            try clear c12
                                            try clear c12b0
                                            try clear c13
                                            try clear c13b0
                                            try clear p13
                                            try clear q13
                                            try clear hx13
                                            try clear p14
                                            try clear q14
                                            try clear hx14
                                            try clear c15
                                            try clear c15b0
                                            try clear c16
                                            try clear c16b0
                                            try clear c18
                                            try clear c18b0
                                            try clear c19
                                            try clear c19b0
                                            try clear c21
                                            try clear c21b0
                                            try clear c22
                                            try clear c22b0
                                            try clear c24
                                            try clear c24b0
                                            try clear c26
                                            try clear c26b0
                                            try clear hx137_0
                                            try clear hx138_0
                                            try clear hx139_0
                                            try clear hx140_0
                                            try clear hx141_0
                                            try clear hx142_0
                                            try clear p1
                                            try clear p13
                                            try clear p137
                                            try clear p138
                                            try clear p139
                                            try clear p14
                                            try clear p140
                                            try clear p141
                                            try clear p142
                                            try clear p2
                                            try clear p6
                                            try clear q1
                                            try clear q13
                                            try clear q137
                                            try clear q138
                                            try clear q139
                                            try clear q14
                                            try clear q140
                                            try clear q141
                                            try clear q142
                                            obtain ⟨x6_5, x81_5, rfl, rfl, HA, HK5, ⟨m5, rfl⟩⟩ := hrel
                                            cases gk with
                                            | zero => exact absurd HA.out (by simp [impl_Toeplitz.l1])
                                            | succ k5 =>
                                              have H := HA.out
                                              clear HA
                                              simp only [impl_Toeplitz.l1] at H
                                              by_cases c27 : x81_5 < 8
                                              · rw [if_pos c27] at H
                                                have c27b0 : decide (x81_5 < 8) = true := decide_eq_true c27
                                                clear c27
                                                by_cases c28 : 0 ≤ x81_5
                                                · rw [if_pos c28] at H
                                                  have c28b0 := eq_true c28
                                                  have c28b1 : decide (0 ≤ x81_5) = true := decide_eq_true c28
                                                  clear c28
                                                  obtain ⟨ji29, hji29⟩ : ∃ j_ : Int, (shr .u8 128 x81_5) = j_ := ⟨_, rfl⟩
                                                  replace H : (if (Go.bits .and .u8 (rd l1 x33_3) (ji29)) = 0 then (impl_Toeplitz.l1 k5 l0 x6_5 (rd l1 x33_3) x9_22 l1 (l1.length : Int) x33_3 (wrap64 (x81_5 + 1))) else (if 0 ≤ (wrap64 (8 - x81_5)) then (impl_Toeplitz.l1 k5 l0 (Go.bits .xor .u32 x6_5 ((shr .u64 x9_22 (wrap64 (8 - x81_5))) % 4294967296)) (rd l1 x33_3) x9_22 l1 (l1.length : Int) x33_3 (wrap64 (x81_5 + 1))) else (none))) = some (r1, r2) := by first | (rw [hji29] at H; exact H) | (simp only [hji29] at H ⊢; exact H)
                                                  have hji29_ : (128 / 2 ^ min x81_5.toNat 8) = ji29 := hji29
                                                  have hji29z : x81_5 ≤ 8 → (128 / 2 ^ x81_5.toNat) = ji29 := shr_small hji29
                                                  by_cases c30 : (Go.bits .and .u8 (rd l1 x33_3) (ji29)) = 0
                                                  · rw [if_pos c30] at H
                                                    have c30b0 : ((Go.bits .and .u8 (rd l1 x33_3) (ji29)) == 0) = true := beq_iff_eq.mpr c30
                                                    have c30b1 : ((Go.bits .and .u8 (rd l1 x33_3) (ji29)) != 0) = false := bne_eq_false_iff_eq.mpr c30
                                                    clear c30
                                                    have H' := Aside0.mk H
                                                    clear H
                                                    go_wp2
                                                    repeat (go_quiet (fail); try go_wp2)
                                                    go_roundg k5
                                                    case measure => have := HJ2.out; have := HJ5.out; have := HK3.out; have := HJ22.out; have := HK5.out; omega
                                                    case rel => exact ⟨(x6_5), (wrap64 (x81_5 + 1)), (by first | rfl | (simp; done) | (simp [*]; done)), (by first | rfl | (simp; done) | (simp [*]; done)), H', ⟨by have := HJ2.out; have := HJ5.out; have := HK3.out; have := HJ22.out; have := HK5.out; omega⟩, by repeat (first | exact Drawn0.refl _ | apply Drawn0.step)⟩
                                                  · rw [if_neg c30] at H
                                                    have c30b0 : ((Go.bits .and .u8 (rd l1 x33_3) (ji29)) == 0) = false := beq_eq_false_iff_ne.mpr c30
                                                    have c30b1 : ((Go.bits .and .u8 (rd l1 x33_3) (ji29)) != 0) = true := bne_iff_ne.mpr c30
                                                    obtain ⟨ji31, hji31⟩ : ∃ j_ : Int, (wrap64 (8 - x81_5)) = j_ := ⟨_, rfl⟩
                                                    replace H : (if 0 ≤ (ji31) then (impl_Toeplitz.l1 k5 l0 (Go.bits .xor .u32 x6_5 ((shr .u64 x9_22 (ji31)) % 4294967296)) (rd l1 x33_3) x9_22 l1 (l1.length : Int) x33_3 (wrap64 (x81_5 + 1))) else (none)) = some (r1, r2) := by first | (rw [hji31] at H; exact H) | (simp only [hji31] at H ⊢; exact H)
                                                    have hji31w : (IntKind.i64.wrap (8 - x81_5)) = ji31 := (i64_w _).trans hji31
                                                    by_cases c32 : 0 ≤ (ji31)
                                                    · rw [if_pos c32] at H
                                                      have c32b0 := eq_true c32
                                                      have c32b1 : decide (0 ≤ (ji31)) = true := decide_eq_true c32
                                                      clear c32
                                                      obtain ⟨ji33, hji33⟩ : ∃ j_ : Int, (shr .u64 x9_22 (ji31)) = j_ := ⟨_, rfl⟩
                                                      replace H : (impl_Toeplitz.l1 k5 l0 (Go.bits .xor .u32 x6_5 ((ji33) % 4294967296)) (rd l1 x33_3) x9_22 l1 (l1.length : Int) x33_3 (wrap64 (x81_5 + 1))) = some (r1, r2) := by first | (rw [hji33] at H; exact H) | (simp only [hji33] at H ⊢; exact H)
                                                      have hji33_ : (x9_22 / 2 ^ min (ji31).toNat 64) = ji33 := hji33
                                                      have hji33z : (ji31) ≤ 64 → (x9_22 / 2 ^ (ji31).toNat) = ji33 := shr_small hji33
                                                      have H' := Aside0.mk H
                                                      clear H
                                                      go_wp2
                                                      repeat (go_quiet (fail); try go_wp2)
                                                      go_roundg k5
                                                      case measure => have := HJ2.out; have := HJ5.out; have := HK3.out; have := HJ22.out; have := HK5.out; omega
                                                      case rel => exact ⟨(Go.bits .xor .u32 x6_5 ((ji33) % 4294967296)), (wrap64 (x81_5 + 1)), (by first | rfl | (simp; done) | (simp only [← hji33] <;> (first | rfl | simp)) | (simp [*]; done)), (by first | rfl | (simp; done) | (simp [*]; done)), H', ⟨by have := HJ2.out; have := HJ5.out; have := HK3.out; have := HJ22.out; have := HK5.out; omega⟩, by repeat (first | exact Drawn0.refl _ | apply Drawn0.step)⟩
                                                    · rw [if_neg c32] at H
                                                      exact absurd H (by simp)
                                                · rw [if_neg c28] at H
                                                  exact absurd H (by simp)
                                              · rw [if_neg c27] at H
                                                have c27b0 : decide (x81_5 < 8) = false := decide_eq_false c27
                                                clear c27
                                                have H' := Aside0.mk H
                                                clear H
                                                go_wp2
                                                repeat (go_quiet (fail); try go_wp2)
                                                go_roundg k5
                                                case measure => have := HJ2.out; have := HJ5.out; have := HK3.out; have := HJ22.out; have := HK5.out; omega
                                                case rel => exact ⟨(x6_5), (wrap64 (x33_3 + 1)), (by first | rfl | (simp; done) | (simp [*]; done)), (by first | rfl | (simp; done) | (simp [*]; done)), H', ⟨by have := HJ2.out; have := HJ5.out; have := HK3.out; have := HJ22.out; have := HK5.out; omega⟩, by repeat (first | exact Drawn0.refl _ | apply Drawn0.step)⟩
                                    · rw [if_neg c22] at H
                                      exact absurd H (by simp)
                                  · rw [if_neg c21] at H
                                    exact absurd H (by simp)
                                · rw [if_neg c19] at H
                                  exact absurd H (by simp)
                              · rw [if_neg c18] at H
                                exact absurd H (by simp)
                            · rw [if_neg c16] at H
                              exact absurd H (by simp)
                          · rw [if_neg c15] at H
                            exact absurd H (by simp)
                        · rw [if_neg c13] at H
                          exact absurd H (by simp)
                      · rw [if_neg c12] at H
                        exact absurd H (by simp)
                    · rw [if_neg c11] at H
                      exact absurd H (by simp)
                  · rw [if_neg c10] at H
                    have c10b0 : decide (x33_3 < (l1.length : Int)) = false := decide_eq_false c10
                    clear c10
                    simp only [Option.some.injEq, Prod.mk.injEq] at H
                    obtain ⟨rfl, rfl⟩ := H
                    go_wp2
                    repeat (go_quiet (fail); try go_wp2)
                    go_ret2
                    exact ⟨by first | rfl | (simp; done) | (simp [*]; done), by repeat (first | exact Drawn0.refl _ | apply Drawn0.step)⟩

/-! ### spec_l13Window: function 30 -/
def spec_l13Window.l0 : Nat → List Int → Int → Int → Int → Option (Int)
  | 0, _, _, _, _ => none
  | k + 1, x0, x1, x5, x6 => if x6 < (wrap64 (x1 + 32)) then (if 0 ≤ (wrap64 (Int.tdiv x6 8)) then (if (wrap64 (Int.tdiv x6 8)) < (x0.length : Int) then (if 0 ≤ (IntKind.u64.wrap (wrap64 (7 - (Int.tmod x6 8)))) then (spec_l13Window.l0 k x0 x1 (wrap64 ((wrap64 (x5 * 2)) + (Go.bits .and .i64 (shr .i64 (wrap64 (rd x0 (wrap64 (Int.tdiv x6 8)))) (IntKind.u64.wrap (wrap64 (7 - (Int.tmod x6 8))))) 1))) (wrap64 (x6 + 1))) else (none)) else (none)) else (none)) else (some x5)
def spec_l13Window.f (k : Nat) (l0 : List Int) (a1 : Int) : Option (Int) := spec_l13Window.l0 k l0 a1 0 a1
theorem spec_l13Window.mono_l : ∀ k, (∀ y0 y1 y2 y3, LeO (spec_l13Window.l0 k y0 y1 y2 y3) (spec_l13Window.l0 (k + 1) y0 y1 y2 y3))
  | 0 => fun _ _ _ _ r h => by simp [spec_l13Window.l0] at h
  | k + 1 => by
    have ih0 := spec_l13Window.mono_l k
    · intro y0 y1 y2 y3
      unfold spec_l13Window.l0
      repeat' first
      | (with_reducible exact ih0 _ _ _ _)
      | (with_reducible exact LeO.refl _)
      | (with_reducible exact LeO.none _)
      | (with_reducible refine LeO.ite ?_ ?_)
      | (with_reducible refine LeO.bind ?_ (fun _ => ?_))
      | exact ih0 _ _ _ _
      | exact LeO.none _
      | refine LeO.ite ?_ ?_
      | refine LeO.bind ?_ (fun _ => ?_)
theorem spec_l13Window.mono : ∀ a0 a1 k, LeO (spec_l13Window.f k a0 a1) (spec_l13Window.f (k + 1) a0 a1) := by
  intro a0 a1 k
  have ih0 := spec_l13Window.mono_l k
  unfold spec_l13Window.f
  repeat' first
      | (with_reducible exact ih0 _ _ _ _)
      | (with_reducible exact LeO.refl _)
      | (with_reducible exact LeO.none _)
      | (with_reducible refine LeO.ite ?_ ?_)
      | (with_reducible refine LeO.bind ?_ (fun _ => ?_))
      | exact ih0 _ _ _ _
      | exact LeO.none _
      | refine LeO.ite ?_ ?_
      | refine LeO.bind ?_ (fun _ => ?_)
set_option maxHeartbeats 8000000 in
set_option maxRecDepth 100000 in
theorem spec_l13Window.calls (k : Nat) (A0 : Option Addr) (c0 : Nat) (l0 : List Int) (a1 : Int) (r : Int) (w : World) (hr0 : Kd.C (Kd.int .u8) w A0 l0.length l0) (hc0 : l0.length ≤ c0) (h : spec_l13Window.f k l0 a1 = some r) :
    Calls Try.prog 30 #[.slice A0 l0.length c0, .int .i64 a1] w fun e w' => e = .returned (.int .i64 r) ∧ Drawn0 w w' := by
  have HR0 := Aside0.mk hr0
  have HC0 := Aside0.mk hc0
  clear hr0 hc0
  have H : (spec_l13Window.l0 k l0 a1 0 a1) = some r := h
  clear h
  have H' := Aside0.mk H
  clear H
  go_enter Try.func30, Try.ntmps30
  go_wp2
  go_loopg [5, 6] k (fun kq v5 v6 w' => ∃ (x5_1 : Int) (x6_1 : Int), v5 = .int .i64 x5_1 ∧ v6 = .int .i64 x6_1 ∧ Aside0 (spec_l13Window.l0 kq l0 a1 x5_1 x6_1 = some r) ∧ Aside0 (kq ≤ k) ∧ Drawn0 w w')
  case atStart => exact ⟨(0), (a1), (by first | rfl | (simp; done) | (simp [*]; done)), (by first | rfl | (simp; done) | (simp [*]; done)), H', ⟨Nat.le_refl _⟩, by repeat (first | exact Drawn0.refl _ | apply Drawn0.step)⟩
  case round =>
    clear H'
    try clear p2
    obtain ⟨x5_1, x6_1, rfl, rfl, HA, HK1, ⟨m1, rfl⟩⟩ := hrel
    cases gk with
    | zero => exact absurd HA.out (by simp [spec_l13Window.l0])
    | succ k1 =>
      have H := HA.out
      clear HA
      simp only [spec_l13Window.l0] at H
      by_cases c3 : x6_1 < (wrap64 (a1 + 32))
      · rw [if_pos c3] at H
        have c3b0 : decide (x6_1 < (wrap64 (a1 + 32))) = true := decide_eq_true c3
        clear c3
        obtain ⟨ji4, hji4⟩ : ∃ j_ : Int, (wrap64 (Int.tdiv x6_1 8)) = j_ := ⟨_, rfl⟩
        replace H : (if 0 ≤ (ji4) then (if (ji4) < (l0.length : Int) then (if 0 ≤ (IntKind.u64.wrap (wrap64 (7 - (Int.tmod x6_1 8)))) then (spec_l13Window.l0 k1 l0 a1 (wrap64 ((wrap64 (x5_1 * 2)) + (Go.bits .and .i64 (shr .i64 (wrap64 (rd l0 (ji4))) (IntKind.u64.wrap (wrap64 (7 - (Int.tmod x6_1 8))))) 1))) (wrap64 (x6_1 + 1))) else (none)) else (none)) else (none)) = some r := by first | (rw [hji4] at H; exact H) | (simp only [hji4] at H ⊢; exact H)
        have hji4w : (IntKind.i64.wrap (Int.tdiv x6_1 8)) = ji4 := (i64_w _).trans hji4
        by_cases c5 : 0 ≤ (ji4)
        · rw [if_pos c5] at H
          have c5b0 : decide (0 ≤ (ji4)) = true := decide_eq_true c5
          clear c5
          by_cases c6 : (ji4) < (l0.length : Int)
          · rw [if_pos c6] at H
            have c6b0 : decide ((ji4) < (l0.length : Int)) = true := decide_eq_true c6
            clear c6
            obtain ⟨ji7, hji7⟩ : ∃ j_ : Int, (IntKind.u64.wrap (wrap64 (7 - (Int.tmod x6_1 8)))) = j_ := ⟨_, rfl⟩
            replace H : (if 0 ≤ (ji7) then (spec_l13Window.l0 k1 l0 a1 (wrap64 ((wrap64 (x5_1 * 2)) + (Go.bits .and .i64 (shr .i64 (wrap64 (rd l0 (ji4))) (ji7)) 1))) (wrap64 (x6_1 + 1))) else (none)) = some r := by first | (rw [hji7] at H; exact H) | (simp only [hji7] at H ⊢; exact H)
            by_cases c8 : 0 ≤ (ji7)
            · rw [if_pos c8] at H
              have c8b0 := eq_true c8
              have c8b1 : decide (0 ≤ (ji7)) = true := decide_eq_true c8
              clear c8
              obtain ⟨ji9, hji9⟩ : ∃ j_ : Int, (shr .i64 (wrap64 (rd l0 (ji4))) (ji7)) = j_ := ⟨_, rfl⟩
              replace H : (spec_l13Window.l0 k1 l0 a1 (wrap64 ((wrap64 (x5_1 * 2)) + (Go.bits .and .i64 (ji9) 1))) (wrap64 (x6_1 + 1))) = some r := by first | (rw [hji9] at H; exact H) | (simp only [hji9] at H ⊢; exact H)
              have hji9_ : ((wrap64 (rd l0 (ji4))) / 2 ^ min (ji7).toNat 64) = ji9 := hji9
              have hji9z : (ji7) ≤ 64 → ((wrap64 (rd l0 (ji4))) / 2 ^ (ji7).toNat) = ji9 := shr_small hji9
              have H' := Aside0.mk H
              clear H
              have p143 : 0 ≤ ((ji4) : Int) := of_decide_eq_true (by first | (with_reducible assumption) | assumption)
              have q143 : (ji4) < (l0.length : Int) := of_decide_eq_true (by first | (with_reducible assumption) | assumption)
              obtain ⟨ad143, e143, hx143_0⟩ := Kd.at_int HR0.out (ji4) p143 q143
              cases e143
              replace p143 := eq_true p143
              replace q143 := eq_true q143
              go_wp2
              go_roundg k1
              case measure => have := HK1.out; omega
              case rel => exact ⟨(wrap64 ((wrap64 (x5_1 * 2)) + (Go.bits .and .i64 (ji9) 1))), (wrap64 (x6_1 + 1)), (by first | rfl | (simp; done) | (simp only [← hji9] <;> (first | rfl | simp)) | (simp [*]; done)), (by first | rfl | (simp; done) | (simp [*]; done)), H', ⟨by have := HK1.out; omega⟩, by repeat (first | exact Drawn0.refl _ | apply Drawn0.step)⟩
            · rw [if_neg c8] at H
              exact absurd H (by simp)
          · rw [if_neg c6] at H
            exact absurd H (by simp)
        · rw [if_neg c5] at H
          exact absurd H (by simp)
      · rw [if_neg c3] at H
        have c3b0 : decide (x6_1 < (wrap64 (a1 + 32))) = false := decide_eq_false c3
        clear c3
        obtain rfl := Option.some.inj H
        go_wp2
        go_ret
        exact ⟨by first | rfl | (simp; done) | (simp [*]; done), by repeat (first | exact Drawn0.refl _ | apply Drawn0.step)⟩

end Go.Proofs.Ytecjjkmheionoaa.PFnToeplitz
