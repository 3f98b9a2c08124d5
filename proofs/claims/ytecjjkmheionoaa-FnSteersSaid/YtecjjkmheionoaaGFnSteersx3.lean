-- OWN TEXT of FnSteers: made by own_print.sh, finished by hand
import Derived.Test.YtecjjkmheionoaaGFnSteersx0
import Derived.Test.YtecjjkmheionoaaGFnSteersx1
import Derived.Test.YtecjjkmheionoaaGFnSteersx2
namespace Go.Proofs.Ytecjjkmheionoaa.PFnSteers
open Go.RowKit Go.Proofs.YtecjjkmheionoaaW.PrintWords Go.Proofs.YtecjjkmheionoaaW.PrintLast Go.Proofs.YtecjjkmheionoaaW.PrintMore
attribute [local go_sem] max2_int min2_int max_two min_two max_three min_three max_four min_four   -- for this text's walks alone
set_option linter.unusedVariables false
set_option linter.unusedSimpArgs false

/-! ### laws_FnSteers: function 5 -/
mutual
def laws_FnSteers.j0 : Nat → List Int → List Int → Bool → Option (Bool)
  | 0, _, _, _ => none
  | k + 1, x0, x1, x26 => if x26 = true then (some true) else ((some (([1, 2, 4, 8, 16, 32, 64] : List Int) : List Int)).bind fun y133 => ((laws_at.f x0 0 7).bind fun t136 => (if 0 ≤ t136 then (if t136 < (y133.length : Int) then ((laws_at.f x0 1 16).bind fun t138 => ((impl_SpreadTable.f k (rd y133 t136) (wrap64 (1 + t138))).bind fun bt139 => ((spec_SpreadTable.f k (rd y133 t136) (wrap64 (1 + t138))).bind fun bt143 => ((laws_at.f x1 0 9000).bind fun t147 => ((impl_SteerQueue.f k bt139.1 (wrap64 (t147 * 400000))).bind fun bt148 => ((spec_SteerQueue.f k bt143.1 (wrap64 (t147 * 400000))).bind fun bt150 => (if bt139.2 = 0 then (if bt148.2 = 0 then ((laws_sameInts.f k bt139.1 bt143.1).bind fun t152 => (if t152 = true then (if bt148.1 = bt150.1 then (if bt148.1 < 0 then (laws_FnSteers.j1 k (rd y133 t136) (wrap64 (1 + t138)) bt139.1 true) else (laws_FnSteers.j1 k (rd y133 t136) (wrap64 (1 + t138)) bt139.1 (decide (bt148.1 ≥ (wrap64 (1 + t138)))))) else (laws_FnSteers.j1 k (rd y133 t136) (wrap64 (1 + t138)) bt139.1 true)) else (laws_FnSteers.j1 k (rd y133 t136) (wrap64 (1 + t138)) bt139.1 true))) else (laws_FnSteers.j1 k (rd y133 t136) (wrap64 (1 + t138)) bt139.1 true)) else (laws_FnSteers.j1 k (rd y133 t136) (wrap64 (1 + t138)) bt139.1 true)))))))) else (none)) else (none))))
def laws_FnSteers.j1 : Nat → Int → Int → List Int → Bool → Option (Bool)
  | 0, _, _, _, _ => none
  | k + 1, x5, x6, x7, x87 => if x87 = true then (some false) else (laws_FnSteers.l0 k x5 x6 x7 0)
def laws_FnSteers.l0 : Nat → Int → Int → List Int → Int → Option (Bool)
  | 0, _, _, _, _ => none
  | k + 1, x5, x6, x7, x16 => if x16 < x6 then (laws_FnSteers.l1 k x5 x6 x7 x16 0 0) else (some true)
def laws_FnSteers.l1 : Nat → Int → Int → List Int → Int → Int → Int → Option (Bool)
  | 0, _, _, _, _, _, _ => none
  | k + 1, x5, x6, x7, x16, x17, x18 => if x18 < (x7.length : Int) then (if 0 ≤ x18 then (if (rd x7 x18) = x16 then (laws_FnSteers.l1 k x5 x6 x7 x16 (wrap64 (x17 + 1)) (wrap64 (x18 + 1))) else (laws_FnSteers.l1 k x5 x6 x7 x16 x17 (wrap64 (x18 + 1)))) else (none)) else (if x6 = 0 then (none) else (if x17 < (wrap64 (Int.tdiv x5 x6)) then (some false) else (if x17 > (wrap64 ((wrap64 (Int.tdiv x5 x6)) + 1)) then (some false) else (laws_FnSteers.l0 k x5 x6 x7 (wrap64 (x16 + 1))))))
end
def laws_FnSteers.f (k : Nat) (l0 : List Int) (l1 : List Int) : Option (Bool) := if (l0.length : Int) > 1048576 then (laws_FnSteers.j0 k l0 l1 true) else (laws_FnSteers.j0 k l0 l1 (decide ((l1.length : Int) > 1048576)))
theorem laws_FnSteers.mono_l : ∀ k, (∀ y0 y1 y2, LeO (laws_FnSteers.j0 k y0 y1 y2) (laws_FnSteers.j0 (k + 1) y0 y1 y2)) ∧ (∀ y0 y1 y2 y3, LeO (laws_FnSteers.j1 k y0 y1 y2 y3) (laws_FnSteers.j1 (k + 1) y0 y1 y2 y3)) ∧ (∀ y0 y1 y2 y3, LeO (laws_FnSteers.l0 k y0 y1 y2 y3) (laws_FnSteers.l0 (k + 1) y0 y1 y2 y3)) ∧ (∀ y0 y1 y2 y3 y4 y5, LeO (laws_FnSteers.l1 k y0 y1 y2 y3 y4 y5) (laws_FnSteers.l1 (k + 1) y0 y1 y2 y3 y4 y5))
  | 0 => ⟨fun _ _ _ r h => by simp [laws_FnSteers.j0] at h, fun _ _ _ _ r h => by simp [laws_FnSteers.j1] at h, fun _ _ _ _ r h => by simp [laws_FnSteers.l0] at h, fun _ _ _ _ _ _ r h => by simp [laws_FnSteers.l1] at h⟩
  | k + 1 => by
    obtain ⟨ih0, ih1, ih2, ih3⟩ := laws_FnSteers.mono_l k
    refine ⟨?_, ?_, ?_, ?_⟩
    · intro y0 y1 y2
      unfold laws_FnSteers.j0
      repeat' first
      | (with_reducible exact ih0 _ _ _)
      | (with_reducible exact ih1 _ _ _ _)
      | (with_reducible exact ih2 _ _ _ _)
      | (with_reducible exact ih3 _ _ _ _ _ _)
      | (with_reducible exact impl_SpreadTable.mono _ _ _)
      | (with_reducible exact impl_SteerQueue.mono _ _ _)
      | (with_reducible exact laws_sameInts.mono _ _ _)
      | (with_reducible exact spec_SpreadTable.mono _ _ _)
      | (with_reducible exact spec_SteerQueue.mono _ _ _)
      | (with_reducible exact LeO.refl _)
      | (with_reducible exact LeO.none _)
      | (with_reducible refine LeO.ite ?_ ?_)
      | (with_reducible refine LeO.bind ?_ (fun _ => ?_))
      | exact ih0 _ _ _
      | exact ih1 _ _ _ _
      | exact ih2 _ _ _ _
      | exact ih3 _ _ _ _ _ _
      | exact impl_SpreadTable.mono _ _ _
      | exact impl_SteerQueue.mono _ _ _
      | exact laws_sameInts.mono _ _ _
      | exact spec_SpreadTable.mono _ _ _
      | exact spec_SteerQueue.mono _ _ _
      | exact LeO.none _
      | refine LeO.ite ?_ ?_
      | refine LeO.bind ?_ (fun _ => ?_)
    · intro y0 y1 y2 y3
      unfold laws_FnSteers.j1
      repeat' first
      | (with_reducible exact ih0 _ _ _)
      | (with_reducible exact ih1 _ _ _ _)
      | (with_reducible exact ih2 _ _ _ _)
      | (with_reducible exact ih3 _ _ _ _ _ _)
      | (with_reducible exact impl_SpreadTable.mono _ _ _)
      | (with_reducible exact impl_SteerQueue.mono _ _ _)
      | (with_reducible exact laws_sameInts.mono _ _ _)
      | (with_reducible exact spec_SpreadTable.mono _ _ _)
      | (with_reducible exact spec_SteerQueue.mono _ _ _)
      | (with_reducible exact LeO.refl _)
      | (with_reducible exact LeO.none _)
      | (with_reducible refine LeO.ite ?_ ?_)
      | (with_reducible refine LeO.bind ?_ (fun _ => ?_))
      | exact ih0 _ _ _
      | exact ih1 _ _ _ _
      | exact ih2 _ _ _ _
      | exact ih3 _ _ _ _ _ _
      | exact impl_SpreadTable.mono _ _ _
      | exact impl_SteerQueue.mono _ _ _
      | exact laws_sameInts.mono _ _ _
      | exact spec_SpreadTable.mono _ _ _
      | exact spec_SteerQueue.mono _ _ _
      | exact LeO.none _
      | refine LeO.ite ?_ ?_
      | refine LeO.bind ?_ (fun _ => ?_)
    · intro y0 y1 y2 y3
      unfold laws_FnSteers.l0
      repeat' first
      | (with_reducible exact ih0 _ _ _)
      | (with_reducible exact ih1 _ _ _ _)
      | (with_reducible exact ih2 _ _ _ _)
      | (with_reducible exact ih3 _ _ _ _ _ _)
      | (with_reducible exact impl_SpreadTable.mono _ _ _)
      | (with_reducible exact impl_SteerQueue.mono _ _ _)
      | (with_reducible exact laws_sameInts.mono _ _ _)
      | (with_reducible exact spec_SpreadTable.mono _ _ _)
      | (with_reducible exact spec_SteerQueue.mono _ _ _)
      | (with_reducible exact LeO.refl _)
      | (with_reducible exact LeO.none _)
      | (with_reducible refine LeO.ite ?_ ?_)
      | (with_reducible refine LeO.bind ?_ (fun _ => ?_))
      | exact ih0 _ _ _
      | exact ih1 _ _ _ _
      | exact ih2 _ _ _ _
      | exact ih3 _ _ _ _ _ _
      | exact impl_SpreadTable.mono _ _ _
      | exact impl_SteerQueue.mono _ _ _
      | exact laws_sameInts.mono _ _ _
      | exact spec_SpreadTable.mono _ _ _
      | exact spec_SteerQueue.mono _ _ _
      | exact LeO.none _
      | refine LeO.ite ?_ ?_
      | refine LeO.bind ?_ (fun _ => ?_)
    · intro y0 y1 y2 y3 y4 y5
      unfold laws_FnSteers.l1
      repeat' first
      | (with_reducible exact ih0 _ _ _)
      | (with_reducible exact ih1 _ _ _ _)
      | (with_reducible exact ih2 _ _ _ _)
      | (with_reducible exact ih3 _ _ _ _ _ _)
      | (with_reducible exact impl_SpreadTable.mono _ _ _)
      | (with_reducible exact impl_SteerQueue.mono _ _ _)
      | (with_reducible exact laws_sameInts.mono _ _ _)
      | (with_reducible exact spec_SpreadTable.mono _ _ _)
      | (with_reducible exact spec_SteerQueue.mono _ _ _)
      | (with_reducible exact LeO.refl _)
      | (with_reducible exact LeO.none _)
      | (with_reducible refine LeO.ite ?_ ?_)
      | (with_reducible refine LeO.bind ?_ (fun _ => ?_))
      | exact ih0 _ _ _
      | exact ih1 _ _ _ _
      | exact ih2 _ _ _ _
      | exact ih3 _ _ _ _ _ _
      | exact impl_SpreadTable.mono _ _ _
      | exact impl_SteerQueue.mono _ _ _
      | exact laws_sameInts.mono _ _ _
      | exact spec_SpreadTable.mono _ _ _
      | exact spec_SteerQueue.mono _ _ _
      | exact LeO.none _
      | refine LeO.ite ?_ ?_
      | refine LeO.bind ?_ (fun _ => ?_)
theorem laws_FnSteers.mono : ∀ a0 a1 k, LeO (laws_FnSteers.f k a0 a1) (laws_FnSteers.f (k + 1) a0 a1) := by
  intro a0 a1 k
  obtain ⟨ih0, ih1, ih2, ih3⟩ := laws_FnSteers.mono_l k
  unfold laws_FnSteers.f
  repeat' first
      | (with_reducible exact ih0 _ _ _)
      | (with_reducible exact ih1 _ _ _ _)
      | (with_reducible exact ih2 _ _ _ _)
      | (with_reducible exact ih3 _ _ _ _ _ _)
      | (with_reducible exact impl_SpreadTable.mono _ _ _)
      | (with_reducible exact impl_SteerQueue.mono _ _ _)
      | (with_reducible exact laws_sameInts.mono _ _ _)
      | (with_reducible exact spec_SpreadTable.mono _ _ _)
      | (with_reducible exact spec_SteerQueue.mono _ _ _)
      | (with_reducible exact LeO.refl _)
      | (with_reducible exact LeO.none _)
      | (with_reducible refine LeO.ite ?_ ?_)
      | (with_reducible refine LeO.bind ?_ (fun _ => ?_))
      | exact ih0 _ _ _
      | exact ih1 _ _ _ _
      | exact ih2 _ _ _ _
      | exact ih3 _ _ _ _ _ _
      | exact impl_SpreadTable.mono _ _ _
      | exact impl_SteerQueue.mono _ _ _
      | exact laws_sameInts.mono _ _ _
      | exact spec_SpreadTable.mono _ _ _
      | exact spec_SteerQueue.mono _ _ _
      | exact LeO.none _
      | refine LeO.ite ?_ ?_
      | refine LeO.bind ?_ (fun _ => ?_)
set_option maxHeartbeats 8000000 in
set_option maxRecDepth 100000 in
theorem laws_FnSteers.calls (k : Nat) (A0 : Option Addr) (c0 : Nat) (l0 : List Int) (A1 : Option Addr) (c1 : Nat) (l1 : List Int) (r : Bool) (w : World) (hr0 : Kd.C (Kd.int .u8) w A0 l0.length l0) (hc0 : l0.length ≤ c0) (hr1 : Kd.C (Kd.int .u8) w A1 l1.length l1) (hc1 : l1.length ≤ c1) (h : laws_FnSteers.f k l0 l1 = some r) :
    Calls Try.prog 5 #[.slice A0 l0.length c0, .slice A1 l1.length c1] w fun e w' => e = .returned (.bool r) ∧ Below w.heap.size w w' := by
  have HR0 := Aside0.mk hr0
  have HC0 := Aside0.mk hc0
  clear hr0 hc0
  have HR1 := Aside0.mk hr1
  have HC1 := Aside0.mk hc1
  clear hr1 hc1
  have HB := Aside0.mk (Below.refl w.heap.size w)
  have H : (if (l0.length : Int) > 1048576 then (laws_FnSteers.j0 k l0 l1 true) else (laws_FnSteers.j0 k l0 l1 (decide ((l1.length : Int) > 1048576)))) = some r := h
  clear h
  have HC3 := Aside0.mk H
  clear H
  go_enter Try.func5, Try.ntmps5
  go_upto_region 1 with (fail)
  go_cut [26] (fun v26 wc => ∃ (kq : Nat) (x26_2 : Bool), v26 = .bool x26_2 ∧ Aside0 (laws_FnSteers.j0 kq l0 l1 x26_2 = some r) ∧ Aside0 (kq ≤ k) ∧ Aside0 (Below w.heap.size w wc))
  case first =>
    have H := HC3.out
    clear HC3
    by_cases c4 : (l0.length : Int) > 1048576
    · rw [if_pos c4] at H
      have c4b0 : decide (1048576 < (l0.length : Int)) = true := decide_eq_true c4
      have c4b1 : decide (1048576 < l0.length) = true := decide_eq_true (by omega)
      clear c4
      (first | rw [c4b0] | (simp only [i64_w, i32_w]; rw [c4b0]) | skip)
      have H' := Aside0.mk H
      clear H
      go_wp2
      go_meet
      case rel => exact ⟨_, (true), (by first | rfl | (simp; done) | (simp [*]; done)), H', ⟨by first | omega | exact Nat.le_refl _⟩, ⟨by repeat (first | (with_reducible first | exact HB.out | apply below_alloc | apply pw_below_drewN | apply below_drew1) | exact HB.out)⟩⟩
    · rw [if_neg c4] at H
      have c4b0 : decide (1048576 < (l0.length : Int)) = false := decide_eq_false c4
      have c4b1 : decide (1048576 < l0.length) = false := decide_eq_false (by omega)
      clear c4
      (first | rw [c4b0] | (simp only [i64_w, i32_w]; rw [c4b0]) | skip)
      have H' := Aside0.mk H
      clear H
      go_wp2
      go_meet
      case rel => exact ⟨_, (decide ((l1.length : Int) > 1048576)), (by first | rfl | (simp; done) | (simp [*]; done)), H', ⟨by first | omega | exact Nat.le_refl _⟩, ⟨by repeat (first | (with_reducible first | exact HB.out | apply below_alloc | apply pw_below_drewN | apply below_drew1) | exact HB.out)⟩⟩
  case rest =>
    clear HC3
    try clear c1
    try clear p2
    try clear c4
    try clear c4b0
    try clear c4b1
    obtain ⟨kq, x26_2, rfl, HA, HJ2, HB⟩ := hcut
    cases kq with
    | zero => exact absurd HA.out (by simp [laws_FnSteers.j0])
    | succ kj2 =>
      have H := HA.out
      clear HA
      simp only [laws_FnSteers.j0] at H
      by_cases c5 : x26_2 = true
      · subst c5
        have H1 : (some true) = some r := by rw [if_pos rfl] at H; exact H
        clear H
        have H := H1
        clear H1
        obtain rfl := Option.some.inj H
        go_wp2
        go_ret
        exact ⟨by first | rfl | (simp [errW_none, errW_some] <;> rfl) | (simp [*, errW_none, errW_some] <;> rfl), by repeat (first | (with_reducible first | exact HB.out | apply below_alloc | apply pw_below_drewN | apply below_drew1) | exact HB.out)⟩
      · replace c5 := Bool.eq_false_iff.mpr c5
        subst c5
        have H1 : ((some (([1, 2, 4, 8, 16, 32, 64] : List Int) : List Int)).bind fun y133 => ((laws_at.f l0 0 7).bind fun t136 => (if 0 ≤ t136 then (if t136 < (y133.length : Int) then ((laws_at.f l0 1 16).bind fun t138 => ((impl_SpreadTable.f kj2 (rd y133 t136) (wrap64 (1 + t138))).bind fun bt139 => ((spec_SpreadTable.f kj2 (rd y133 t136) (wrap64 (1 + t138))).bind fun bt143 => ((laws_at.f l1 0 9000).bind fun t147 => ((impl_SteerQueue.f kj2 bt139.1 (wrap64 (t147 * 400000))).bind fun bt148 => ((spec_SteerQueue.f kj2 bt143.1 (wrap64 (t147 * 400000))).bind fun bt150 => (if bt139.2 = 0 then (if bt148.2 = 0 then ((laws_sameInts.f kj2 bt139.1 bt143.1).bind fun t152 => (if t152 = true then (if bt148.1 = bt150.1 then (if bt148.1 < 0 then (laws_FnSteers.j1 kj2 (rd y133 t136) (wrap64 (1 + t138)) bt139.1 true) else (laws_FnSteers.j1 kj2 (rd y133 t136) (wrap64 (1 + t138)) bt139.1 (decide (bt148.1 ≥ (wrap64 (1 + t138)))))) else (laws_FnSteers.j1 kj2 (rd y133 t136) (wrap64 (1 + t138)) bt139.1 true)) else (laws_FnSteers.j1 kj2 (rd y133 t136) (wrap64 (1 + t138)) bt139.1 true))) else (laws_FnSteers.j1 kj2 (rd y133 t136) (wrap64 (1 + t138)) bt139.1 true)) else (laws_FnSteers.j1 kj2 (rd y133 t136) (wrap64 (1 + t138)) bt139.1 true)))))))) else (none)) else (none)))) = some r := by rw [if_neg (show ¬ (false = true) by decide)] at H; exact H
        clear H
        have H := H1
        clear H1
        obtain ⟨y133, hy133⟩ : ∃ y_ : List Int, y_ = (([1, 2, 4, 8, 16, 32, 64] : List Int)) := ⟨_, rfl⟩
        replace H : ((laws_at.f l0 0 7).bind fun t136 => (if 0 ≤ t136 then (if t136 < (y133.length : Int) then ((laws_at.f l0 1 16).bind fun t138 => ((impl_SpreadTable.f kj2 (rd y133 t136) (wrap64 (1 + t138))).bind fun bt139 => ((spec_SpreadTable.f kj2 (rd y133 t136) (wrap64 (1 + t138))).bind fun bt143 => ((laws_at.f l1 0 9000).bind fun t147 => ((impl_SteerQueue.f kj2 bt139.1 (wrap64 (t147 * 400000))).bind fun bt148 => ((spec_SteerQueue.f kj2 bt143.1 (wrap64 (t147 * 400000))).bind fun bt150 => (if bt139.2 = 0 then (if bt148.2 = 0 then ((laws_sameInts.f kj2 bt139.1 bt143.1).bind fun t152 => (if t152 = true then (if bt148.1 = bt150.1 then (if bt148.1 < 0 then (laws_FnSteers.j1 kj2 (rd y133 t136) (wrap64 (1 + t138)) bt139.1 true) else (laws_FnSteers.j1 kj2 (rd y133 t136) (wrap64 (1 + t138)) bt139.1 (decide (bt148.1 ≥ (wrap64 (1 + t138)))))) else (laws_FnSteers.j1 kj2 (rd y133 t136) (wrap64 (1 + t138)) bt139.1 true)) else (laws_FnSteers.j1 kj2 (rd y133 t136) (wrap64 (1 + t138)) bt139.1 true))) else (laws_FnSteers.j1 kj2 (rd y133 t136) (wrap64 (1 + t138)) bt139.1 true)) else (laws_FnSteers.j1 kj2 (rd y133 t136) (wrap64 (1 + t138)) bt139.1 true)))))))) else (none)) else (none))) = some r := by first | (rw [hy133]; with_reducible exact H) | (have H2_ := (Option.bind_some _ _).symm.trans H; rw [hy133]; with_reducible exact H2_) | (have H2_ := (Option.bind_some _ _).symm.trans H; with_reducible exact H2_) | with_reducible exact H | (rw [hy133]; exact H) | exact H
        have Ny133 := Aside0.mk hy133
        clear hy133
        replace H := Option.bind_eq_some_iff.mp H
        obtain ⟨t136, A60, H⟩ := H
        replace H : (if 0 ≤ t136 then (if t136 < (y133.length : Int) then ((laws_at.f l0 1 16).bind fun t138 => ((impl_SpreadTable.f kj2 (rd y133 t136) (wrap64 (1 + t138))).bind fun bt139 => ((spec_SpreadTable.f kj2 (rd y133 t136) (wrap64 (1 + t138))).bind fun bt143 => ((laws_at.f l1 0 9000).bind fun t147 => ((impl_SteerQueue.f kj2 bt139.1 (wrap64 (t147 * 400000))).bind fun bt148 => ((spec_SteerQueue.f kj2 bt143.1 (wrap64 (t147 * 400000))).bind fun bt150 => (if bt139.2 = 0 then (if bt148.2 = 0 then ((laws_sameInts.f kj2 bt139.1 bt143.1).bind fun t152 => (if t152 = true then (if bt148.1 = bt150.1 then (if bt148.1 < 0 then (laws_FnSteers.j1 kj2 (rd y133 t136) (wrap64 (1 + t138)) bt139.1 true) else (laws_FnSteers.j1 kj2 (rd y133 t136) (wrap64 (1 + t138)) bt139.1 (decide (bt148.1 ≥ (wrap64 (1 + t138)))))) else (laws_FnSteers.j1 kj2 (rd y133 t136) (wrap64 (1 + t138)) bt139.1 true)) else (laws_FnSteers.j1 kj2 (rd y133 t136) (wrap64 (1 + t138)) bt139.1 true))) else (laws_FnSteers.j1 kj2 (rd y133 t136) (wrap64 (1 + t138)) bt139.1 true)) else (laws_FnSteers.j1 kj2 (rd y133 t136) (wrap64 (1 + t138)) bt139.1 true)))))))) else (none)) else (none)) = some r := H
        have A6 := Aside0.mk A60
        clear A60
        by_cases c7 : 0 ≤ t136
        · rw [if_pos c7] at H
          have c7b0 : decide (0 ≤ t136) = true := decide_eq_true c7
          clear c7
          by_cases c8 : t136 < (y133.length : Int)
          · rw [if_pos c8] at H
            have c8b0 : decide (t136 < (y133.length : Int)) = true := decide_eq_true c8
            clear c8
            replace H := Option.bind_eq_some_iff.mp H
            obtain ⟨t138, A90, H⟩ := H
            replace H : ((impl_SpreadTable.f kj2 (rd y133 t136) (wrap64 (1 + t138))).bind fun bt139 => ((spec_SpreadTable.f kj2 (rd y133 t136) (wrap64 (1 + t138))).bind fun bt143 => ((laws_at.f l1 0 9000).bind fun t147 => ((impl_SteerQueue.f kj2 bt139.1 (wrap64 (t147 * 400000))).bind fun bt148 => ((spec_SteerQueue.f kj2 bt143.1 (wrap64 (t147 * 400000))).bind fun bt150 => (if bt139.2 = 0 then (if bt148.2 = 0 then ((laws_sameInts.f kj2 bt139.1 bt143.1).bind fun t152 => (if t152 = true then (if bt148.1 = bt150.1 then (if bt148.1 < 0 then (laws_FnSteers.j1 kj2 (rd y133 t136) (wrap64 (1 + t138)) bt139.1 true) else (laws_FnSteers.j1 kj2 (rd y133 t136) (wrap64 (1 + t138)) bt139.1 (decide (bt148.1 ≥ (wrap64 (1 + t138)))))) else (laws_FnSteers.j1 kj2 (rd y133 t136) (wrap64 (1 + t138)) bt139.1 true)) else (laws_FnSteers.j1 kj2 (rd y133 t136) (wrap64 (1 + t138)) bt139.1 true))) else (laws_FnSteers.j1 kj2 (rd y133 t136) (wrap64 (1 + t138)) bt139.1 true)) else (laws_FnSteers.j1 kj2 (rd y133 t136) (wrap64 (1 + t138)) bt139.1 true))))))) = some r := H
            have A9 := Aside0.mk A90
            clear A90
            replace H := Option.bind_eq_some_iff.mp H
            obtain ⟨⟨t139, t140⟩, A100, H⟩ := H
            replace H : ((spec_SpreadTable.f kj2 (rd y133 t136) (wrap64 (1 + t138))).bind fun bt143 => ((laws_at.f l1 0 9000).bind fun t147 => ((impl_SteerQueue.f kj2 t139 (wrap64 (t147 * 400000))).bind fun bt148 => ((spec_SteerQueue.f kj2 bt143.1 (wrap64 (t147 * 400000))).bind fun bt150 => (if t140 = 0 then (if bt148.2 = 0 then ((laws_sameInts.f kj2 t139 bt143.1).bind fun t152 => (if t152 = true then (if bt148.1 = bt150.1 then (if bt148.1 < 0 then (laws_FnSteers.j1 kj2 (rd y133 t136) (wrap64 (1 + t138)) t139 true) else (laws_FnSteers.j1 kj2 (rd y133 t136) (wrap64 (1 + t138)) t139 (decide (bt148.1 ≥ (wrap64 (1 + t138)))))) else (laws_FnSteers.j1 kj2 (rd y133 t136) (wrap64 (1 + t138)) t139 true)) else (laws_FnSteers.j1 kj2 (rd y133 t136) (wrap64 (1 + t138)) t139 true))) else (laws_FnSteers.j1 kj2 (rd y133 t136) (wrap64 (1 + t138)) t139 true)) else (laws_FnSteers.j1 kj2 (rd y133 t136) (wrap64 (1 + t138)) t139 true)))))) = some r := H
            have A10 := Aside0.mk A100
            clear A100
            replace H := Option.bind_eq_some_iff.mp H
            obtain ⟨⟨t143, t144⟩, A110, H⟩ := H
            replace H : ((laws_at.f l1 0 9000).bind fun t147 => ((impl_SteerQueue.f kj2 t139 (wrap64 (t147 * 400000))).bind fun bt148 => ((spec_SteerQueue.f kj2 t143 (wrap64 (t147 * 400000))).bind fun bt150 => (if t140 = 0 then (if bt148.2 = 0 then ((laws_sameInts.f kj2 t139 t143).bind fun t152 => (if t152 = true then (if bt148.1 = bt150.1 then (if bt148.1 < 0 then (laws_FnSteers.j1 kj2 (rd y133 t136) (wrap64 (1 + t138)) t139 true) else (laws_FnSteers.j1 kj2 (rd y133 t136) (wrap64 (1 + t138)) t139 (decide (bt148.1 ≥ (wrap64 (1 + t138)))))) else (laws_FnSteers.j1 kj2 (rd y133 t136) (wrap64 (1 + t138)) t139 true)) else (laws_FnSteers.j1 kj2 (rd y133 t136) (wrap64 (1 + t138)) t139 true))) else (laws_FnSteers.j1 kj2 (rd y133 t136) (wrap64 (1 + t138)) t139 true)) else (laws_FnSteers.j1 kj2 (rd y133 t136) (wrap64 (1 + t138)) t139 true))))) = some r := H
            have A11 := Aside0.mk A110
            clear A110
            replace H := Option.bind_eq_some_iff.mp H
            obtain ⟨t147, A120, H⟩ := H
            replace H : ((impl_SteerQueue.f kj2 t139 (wrap64 (t147 * 400000))).bind fun bt148 => ((spec_SteerQueue.f kj2 t143 (wrap64 (t147 * 400000))).bind fun bt150 => (if t140 = 0 then (if bt148.2 = 0 then ((laws_sameInts.f kj2 t139 t143).bind fun t152 => (if t152 = true then (if bt148.1 = bt150.1 then (if bt148.1 < 0 then (laws_FnSteers.j1 kj2 (rd y133 t136) (wrap64 (1 + t138)) t139 true) else (laws_FnSteers.j1 kj2 (rd y133 t136) (wrap64 (1 + t138)) t139 (decide (bt148.1 ≥ (wrap64 (1 + t138)))))) else (laws_FnSteers.j1 kj2 (rd y133 t136) (wrap64 (1 + t138)) t139 true)) else (laws_FnSteers.j1 kj2 (rd y133 t136) (wrap64 (1 + t138)) t139 true))) else (laws_FnSteers.j1 kj2 (rd y133 t136) (wrap64 (1 + t138)) t139 true)) else (laws_FnSteers.j1 kj2 (rd y133 t136) (wrap64 (1 + t138)) t139 true)))) = some r := H
            have A12 := Aside0.mk A120
            clear A120
            replace H := Option.bind_eq_some_iff.mp H
            obtain ⟨⟨t148, t149⟩, A130, H⟩ := H
            replace H : ((spec_SteerQueue.f kj2 t143 (wrap64 (t147 * 400000))).bind fun bt150 => (if t140 = 0 then (if t149 = 0 then ((laws_sameInts.f kj2 t139 t143).bind fun t152 => (if t152 = true then (if t148 = bt150.1 then (if t148 < 0 then (laws_FnSteers.j1 kj2 (rd y133 t136) (wrap64 (1 + t138)) t139 true) else (laws_FnSteers.j1 kj2 (rd y133 t136) (wrap64 (1 + t138)) t139 (decide (t148 ≥ (wrap64 (1 + t138)))))) else (laws_FnSteers.j1 kj2 (rd y133 t136) (wrap64 (1 + t138)) t139 true)) else (laws_FnSteers.j1 kj2 (rd y133 t136) (wrap64 (1 + t138)) t139 true))) else (laws_FnSteers.j1 kj2 (rd y133 t136) (wrap64 (1 + t138)) t139 true)) else (laws_FnSteers.j1 kj2 (rd y133 t136) (wrap64 (1 + t138)) t139 true))) = some r := H
            have A13 := Aside0.mk A130
            clear A130
            replace H := Option.bind_eq_some_iff.mp H
            obtain ⟨⟨t150, t151⟩, A140, H⟩ := H
            replace H : (if t140 = 0 then (if t149 = 0 then ((laws_sameInts.f kj2 t139 t143).bind fun t152 => (if t152 = true then (if t148 = t150 then (if t148 < 0 then (laws_FnSteers.j1 kj2 (rd y133 t136) (wrap64 (1 + t138)) t139 true) else (laws_FnSteers.j1 kj2 (rd y133 t136) (wrap64 (1 + t138)) t139 (decide (t148 ≥ (wrap64 (1 + t138)))))) else (laws_FnSteers.j1 kj2 (rd y133 t136) (wrap64 (1 + t138)) t139 true)) else (laws_FnSteers.j1 kj2 (rd y133 t136) (wrap64 (1 + t138)) t139 true))) else (laws_FnSteers.j1 kj2 (rd y133 t136) (wrap64 (1 + t138)) t139 true)) else (laws_FnSteers.j1 kj2 (rd y133 t136) (wrap64 (1 + t138)) t139 true)) = some r := H
            have A14 := Aside0.mk A140
            clear A140
            have HC15 := Aside0.mk H
            clear H
            go_upto_region 10 with (first | ((with_reducible refine gate_dst (N := 27) rfl ?_); (try (refine gate_guard (by rfl) ?_; dsimp only)); refine Kd.R_lit (Kd.int .i64) _ 3 ?hg (N := 27) ?hd (xs := ([1, 2, 4, 8, 16, 32, 64] : List Int)) (inner := [.int .i64 1, .int .i64 2, .int .i64 4, .int .i64 8, .int .i64 16, .int .i64 32, .int .i64 64]) (ok := fun _ => True) (okp := fun _ => True) ?hr ?hp (fun _ hk => hk) trivial (Below.refl _ _) (Nat.le_refl _) (by simp) ?_; (case hd => rfl); (case hg => rfl); (case hr => first | (go_simp; done) | (go_simp; rfl)); (case hp => exact (Reps.one (show Kd.M (Kd.int .i64) _ _ _ 1 [.int .i64 1] from rfl) (Reps.one (show Kd.M (Kd.int .i64) _ _ _ 2 [.int .i64 2] from rfl) (Reps.one (show Kd.M (Kd.int .i64) _ _ _ 4 [.int .i64 4] from rfl) (Reps.one (show Kd.M (Kd.int .i64) _ _ _ 8 [.int .i64 8] from rfl) (Reps.one (show Kd.M (Kd.int .i64) _ _ _ 16 [.int .i64 16] from rfl) (Reps.one (show Kd.M (Kd.int .i64) _ _ _ 32 [.int .i64 32] from rfl) (Reps.one (show Kd.M (Kd.int .i64) _ _ _ 64 [.int .i64 64] from rfl) (Reps.none _ _))))))))); intro v134 w16 ho17 hb hg_ hnew_; clear hg_ hnew_; (first | rw [← Ny133.out] at ho17 | (simp only [Int.reduceToNat] at ho17; rw [← Ny133.out] at ho17)); have n0_ := Aside0.mk (Kd.R_lower ho17 (below_size (by repeat (first | (with_reducible first | exact HB.out | apply below_alloc | apply pw_below_drewN | apply below_drew1) | exact HB.out)))); have n1_ := Aside0.mk (below_step (by repeat (first | (with_reducible first | exact HB.out | apply below_alloc | apply pw_below_drewN | apply below_drew1) | exact HB.out)) hb); clear HB; have HO135 := n0_; have HB := n1_; clear n0_ n1_; clear hb ho17) | ((with_reducible refine gate_callee (f := 15) rfl ?_); refine goesL_ (some 29) rfl rfl Try.func15 (by kernel_rfl) rfl #[.slice A0 l0.length c0, .int .i64 0, .int .i64 7] rfl (by (try simp only [List.map_toArray, List.map_cons, List.map_nil]); first | done | rfl | (simp only [List.length_drop, List.length_take]; rfl)) ?_; (with_reducible refine (laws_at.calls _ _ l0 0 7 t136 _ ?side1 ?side2 A6.out).mono ?_); (case side1 => repeat (first | exact (Kd.C_below HR0.out HB.out) | (with_reducible refine Kd.C_alloc ?_ _) | (with_reducible refine Kd.C_drewN ?_ _) | (with_reducible refine Kd.C_drew ?_))); (case side2 => exact HC0.out); rintro e w' ⟨rfl, ⟨nd, rfl⟩⟩; refine ⟨_, rfl, ?_⟩; obtain ⟨Ao18, co18, eo18⟩ := Kd.R_slice HO135.out; subst eo18; have p137 : 0 ≤ (t136 : Int) := of_decide_eq_true (by first | (with_reducible assumption) | assumption); have q137 : t136 < (y133.length : Int) := of_decide_eq_true (by first | (with_reducible assumption) | assumption); obtain ⟨ad137, e137, hx137_0⟩ := Kd.at_int (Kd.R_reads' HO135.out).2.2 t136 p137 q137; cases e137; replace p137 := eq_true p137; replace q137 := eq_true q137) | ((with_reducible refine gate_callee (f := 15) rfl ?_); refine goesL_ (some 33) rfl rfl Try.func15 (by kernel_rfl) rfl #[.slice A0 l0.length c0, .int .i64 1, .int .i64 16] rfl (by (try simp only [List.map_toArray, List.map_cons, List.map_nil]); first | done | rfl | (simp only [List.length_drop, List.length_take]; rfl)) ?_; (with_reducible refine (laws_at.calls _ _ l0 1 16 t138 _ ?side1 ?side2 A9.out).mono ?_); (case side1 => repeat (first | exact (Kd.C_below HR0.out (by repeat (first | (with_reducible first | exact HB.out | apply below_alloc | apply pw_below_drewN | apply below_drew1) | exact HB.out))) | (with_reducible refine Kd.C_alloc ?_ _) | (with_reducible refine Kd.C_drewN ?_ _) | (with_reducible refine Kd.C_drew ?_))); (case side2 => exact HC0.out); rintro e w' ⟨rfl, ⟨nd, rfl⟩⟩; refine ⟨_, rfl, ?_⟩) | ((with_reducible refine gate_callee (f := 8) rfl ?_); refine goesL_ (some 38) rfl rfl Try.func8 (by kernel_rfl) rfl #[.int .i64 (rd y133 t136), .int .i64 (wrap64 (1 + t138))] rfl (by (try simp only [List.map_toArray, List.map_cons, List.map_nil]); first | done | rfl | (simp only [List.length_drop, List.length_take]; rfl)) ?_; (with_reducible refine (impl_SpreadTable.calls kj2 (rd y133 t136) (wrap64 (1 + t138)) t139 t140 _ A10.out).mono ?_); rintro e w19 ⟨v141, rfl, ho0, hb⟩; refine ⟨_, rfl, ?_⟩; have n0_ := Aside0.mk (Kd.R_elder' (by (with_reducible repeat (first | apply Kd.R_alloc | apply Kd.R_drewN | apply Kd.R_drew)); exact HO135.out) (Kd.R_base ho0) hb); have n1_ := Aside0.mk (Kd.R_lower (Kd.R_new' ho0 (Kd.R_lt (by (with_reducible repeat (first | apply Kd.R_alloc | apply Kd.R_drewN | apply Kd.R_drew)); exact HO135.out))) (below_size (by repeat (first | (with_reducible first | exact HB.out | apply below_alloc | apply pw_below_drewN | apply below_drew1) | exact HB.out)))); have n2_ := Aside0.mk (below_step (by repeat (first | (with_reducible first | exact HB.out | apply below_alloc | apply pw_below_drewN | apply below_drew1) | exact HB.out)) hb); clear HO135; clear HB; have HO135 := n0_; have HO142 := n1_; have HB := n2_; clear n0_ n1_ n2_; (try clear hb); (try clear hb2); (try clear hk); (try clear hi); (try clear ho0)) | ((with_reducible refine gate_callee (f := 7) rfl ?_); refine goesL_ (some 44) rfl rfl Try.func7 (by kernel_rfl) rfl #[.int .i64 (rd y133 t136), .int .i64 (wrap64 (1 + t138))] rfl (by (try simp only [List.map_toArray, List.map_cons, List.map_nil]); first | done | rfl | (simp only [List.length_drop, List.length_take]; rfl)) ?_; (with_reducible refine (spec_SpreadTable.calls kj2 (rd y133 t136) (wrap64 (1 + t138)) t143 t144 _ A11.out).mono ?_); rintro e w20 ⟨v145, rfl, ho0, hb⟩; refine ⟨_, rfl, ?_⟩; have n0_ := Aside0.mk (Kd.R_elder' (by (with_reducible repeat (first | apply Kd.R_alloc | apply Kd.R_drewN | apply Kd.R_drew)); exact HO135.out) (Kd.R_base ho0) hb); have n1_ := Aside0.mk (Kd.R_elder' (by (with_reducible repeat (first | apply Kd.R_alloc | apply Kd.R_drewN | apply Kd.R_drew)); exact HO142.out) (Kd.R_base ho0) hb); have n2_ := Aside0.mk (Kd.R_lower (Kd.R_new' (Kd.R_new' ho0 (Kd.R_lt (by (with_reducible repeat (first | apply Kd.R_alloc | apply Kd.R_drewN | apply Kd.R_drew)); exact HO135.out))) (Kd.R_lt (by (with_reducible repeat (first | apply Kd.R_alloc | apply Kd.R_drewN | apply Kd.R_drew)); exact HO142.out))) (below_size (by repeat (first | (with_reducible first | exact HB.out | apply below_alloc | apply pw_below_drewN | apply below_drew1) | exact HB.out)))); have n3_ := Aside0.mk (below_step (by repeat (first | (with_reducible first | exact HB.out | apply below_alloc | apply pw_below_drewN | apply below_drew1) | exact HB.out)) hb); clear HO135; clear HO142; clear HB; have HO135 := n0_; have HO142 := n1_; have HO146 := n2_; have HB := n3_; clear n0_ n1_ n2_ n3_; (try clear hb); (try clear hb2); (try clear hk); (try clear hi); (try clear ho0)) | ((with_reducible refine gate_callee (f := 15) rfl ?_); refine goesL_ (some 48) rfl rfl Try.func15 (by kernel_rfl) rfl #[.slice A1 l1.length c1, .int .i64 0, .int .i64 9000] rfl (by (try simp only [List.map_toArray, List.map_cons, List.map_nil]); first | done | rfl | (simp only [List.length_drop, List.length_take]; rfl)) ?_; (with_reducible refine (laws_at.calls _ _ l1 0 9000 t147 _ ?side1 ?side2 A12.out).mono ?_); (case side1 => repeat (first | exact (Kd.C_below HR1.out HB.out) | (with_reducible refine Kd.C_alloc ?_ _) | (with_reducible refine Kd.C_drewN ?_ _) | (with_reducible refine Kd.C_drew ?_))); (case side2 => exact HC1.out); rintro e w' ⟨rfl, ⟨nd, rfl⟩⟩; refine ⟨_, rfl, ?_⟩; obtain ⟨Ao21, co21, eo21⟩ := Kd.R_slice HO142.out; subst eo21) | ((with_reducible refine gate_callee (f := 14) rfl ?_); refine goesL_ (some 53) rfl rfl Try.func14 (by kernel_rfl) rfl #[.slice Ao21 t139.length co21, .int .i64 (wrap64 (t147 * 400000))] rfl (by (try simp only [List.map_toArray, List.map_cons, List.map_nil]); first | done | rfl | (simp only [List.length_drop, List.length_take]; rfl)) ?_; (with_reducible refine (impl_SteerQueue.calls kj2 _ _ t139 (wrap64 (t147 * 400000)) t148 t149 _ ?side1 ?side2 A13.out).mono ?_); (case side1 => repeat (first | exact (Kd.R_reads' HO142.out).2.2 | (with_reducible refine Kd.C_alloc ?_ _) | (with_reducible refine Kd.C_drewN ?_ _) | (with_reducible refine Kd.C_drew ?_))); (case side2 => exact (Kd.R_reads' HO142.out).2.1); rintro e w22 ⟨rfl, hb⟩; refine ⟨_, rfl, ?_⟩; have n0_ := Aside0.mk (Kd.R_below (by (with_reducible repeat (first | apply Kd.R_alloc | apply Kd.R_drewN | apply Kd.R_drew)); exact HO135.out) hb); have n1_ := Aside0.mk (Kd.R_below (by (with_reducible repeat (first | apply Kd.R_alloc | apply Kd.R_drewN | apply Kd.R_drew)); exact HO142.out) hb); have n2_ := Aside0.mk (Kd.R_below (by (with_reducible repeat (first | apply Kd.R_alloc | apply Kd.R_drewN | apply Kd.R_drew)); exact HO146.out) hb); have n3_ := Aside0.mk (below_step (by repeat (first | (with_reducible first | exact HB.out | apply below_alloc | apply pw_below_drewN | apply below_drew1) | exact HB.out)) hb); clear HO135; clear HO142; clear HO146; clear HB; have HO135 := n0_; have HO142 := n1_; have HO146 := n2_; have HB := n3_; clear n0_ n1_ n2_ n3_; (try clear hb); (try clear hb2); (try clear hk); (try clear hi); obtain ⟨Ao23, co23, eo23⟩ := Kd.R_slice HO146.out; subst eo23) | ((with_reducible refine gate_callee (f := 12) rfl ?_); refine goesL_ (some 59) rfl rfl Try.func12 (by kernel_rfl) rfl #[.slice Ao23 t143.length co23, .int .i64 (wrap64 (t147 * 400000))] rfl (by (try simp only [List.map_toArray, List.map_cons, List.map_nil]); first | done | rfl | (simp only [List.length_drop, List.length_take]; rfl)) ?_; (with_reducible refine (spec_SteerQueue.calls kj2 _ _ t143 (wrap64 (t147 * 400000)) t150 t151 _ ?side1 ?side2 A14.out).mono ?_); (case side1 => repeat (first | exact (Kd.R_reads' HO146.out).2.2 | (with_reducible refine Kd.C_alloc ?_ _) | (with_reducible refine Kd.C_drewN ?_ _) | (with_reducible refine Kd.C_drew ?_))); (case side2 => exact (Kd.R_reads' HO146.out).2.1); rintro e w' ⟨rfl, ⟨nd, rfl⟩⟩; refine ⟨_, rfl, ?_⟩))
            (try simp only [Act.put, List.setIfInBounds_toArray, List.set_cons_zero, List.set_cons_succ])
            go_cut [87] (fun v87 wc => ∃ (kq : Nat) (x87_14 : Bool), v87 = .bool x87_14 ∧ Aside0 (laws_FnSteers.j1 kq (rd y133 t136) (wrap64 (1 + t138)) t139 x87_14 = some r) ∧ Aside0 (kq ≤ kj2) ∧ Aside0 (Kd.R (Kd.int .i64) 3 wc w.heap.size (fun _ => True) (.slice Ao21 t139.length co21) t139) ∧ Aside0 (Below w.heap.size w wc))
            case first =>
              have H := HC15.out
              clear HC15
              by_cases c24 : t140 = 0
              · rw [if_pos c24] at H
                have c24b0 : (t140 == 0) = true := beq_iff_eq.mpr c24
                have c24b1 : (t140 != 0) = false := bne_eq_false_iff_eq.mpr c24
                clear c24
                (first | rw [c24b0] | (simp only [i64_w, i32_w]; rw [c24b0]) | skip)
                by_cases c25 : t149 = 0
                · rw [if_pos c25] at H
                  have c25b0 : (t149 == 0) = true := beq_iff_eq.mpr c25
                  have c25b1 : (t149 != 0) = false := bne_eq_false_iff_eq.mpr c25
                  clear c25
                  replace H := Option.bind_eq_some_iff.mp H
                  obtain ⟨t152, A260, H⟩ := H
                  replace H : (if t152 = true then (if t148 = t150 then (if t148 < 0 then (laws_FnSteers.j1 kj2 (rd y133 t136) (wrap64 (1 + t138)) t139 true) else (laws_FnSteers.j1 kj2 (rd y133 t136) (wrap64 (1 + t138)) t139 (decide (t148 ≥ (wrap64 (1 + t138)))))) else (laws_FnSteers.j1 kj2 (rd y133 t136) (wrap64 (1 + t138)) t139 true)) else (laws_FnSteers.j1 kj2 (rd y133 t136) (wrap64 (1 + t138)) t139 true)) = some r := H
                  have A26 := Aside0.mk A260
                  clear A260
                  by_cases c27 : t152 = true
                  · subst c27
                    have H1 : (if t148 = t150 then (if t148 < 0 then (laws_FnSteers.j1 kj2 (rd y133 t136) (wrap64 (1 + t138)) t139 true) else (laws_FnSteers.j1 kj2 (rd y133 t136) (wrap64 (1 + t138)) t139 (decide (t148 ≥ (wrap64 (1 + t138)))))) else (laws_FnSteers.j1 kj2 (rd y133 t136) (wrap64 (1 + t138)) t139 true)) = some r := by rw [if_pos rfl] at H; exact H
                    clear H
                    have H := H1
                    clear H1
                    by_cases c28 : t148 = t150
                    · rw [if_pos c28] at H
                      have c28b0 : (t148 == t150) = true := beq_iff_eq.mpr c28
                      have c28b1 : (t148 != t150) = false := bne_eq_false_iff_eq.mpr c28
                      clear c28
                      by_cases c29 : t148 < 0
                      · rw [if_pos c29] at H
                        have c29b0 : decide (t148 < 0) = true := decide_eq_true c29
                        clear c29
                        have H' := Aside0.mk H
                        clear H
                        go_wp2_with (first | (go_at_call 16; (with_reducible refine (laws_sameInts.calls kj2 _ _ t139 _ _ t143 true _ ?side1 ?side2 ?side3 ?side4 A26.out).mono ?_); (case side1 => repeat (first | exact (Kd.R_reads' HO142.out).2.2 | (with_reducible refine Kd.C_alloc ?_ _) | (with_reducible refine Kd.C_drewN ?_ _) | (with_reducible refine Kd.C_drew ?_))); (case side2 => exact (Kd.R_reads' HO142.out).2.1); (case side3 => repeat (first | exact (Kd.R_reads' HO146.out).2.2 | (with_reducible refine Kd.C_alloc ?_ _) | (with_reducible refine Kd.C_drewN ?_ _) | (with_reducible refine Kd.C_drew ?_))); (case side4 => exact (Kd.R_reads' HO146.out).2.1); rintro e w' ⟨rfl, ⟨nd, rfl⟩⟩))
                        go_meet
                        case rel => exact ⟨_, (true), (by first | rfl | (simp; done) | (simp [*]; done)), H', ⟨by have := HJ2.out; first | omega | exact Nat.le_refl _⟩, ⟨by (with_reducible repeat (first | apply Kd.R_alloc | apply Kd.R_drewN | apply Kd.R_drew)); exact Kd.R_mono HO142.out (fun _ hk => trivial)⟩, ⟨by repeat (first | (with_reducible first | exact HB.out | apply below_alloc | apply pw_below_drewN | apply below_drew1) | exact HB.out)⟩⟩
                      · rw [if_neg c29] at H
                        have c29b0 : decide (t148 < 0) = false := decide_eq_false c29
                        clear c29
                        have H' := Aside0.mk H
                        clear H
                        go_wp2_with (first | (go_at_call 16; (with_reducible refine (laws_sameInts.calls kj2 _ _ t139 _ _ t143 true _ ?side1 ?side2 ?side3 ?side4 A26.out).mono ?_); (case side1 => repeat (first | exact (Kd.R_reads' HO142.out).2.2 | (with_reducible refine Kd.C_alloc ?_ _) | (with_reducible refine Kd.C_drewN ?_ _) | (with_reducible refine Kd.C_drew ?_))); (case side2 => exact (Kd.R_reads' HO142.out).2.1); (case side3 => repeat (first | exact (Kd.R_reads' HO146.out).2.2 | (with_reducible refine Kd.C_alloc ?_ _) | (with_reducible refine Kd.C_drewN ?_ _) | (with_reducible refine Kd.C_drew ?_))); (case side4 => exact (Kd.R_reads' HO146.out).2.1); rintro e w' ⟨rfl, ⟨nd, rfl⟩⟩))
                        go_meet
                        case rel => exact ⟨_, (decide (t148 ≥ (wrap64 (1 + t138)))), (by first | rfl | (simp; done) | (simp [*]; done)), H', ⟨by have := HJ2.out; first | omega | exact Nat.le_refl _⟩, ⟨by (with_reducible repeat (first | apply Kd.R_alloc | apply Kd.R_drewN | apply Kd.R_drew)); exact Kd.R_mono HO142.out (fun _ hk => trivial)⟩, ⟨by repeat (first | (with_reducible first | exact HB.out | apply below_alloc | apply pw_below_drewN | apply below_drew1) | exact HB.out)⟩⟩
                    · rw [if_neg c28] at H
                      have c28b0 : (t148 == t150) = false := beq_eq_false_iff_ne.mpr c28
                      have c28b1 : (t148 != t150) = true := bne_iff_ne.mpr c28
                      have H' := Aside0.mk H
                      clear H
                      go_wp2_with (first | (go_at_call 16; (with_reducible refine (laws_sameInts.calls kj2 _ _ t139 _ _ t143 true _ ?side1 ?side2 ?side3 ?side4 A26.out).mono ?_); (case side1 => repeat (first | exact (Kd.R_reads' HO142.out).2.2 | (with_reducible refine Kd.C_alloc ?_ _) | (with_reducible refine Kd.C_drewN ?_ _) | (with_reducible refine Kd.C_drew ?_))); (case side2 => exact (Kd.R_reads' HO142.out).2.1); (case side3 => repeat (first | exact (Kd.R_reads' HO146.out).2.2 | (with_reducible refine Kd.C_alloc ?_ _) | (with_reducible refine Kd.C_drewN ?_ _) | (with_reducible refine Kd.C_drew ?_))); (case side4 => exact (Kd.R_reads' HO146.out).2.1); rintro e w' ⟨rfl, ⟨nd, rfl⟩⟩))
                      go_meet
                      case rel => exact ⟨_, (true), (by first | rfl | (simp; done) | (simp [*]; done)), H', ⟨by have := HJ2.out; first | omega | exact Nat.le_refl _⟩, ⟨by (with_reducible repeat (first | apply Kd.R_alloc | apply Kd.R_drewN | apply Kd.R_drew)); exact Kd.R_mono HO142.out (fun _ hk => trivial)⟩, ⟨by repeat (first | (with_reducible first | exact HB.out | apply below_alloc | apply pw_below_drewN | apply below_drew1) | exact HB.out)⟩⟩
                  · replace c27 := Bool.eq_false_iff.mpr c27
                    subst c27
                    have H1 : (laws_FnSteers.j1 kj2 (rd y133 t136) (wrap64 (1 + t138)) t139 true) = some r := by rw [if_neg (show ¬ (false = true) by decide)] at H; exact H
                    clear H
                    have H := H1
                    clear H1
                    have H' := Aside0.mk H
                    clear H
                    go_wp2_with (first | (go_at_call 16; (with_reducible refine (laws_sameInts.calls kj2 _ _ t139 _ _ t143 false _ ?side1 ?side2 ?side3 ?side4 A26.out).mono ?_); (case side1 => repeat (first | exact (Kd.R_reads' HO142.out).2.2 | (with_reducible refine Kd.C_alloc ?_ _) | (with_reducible refine Kd.C_drewN ?_ _) | (with_reducible refine Kd.C_drew ?_))); (case side2 => exact (Kd.R_reads' HO142.out).2.1); (case side3 => repeat (first | exact (Kd.R_reads' HO146.out).2.2 | (with_reducible refine Kd.C_alloc ?_ _) | (with_reducible refine Kd.C_drewN ?_ _) | (with_reducible refine Kd.C_drew ?_))); (case side4 => exact (Kd.R_reads' HO146.out).2.1); rintro e w' ⟨rfl, ⟨nd, rfl⟩⟩))
                    go_meet
                    case rel => exact ⟨_, (true), (by first | rfl | (simp; done) | (simp [*]; done)), H', ⟨by have := HJ2.out; first | omega | exact Nat.le_refl _⟩, ⟨by (with_reducible repeat (first | apply Kd.R_alloc | apply Kd.R_drewN | apply Kd.R_drew)); exact Kd.R_mono HO142.out (fun _ hk => trivial)⟩, ⟨by repeat (first | (with_reducible first | exact HB.out | apply below_alloc | apply pw_below_drewN | apply below_drew1) | exact HB.out)⟩⟩
                · rw [if_neg c25] at H
                  have c25b0 : (t149 == 0) = false := beq_eq_false_iff_ne.mpr c25
                  have c25b1 : (t149 != 0) = true := bne_iff_ne.mpr c25
                  have H' := Aside0.mk H
                  clear H
                  go_wp2
                  go_meet
                  case rel => exact ⟨_, (true), (by first | rfl | (simp; done) | (simp [*]; done)), H', ⟨by have := HJ2.out; first | omega | exact Nat.le_refl _⟩, ⟨by (with_reducible repeat (first | apply Kd.R_alloc | apply Kd.R_drewN | apply Kd.R_drew)); exact Kd.R_mono HO142.out (fun _ hk => trivial)⟩, ⟨by repeat (first | (with_reducible first | exact HB.out | apply below_alloc | apply pw_below_drewN | apply below_drew1) | exact HB.out)⟩⟩
              · rw [if_neg c24] at H
                have c24b0 : (t140 == 0) = false := beq_eq_false_iff_ne.mpr c24
                have c24b1 : (t140 != 0) = true := bne_iff_ne.mpr c24
                (first | rw [c24b0] | (simp only [i64_w, i32_w]; rw [c24b0]) | skip)
                have H' := Aside0.mk H
                clear H
                go_wp2
                go_meet
                case rel => exact ⟨_, (true), (by first | rfl | (simp; done) | (simp [*]; done)), H', ⟨by have := HJ2.out; first | omega | exact Nat.le_refl _⟩, ⟨by (with_reducible repeat (first | apply Kd.R_alloc | apply Kd.R_drewN | apply Kd.R_drew)); exact Kd.R_mono HO142.out (fun _ hk => trivial)⟩, ⟨by repeat (first | (with_reducible first | exact HB.out | apply below_alloc | apply pw_below_drewN | apply below_drew1) | exact HB.out)⟩⟩
            case rest =>
              clear HC15
              try clear c1
              try clear p1
              try clear q1
              try clear hx1
              try clear c2
              try clear p2
              try clear c4
              try clear c4b0
              try clear c4b1
              try clear c5
              try clear p6
              try clear c7
              try clear c7b0
              try clear c8
              try clear c8b0
              try clear c12
              try clear p13
              try clear q13
              try clear hx13
              try clear c14
              try clear c15
              try clear c24
              try clear c24b0
              try clear c24b1
              try clear c25
              try clear c25b0
              try clear c25b1
              try clear c27
              try clear c28
              try clear c28b0
              try clear c28b1
              try clear c29
              try clear c29b0
              try clear hx137_0
              try clear p137
              try clear p2
              try clear q137
              obtain ⟨kq, x87_14, rfl, HA, HJ14, HO_7, HB⟩ := hcut
              cases kq with
              | zero => exact absurd HA.out (by simp [laws_FnSteers.j1])
              | succ kj14 =>
                have H := HA.out
                clear HA
                simp only [laws_FnSteers.j1] at H
                by_cases c30 : x87_14 = true
                · subst c30
                  have H1 : (some false) = some r := by rw [if_pos rfl] at H; exact H
                  clear H
                  have H := H1
                  clear H1
                  obtain rfl := Option.some.inj H
                  go_wp2
                  go_ret
                  exact ⟨by first | rfl | (simp [errW_none, errW_some] <;> rfl) | (simp [*, errW_none, errW_some] <;> rfl), by repeat (first | (with_reducible first | exact HB.out | apply below_alloc | apply pw_below_drewN | apply below_drew1) | exact HB.out)⟩
                · replace c30 := Bool.eq_false_iff.mpr c30
                  subst c30
                  have H1 : (laws_FnSteers.l0 kj14 (rd y133 t136) (wrap64 (1 + t138)) t139 0) = some r := by rw [if_neg (show ¬ (false = true) by decide)] at H; exact H
                  clear H
                  have H := H1
                  clear H1
                  have H' := Aside0.mk H
                  clear H
                  go_wp2
                  go_loopg [16] kj14 (fun kq v16 w' => ∃ (x16_3 : Int), v16 = .int .i64 x16_3 ∧ Aside0 (laws_FnSteers.l0 kq (rd y133 t136) (wrap64 (1 + t138)) t139 x16_3 = some r) ∧ Aside0 (kq ≤ kj14) ∧ Aside0 (Kd.R (Kd.int .i64) 3 w' w.heap.size (fun _ => True) (.slice Ao21 t139.length co21) t139) ∧ Aside0 (Below w.heap.size w w'))
                  case atStart => exact ⟨(0), (by first | rfl | (simp; done) | (simp [*]; done)), H', ⟨Nat.le_refl _⟩, ⟨by (with_reducible repeat (first | apply Kd.R_alloc | apply Kd.R_drewN | apply Kd.R_drew)); exact HO_7.out⟩, ⟨by repeat (first | (with_reducible first | exact HB.out | apply below_alloc | apply pw_below_drewN | apply below_drew1) | exact HB.out)⟩⟩
                  case round =>
                    clear H'
                    try clear c1
                    try clear p1
                    try clear q1
                    try clear hx1
                    try clear c2
                    try clear p2
                    try clear c3
                    try clear c4
                    try clear c4b0
                    try clear c4b1
                    try clear c5
                    try clear p6
                    try clear c7
                    try clear c7b0
                    try clear c8
                    try clear c8b0
                    try clear c12
                    try clear p13
                    try clear q13
                    try clear hx13
                    try clear c14
                    try clear c15
                    try clear c24
                    try clear c24b0
                    try clear c24b1
                    try clear c25
                    try clear c25b0
                    try clear c25b1
                    try clear c27
                    try clear c28
                    try clear c28b0
                    try clear c28b1
                    try clear c29
                    try clear c29b0
                    try clear c30
                    try clear hx137_0
                    try clear p1
                    try clear p13
                    try clear p137
                    try clear p2
                    try clear p6
                    try clear q1
                    try clear q13
                    try clear q137
                    obtain ⟨x16_3, rfl, HA, HK3, HO_7, HB⟩ := hrel
                    cases gk with
                    | zero => exact absurd HA.out (by simp [laws_FnSteers.l0])
                    | succ k3 =>
                      have H := HA.out
                      clear HA
                      simp only [laws_FnSteers.l0] at H
                      by_cases c31 : x16_3 < (wrap64 (1 + t138))
                      · rw [if_pos c31] at H
                        have c31b0 : decide (x16_3 < (wrap64 (1 + t138))) = true := decide_eq_true c31
                        clear c31
                        have H' := Aside0.mk H
                        clear H
                        go_wp2
                        go_loopg [17, 18] k3 (fun kq v17 v18 w' => ∃ (x17_4 : Int) (x18_4 : Int), v17 = .int .i64 x17_4 ∧ v18 = .int .i64 x18_4 ∧ Aside0 (laws_FnSteers.l1 kq (rd y133 t136) (wrap64 (1 + t138)) t139 x16_3 x17_4 x18_4 = some r) ∧ Aside0 (kq ≤ k3) ∧ Aside0 (Kd.R (Kd.int .i64) 3 w' w.heap.size (fun _ => True) (.slice Ao21 t139.length co21) t139) ∧ Aside0 (Below w.heap.size w w'))
                        case atStart => exact ⟨(0), (0), (by first | rfl | (simp; done) | (simp [*]; done)), (by first | rfl | (simp; done) | (simp [*]; done)), H', ⟨Nat.le_refl _⟩, ⟨by (with_reducible repeat (first | apply Kd.R_alloc | apply Kd.R_drewN | apply Kd.R_drew)); exact HO_7.out⟩, ⟨by repeat (first | (with_reducible first | exact HB.out | apply below_alloc | apply pw_below_drewN | apply below_drew1) | exact HB.out)⟩⟩
                        case round =>
                          clear H'
                          try clear c1
                          try clear p1
                          try clear q1
                          try clear hx1
                          try clear c2
                          try clear p2
                          try clear c3
                          try clear c4
                          try clear c4b0
                          try clear c4b1
                          try clear c5
                          try clear p6
                          try clear c7
                          try clear c7b0
                          try clear c8
                          try clear c8b0
                          try clear c12
                          try clear p13
                          try clear q13
                          try clear hx13
                          try clear c14
                          try clear c15
                          try clear c24
                          try clear c24b0
                          try clear c24b1
                          try clear c25
                          try clear c25b0
                          try clear c25b1
                          try clear c27
                          try clear c28
                          try clear c28b0
                          try clear c28b1
                          try clear c29
                          try clear c29b0
                          try clear c30
                          try clear c31
                          try clear c31b0
                          try clear hx137_0
                          try clear p1
                          try clear p13
                          try clear p137
                          try clear p2
                          try clear p6
                          try clear q1
                          try clear q13
                          try clear q137
                          obtain ⟨x17_4, x18_4, rfl, rfl, HA, HK4, HO_7, HB⟩ := hrel
                          cases gk with
                          | zero => exact absurd HA.out (by simp [laws_FnSteers.l1])
                          | succ k4 =>
                            have H := HA.out
                            clear HA
                            simp only [laws_FnSteers.l1] at H
                            by_cases c32 : x18_4 < (t139.length : Int)
                            · rw [if_pos c32] at H
                              have c32b0 : decide (x18_4 < (t139.length : Int)) = true := decide_eq_true c32
                              clear c32
                              by_cases c33 : 0 ≤ x18_4
                              · rw [if_pos c33] at H
                                have c33b0 : decide (0 ≤ x18_4) = true := decide_eq_true c33
                                clear c33
                                by_cases c34 : (rd t139 x18_4) = x16_3
                                · rw [if_pos c34] at H
                                  have c34b0 : ((rd t139 x18_4) == x16_3) = true := beq_iff_eq.mpr c34
                                  have c34b1 : ((rd t139 x18_4) != x16_3) = false := bne_eq_false_iff_eq.mpr c34
                                  clear c34
                                  have H' := Aside0.mk H
                                  clear H
                                  have p153 : 0 ≤ (x18_4 : Int) := of_decide_eq_true (by first | (with_reducible assumption) | assumption)
                                  have q153 : x18_4 < (t139.length : Int) := of_decide_eq_true (by first | (with_reducible assumption) | assumption)
                                  obtain ⟨ad153, e153, hx153_0⟩ := Kd.at_int (Kd.R_reads' HO_7.out).2.2 x18_4 p153 q153
                                  cases e153
                                  replace p153 := eq_true p153
                                  replace q153 := eq_true q153
                                  go_wp2
                                  go_roundg k4
                                  case measure => have := HJ2.out; have := HJ14.out; have := HK3.out; have := HK4.out; omega
                                  case rel => exact ⟨(wrap64 (x17_4 + 1)), (wrap64 (x18_4 + 1)), (by first | rfl | (simp; done) | (simp [*]; done)), (by first | rfl | (simp; done) | (simp [*]; done)), H', ⟨by have := HJ2.out; have := HJ14.out; have := HK3.out; have := HK4.out; omega⟩, ⟨by (with_reducible repeat (first | apply Kd.R_alloc | apply Kd.R_drewN | apply Kd.R_drew)); exact HO_7.out⟩, ⟨by repeat (first | (with_reducible first | exact HB.out | apply below_alloc | apply pw_below_drewN | apply below_drew1) | exact HB.out)⟩⟩
                                · rw [if_neg c34] at H
                                  have c34b0 : ((rd t139 x18_4) == x16_3) = false := beq_eq_false_iff_ne.mpr c34
                                  have c34b1 : ((rd t139 x18_4) != x16_3) = true := bne_iff_ne.mpr c34
                                  have H' := Aside0.mk H
                                  clear H
                                  have p153 : 0 ≤ (x18_4 : Int) := of_decide_eq_true (by first | (with_reducible assumption) | assumption)
                                  have q153 : x18_4 < (t139.length : Int) := of_decide_eq_true (by first | (with_reducible assumption) | assumption)
                                  obtain ⟨ad153, e153, hx153_0⟩ := Kd.at_int (Kd.R_reads' HO_7.out).2.2 x18_4 p153 q153
                                  cases e153
                                  replace p153 := eq_true p153
                                  replace q153 := eq_true q153
                                  go_wp2
                                  go_roundg k4
                                  case measure => have := HJ2.out; have := HJ14.out; have := HK3.out; have := HK4.out; omega
                                  case rel => exact ⟨(x17_4), (wrap64 (x18_4 + 1)), (by first | rfl | (simp; done) | (simp [*]; done)), (by first | rfl | (simp; done) | (simp [*]; done)), H', ⟨by have := HJ2.out; have := HJ14.out; have := HK3.out; have := HK4.out; omega⟩, ⟨by (with_reducible repeat (first | apply Kd.R_alloc | apply Kd.R_drewN | apply Kd.R_drew)); exact HO_7.out⟩, ⟨by repeat (first | (with_reducible first | exact HB.out | apply below_alloc | apply pw_below_drewN | apply below_drew1) | exact HB.out)⟩⟩
                              · rw [if_neg c33] at H
                                exact absurd H (by simp)
                            · rw [if_neg c32] at H
                              have c32b0 : decide (x18_4 < (t139.length : Int)) = false := decide_eq_false c32
                              clear c32
                              by_cases c35 : (wrap64 (1 + t138)) = 0
                              · rw [if_pos c35] at H
                                exact absurd H (by simp)
                              · rw [if_neg c35] at H
                                have c35b0 : ((wrap64 (1 + t138)) == 0) = false := beq_eq_false_iff_ne.mpr c35
                                have c35b1 : ((wrap64 (1 + t138)) != 0) = true := bne_iff_ne.mpr c35
                                by_cases c36 : x17_4 < (wrap64 (Int.tdiv (rd y133 t136) (wrap64 (1 + t138))))
                                · rw [if_pos c36] at H
                                  have c36b0 : decide (x17_4 < (wrap64 (Int.tdiv (rd y133 t136) (wrap64 (1 + t138))))) = true := decide_eq_true c36
                                  clear c36
                                  obtain rfl := Option.some.inj H
                                  go_wp2
                                  go_ret
                                  exact ⟨by first | rfl | (simp [errW_none, errW_some] <;> rfl) | (simp [*, errW_none, errW_some] <;> rfl), by repeat (first | (with_reducible first | exact HB.out | apply below_alloc | apply pw_below_drewN | apply below_drew1) | exact HB.out)⟩
                                · rw [if_neg c36] at H
                                  have c36b0 : decide (x17_4 < (wrap64 (Int.tdiv (rd y133 t136) (wrap64 (1 + t138))))) = false := decide_eq_false c36
                                  clear c36
                                  by_cases c37 : x17_4 > (wrap64 ((wrap64 (Int.tdiv (rd y133 t136) (wrap64 (1 + t138)))) + 1))
                                  · rw [if_pos c37] at H
                                    have c37b0 : decide ((wrap64 ((wrap64 (Int.tdiv (rd y133 t136) (wrap64 (1 + t138)))) + 1)) < x17_4) = true := decide_eq_true c37
                                    clear c37
                                    obtain rfl := Option.some.inj H
                                    go_wp2
                                    go_ret
                                    exact ⟨by first | rfl | (simp [errW_none, errW_some] <;> rfl) | (simp [*, errW_none, errW_some] <;> rfl), by repeat (first | (with_reducible first | exact HB.out | apply below_alloc | apply pw_below_drewN | apply below_drew1) | exact HB.out)⟩
                                  · rw [if_neg c37] at H
                                    have c37b0 : decide ((wrap64 ((wrap64 (Int.tdiv (rd y133 t136) (wrap64 (1 + t138)))) + 1)) < x17_4) = false := decide_eq_false c37
                                    clear c37
                                    have H' := Aside0.mk H
                                    clear H
                                    go_wp2
                                    go_roundg k4
                                    case measure => have := HJ2.out; have := HJ14.out; have := HK3.out; have := HK4.out; omega
                                    case rel => exact ⟨(wrap64 (x16_3 + 1)), (by first | rfl | (simp; done) | (simp [*]; done)), H', ⟨by have := HJ2.out; have := HJ14.out; have := HK3.out; have := HK4.out; omega⟩, ⟨by (with_reducible repeat (first | apply Kd.R_alloc | apply Kd.R_drewN | apply Kd.R_drew)); exact HO_7.out⟩, ⟨by repeat (first | (with_reducible first | exact HB.out | apply below_alloc | apply pw_below_drewN | apply below_drew1) | exact HB.out)⟩⟩
                      · rw [if_neg c31] at H
                        have c31b0 : decide (x16_3 < (wrap64 (1 + t138))) = false := decide_eq_false c31
                        clear c31
                        obtain rfl := Option.some.inj H
                        go_wp2
                        go_ret
                        exact ⟨by first | rfl | (simp [errW_none, errW_some] <;> rfl) | (simp [*, errW_none, errW_some] <;> rfl), by repeat (first | (with_reducible first | exact HB.out | apply below_alloc | apply pw_below_drewN | apply below_drew1) | exact HB.out)⟩
          · rw [if_neg c8] at H
            exact absurd H (by simp)
        · rw [if_neg c7] at H
          exact absurd H (by simp)

/-- THE ONE PURE STATEMENT of laws_FnSteers: yours. -/
def laws_FnSteers.Pure : Prop := ∀ (l0 : List Int) (l1 : List Int), l0.length ≤ maxLen → l0.length * 1 ≤ 140737488351232 → (∀ x ∈ l0, (Lit.int .u8 x).wf = true) → l1.length ≤ maxLen → l1.length * 1 ≤ 140737488351232 → (∀ x ∈ l1, (Lit.int .u8 x).wf = true) → ∃ k, laws_FnSteers.f k l0 l1 = some true
theorem laws_FnSteers.walk (P : laws_FnSteers.Pure) (a0 : Option Addr) (len0 cap0 : Nat) (z0 : List Int) (a1 : Option Addr) (len1 cap1 : Nat) (z1 : List Int) (w : World) (w0 : (a0 = none ∧ len0 = 0 ∧ cap0 = 0 ∧ z0 = []) ∨ ∃ x, a0 = some x ∧ len0 ≤ cap0 ∧ cap0 ≤ maxLen ∧ z0.length = cap0 ∧ (∀ i, i < z0.length → w.cell? (x.add i) = some (.int .u8 (z0.getD i 0))) ∧ ∀ n ∈ z0, (Lit.int .u8 n).wf = true) (y0 : len0 * 1 ≤ 140737488351232) (w1 : (a1 = none ∧ len1 = 0 ∧ cap1 = 0 ∧ z1 = []) ∨ ∃ x, a1 = some x ∧ len1 ≤ cap1 ∧ cap1 ≤ maxLen ∧ z1.length = cap1 ∧ (∀ i, i < z1.length → w.cell? (x.add i) = some (.int .u8 (z1.getD i 0))) ∧ ∀ n ∈ z1, (Lit.int .u8 n).wf = true) (y1 : len1 * 1 ≤ 140737488351232) :
    Calls Try.prog 5 #[.slice a0 len0 cap0, .slice a1 len1 cap1] w fun e w' => e = .returned (.bool true) ∧ Below w.heap.size w w' := by
  obtain ⟨l0, rfl, hr0, hm0, hw0, hc0⟩ := ReadsInt.ofRowC w0
  obtain ⟨l1, rfl, hr1, hm1, hw1, hc1⟩ := ReadsInt.ofRowC w1
  obtain ⟨k, h⟩ := P l0 l1 hm0 y0 hw0 hm1 y1 hw1
  refine (laws_FnSteers.calls k _ _ l0 _ _ l1 true w (Kd.C_of_reads (d := (0 : Int)) (h1 := fun _ => rfl) hr0) hc0 (Kd.C_of_reads (d := (0 : Int)) (h1 := fun _ => rfl) hr1) hc1 h).mono ?_
  rintro e w' ⟨rfl, hd⟩
  exact ⟨rfl, hd⟩

end Go.Proofs.Ytecjjkmheionoaa.PFnSteers
