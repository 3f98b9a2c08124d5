-- OWN TEXT of FnPaths: made by own_print.sh, finished by hand
import Derived.Test.YtgbkpledbjkjoaaGFnPathsx0
import Derived.Test.YtgbkpledbjkjoaaGFnPathsx1
import Derived.Test.YtgbkpledbjkjoaaGFnPathsx2
import Derived.Test.YtgbkpledbjkjoaaGFnPathsx3
import Derived.Test.YtgbkpledbjkjoaaGFnPathsx7
import Derived.Test.YtgbkpledbjkjoaaGFnPathsx8
import Derived.Test.YtgbkpledbjkjoaaGFnPathsx10
namespace Go.Proofs.Ytgbkpledbjkjoaa.PFnPaths
open Go.RowKit Go.Proofs.YtgbkpledbjkjoaaW.PrintWords Go.Proofs.YtgbkpledbjkjoaaW.PrintLast Go.Proofs.YtgbkpledbjkjoaaW.PrintMore
attribute [local go_sem] max2_int min2_int max_two min_two max_three min_three max_four min_four   -- for this text's walks alone
set_option linter.unusedVariables false
set_option linter.unusedSimpArgs false

attribute [local go_sem high] eqA43
/-! ### laws_FnPaths: function 6 -/
mutual
def laws_FnPaths.j0 : Nat → List Int → List Int → Bool → Option (Bool)
  | 0, _, _, _ => none
  | k + 1, x0, x1, x34 => if x34 = true then (some true) else ((spec_PathsOf.f k x0).bind fun t350 => ((spec_AddrOf.f k x1).bind fun t353 => ((laws_at.f x1 0 500).bind fun t354 => ((laws_at.f x1 1 2000).bind fun t355 => ((impl_PathMtu.f k t350 t353 (wrap64 (1000 + t354))).bind fun bt356 => ((impl_LearnPath.f k t350 t353 t355 (wrap64 (1000 + t354))).bind fun bt358 => ((spec_LearnPath.f k t350 t353 t355 (wrap64 (1000 + t354))).bind fun bt362 => ((impl_PathMtu.f k bt358.1 t353 (wrap64 (1000 + t354))).bind fun bt366 => ((impl_PathMtu.f k bt358.1 t353 (wrap64 ((wrap64 (1000 + t354)) + 600))).bind fun bt368 => ((impl_ExpirePaths.f k t350 (wrap64 (1000 + t354))).bind fun bt370 => (if bt356.2 = 0 then (if bt358.2 = 0 then (if bt366.2 = 0 then (if bt368.2 = 0 then (if bt370.2 = 0 then (if (bt358.1.length : Int) = (bt362.1.length : Int) then (if bt366.1 > bt356.1 then (laws_FnPaths.j1 k t353 (wrap64 (1000 + t354)) bt358.1 bt362.1 bt366.1 true) else (if bt366.1 > (mx t355 1280) then (if bt366.1 = bt356.1 then (if bt368.1 = 1500 then ((impl_PathsOK.f k bt358.1).bind fun t374 => (if t374 = true then (laws_FnPaths.j1 k t353 (wrap64 (1000 + t354)) bt358.1 bt362.1 bt366.1 (decide ((bt370.1.length : Int) > (t350.length : Int)))) else (laws_FnPaths.j1 k t353 (wrap64 (1000 + t354)) bt358.1 bt362.1 bt366.1 true))) else (laws_FnPaths.j1 k t353 (wrap64 (1000 + t354)) bt358.1 bt362.1 bt366.1 true)) else (laws_FnPaths.j1 k t353 (wrap64 (1000 + t354)) bt358.1 bt362.1 bt366.1 true)) else (if bt368.1 = 1500 then ((impl_PathsOK.f k bt358.1).bind fun t375 => (if t375 = true then (laws_FnPaths.j1 k t353 (wrap64 (1000 + t354)) bt358.1 bt362.1 bt366.1 (decide ((bt370.1.length : Int) > (t350.length : Int)))) else (laws_FnPaths.j1 k t353 (wrap64 (1000 + t354)) bt358.1 bt362.1 bt366.1 true))) else (laws_FnPaths.j1 k t353 (wrap64 (1000 + t354)) bt358.1 bt362.1 bt366.1 true)))) else (laws_FnPaths.j1 k t353 (wrap64 (1000 + t354)) bt358.1 bt362.1 bt366.1 true)) else (laws_FnPaths.j1 k t353 (wrap64 (1000 + t354)) bt358.1 bt362.1 bt366.1 true)) else (laws_FnPaths.j1 k t353 (wrap64 (1000 + t354)) bt358.1 bt362.1 bt366.1 true)) else (laws_FnPaths.j1 k t353 (wrap64 (1000 + t354)) bt358.1 bt362.1 bt366.1 true)) else (laws_FnPaths.j1 k t353 (wrap64 (1000 + t354)) bt358.1 bt362.1 bt366.1 true)) else (laws_FnPaths.j1 k t353 (wrap64 (1000 + t354)) bt358.1 bt362.1 bt366.1 true))))))))))))
def laws_FnPaths.j1 : Nat → ByteArray → Int → List (S43) → List (S43) → Int → Bool → Option (Bool)
  | 0, _, _, _, _, _, _ => none
  | k + 1, x6, x7, x11, x13, x15, x144 => if x144 = true then (some false) else (laws_FnPaths.l0 k x6 x7 x11 x13 x15 0)
def laws_FnPaths.l0 : Nat → ByteArray → Int → List (S43) → List (S43) → Int → Int → Option (Bool)
  | 0, _, _, _, _, _, _ => none
  | k + 1, x6, x7, x11, x13, x15, x21 => if x21 < (x11.length : Int) then (if 0 ≤ x21 then (if x21 < (x13.length : Int) then (if (!((((rd_T43 x11 x21).f0).toList) == (((rd_T43 x13 x21).f0).toList)) || (!(((rd_T43 x11 x21).f1) == ((rd_T43 x13 x21).f1)) || (!(((rd_T43 x11 x21).f2) == ((rd_T43 x13 x21).f2))))) = true then (some false) else (if ((rd_T43 x11 x21).f2) ≤ x7 then (some false) else (laws_FnPaths.l0 k x6 x7 x11 x13 x15 (wrap64 (x21 + 1))))) else (none)) else (none)) else (if (x6.size : Int) = 16 then ((impl_SegmentSize.f k 6 x15).bind fun bt379 => ((spec_SegmentSize.f k 6 x15).bind fun bt381 => (if bt379.2 = 0 then (if bt379.1 = bt381.1 then (some (decide (bt379.1 < x15))) else (some false)) else (some false)))) else ((impl_SegmentSize.f k 4 x15).bind fun bt383 => ((spec_SegmentSize.f k 4 x15).bind fun bt385 => (if bt383.2 = 0 then (if bt383.1 = bt385.1 then (some (decide (bt383.1 < x15))) else (some false)) else (some false)))))
end
def laws_FnPaths.f (k : Nat) (l0 : List Int) (l1 : List Int) : Option (Bool) := if (l0.length : Int) > 1048576 then (laws_FnPaths.j0 k l0 l1 true) else (laws_FnPaths.j0 k l0 l1 (decide ((l1.length : Int) > 1048576)))
theorem laws_FnPaths.mono_l : ∀ k, (∀ y0 y1 y2, LeO (laws_FnPaths.j0 k y0 y1 y2) (laws_FnPaths.j0 (k + 1) y0 y1 y2)) ∧ (∀ y0 y1 y2 y3 y4 y5, LeO (laws_FnPaths.j1 k y0 y1 y2 y3 y4 y5) (laws_FnPaths.j1 (k + 1) y0 y1 y2 y3 y4 y5)) ∧ (∀ y0 y1 y2 y3 y4 y5, LeO (laws_FnPaths.l0 k y0 y1 y2 y3 y4 y5) (laws_FnPaths.l0 (k + 1) y0 y1 y2 y3 y4 y5))
  | 0 => ⟨fun _ _ _ r h => by simp [laws_FnPaths.j0] at h, fun _ _ _ _ _ _ r h => by simp [laws_FnPaths.j1] at h, fun _ _ _ _ _ _ r h => by simp [laws_FnPaths.l0] at h⟩
  | k + 1 => by
    obtain ⟨ih0, ih1, ih2⟩ := laws_FnPaths.mono_l k
    refine ⟨?_, ?_, ?_⟩
    · intro y0 y1 y2
      unfold laws_FnPaths.j0
      repeat' first
      | (with_reducible exact ih0 _ _ _)
      | (with_reducible exact ih1 _ _ _ _ _ _)
      | (with_reducible exact ih2 _ _ _ _ _ _)
      | (with_reducible exact impl_ExpirePaths.mono _ _ _)
      | (with_reducible exact impl_LearnPath.mono _ _ _ _ _)
      | (with_reducible exact impl_PathMtu.mono _ _ _ _)
      | (with_reducible exact impl_PathsOK.mono _ _)
      | (with_reducible exact impl_SegmentSize.mono _ _ _)
      | (with_reducible exact spec_AddrOf.mono _ _)
      | (with_reducible exact spec_LearnPath.mono _ _ _ _ _)
      | (with_reducible exact spec_PathsOf.mono _ _)
      | (with_reducible exact spec_SegmentSize.mono _ _ _)
      | (with_reducible exact LeO.refl _)
      | (with_reducible exact LeO.none _)
      | (with_reducible refine LeO.ite ?_ ?_)
      | (with_reducible refine LeO.bind ?_ (fun _ => ?_))
      | exact ih0 _ _ _
      | exact ih1 _ _ _ _ _ _
      | exact ih2 _ _ _ _ _ _
      | exact impl_ExpirePaths.mono _ _ _
      | exact impl_LearnPath.mono _ _ _ _ _
      | exact impl_PathMtu.mono _ _ _ _
      | exact impl_PathsOK.mono _ _
      | exact impl_SegmentSize.mono _ _ _
      | exact spec_AddrOf.mono _ _
      | exact spec_LearnPath.mono _ _ _ _ _
      | exact spec_PathsOf.mono _ _
      | exact spec_SegmentSize.mono _ _ _
      | exact LeO.none _
      | refine LeO.ite ?_ ?_
      | refine LeO.bind ?_ (fun _ => ?_)
    · intro y0 y1 y2 y3 y4 y5
      unfold laws_FnPaths.j1
      repeat' first
      | (with_reducible exact ih0 _ _ _)
      | (with_reducible exact ih1 _ _ _ _ _ _)
      | (with_reducible exact ih2 _ _ _ _ _ _)
      | (with_reducible exact impl_ExpirePaths.mono _ _ _)
      | (with_reducible exact impl_LearnPath.mono _ _ _ _ _)
      | (with_reducible exact impl_PathMtu.mono _ _ _ _)
      | (with_reducible exact impl_PathsOK.mono _ _)
      | (with_reducible exact impl_SegmentSize.mono _ _ _)
      | (with_reducible exact spec_AddrOf.mono _ _)
      | (with_reducible exact spec_LearnPath.mono _ _ _ _ _)
      | (with_reducible exact spec_PathsOf.mono _ _)
      | (with_reducible exact spec_SegmentSize.mono _ _ _)
      | (with_reducible exact LeO.refl _)
      | (with_reducible exact LeO.none _)
      | (with_reducible refine LeO.ite ?_ ?_)
      | (with_reducible refine LeO.bind ?_ (fun _ => ?_))
      | exact ih0 _ _ _
      | exact ih1 _ _ _ _ _ _
      | exact ih2 _ _ _ _ _ _
      | exact impl_ExpirePaths.mono _ _ _
      | exact impl_LearnPath.mono _ _ _ _ _
      | exact impl_PathMtu.mono _ _ _ _
      | exact impl_PathsOK.mono _ _
      | exact impl_SegmentSize.mono _ _ _
      | exact spec_AddrOf.mono _ _
      | exact spec_LearnPath.mono _ _ _ _ _
      | exact spec_PathsOf.mono _ _
      | exact spec_SegmentSize.mono _ _ _
      | exact LeO.none _
      | refine LeO.ite ?_ ?_
      | refine LeO.bind ?_ (fun _ => ?_)
    · intro y0 y1 y2 y3 y4 y5
      unfold laws_FnPaths.l0
      repeat' first
      | (with_reducible exact ih0 _ _ _)
      | (with_reducible exact ih1 _ _ _ _ _ _)
      | (with_reducible exact ih2 _ _ _ _ _ _)
      | (with_reducible exact impl_ExpirePaths.mono _ _ _)
      | (with_reducible exact impl_LearnPath.mono _ _ _ _ _)
      | (with_reducible exact impl_PathMtu.mono _ _ _ _)
      | (with_reducible exact impl_PathsOK.mono _ _)
      | (with_reducible exact impl_SegmentSize.mono _ _ _)
      | (with_reducible exact spec_AddrOf.mono _ _)
      | (with_reducible exact spec_LearnPath.mono _ _ _ _ _)
      | (with_reducible exact spec_PathsOf.mono _ _)
      | (with_reducible exact spec_SegmentSize.mono _ _ _)
      | (with_reducible exact LeO.refl _)
      | (with_reducible exact LeO.none _)
      | (with_reducible refine LeO.ite ?_ ?_)
      | (with_reducible refine LeO.bind ?_ (fun _ => ?_))
      | exact ih0 _ _ _
      | exact ih1 _ _ _ _ _ _
      | exact ih2 _ _ _ _ _ _
      | exact impl_ExpirePaths.mono _ _ _
      | exact impl_LearnPath.mono _ _ _ _ _
      | exact impl_PathMtu.mono _ _ _ _
      | exact impl_PathsOK.mono _ _
      | exact impl_SegmentSize.mono _ _ _
      | exact spec_AddrOf.mono _ _
      | exact spec_LearnPath.mono _ _ _ _ _
      | exact spec_PathsOf.mono _ _
      | exact spec_SegmentSize.mono _ _ _
      | exact LeO.none _
      | refine LeO.ite ?_ ?_
      | refine LeO.bind ?_ (fun _ => ?_)
theorem laws_FnPaths.mono : ∀ a0 a1 k, LeO (laws_FnPaths.f k a0 a1) (laws_FnPaths.f (k + 1) a0 a1) := by
  intro a0 a1 k
  obtain ⟨ih0, ih1, ih2⟩ := laws_FnPaths.mono_l k
  unfold laws_FnPaths.f
  repeat' first
      | (with_reducible exact ih0 _ _ _)
      | (with_reducible exact ih1 _ _ _ _ _ _)
      | (with_reducible exact ih2 _ _ _ _ _ _)
      | (with_reducible exact impl_ExpirePaths.mono _ _ _)
      | (with_reducible exact impl_LearnPath.mono _ _ _ _ _)
      | (with_reducible exact impl_PathMtu.mono _ _ _ _)
      | (with_reducible exact impl_PathsOK.mono _ _)
      | (with_reducible exact impl_SegmentSize.mono _ _ _)
      | (with_reducible exact spec_AddrOf.mono _ _)
      | (with_reducible exact spec_LearnPath.mono _ _ _ _ _)
      | (with_reducible exact spec_PathsOf.mono _ _)
      | (with_reducible exact spec_SegmentSize.mono _ _ _)
      | (with_reducible exact LeO.refl _)
      | (with_reducible exact LeO.none _)
      | (with_reducible refine LeO.ite ?_ ?_)
      | (with_reducible refine LeO.bind ?_ (fun _ => ?_))
      | exact ih0 _ _ _
      | exact ih1 _ _ _ _ _ _
      | exact ih2 _ _ _ _ _ _
      | exact impl_ExpirePaths.mono _ _ _
      | exact impl_LearnPath.mono _ _ _ _ _
      | exact impl_PathMtu.mono _ _ _ _
      | exact impl_PathsOK.mono _ _
      | exact impl_SegmentSize.mono _ _ _
      | exact spec_AddrOf.mono _ _
      | exact spec_LearnPath.mono _ _ _ _ _
      | exact spec_PathsOf.mono _ _
      | exact spec_SegmentSize.mono _ _ _
      | exact LeO.none _
      | refine LeO.ite ?_ ?_
      | refine LeO.bind ?_ (fun _ => ?_)
set_option maxHeartbeats 8000000 in
set_option maxRecDepth 100000 in
theorem laws_FnPaths.calls (k : Nat) (A0 : Option Addr) (c0 : Nat) (l0 : List Int) (A1 : Option Addr) (c1 : Nat) (l1 : List Int) (r : Bool) (w : World) (hr0 : Kd.C (Kd.int .u8) w A0 l0.length l0) (hc0 : l0.length ≤ c0) (hr1 : Kd.C (Kd.int .u8) w A1 l1.length l1) (hc1 : l1.length ≤ c1) (h : laws_FnPaths.f k l0 l1 = some r) :
    Calls Try.prog 6 #[.slice A0 l0.length c0, .slice A1 l1.length c1] w fun e w' => e = .returned (.bool r) ∧ Below w.heap.size w w' := by
  have hu43 := Try.underlying43
  have HR0 := Aside0.mk hr0
  have HC0 := Aside0.mk hc0
  clear hr0 hc0
  have HR1 := Aside0.mk hr1
  have HC1 := Aside0.mk hc1
  clear hr1 hc1
  have HB := Aside0.mk (Below.refl w.heap.size w)
  have H : (if (l0.length : Int) > 1048576 then (laws_FnPaths.j0 k l0 l1 true) else (laws_FnPaths.j0 k l0 l1 (decide ((l1.length : Int) > 1048576)))) = some r := h
  clear h
  have HC3 := Aside0.mk H
  clear H
  go_enter Try.func6, Try.ntmps6
  go_upto_region 1 with (fail)
  repeat (go_quiet (fail); go_upto_region 1 with (fail))
  go_cut [34] (fun v34 wc => ∃ (kq : Nat) (x34_2 : Bool), v34 = .bool x34_2 ∧ Aside0 (laws_FnPaths.j0 kq l0 l1 x34_2 = some r) ∧ Aside0 (kq ≤ k) ∧ Aside0 (Below w.heap.size w wc))
  case first =>
    have H := HC3.out
    clear HC3
    by_cases c4 : (l0.length : Int) > 1048576
    · rw [if_pos c4] at H
      have c4b0 : decide (1048576 < (l0.length : Int)) = true := decide_eq_true c4
      have c4b1 : decide (1048576 < l0.length) = true := decide_eq_true (by omega)
      clear c4
      (first | rw [c4b0] | (simp only [i64_w, i32_w]; rw [c4b0]) | skip)
      have H' := Aside0.mk H
      clear H
      go_wp2
      repeat (go_quiet (fail); try go_wp2)
      go_meet
      case rel => exact ⟨_, (true), (by first | rfl | (simp; done) | (simp [*]; done)), H', ⟨by first | omega | exact Nat.le_refl _⟩, ⟨by repeat (first | (with_reducible first | exact HB.out | apply below_alloc | apply pw_below_drewN | apply below_drew1) | exact HB.out)⟩⟩
    · rw [if_neg c4] at H
      have c4b0 : decide (1048576 < (l0.length : Int)) = false := decide_eq_false c4
      have c4b1 : decide (1048576 < l0.length) = false := decide_eq_false (by omega)
      clear c4
      (first | rw [c4b0] | (simp only [i64_w, i32_w]; rw [c4b0]) | skip)
      have H' := Aside0.mk H
      clear H
      as_aux_lemma =>
        go_wp2
        repeat (go_quiet (fail); try go_wp2)
        go_meet
        case rel => exact ⟨_, (decide ((l1.length : Int) > 1048576)), (by first | rfl | (simp; done) | (simp [*]; done)), H', ⟨by first | omega | exact Nat.le_refl _⟩, ⟨by repeat (first | (with_reducible first | exact HB.out | apply below_alloc | apply pw_below_drewN | apply below_drew1) | exact HB.out)⟩⟩
  case rest =>
    clear HC3
    try clear c1
    try clear p2
    try clear c4
    try clear c4b0
    try clear c4b1
    obtain ⟨kq, x34_2, rfl, HA, HJ2, HB⟩ := hcut
    cases kq with
    | zero => exact absurd HA.out (by simp [laws_FnPaths.j0])
    | succ kj2 =>
      have H := HA.out
      clear HA
      simp only [laws_FnPaths.j0] at H
      by_cases c5 : x34_2 = true
      · subst c5
        have H1 : (some true) = some r := by rw [if_pos rfl] at H; exact H
        clear H
        have H := H1
        clear H1
        obtain rfl := Option.some.inj H
        as_aux_lemma =>
          go_wp2
          repeat (go_quiet (fail); try go_wp2)
          go_ret
          exact ⟨by first | rfl | (simp [errW_none, errW_some] <;> rfl) | (simp [*, errW_none, errW_some] <;> rfl), by repeat (first | (with_reducible first | exact HB.out | apply below_alloc | apply pw_below_drewN | apply below_drew1) | exact HB.out)⟩
      · replace c5 := Bool.eq_false_iff.mpr c5
        subst c5
        have H1 : ((spec_PathsOf.f kj2 l0).bind fun t350 => ((spec_AddrOf.f kj2 l1).bind fun t353 => ((laws_at.f l1 0 500).bind fun t354 => ((laws_at.f l1 1 2000).bind fun t355 => ((impl_PathMtu.f kj2 t350 t353 (wrap64 (1000 + t354))).bind fun bt356 => ((impl_LearnPath.f kj2 t350 t353 t355 (wrap64 (1000 + t354))).bind fun bt358 => ((spec_LearnPath.f kj2 t350 t353 t355 (wrap64 (1000 + t354))).bind fun bt362 => ((impl_PathMtu.f kj2 bt358.1 t353 (wrap64 (1000 + t354))).bind fun bt366 => ((impl_PathMtu.f kj2 bt358.1 t353 (wrap64 ((wrap64 (1000 + t354)) + 600))).bind fun bt368 => ((impl_ExpirePaths.f kj2 t350 (wrap64 (1000 + t354))).bind fun bt370 => (if bt356.2 = 0 then (if bt358.2 = 0 then (if bt366.2 = 0 then (if bt368.2 = 0 then (if bt370.2 = 0 then (if (bt358.1.length : Int) = (bt362.1.length : Int) then (if bt366.1 > bt356.1 then (laws_FnPaths.j1 kj2 t353 (wrap64 (1000 + t354)) bt358.1 bt362.1 bt366.1 true) else (if bt366.1 > (mx t355 1280) then (if bt366.1 = bt356.1 then (if bt368.1 = 1500 then ((impl_PathsOK.f kj2 bt358.1).bind fun t374 => (if t374 = true then (laws_FnPaths.j1 kj2 t353 (wrap64 (1000 + t354)) bt358.1 bt362.1 bt366.1 (decide ((bt370.1.length : Int) > (t350.length : Int)))) else (laws_FnPaths.j1 kj2 t353 (wrap64 (1000 + t354)) bt358.1 bt362.1 bt366.1 true))) else (laws_FnPaths.j1 kj2 t353 (wrap64 (1000 + t354)) bt358.1 bt362.1 bt366.1 true)) else (laws_FnPaths.j1 kj2 t353 (wrap64 (1000 + t354)) bt358.1 bt362.1 bt366.1 true)) else (if bt368.1 = 1500 then ((impl_PathsOK.f kj2 bt358.1).bind fun t375 => (if t375 = true then (laws_FnPaths.j1 kj2 t353 (wrap64 (1000 + t354)) bt358.1 bt362.1 bt366.1 (decide ((bt370.1.length : Int) > (t350.length : Int)))) else (laws_FnPaths.j1 kj2 t353 (wrap64 (1000 + t354)) bt358.1 bt362.1 bt366.1 true))) else (laws_FnPaths.j1 kj2 t353 (wrap64 (1000 + t354)) bt358.1 bt362.1 bt366.1 true)))) else (laws_FnPaths.j1 kj2 t353 (wrap64 (1000 + t354)) bt358.1 bt362.1 bt366.1 true)) else (laws_FnPaths.j1 kj2 t353 (wrap64 (1000 + t354)) bt358.1 bt362.1 bt366.1 true)) else (laws_FnPaths.j1 kj2 t353 (wrap64 (1000 + t354)) bt358.1 bt362.1 bt366.1 true)) else (laws_FnPaths.j1 kj2 t353 (wrap64 (1000 + t354)) bt358.1 bt362.1 bt366.1 true)) else (laws_FnPaths.j1 kj2 t353 (wrap64 (1000 + t354)) bt358.1 bt362.1 bt366.1 true)) else (laws_FnPaths.j1 kj2 t353 (wrap64 (1000 + t354)) bt358.1 bt362.1 bt366.1 true)))))))))))) = some r := by rw [if_neg (show ¬ (false = true) by decide)] at H; exact H
        clear H
        have H := H1
        clear H1
        replace H := Option.bind_eq_some_iff.mp H
        obtain ⟨t350, A60, H⟩ := H
        replace H : ((spec_AddrOf.f kj2 l1).bind fun t353 => ((laws_at.f l1 0 500).bind fun t354 => ((laws_at.f l1 1 2000).bind fun t355 => ((impl_PathMtu.f kj2 t350 t353 (wrap64 (1000 + t354))).bind fun bt356 => ((impl_LearnPath.f kj2 t350 t353 t355 (wrap64 (1000 + t354))).bind fun bt358 => ((spec_LearnPath.f kj2 t350 t353 t355 (wrap64 (1000 + t354))).bind fun bt362 => ((impl_PathMtu.f kj2 bt358.1 t353 (wrap64 (1000 + t354))).bind fun bt366 => ((impl_PathMtu.f kj2 bt358.1 t353 (wrap64 ((wrap64 (1000 + t354)) + 600))).bind fun bt368 => ((impl_ExpirePaths.f kj2 t350 (wrap64 (1000 + t354))).bind fun bt370 => (if bt356.2 = 0 then (if bt358.2 = 0 then (if bt366.2 = 0 then (if bt368.2 = 0 then (if bt370.2 = 0 then (if (bt358.1.length : Int) = (bt362.1.length : Int) then (if bt366.1 > bt356.1 then (laws_FnPaths.j1 kj2 t353 (wrap64 (1000 + t354)) bt358.1 bt362.1 bt366.1 true) else (if bt366.1 > (mx t355 1280) then (if bt366.1 = bt356.1 then (if bt368.1 = 1500 then ((impl_PathsOK.f kj2 bt358.1).bind fun t374 => (if t374 = true then (laws_FnPaths.j1 kj2 t353 (wrap64 (1000 + t354)) bt358.1 bt362.1 bt366.1 (decide ((bt370.1.length : Int) > (t350.length : Int)))) else (laws_FnPaths.j1 kj2 t353 (wrap64 (1000 + t354)) bt358.1 bt362.1 bt366.1 true))) else (laws_FnPaths.j1 kj2 t353 (wrap64 (1000 + t354)) bt358.1 bt362.1 bt366.1 true)) else (laws_FnPaths.j1 kj2 t353 (wrap64 (1000 + t354)) bt358.1 bt362.1 bt366.1 true)) else (if bt368.1 = 1500 then ((impl_PathsOK.f kj2 bt358.1).bind fun t375 => (if t375 = true then (laws_FnPaths.j1 kj2 t353 (wrap64 (1000 + t354)) bt358.1 bt362.1 bt366.1 (decide ((bt370.1.length : Int) > (t350.length : Int)))) else (laws_FnPaths.j1 kj2 t353 (wrap64 (1000 + t354)) bt358.1 bt362.1 bt366.1 true))) else (laws_FnPaths.j1 kj2 t353 (wrap64 (1000 + t354)) bt358.1 bt362.1 bt366.1 true)))) else (laws_FnPaths.j1 kj2 t353 (wrap64 (1000 + t354)) bt358.1 bt362.1 bt366.1 true)) else (laws_FnPaths.j1 kj2 t353 (wrap64 (1000 + t354)) bt358.1 bt362.1 bt366.1 true)) else (laws_FnPaths.j1 kj2 t353 (wrap64 (1000 + t354)) bt358.1 bt362.1 bt366.1 true)) else (laws_FnPaths.j1 kj2 t353 (wrap64 (1000 + t354)) bt358.1 bt362.1 bt366.1 true)) else (laws_FnPaths.j1 kj2 t353 (wrap64 (1000 + t354)) bt358.1 bt362.1 bt366.1 true)) else (laws_FnPaths.j1 kj2 t353 (wrap64 (1000 + t354)) bt358.1 bt362.1 bt366.1 true))))))))))) = some r := H
        have A6 := Aside0.mk A60
        clear A60
        replace H := Option.bind_eq_some_iff.mp H
        obtain ⟨t353, A70, H⟩ := H
        replace H : ((laws_at.f l1 0 500).bind fun t354 => ((laws_at.f l1 1 2000).bind fun t355 => ((impl_PathMtu.f kj2 t350 t353 (wrap64 (1000 + t354))).bind fun bt356 => ((impl_LearnPath.f kj2 t350 t353 t355 (wrap64 (1000 + t354))).bind fun bt358 => ((spec_LearnPath.f kj2 t350 t353 t355 (wrap64 (1000 + t354))).bind fun bt362 => ((impl_PathMtu.f kj2 bt358.1 t353 (wrap64 (1000 + t354))).bind fun bt366 => ((impl_PathMtu.f kj2 bt358.1 t353 (wrap64 ((wrap64 (1000 + t354)) + 600))).bind fun bt368 => ((impl_ExpirePaths.f kj2 t350 (wrap64 (1000 + t354))).bind fun bt370 => (if bt356.2 = 0 then (if bt358.2 = 0 then (if bt366.2 = 0 then (if bt368.2 = 0 then (if bt370.2 = 0 then (if (bt358.1.length : Int) = (bt362.1.length : Int) then (if bt366.1 > bt356.1 then (laws_FnPaths.j1 kj2 t353 (wrap64 (1000 + t354)) bt358.1 bt362.1 bt366.1 true) else (if bt366.1 > (mx t355 1280) then (if bt366.1 = bt356.1 then (if bt368.1 = 1500 then ((impl_PathsOK.f kj2 bt358.1).bind fun t374 => (if t374 = true then (laws_FnPaths.j1 kj2 t353 (wrap64 (1000 + t354)) bt358.1 bt362.1 bt366.1 (decide ((bt370.1.length : Int) > (t350.length : Int)))) else (laws_FnPaths.j1 kj2 t353 (wrap64 (1000 + t354)) bt358.1 bt362.1 bt366.1 true))) else (laws_FnPaths.j1 kj2 t353 (wrap64 (1000 + t354)) bt358.1 bt362.1 bt366.1 true)) else (laws_FnPaths.j1 kj2 t353 (wrap64 (1000 + t354)) bt358.1 bt362.1 bt366.1 true)) else (if bt368.1 = 1500 then ((impl_PathsOK.f kj2 bt358.1).bind fun t375 => (if t375 = true then (laws_FnPaths.j1 kj2 t353 (wrap64 (1000 + t354)) bt358.1 bt362.1 bt366.1 (decide ((bt370.1.length : Int) > (t350.length : Int)))) else (laws_FnPaths.j1 kj2 t353 (wrap64 (1000 + t354)) bt358.1 bt362.1 bt366.1 true))) else (laws_FnPaths.j1 kj2 t353 (wrap64 (1000 + t354)) bt358.1 bt362.1 bt366.1 true)))) else (laws_FnPaths.j1 kj2 t353 (wrap64 (1000 + t354)) bt358.1 bt362.1 bt366.1 true)) else (laws_FnPaths.j1 kj2 t353 (wrap64 (1000 + t354)) bt358.1 bt362.1 bt366.1 true)) else (laws_FnPaths.j1 kj2 t353 (wrap64 (1000 + t354)) bt358.1 bt362.1 bt366.1 true)) else (laws_FnPaths.j1 kj2 t353 (wrap64 (1000 + t354)) bt358.1 bt362.1 bt366.1 true)) else (laws_FnPaths.j1 kj2 t353 (wrap64 (1000 + t354)) bt358.1 bt362.1 bt366.1 true)) else (laws_FnPaths.j1 kj2 t353 (wrap64 (1000 + t354)) bt358.1 bt362.1 bt366.1 true)))))))))) = some r := H
        have A7 := Aside0.mk A70
        clear A70
        replace H := Option.bind_eq_some_iff.mp H
        obtain ⟨t354, A80, H⟩ := H
        replace H : ((laws_at.f l1 1 2000).bind fun t355 => ((impl_PathMtu.f kj2 t350 t353 (wrap64 (1000 + t354))).bind fun bt356 => ((impl_LearnPath.f kj2 t350 t353 t355 (wrap64 (1000 + t354))).bind fun bt358 => ((spec_LearnPath.f kj2 t350 t353 t355 (wrap64 (1000 + t354))).bind fun bt362 => ((impl_PathMtu.f kj2 bt358.1 t353 (wrap64 (1000 + t354))).bind fun bt366 => ((impl_PathMtu.f kj2 bt358.1 t353 (wrap64 ((wrap64 (1000 + t354)) + 600))).bind fun bt368 => ((impl_ExpirePaths.f kj2 t350 (wrap64 (1000 + t354))).bind fun bt370 => (if bt356.2 = 0 then (if bt358.2 = 0 then (if bt366.2 = 0 then (if bt368.2 = 0 then (if bt370.2 = 0 then (if (bt358.1.length : Int) = (bt362.1.length : Int) then (if bt366.1 > bt356.1 then (laws_FnPaths.j1 kj2 t353 (wrap64 (1000 + t354)) bt358.1 bt362.1 bt366.1 true) else (if bt366.1 > (mx t355 1280) then (if bt366.1 = bt356.1 then (if bt368.1 = 1500 then ((impl_PathsOK.f kj2 bt358.1).bind fun t374 => (if t374 = true then (laws_FnPaths.j1 kj2 t353 (wrap64 (1000 + t354)) bt358.1 bt362.1 bt366.1 (decide ((bt370.1.length : Int) > (t350.length : Int)))) else (laws_FnPaths.j1 kj2 t353 (wrap64 (1000 + t354)) bt358.1 bt362.1 bt366.1 true))) else (laws_FnPaths.j1 kj2 t353 (wrap64 (1000 + t354)) bt358.1 bt362.1 bt366.1 true)) else (laws_FnPaths.j1 kj2 t353 (wrap64 (1000 + t354)) bt358.1 bt362.1 bt366.1 true)) else (if bt368.1 = 1500 then ((impl_PathsOK.f kj2 bt358.1).bind fun t375 => (if t375 = true then (laws_FnPaths.j1 kj2 t353 (wrap64 (1000 + t354)) bt358.1 bt362.1 bt366.1 (decide ((bt370.1.length : Int) > (t350.length : Int)))) else (laws_FnPaths.j1 kj2 t353 (wrap64 (1000 + t354)) bt358.1 bt362.1 bt366.1 true))) else (laws_FnPaths.j1 kj2 t353 (wrap64 (1000 + t354)) bt358.1 bt362.1 bt366.1 true)))) else (laws_FnPaths.j1 kj2 t353 (wrap64 (1000 + t354)) bt358.1 bt362.1 bt366.1 true)) else (laws_FnPaths.j1 kj2 t353 (wrap64 (1000 + t354)) bt358.1 bt362.1 bt366.1 true)) else (laws_FnPaths.j1 kj2 t353 (wrap64 (1000 + t354)) bt358.1 bt362.1 bt366.1 true)) else (laws_FnPaths.j1 kj2 t353 (wrap64 (1000 + t354)) bt358.1 bt362.1 bt366.1 true)) else (laws_FnPaths.j1 kj2 t353 (wrap64 (1000 + t354)) bt358.1 bt362.1 bt366.1 true)) else (laws_FnPaths.j1 kj2 t353 (wrap64 (1000 + t354)) bt358.1 bt362.1 bt366.1 true))))))))) = some r := H
        have A8 := Aside0.mk A80
        clear A80
        replace H := Option.bind_eq_some_iff.mp H
        obtain ⟨t355, A90, H⟩ := H
        replace H : ((impl_PathMtu.f kj2 t350 t353 (wrap64 (1000 + t354))).bind fun bt356 => ((impl_LearnPath.f kj2 t350 t353 t355 (wrap64 (1000 + t354))).bind fun bt358 => ((spec_LearnPath.f kj2 t350 t353 t355 (wrap64 (1000 + t354))).bind fun bt362 => ((impl_PathMtu.f kj2 bt358.1 t353 (wrap64 (1000 + t354))).bind fun bt366 => ((impl_PathMtu.f kj2 bt358.1 t353 (wrap64 ((wrap64 (1000 + t354)) + 600))).bind fun bt368 => ((impl_ExpirePaths.f kj2 t350 (wrap64 (1000 + t354))).bind fun bt370 => (if bt356.2 = 0 then (if bt358.2 = 0 then (if bt366.2 = 0 then (if bt368.2 = 0 then (if bt370.2 = 0 then (if (bt358.1.length : Int) = (bt362.1.length : Int) then (if bt366.1 > bt356.1 then (laws_FnPaths.j1 kj2 t353 (wrap64 (1000 + t354)) bt358.1 bt362.1 bt366.1 true) else (if bt366.1 > (mx t355 1280) then (if bt366.1 = bt356.1 then (if bt368.1 = 1500 then ((impl_PathsOK.f kj2 bt358.1).bind fun t374 => (if t374 = true then (laws_FnPaths.j1 kj2 t353 (wrap64 (1000 + t354)) bt358.1 bt362.1 bt366.1 (decide ((bt370.1.length : Int) > (t350.length : Int)))) else (laws_FnPaths.j1 kj2 t353 (wrap64 (1000 + t354)) bt358.1 bt362.1 bt366.1 true))) else (laws_FnPaths.j1 kj2 t353 (wrap64 (1000 + t354)) bt358.1 bt362.1 bt366.1 true)) else (laws_FnPaths.j1 kj2 t353 (wrap64 (1000 + t354)) bt358.1 bt362.1 bt366.1 true)) else (if bt368.1 = 1500 then ((impl_PathsOK.f kj2 bt358.1).bind fun t375 => (if t375 = true then (laws_FnPaths.j1 kj2 t353 (wrap64 (1000 + t354)) bt358.1 bt362.1 bt366.1 (decide ((bt370.1.length : Int) > (t350.length : Int)))) else (laws_FnPaths.j1 kj2 t353 (wrap64 (1000 + t354)) bt358.1 bt362.1 bt366.1 true))) else (laws_FnPaths.j1 kj2 t353 (wrap64 (1000 + t354)) bt358.1 bt362.1 bt366.1 true)))) else (laws_FnPaths.j1 kj2 t353 (wrap64 (1000 + t354)) bt358.1 bt362.1 bt366.1 true)) else (laws_FnPaths.j1 kj2 t353 (wrap64 (1000 + t354)) bt358.1 bt362.1 bt366.1 true)) else (laws_FnPaths.j1 kj2 t353 (wrap64 (1000 + t354)) bt358.1 bt362.1 bt366.1 true)) else (laws_FnPaths.j1 kj2 t353 (wrap64 (1000 + t354)) bt358.1 bt362.1 bt366.1 true)) else (laws_FnPaths.j1 kj2 t353 (wrap64 (1000 + t354)) bt358.1 bt362.1 bt366.1 true)) else (laws_FnPaths.j1 kj2 t353 (wrap64 (1000 + t354)) bt358.1 bt362.1 bt366.1 true)))))))) = some r := H
        have A9 := Aside0.mk A90
        clear A90
        replace H := Option.bind_eq_some_iff.mp H
        obtain ⟨⟨t356, t357⟩, A100, H⟩ := H
        replace H : ((impl_LearnPath.f kj2 t350 t353 t355 (wrap64 (1000 + t354))).bind fun bt358 => ((spec_LearnPath.f kj2 t350 t353 t355 (wrap64 (1000 + t354))).bind fun bt362 => ((impl_PathMtu.f kj2 bt358.1 t353 (wrap64 (1000 + t354))).bind fun bt366 => ((impl_PathMtu.f kj2 bt358.1 t353 (wrap64 ((wrap64 (1000 + t354)) + 600))).bind fun bt368 => ((impl_ExpirePaths.f kj2 t350 (wrap64 (1000 + t354))).bind fun bt370 => (if t357 = 0 then (if bt358.2 = 0 then (if bt366.2 = 0 then (if bt368.2 = 0 then (if bt370.2 = 0 then (if (bt358.1.length : Int) = (bt362.1.length : Int) then (if bt366.1 > t356 then (laws_FnPaths.j1 kj2 t353 (wrap64 (1000 + t354)) bt358.1 bt362.1 bt366.1 true) else (if bt366.1 > (mx t355 1280) then (if bt366.1 = t356 then (if bt368.1 = 1500 then ((impl_PathsOK.f kj2 bt358.1).bind fun t374 => (if t374 = true then (laws_FnPaths.j1 kj2 t353 (wrap64 (1000 + t354)) bt358.1 bt362.1 bt366.1 (decide ((bt370.1.length : Int) > (t350.length : Int)))) else (laws_FnPaths.j1 kj2 t353 (wrap64 (1000 + t354)) bt358.1 bt362.1 bt366.1 true))) else (laws_FnPaths.j1 kj2 t353 (wrap64 (1000 + t354)) bt358.1 bt362.1 bt366.1 true)) else (laws_FnPaths.j1 kj2 t353 (wrap64 (1000 + t354)) bt358.1 bt362.1 bt366.1 true)) else (if bt368.1 = 1500 then ((impl_PathsOK.f kj2 bt358.1).bind fun t375 => (if t375 = true then (laws_FnPaths.j1 kj2 t353 (wrap64 (1000 + t354)) bt358.1 bt362.1 bt366.1 (decide ((bt370.1.length : Int) > (t350.length : Int)))) else (laws_FnPaths.j1 kj2 t353 (wrap64 (1000 + t354)) bt358.1 bt362.1 bt366.1 true))) else (laws_FnPaths.j1 kj2 t353 (wrap64 (1000 + t354)) bt358.1 bt362.1 bt366.1 true)))) else (laws_FnPaths.j1 kj2 t353 (wrap64 (1000 + t354)) bt358.1 bt362.1 bt366.1 true)) else (laws_FnPaths.j1 kj2 t353 (wrap64 (1000 + t354)) bt358.1 bt362.1 bt366.1 true)) else (laws_FnPaths.j1 kj2 t353 (wrap64 (1000 + t354)) bt358.1 bt362.1 bt366.1 true)) else (laws_FnPaths.j1 kj2 t353 (wrap64 (1000 + t354)) bt358.1 bt362.1 bt366.1 true)) else (laws_FnPaths.j1 kj2 t353 (wrap64 (1000 + t354)) bt358.1 bt362.1 bt366.1 true)) else (laws_FnPaths.j1 kj2 t353 (wrap64 (1000 + t354)) bt358.1 bt362.1 bt366.1 true))))))) = some r := H
        have A10 := Aside0.mk A100
        clear A100
        replace H := Option.bind_eq_some_iff.mp H
        obtain ⟨⟨t358, t359⟩, A110, H⟩ := H
        replace H : ((spec_LearnPath.f kj2 t350 t353 t355 (wrap64 (1000 + t354))).bind fun bt362 => ((impl_PathMtu.f kj2 t358 t353 (wrap64 (1000 + t354))).bind fun bt366 => ((impl_PathMtu.f kj2 t358 t353 (wrap64 ((wrap64 (1000 + t354)) + 600))).bind fun bt368 => ((impl_ExpirePaths.f kj2 t350 (wrap64 (1000 + t354))).bind fun bt370 => (if t357 = 0 then (if t359 = 0 then (if bt366.2 = 0 then (if bt368.2 = 0 then (if bt370.2 = 0 then (if (t358.length : Int) = (bt362.1.length : Int) then (if bt366.1 > t356 then (laws_FnPaths.j1 kj2 t353 (wrap64 (1000 + t354)) t358 bt362.1 bt366.1 true) else (if bt366.1 > (mx t355 1280) then (if bt366.1 = t356 then (if bt368.1 = 1500 then ((impl_PathsOK.f kj2 t358).bind fun t374 => (if t374 = true then (laws_FnPaths.j1 kj2 t353 (wrap64 (1000 + t354)) t358 bt362.1 bt366.1 (decide ((bt370.1.length : Int) > (t350.length : Int)))) else (laws_FnPaths.j1 kj2 t353 (wrap64 (1000 + t354)) t358 bt362.1 bt366.1 true))) else (laws_FnPaths.j1 kj2 t353 (wrap64 (1000 + t354)) t358 bt362.1 bt366.1 true)) else (laws_FnPaths.j1 kj2 t353 (wrap64 (1000 + t354)) t358 bt362.1 bt366.1 true)) else (if bt368.1 = 1500 then ((impl_PathsOK.f kj2 t358).bind fun t375 => (if t375 = true then (laws_FnPaths.j1 kj2 t353 (wrap64 (1000 + t354)) t358 bt362.1 bt366.1 (decide ((bt370.1.length : Int) > (t350.length : Int)))) else (laws_FnPaths.j1 kj2 t353 (wrap64 (1000 + t354)) t358 bt362.1 bt366.1 true))) else (laws_FnPaths.j1 kj2 t353 (wrap64 (1000 + t354)) t358 bt362.1 bt366.1 true)))) else (laws_FnPaths.j1 kj2 t353 (wrap64 (1000 + t354)) t358 bt362.1 bt366.1 true)) else (laws_FnPaths.j1 kj2 t353 (wrap64 (1000 + t354)) t358 bt362.1 bt366.1 true)) else (laws_FnPaths.j1 kj2 t353 (wrap64 (1000 + t354)) t358 bt362.1 bt366.1 true)) else (laws_FnPaths.j1 kj2 t353 (wrap64 (1000 + t354)) t358 bt362.1 bt366.1 true)) else (laws_FnPaths.j1 kj2 t353 (wrap64 (1000 + t354)) t358 bt362.1 bt366.1 true)) else (laws_FnPaths.j1 kj2 t353 (wrap64 (1000 + t354)) t358 bt362.1 bt366.1 true)))))) = some r := H
        have A11 := Aside0.mk A110
        clear A110
        replace H := Option.bind_eq_some_iff.mp H
        obtain ⟨⟨t362, t363⟩, A120, H⟩ := H
        replace H : ((impl_PathMtu.f kj2 t358 t353 (wrap64 (1000 + t354))).bind fun bt366 => ((impl_PathMtu.f kj2 t358 t353 (wrap64 ((wrap64 (1000 + t354)) + 600))).bind fun bt368 => ((impl_ExpirePaths.f kj2 t350 (wrap64 (1000 + t354))).bind fun bt370 => (if t357 = 0 then (if t359 = 0 then (if bt366.2 = 0 then (if bt368.2 = 0 then (if bt370.2 = 0 then (if (t358.length : Int) = (t362.length : Int) then (if bt366.1 > t356 then (laws_FnPaths.j1 kj2 t353 (wrap64 (1000 + t354)) t358 t362 bt366.1 true) else (if bt366.1 > (mx t355 1280) then (if bt366.1 = t356 then (if bt368.1 = 1500 then ((impl_PathsOK.f kj2 t358).bind fun t374 => (if t374 = true then (laws_FnPaths.j1 kj2 t353 (wrap64 (1000 + t354)) t358 t362 bt366.1 (decide ((bt370.1.length : Int) > (t350.length : Int)))) else (laws_FnPaths.j1 kj2 t353 (wrap64 (1000 + t354)) t358 t362 bt366.1 true))) else (laws_FnPaths.j1 kj2 t353 (wrap64 (1000 + t354)) t358 t362 bt366.1 true)) else (laws_FnPaths.j1 kj2 t353 (wrap64 (1000 + t354)) t358 t362 bt366.1 true)) else (if bt368.1 = 1500 then ((impl_PathsOK.f kj2 t358).bind fun t375 => (if t375 = true then (laws_FnPaths.j1 kj2 t353 (wrap64 (1000 + t354)) t358 t362 bt366.1 (decide ((bt370.1.length : Int) > (t350.length : Int)))) else (laws_FnPaths.j1 kj2 t353 (wrap64 (1000 + t354)) t358 t362 bt366.1 true))) else (laws_FnPaths.j1 kj2 t353 (wrap64 (1000 + t354)) t358 t362 bt366.1 true)))) else (laws_FnPaths.j1 kj2 t353 (wrap64 (1000 + t354)) t358 t362 bt366.1 true)) else (laws_FnPaths.j1 kj2 t353 (wrap64 (1000 + t354)) t358 t362 bt366.1 true)) else (laws_FnPaths.j1 kj2 t353 (wrap64 (1000 + t354)) t358 t362 bt366.1 true)) else (laws_FnPaths.j1 kj2 t353 (wrap64 (1000 + t354)) t358 t362 bt366.1 true)) else (laws_FnPaths.j1 kj2 t353 (wrap64 (1000 + t354)) t358 t362 bt366.1 true)) else (laws_FnPaths.j1 kj2 t353 (wrap64 (1000 + t354)) t358 t362 bt366.1 true))))) = some r := H
        have A12 := Aside0.mk A120
        clear A120
        replace H := Option.bind_eq_some_iff.mp H
        obtain ⟨⟨t366, t367⟩, A130, H⟩ := H
        replace H : ((impl_PathMtu.f kj2 t358 t353 (wrap64 ((wrap64 (1000 + t354)) + 600))).bind fun bt368 => ((impl_ExpirePaths.f kj2 t350 (wrap64 (1000 + t354))).bind fun bt370 => (if t357 = 0 then (if t359 = 0 then (if t367 = 0 then (if bt368.2 = 0 then (if bt370.2 = 0 then (if (t358.length : Int) = (t362.length : Int) then (if t366 > t356 then (laws_FnPaths.j1 kj2 t353 (wrap64 (1000 + t354)) t358 t362 t366 true) else (if t366 > (mx t355 1280) then (if t366 = t356 then (if bt368.1 = 1500 then ((impl_PathsOK.f kj2 t358).bind fun t374 => (if t374 = true then (laws_FnPaths.j1 kj2 t353 (wrap64 (1000 + t354)) t358 t362 t366 (decide ((bt370.1.length : Int) > (t350.length : Int)))) else (laws_FnPaths.j1 kj2 t353 (wrap64 (1000 + t354)) t358 t362 t366 true))) else (laws_FnPaths.j1 kj2 t353 (wrap64 (1000 + t354)) t358 t362 t366 true)) else (laws_FnPaths.j1 kj2 t353 (wrap64 (1000 + t354)) t358 t362 t366 true)) else (if bt368.1 = 1500 then ((impl_PathsOK.f kj2 t358).bind fun t375 => (if t375 = true then (laws_FnPaths.j1 kj2 t353 (wrap64 (1000 + t354)) t358 t362 t366 (decide ((bt370.1.length : Int) > (t350.length : Int)))) else (laws_FnPaths.j1 kj2 t353 (wrap64 (1000 + t354)) t358 t362 t366 true))) else (laws_FnPaths.j1 kj2 t353 (wrap64 (1000 + t354)) t358 t362 t366 true)))) else (laws_FnPaths.j1 kj2 t353 (wrap64 (1000 + t354)) t358 t362 t366 true)) else (laws_FnPaths.j1 kj2 t353 (wrap64 (1000 + t354)) t358 t362 t366 true)) else (laws_FnPaths.j1 kj2 t353 (wrap64 (1000 + t354)) t358 t362 t366 true)) else (laws_FnPaths.j1 kj2 t353 (wrap64 (1000 + t354)) t358 t362 t366 true)) else (laws_FnPaths.j1 kj2 t353 (wrap64 (1000 + t354)) t358 t362 t366 true)) else (laws_FnPaths.j1 kj2 t353 (wrap64 (1000 + t354)) t358 t362 t366 true)))) = some r := H
        have A13 := Aside0.mk A130
        clear A130
        replace H := Option.bind_eq_some_iff.mp H
        obtain ⟨⟨t368, t369⟩, A140, H⟩ := H
        replace H : ((impl_ExpirePaths.f kj2 t350 (wrap64 (1000 + t354))).bind fun bt370 => (if t357 = 0 then (if t359 = 0 then (if t367 = 0 then (if t369 = 0 then (if bt370.2 = 0 then (if (t358.length : Int) = (t362.length : Int) then (if t366 > t356 then (laws_FnPaths.j1 kj2 t353 (wrap64 (1000 + t354)) t358 t362 t366 true) else (if t366 > (mx t355 1280) then (if t366 = t356 then (if t368 = 1500 then ((impl_PathsOK.f kj2 t358).bind fun t374 => (if t374 = true then (laws_FnPaths.j1 kj2 t353 (wrap64 (1000 + t354)) t358 t362 t366 (decide ((bt370.1.length : Int) > (t350.length : Int)))) else (laws_FnPaths.j1 kj2 t353 (wrap64 (1000 + t354)) t358 t362 t366 true))) else (laws_FnPaths.j1 kj2 t353 (wrap64 (1000 + t354)) t358 t362 t366 true)) else (laws_FnPaths.j1 kj2 t353 (wrap64 (1000 + t354)) t358 t362 t366 true)) else (if t368 = 1500 then ((impl_PathsOK.f kj2 t358).bind fun t375 => (if t375 = true then (laws_FnPaths.j1 kj2 t353 (wrap64 (1000 + t354)) t358 t362 t366 (decide ((bt370.1.length : Int) > (t350.length : Int)))) else (laws_FnPaths.j1 kj2 t353 (wrap64 (1000 + t354)) t358 t362 t366 true))) else (laws_FnPaths.j1 kj2 t353 (wrap64 (1000 + t354)) t358 t362 t366 true)))) else (laws_FnPaths.j1 kj2 t353 (wrap64 (1000 + t354)) t358 t362 t366 true)) else (laws_FnPaths.j1 kj2 t353 (wrap64 (1000 + t354)) t358 t362 t366 true)) else (laws_FnPaths.j1 kj2 t353 (wrap64 (1000 + t354)) t358 t362 t366 true)) else (laws_FnPaths.j1 kj2 t353 (wrap64 (1000 + t354)) t358 t362 t366 true)) else (laws_FnPaths.j1 kj2 t353 (wrap64 (1000 + t354)) t358 t362 t366 true)) else (laws_FnPaths.j1 kj2 t353 (wrap64 (1000 + t354)) t358 t362 t366 true))) = some r := H
        have A14 := Aside0.mk A140
        clear A140
        replace H := Option.bind_eq_some_iff.mp H
        obtain ⟨⟨t370, t371⟩, A150, H⟩ := H
        replace H : (if t357 = 0 then (if t359 = 0 then (if t367 = 0 then (if t369 = 0 then (if t371 = 0 then (if (t358.length : Int) = (t362.length : Int) then (if t366 > t356 then (laws_FnPaths.j1 kj2 t353 (wrap64 (1000 + t354)) t358 t362 t366 true) else (if t366 > (mx t355 1280) then (if t366 = t356 then (if t368 = 1500 then ((impl_PathsOK.f kj2 t358).bind fun t374 => (if t374 = true then (laws_FnPaths.j1 kj2 t353 (wrap64 (1000 + t354)) t358 t362 t366 (decide ((t370.length : Int) > (t350.length : Int)))) else (laws_FnPaths.j1 kj2 t353 (wrap64 (1000 + t354)) t358 t362 t366 true))) else (laws_FnPaths.j1 kj2 t353 (wrap64 (1000 + t354)) t358 t362 t366 true)) else (laws_FnPaths.j1 kj2 t353 (wrap64 (1000 + t354)) t358 t362 t366 true)) else (if t368 = 1500 then ((impl_PathsOK.f kj2 t358).bind fun t375 => (if t375 = true then (laws_FnPaths.j1 kj2 t353 (wrap64 (1000 + t354)) t358 t362 t366 (decide ((t370.length : Int) > (t350.length : Int)))) else (laws_FnPaths.j1 kj2 t353 (wrap64 (1000 + t354)) t358 t362 t366 true))) else (laws_FnPaths.j1 kj2 t353 (wrap64 (1000 + t354)) t358 t362 t366 true)))) else (laws_FnPaths.j1 kj2 t353 (wrap64 (1000 + t354)) t358 t362 t366 true)) else (laws_FnPaths.j1 kj2 t353 (wrap64 (1000 + t354)) t358 t362 t366 true)) else (laws_FnPaths.j1 kj2 t353 (wrap64 (1000 + t354)) t358 t362 t366 true)) else (laws_FnPaths.j1 kj2 t353 (wrap64 (1000 + t354)) t358 t362 t366 true)) else (laws_FnPaths.j1 kj2 t353 (wrap64 (1000 + t354)) t358 t362 t366 true)) else (laws_FnPaths.j1 kj2 t353 (wrap64 (1000 + t354)) t358 t362 t366 true)) = some r := H
        have A15 := Aside0.mk A150
        clear A150
        have HC16 := Aside0.mk H
        clear H
        go_upto_region 13 with (first | (go_at_call 18; (with_reducible refine (spec_PathsOf.calls kj2 _ _ l0 t350 _ ?side1 ?side2 A6.out).mono ?_); (case side1 => repeat (first | exact (Kd.C_below HR0.out HB.out) | (with_reducible refine Kd.C_alloc ?_ _) | (with_reducible refine Kd.C_drewN ?_ _) | (with_reducible refine Kd.C_drew ?_))); (case side2 => exact HC0.out); rintro e w17 ⟨v351, rfl, ho0, hb⟩; have n0_ := Aside0.mk (Kd.R_lower ho0 (below_size (by repeat (first | (with_reducible first | exact HB.out | apply below_alloc | apply pw_below_drewN | apply below_drew1) | exact HB.out)))); have n1_ := Aside0.mk (below_step (by repeat (first | (with_reducible first | exact HB.out | apply below_alloc | apply pw_below_drewN | apply below_drew1) | exact HB.out)) hb); clear HB; have HO352 := n0_; have HB := n1_; clear n0_ n1_; (try clear hb); (try clear hb2); (try clear hk); (try clear hi); (try clear ho0)) | (go_at_call 19; (with_reducible refine (spec_AddrOf.calls kj2 _ _ l1 t353 _ ?side1 ?side2 A7.out).mono ?_); (case side1 => repeat (first | exact (Kd.C_below HR1.out HB.out) | (with_reducible refine Kd.C_alloc ?_ _) | (with_reducible refine Kd.C_drewN ?_ _) | (with_reducible refine Kd.C_drew ?_))); (case side2 => exact HC1.out); rintro e w18 ⟨rfl, hb⟩; have n0_ := Aside0.mk (Kd.R_below (by (with_reducible repeat (first | apply Kd.R_alloc | apply Kd.R_drewN | apply Kd.R_drew)); exact HO352.out) hb); have n1_ := Aside0.mk (below_step (by repeat (first | (with_reducible first | exact HB.out | apply below_alloc | apply pw_below_drewN | apply below_drew1) | exact HB.out)) hb); clear HO352; clear HB; have HO352 := n0_; have HB := n1_; clear n0_ n1_; (try clear hb); (try clear hb2); (try clear hk); (try clear hi)) | (go_at_call 20; (with_reducible refine (laws_at.calls _ _ l1 0 500 t354 _ ?side1 ?side2 A8.out).mono ?_); (case side1 => repeat (first | exact (Kd.C_below HR1.out HB.out) | (with_reducible refine Kd.C_alloc ?_ _) | (with_reducible refine Kd.C_drewN ?_ _) | (with_reducible refine Kd.C_drew ?_))); (case side2 => exact HC1.out); rintro e w' ⟨rfl, ⟨nd, rfl⟩⟩; (try first | exact ⟨rfl, _, World.drewN_drewN _ _ _⟩ | exact ⟨rfl, _, Eq.trans (World.drewN_drewN _ _ _) (congrArg (World.drewN _) (Nat.add_assoc _ _ _))⟩)) | (go_at_call 20; (with_reducible refine (laws_at.calls _ _ l1 1 2000 t355 _ ?side1 ?side2 A9.out).mono ?_); (case side1 => repeat (first | exact (Kd.C_below HR1.out (by repeat (first | (with_reducible first | exact HB.out | apply below_alloc | apply pw_below_drewN | apply below_drew1) | exact HB.out))) | (with_reducible refine Kd.C_alloc ?_ _) | (with_reducible refine Kd.C_drewN ?_ _) | (with_reducible refine Kd.C_drew ?_))); (case side2 => exact HC1.out); rintro e w' ⟨rfl, ⟨nd, rfl⟩⟩; (try first | exact ⟨rfl, _, World.drewN_drewN _ _ _⟩ | exact ⟨rfl, _, Eq.trans (World.drewN_drewN _ _ _) (congrArg (World.drewN _) (Nat.add_assoc _ _ _))⟩); obtain ⟨Ao19, co19, eo19⟩ := Kd.R_slice HO352.out; subst eo19) | (go_at_call 21; (with_reducible refine (impl_PathMtu.calls kj2 _ _ t350 t353 (wrap64 (1000 + t354)) t356 t357 _ ?side1 ?side2 A10.out).mono ?_); (case side1 => repeat (first | exact (Kd.R_reads' HO352.out).2.2 | (with_reducible refine Kd.C_alloc ?_ _) | (with_reducible refine Kd.C_drewN ?_ _) | (with_reducible refine Kd.C_drew ?_))); (case side2 => exact (Kd.R_reads' HO352.out).2.1); rintro e w20 ⟨rfl, hb⟩; have n0_ := Aside0.mk (Kd.R_below (by (with_reducible repeat (first | apply Kd.R_alloc | apply Kd.R_drewN | apply Kd.R_drew)); exact HO352.out) hb); have n1_ := Aside0.mk (below_step (by repeat (first | (with_reducible first | exact HB.out | apply below_alloc | apply pw_below_drewN | apply below_drew1) | exact HB.out)) hb); clear HO352; clear HB; have HO352 := n0_; have HB := n1_; clear n0_ n1_; (try clear hb); (try clear hb2); (try clear hk); (try clear hi)) | (go_at_call 22; (with_reducible refine (impl_LearnPath.calls kj2 _ _ t350 t353 t355 (wrap64 (1000 + t354)) t358 t359 _ ?side1 ?side2 A11.out).mono ?_); (case side1 => repeat (first | exact (Kd.R_reads' HO352.out).2.2 | (with_reducible refine Kd.C_alloc ?_ _) | (with_reducible refine Kd.C_drewN ?_ _) | (with_reducible refine Kd.C_drew ?_))); (case side2 => exact (Kd.R_reads' HO352.out).2.1); rintro e w21 ⟨v360, rfl, ho0, hb⟩; have n0_ := Aside0.mk (Kd.R_elder' (by (with_reducible repeat (first | apply Kd.R_alloc | apply Kd.R_drewN | apply Kd.R_drew)); exact HO352.out) (Kd.R_base ho0) hb); have n1_ := Aside0.mk (Kd.R_lower (Kd.R_new' ho0 (Kd.R_lt (by (with_reducible repeat (first | apply Kd.R_alloc | apply Kd.R_drewN | apply Kd.R_drew)); exact HO352.out))) (below_size (by repeat (first | (with_reducible first | exact HB.out | apply below_alloc | apply pw_below_drewN | apply below_drew1) | exact HB.out)))); have n2_ := Aside0.mk (below_step (by repeat (first | (with_reducible first | exact HB.out | apply below_alloc | apply pw_below_drewN | apply below_drew1) | exact HB.out)) hb); clear HO352; clear HB; have HO352 := n0_; have HO361 := n1_; have HB := n2_; clear n0_ n1_ n2_; (try clear hb); (try clear hb2); (try clear hk); (try clear hi); (try clear ho0)) | (go_at_call 23; (with_reducible refine (spec_LearnPath.calls kj2 _ _ t350 t353 t355 (wrap64 (1000 + t354)) t362 t363 _ ?side1 ?side2 A12.out).mono ?_); (case side1 => repeat (first | exact (Kd.R_reads' HO352.out).2.2 | (with_reducible refine Kd.C_alloc ?_ _) | (with_reducible refine Kd.C_drewN ?_ _) | (with_reducible refine Kd.C_drew ?_))); (case side2 => exact (Kd.R_reads' HO352.out).2.1); rintro e w22 ⟨v364, rfl, ho0, hb⟩; have n0_ := Aside0.mk (Kd.R_elder' (by (with_reducible repeat (first | apply Kd.R_alloc | apply Kd.R_drewN | apply Kd.R_drew)); exact HO352.out) (Kd.R_base ho0) hb); have n1_ := Aside0.mk (Kd.R_elder' (by (with_reducible repeat (first | apply Kd.R_alloc | apply Kd.R_drewN | apply Kd.R_drew)); exact HO361.out) (Kd.R_base ho0) hb); have n2_ := Aside0.mk (Kd.R_lower (Kd.R_new' (Kd.R_new' ho0 (Kd.R_lt (by (with_reducible repeat (first | apply Kd.R_alloc | apply Kd.R_drewN | apply Kd.R_drew)); exact HO352.out))) (Kd.R_lt (by (with_reducible repeat (first | apply Kd.R_alloc | apply Kd.R_drewN | apply Kd.R_drew)); exact HO361.out))) (below_size (by repeat (first | (with_reducible first | exact HB.out | apply below_alloc | apply pw_below_drewN | apply below_drew1) | exact HB.out)))); have n3_ := Aside0.mk (below_step (by repeat (first | (with_reducible first | exact HB.out | apply below_alloc | apply pw_below_drewN | apply below_drew1) | exact HB.out)) hb); clear HO352; clear HO361; clear HB; have HO352 := n0_; have HO361 := n1_; have HO365 := n2_; have HB := n3_; clear n0_ n1_ n2_ n3_; (try clear hb); (try clear hb2); (try clear hk); (try clear hi); (try clear ho0); obtain ⟨Ao23, co23, eo23⟩ := Kd.R_slice HO361.out; subst eo23) | (go_at_call 21; (with_reducible refine (impl_PathMtu.calls kj2 _ _ t358 t353 (wrap64 (1000 + t354)) t366 t367 _ ?side1 ?side2 A13.out).mono ?_); (case side1 => repeat (first | exact (Kd.R_reads' HO361.out).2.2 | (with_reducible refine Kd.C_alloc ?_ _) | (with_reducible refine Kd.C_drewN ?_ _) | (with_reducible refine Kd.C_drew ?_))); (case side2 => exact (Kd.R_reads' HO361.out).2.1); rintro e w24 ⟨rfl, hb⟩; have n0_ := Aside0.mk (Kd.R_below (by (with_reducible repeat (first | apply Kd.R_alloc | apply Kd.R_drewN | apply Kd.R_drew)); exact HO352.out) hb); have n1_ := Aside0.mk (Kd.R_below (by (with_reducible repeat (first | apply Kd.R_alloc | apply Kd.R_drewN | apply Kd.R_drew)); exact HO361.out) hb); have n2_ := Aside0.mk (Kd.R_below (by (with_reducible repeat (first | apply Kd.R_alloc | apply Kd.R_drewN | apply Kd.R_drew)); exact HO365.out) hb); have n3_ := Aside0.mk (below_step (by repeat (first | (with_reducible first | exact HB.out | apply below_alloc | apply pw_below_drewN | apply below_drew1) | exact HB.out)) hb); clear HO352; clear HO361; clear HO365; clear HB; have HO352 := n0_; have HO361 := n1_; have HO365 := n2_; have HB := n3_; clear n0_ n1_ n2_ n3_; (try clear hb); (try clear hb2); (try clear hk); (try clear hi)) | (go_at_call 21; (with_reducible refine (impl_PathMtu.calls kj2 _ _ t358 t353 (wrap64 ((wrap64 (1000 + t354)) + 600)) t368 t369 _ ?side1 ?side2 A14.out).mono ?_); (case side1 => repeat (first | exact (Kd.R_reads' HO361.out).2.2 | (with_reducible refine Kd.C_alloc ?_ _) | (with_reducible refine Kd.C_drewN ?_ _) | (with_reducible refine Kd.C_drew ?_))); (case side2 => exact (Kd.R_reads' HO361.out).2.1); rintro e w25 ⟨rfl, hb⟩; have n0_ := Aside0.mk (Kd.R_below (by (with_reducible repeat (first | apply Kd.R_alloc | apply Kd.R_drewN | apply Kd.R_drew)); exact HO352.out) hb); have n1_ := Aside0.mk (Kd.R_below (by (with_reducible repeat (first | apply Kd.R_alloc | apply Kd.R_drewN | apply Kd.R_drew)); exact HO361.out) hb); have n2_ := Aside0.mk (Kd.R_below (by (with_reducible repeat (first | apply Kd.R_alloc | apply Kd.R_drewN | apply Kd.R_drew)); exact HO365.out) hb); have n3_ := Aside0.mk (below_step (by repeat (first | (with_reducible first | exact HB.out | apply below_alloc | apply pw_below_drewN | apply below_drew1) | exact HB.out)) hb); clear HO352; clear HO361; clear HO365; clear HB; have HO352 := n0_; have HO361 := n1_; have HO365 := n2_; have HB := n3_; clear n0_ n1_ n2_ n3_; (try clear hb); (try clear hb2); (try clear hk); (try clear hi)) | (go_at_call 15; (with_reducible refine (impl_ExpirePaths.calls kj2 _ _ t350 (wrap64 (1000 + t354)) t370 t371 _ ?side1 ?side2 A15.out).mono ?_); (case side1 => repeat (first | exact (Kd.R_reads' HO352.out).2.2 | (with_reducible refine Kd.C_alloc ?_ _) | (with_reducible refine Kd.C_drewN ?_ _) | (with_reducible refine Kd.C_drew ?_))); (case side2 => exact (Kd.R_reads' HO352.out).2.1); rintro e w26 ⟨v372, rfl, ho0, hb⟩; have n0_ := Aside0.mk (Kd.R_elder' (by (with_reducible repeat (first | apply Kd.R_alloc | apply Kd.R_drewN | apply Kd.R_drew)); exact HO352.out) (Kd.R_base ho0) hb); have n1_ := Aside0.mk (Kd.R_elder' (by (with_reducible repeat (first | apply Kd.R_alloc | apply Kd.R_drewN | apply Kd.R_drew)); exact HO361.out) (Kd.R_base ho0) hb); have n2_ := Aside0.mk (Kd.R_elder' (by (with_reducible repeat (first | apply Kd.R_alloc | apply Kd.R_drewN | apply Kd.R_drew)); exact HO365.out) (Kd.R_base ho0) hb); have n3_ := Aside0.mk (Kd.R_lower (Kd.R_new' (Kd.R_new' (Kd.R_new' ho0 (Kd.R_lt (by (with_reducible repeat (first | apply Kd.R_alloc | apply Kd.R_drewN | apply Kd.R_drew)); exact HO352.out))) (Kd.R_lt (by (with_reducible repeat (first | apply Kd.R_alloc | apply Kd.R_drewN | apply Kd.R_drew)); exact HO361.out))) (Kd.R_lt (by (with_reducible repeat (first | apply Kd.R_alloc | apply Kd.R_drewN | apply Kd.R_drew)); exact HO365.out))) (below_size (by repeat (first | (with_reducible first | exact HB.out | apply below_alloc | apply pw_below_drewN | apply below_drew1) | exact HB.out)))); have n4_ := Aside0.mk (below_step (by repeat (first | (with_reducible first | exact HB.out | apply below_alloc | apply pw_below_drewN | apply below_drew1) | exact HB.out)) hb); clear HO352; clear HO361; clear HO365; clear HB; have HO352 := n0_; have HO361 := n1_; have HO365 := n2_; have HO373 := n3_; have HB := n4_; clear n0_ n1_ n2_ n3_ n4_; (try clear hb); (try clear hb2); (try clear hk); (try clear hi); (try clear ho0)))
        repeat (go_quiet (first | (go_at_call 18; (with_reducible refine (spec_PathsOf.calls kj2 _ _ l0 t350 _ ?side1 ?side2 A6.out).mono ?_); (case side1 => repeat (first | exact (Kd.C_below HR0.out HB.out) | (with_reducible refine Kd.C_alloc ?_ _) | (with_reducible refine Kd.C_drewN ?_ _) | (with_reducible refine Kd.C_drew ?_))); (case side2 => exact HC0.out); rintro e w17 ⟨v351, rfl, ho0, hb⟩; have n0_ := Aside0.mk (Kd.R_lower ho0 (below_size (by repeat (first | (with_reducible first | exact HB.out | apply below_alloc | apply pw_below_drewN | apply below_drew1) | exact HB.out)))); have n1_ := Aside0.mk (below_step (by repeat (first | (with_reducible first | exact HB.out | apply below_alloc | apply pw_below_drewN | apply below_drew1) | exact HB.out)) hb); clear HB; have HO352 := n0_; have HB := n1_; clear n0_ n1_; (try clear hb); (try clear hb2); (try clear hk); (try clear hi); (try clear ho0)) | (go_at_call 19; (with_reducible refine (spec_AddrOf.calls kj2 _ _ l1 t353 _ ?side1 ?side2 A7.out).mono ?_); (case side1 => repeat (first | exact (Kd.C_below HR1.out HB.out) | (with_reducible refine Kd.C_alloc ?_ _) | (with_reducible refine Kd.C_drewN ?_ _) | (with_reducible refine Kd.C_drew ?_))); (case side2 => exact HC1.out); rintro e w18 ⟨rfl, hb⟩; have n0_ := Aside0.mk (Kd.R_below (by (with_reducible repeat (first | apply Kd.R_alloc | apply Kd.R_drewN | apply Kd.R_drew)); exact HO352.out) hb); have n1_ := Aside0.mk (below_step (by repeat (first | (with_reducible first | exact HB.out | apply below_alloc | apply pw_below_drewN | apply below_drew1) | exact HB.out)) hb); clear HO352; clear HB; have HO352 := n0_; have HB := n1_; clear n0_ n1_; (try clear hb); (try clear hb2); (try clear hk); (try clear hi)) | (go_at_call 20; (with_reducible refine (laws_at.calls _ _ l1 0 500 t354 _ ?side1 ?side2 A8.out).mono ?_); (case side1 => repeat (first | exact (Kd.C_below HR1.out HB.out) | (with_reducible refine Kd.C_alloc ?_ _) | (with_reducible refine Kd.C_drewN ?_ _) | (with_reducible refine Kd.C_drew ?_))); (case side2 => exact HC1.out); rintro e w' ⟨rfl, ⟨nd, rfl⟩⟩; (try first | exact ⟨rfl, _, World.drewN_drewN _ _ _⟩ | exact ⟨rfl, _, Eq.trans (World.drewN_drewN _ _ _) (congrArg (World.drewN _) (Nat.add_assoc _ _ _))⟩)) | (go_at_call 20; (with_reducible refine (laws_at.calls _ _ l1 1 2000 t355 _ ?side1 ?side2 A9.out).mono ?_); (case side1 => repeat (first | exact (Kd.C_below HR1.out (by repeat (first | (with_reducible first | exact HB.out | apply below_alloc | apply pw_below_drewN | apply below_drew1) | exact HB.out))) | (with_reducible refine Kd.C_alloc ?_ _) | (with_reducible refine Kd.C_drewN ?_ _) | (with_reducible refine Kd.C_drew ?_))); (case side2 => exact HC1.out); rintro e w' ⟨rfl, ⟨nd, rfl⟩⟩; (try first | exact ⟨rfl, _, World.drewN_drewN _ _ _⟩ | exact ⟨rfl, _, Eq.trans (World.drewN_drewN _ _ _) (congrArg (World.drewN _) (Nat.add_assoc _ _ _))⟩); obtain ⟨Ao19, co19, eo19⟩ := Kd.R_slice HO352.out; subst eo19) | (go_at_call 21; (with_reducible refine (impl_PathMtu.calls kj2 _ _ t350 t353 (wrap64 (1000 + t354)) t356 t357 _ ?side1 ?side2 A10.out).mono ?_); (case side1 => repeat (first | exact (Kd.R_reads' HO352.out).2.2 | (with_reducible refine Kd.C_alloc ?_ _) | (with_reducible refine Kd.C_drewN ?_ _) | (with_reducible refine Kd.C_drew ?_))); (case side2 => exact (Kd.R_reads' HO352.out).2.1); rintro e w20 ⟨rfl, hb⟩; have n0_ := Aside0.mk (Kd.R_below (by (with_reducible repeat (first | apply Kd.R_alloc | apply Kd.R_drewN | apply Kd.R_drew)); exact HO352.out) hb); have n1_ := Aside0.mk (below_step (by repeat (first | (with_reducible first | exact HB.out | apply below_alloc | apply pw_below_drewN | apply below_drew1) | exact HB.out)) hb); clear HO352; clear HB; have HO352 := n0_; have HB := n1_; clear n0_ n1_; (try clear hb); (try clear hb2); (try clear hk); (try clear hi)) | (go_at_call 22; (with_reducible refine (impl_LearnPath.calls kj2 _ _ t350 t353 t355 (wrap64 (1000 + t354)) t358 t359 _ ?side1 ?side2 A11.out).mono ?_); (case side1 => repeat (first | exact (Kd.R_reads' HO352.out).2.2 | (with_reducible refine Kd.C_alloc ?_ _) | (with_reducible refine Kd.C_drewN ?_ _) | (with_reducible refine Kd.C_drew ?_))); (case side2 => exact (Kd.R_reads' HO352.out).2.1); rintro e w21 ⟨v360, rfl, ho0, hb⟩; have n0_ := Aside0.mk (Kd.R_elder' (by (with_reducible repeat (first | apply Kd.R_alloc | apply Kd.R_drewN | apply Kd.R_drew)); exact HO352.out) (Kd.R_base ho0) hb); have n1_ := Aside0.mk (Kd.R_lower (Kd.R_new' ho0 (Kd.R_lt (by (with_reducible repeat (first | apply Kd.R_alloc | apply Kd.R_drewN | apply Kd.R_drew)); exact HO352.out))) (below_size (by repeat (first | (with_reducible first | exact HB.out | apply below_alloc | apply pw_below_drewN | apply below_drew1) | exact HB.out)))); have n2_ := Aside0.mk (below_step (by repeat (first | (with_reducible first | exact HB.out | apply below_alloc | apply pw_below_drewN | apply below_drew1) | exact HB.out)) hb); clear HO352; clear HB; have HO352 := n0_; have HO361 := n1_; have HB := n2_; clear n0_ n1_ n2_; (try clear hb); (try clear hb2); (try clear hk); (try clear hi); (try clear ho0)) | (go_at_call 23; (with_reducible refine (spec_LearnPath.calls kj2 _ _ t350 t353 t355 (wrap64 (1000 + t354)) t362 t363 _ ?side1 ?side2 A12.out).mono ?_); (case side1 => repeat (first | exact (Kd.R_reads' HO352.out).2.2 | (with_reducible refine Kd.C_alloc ?_ _) | (with_reducible refine Kd.C_drewN ?_ _) | (with_reducible refine Kd.C_drew ?_))); (case side2 => exact (Kd.R_reads' HO352.out).2.1); rintro e w22 ⟨v364, rfl, ho0, hb⟩; have n0_ := Aside0.mk (Kd.R_elder' (by (with_reducible repeat (first | apply Kd.R_alloc | apply Kd.R_drewN | apply Kd.R_drew)); exact HO352.out) (Kd.R_base ho0) hb); have n1_ := Aside0.mk (Kd.R_elder' (by (with_reducible repeat (first | apply Kd.R_alloc | apply Kd.R_drewN | apply Kd.R_drew)); exact HO361.out) (Kd.R_base ho0) hb); have n2_ := Aside0.mk (Kd.R_lower (Kd.R_new' (Kd.R_new' ho0 (Kd.R_lt (by (with_reducible repeat (first | apply Kd.R_alloc | apply Kd.R_drewN | apply Kd.R_drew)); exact HO352.out))) (Kd.R_lt (by (with_reducible repeat (first | apply Kd.R_alloc | apply Kd.R_drewN | apply Kd.R_drew)); exact HO361.out))) (below_size (by repeat (first | (with_reducible first | exact HB.out | apply below_alloc | apply pw_below_drewN | apply below_drew1) | exact HB.out)))); have n3_ := Aside0.mk (below_step (by repeat (first | (with_reducible first | exact HB.out | apply below_alloc | apply pw_below_drewN | apply below_drew1) | exact HB.out)) hb); clear HO352; clear HO361; clear HB; have HO352 := n0_; have HO361 := n1_; have HO365 := n2_; have HB := n3_; clear n0_ n1_ n2_ n3_; (try clear hb); (try clear hb2); (try clear hk); (try clear hi); (try clear ho0); obtain ⟨Ao23, co23, eo23⟩ := Kd.R_slice HO361.out; subst eo23) | (go_at_call 21; (with_reducible refine (impl_PathMtu.calls kj2 _ _ t358 t353 (wrap64 (1000 + t354)) t366 t367 _ ?side1 ?side2 A13.out).mono ?_); (case side1 => repeat (first | exact (Kd.R_reads' HO361.out).2.2 | (with_reducible refine Kd.C_alloc ?_ _) | (with_reducible refine Kd.C_drewN ?_ _) | (with_reducible refine Kd.C_drew ?_))); (case side2 => exact (Kd.R_reads' HO361.out).2.1); rintro e w24 ⟨rfl, hb⟩; have n0_ := Aside0.mk (Kd.R_below (by (with_reducible repeat (first | apply Kd.R_alloc | apply Kd.R_drewN | apply Kd.R_drew)); exact HO352.out) hb); have n1_ := Aside0.mk (Kd.R_below (by (with_reducible repeat (first | apply Kd.R_alloc | apply Kd.R_drewN | apply Kd.R_drew)); exact HO361.out) hb); have n2_ := Aside0.mk (Kd.R_below (by (with_reducible repeat (first | apply Kd.R_alloc | apply Kd.R_drewN | apply Kd.R_drew)); exact HO365.out) hb); have n3_ := Aside0.mk (below_step (by repeat (first | (with_reducible first | exact HB.out | apply below_alloc | apply pw_below_drewN | apply below_drew1) | exact HB.out)) hb); clear HO352; clear HO361; clear HO365; clear HB; have HO352 := n0_; have HO361 := n1_; have HO365 := n2_; have HB := n3_; clear n0_ n1_ n2_ n3_; (try clear hb); (try clear hb2); (try clear hk); (try clear hi)) | (go_at_call 21; (with_reducible refine (impl_PathMtu.calls kj2 _ _ t358 t353 (wrap64 ((wrap64 (1000 + t354)) + 600)) t368 t369 _ ?side1 ?side2 A14.out).mono ?_); (case side1 => repeat (first | exact (Kd.R_reads' HO361.out).2.2 | (with_reducible refine Kd.C_alloc ?_ _) | (with_reducible refine Kd.C_drewN ?_ _) | (with_reducible refine Kd.C_drew ?_))); (case side2 => exact (Kd.R_reads' HO361.out).2.1); rintro e w25 ⟨rfl, hb⟩; have n0_ := Aside0.mk (Kd.R_below (by (with_reducible repeat (first | apply Kd.R_alloc | apply Kd.R_drewN | apply Kd.R_drew)); exact HO352.out) hb); have n1_ := Aside0.mk (Kd.R_below (by (with_reducible repeat (first | apply Kd.R_alloc | apply Kd.R_drewN | apply Kd.R_drew)); exact HO361.out) hb); have n2_ := Aside0.mk (Kd.R_below (by (with_reducible repeat (first | apply Kd.R_alloc | apply Kd.R_drewN | apply Kd.R_drew)); exact HO365.out) hb); have n3_ := Aside0.mk (below_step (by repeat (first | (with_reducible first | exact HB.out | apply below_alloc | apply pw_below_drewN | apply below_drew1) | exact HB.out)) hb); clear HO352; clear HO361; clear HO365; clear HB; have HO352 := n0_; have HO361 := n1_; have HO365 := n2_; have HB := n3_; clear n0_ n1_ n2_ n3_; (try clear hb); (try clear hb2); (try clear hk); (try clear hi)) | (go_at_call 15; (with_reducible refine (impl_ExpirePaths.calls kj2 _ _ t350 (wrap64 (1000 + t354)) t370 t371 _ ?side1 ?side2 A15.out).mono ?_); (case side1 => repeat (first | exact (Kd.R_reads' HO352.out).2.2 | (with_reducible refine Kd.C_alloc ?_ _) | (with_reducible refine Kd.C_drewN ?_ _) | (with_reducible refine Kd.C_drew ?_))); (case side2 => exact (Kd.R_reads' HO352.out).2.1); rintro e w26 ⟨v372, rfl, ho0, hb⟩; have n0_ := Aside0.mk (Kd.R_elder' (by (with_reducible repeat (first | apply Kd.R_alloc | apply Kd.R_drewN | apply Kd.R_drew)); exact HO352.out) (Kd.R_base ho0) hb); have n1_ := Aside0.mk (Kd.R_elder' (by (with_reducible repeat (first | apply Kd.R_alloc | apply Kd.R_drewN | apply Kd.R_drew)); exact HO361.out) (Kd.R_base ho0) hb); have n2_ := Aside0.mk (Kd.R_elder' (by (with_reducible repeat (first | apply Kd.R_alloc | apply Kd.R_drewN | apply Kd.R_drew)); exact HO365.out) (Kd.R_base ho0) hb); have n3_ := Aside0.mk (Kd.R_lower (Kd.R_new' (Kd.R_new' (Kd.R_new' ho0 (Kd.R_lt (by (with_reducible repeat (first | apply Kd.R_alloc | apply Kd.R_drewN | apply Kd.R_drew)); exact HO352.out))) (Kd.R_lt (by (with_reducible repeat (first | apply Kd.R_alloc | apply Kd.R_drewN | apply Kd.R_drew)); exact HO361.out))) (Kd.R_lt (by (with_reducible repeat (first | apply Kd.R_alloc | apply Kd.R_drewN | apply Kd.R_drew)); exact HO365.out))) (below_size (by repeat (first | (with_reducible first | exact HB.out | apply below_alloc | apply pw_below_drewN | apply below_drew1) | exact HB.out)))); have n4_ := Aside0.mk (below_step (by repeat (first | (with_reducible first | exact HB.out | apply below_alloc | apply pw_below_drewN | apply below_drew1) | exact HB.out)) hb); clear HO352; clear HO361; clear HO365; clear HB; have HO352 := n0_; have HO361 := n1_; have HO365 := n2_; have HO373 := n3_; have HB := n4_; clear n0_ n1_ n2_ n3_ n4_; (try clear hb); (try clear hb2); (try clear hk); (try clear hi); (try clear ho0))); go_upto_region 13 with (first | (go_at_call 18; (with_reducible refine (spec_PathsOf.calls kj2 _ _ l0 t350 _ ?side1 ?side2 A6.out).mono ?_); (case side1 => repeat (first | exact (Kd.C_below HR0.out HB.out) | (with_reducible refine Kd.C_alloc ?_ _) | (with_reducible refine Kd.C_drewN ?_ _) | (with_reducible refine Kd.C_drew ?_))); (case side2 => exact HC0.out); rintro e w17 ⟨v351, rfl, ho0, hb⟩; have n0_ := Aside0.mk (Kd.R_lower ho0 (below_size (by repeat (first | (with_reducible first | exact HB.out | apply below_alloc | apply pw_below_drewN | apply below_drew1) | exact HB.out)))); have n1_ := Aside0.mk (below_step (by repeat (first | (with_reducible first | exact HB.out | apply below_alloc | apply pw_below_drewN | apply below_drew1) | exact HB.out)) hb); clear HB; have HO352 := n0_; have HB := n1_; clear n0_ n1_; (try clear hb); (try clear hb2); (try clear hk); (try clear hi); (try clear ho0)) | (go_at_call 19; (with_reducible refine (spec_AddrOf.calls kj2 _ _ l1 t353 _ ?side1 ?side2 A7.out).mono ?_); (case side1 => repeat (first | exact (Kd.C_below HR1.out HB.out) | (with_reducible refine Kd.C_alloc ?_ _) | (with_reducible refine Kd.C_drewN ?_ _) | (with_reducible refine Kd.C_drew ?_))); (case side2 => exact HC1.out); rintro e w18 ⟨rfl, hb⟩; have n0_ := Aside0.mk (Kd.R_below (by (with_reducible repeat (first | apply Kd.R_alloc | apply Kd.R_drewN | apply Kd.R_drew)); exact HO352.out) hb); have n1_ := Aside0.mk (below_step (by repeat (first | (with_reducible first | exact HB.out | apply below_alloc | apply pw_below_drewN | apply below_drew1) | exact HB.out)) hb); clear HO352; clear HB; have HO352 := n0_; have HB := n1_; clear n0_ n1_; (try clear hb); (try clear hb2); (try clear hk); (try clear hi)) | (go_at_call 20; (with_reducible refine (laws_at.calls _ _ l1 0 500 t354 _ ?side1 ?side2 A8.out).mono ?_); (case side1 => repeat (first | exact (Kd.C_below HR1.out HB.out) | (with_reducible refine Kd.C_alloc ?_ _) | (with_reducible refine Kd.C_drewN ?_ _) | (with_reducible refine Kd.C_drew ?_))); (case side2 => exact HC1.out); rintro e w' ⟨rfl, ⟨nd, rfl⟩⟩; (try first | exact ⟨rfl, _, World.drewN_drewN _ _ _⟩ | exact ⟨rfl, _, Eq.trans (World.drewN_drewN _ _ _) (congrArg (World.drewN _) (Nat.add_assoc _ _ _))⟩)) | (go_at_call 20; (with_reducible refine (laws_at.calls _ _ l1 1 2000 t355 _ ?side1 ?side2 A9.out).mono ?_); (case side1 => repeat (first | exact (Kd.C_below HR1.out (by repeat (first | (with_reducible first | exact HB.out | apply below_alloc | apply pw_below_drewN | apply below_drew1) | exact HB.out))) | (with_reducible refine Kd.C_alloc ?_ _) | (with_reducible refine Kd.C_drewN ?_ _) | (with_reducible refine Kd.C_drew ?_))); (case side2 => exact HC1.out); rintro e w' ⟨rfl, ⟨nd, rfl⟩⟩; (try first | exact ⟨rfl, _, World.drewN_drewN _ _ _⟩ | exact ⟨rfl, _, Eq.trans (World.drewN_drewN _ _ _) (congrArg (World.drewN _) (Nat.add_assoc _ _ _))⟩); obtain ⟨Ao19, co19, eo19⟩ := Kd.R_slice HO352.out; subst eo19) | (go_at_call 21; (with_reducible refine (impl_PathMtu.calls kj2 _ _ t350 t353 (wrap64 (1000 + t354)) t356 t357 _ ?side1 ?side2 A10.out).mono ?_); (case side1 => repeat (first | exact (Kd.R_reads' HO352.out).2.2 | (with_reducible refine Kd.C_alloc ?_ _) | (with_reducible refine Kd.C_drewN ?_ _) | (with_reducible refine Kd.C_drew ?_))); (case side2 => exact (Kd.R_reads' HO352.out).2.1); rintro e w20 ⟨rfl, hb⟩; have n0_ := Aside0.mk (Kd.R_below (by (with_reducible repeat (first | apply Kd.R_alloc | apply Kd.R_drewN | apply Kd.R_drew)); exact HO352.out) hb); have n1_ := Aside0.mk (below_step (by repeat (first | (with_reducible first | exact HB.out | apply below_alloc | apply pw_below_drewN | apply below_drew1) | exact HB.out)) hb); clear HO352; clear HB; have HO352 := n0_; have HB := n1_; clear n0_ n1_; (try clear hb); (try clear hb2); (try clear hk); (try clear hi)) | (go_at_call 22; (with_reducible refine (impl_LearnPath.calls kj2 _ _ t350 t353 t355 (wrap64 (1000 + t354)) t358 t359 _ ?side1 ?side2 A11.out).mono ?_); (case side1 => repeat (first | exact (Kd.R_reads' HO352.out).2.2 | (with_reducible refine Kd.C_alloc ?_ _) | (with_reducible refine Kd.C_drewN ?_ _) | (with_reducible refine Kd.C_drew ?_))); (case side2 => exact (Kd.R_reads' HO352.out).2.1); rintro e w21 ⟨v360, rfl, ho0, hb⟩; have n0_ := Aside0.mk (Kd.R_elder' (by (with_reducible repeat (first | apply Kd.R_alloc | apply Kd.R_drewN | apply Kd.R_drew)); exact HO352.out) (Kd.R_base ho0) hb); have n1_ := Aside0.mk (Kd.R_lower (Kd.R_new' ho0 (Kd.R_lt (by (with_reducible repeat (first | apply Kd.R_alloc | apply Kd.R_drewN | apply Kd.R_drew)); exact HO352.out))) (below_size (by repeat (first | (with_reducible first | exact HB.out | apply below_alloc | apply pw_below_drewN | apply below_drew1) | exact HB.out)))); have n2_ := Aside0.mk (below_step (by repeat (first | (with_reducible first | exact HB.out | apply below_alloc | apply pw_below_drewN | apply below_drew1) | exact HB.out)) hb); clear HO352; clear HB; have HO352 := n0_; have HO361 := n1_; have HB := n2_; clear n0_ n1_ n2_; (try clear hb); (try clear hb2); (try clear hk); (try clear hi); (try clear ho0)) | (go_at_call 23; (with_reducible refine (spec_LearnPath.calls kj2 _ _ t350 t353 t355 (wrap64 (1000 + t354)) t362 t363 _ ?side1 ?side2 A12.out).mono ?_); (case side1 => repeat (first | exact (Kd.R_reads' HO352.out).2.2 | (with_reducible refine Kd.C_alloc ?_ _) | (with_reducible refine Kd.C_drewN ?_ _) | (with_reducible refine Kd.C_drew ?_))); (case side2 => exact (Kd.R_reads' HO352.out).2.1); rintro e w22 ⟨v364, rfl, ho0, hb⟩; have n0_ := Aside0.mk (Kd.R_elder' (by (with_reducible repeat (first | apply Kd.R_alloc | apply Kd.R_drewN | apply Kd.R_drew)); exact HO352.out) (Kd.R_base ho0) hb); have n1_ := Aside0.mk (Kd.R_elder' (by (with_reducible repeat (first | apply Kd.R_alloc | apply Kd.R_drewN | apply Kd.R_drew)); exact HO361.out) (Kd.R_base ho0) hb); have n2_ := Aside0.mk (Kd.R_lower (Kd.R_new' (Kd.R_new' ho0 (Kd.R_lt (by (with_reducible repeat (first | apply Kd.R_alloc | apply Kd.R_drewN | apply Kd.R_drew)); exact HO352.out))) (Kd.R_lt (by (with_reducible repeat (first | apply Kd.R_alloc | apply Kd.R_drewN | apply Kd.R_drew)); exact HO361.out))) (below_size (by repeat (first | (with_reducible first | exact HB.out | apply below_alloc | apply pw_below_drewN | apply below_drew1) | exact HB.out)))); have n3_ := Aside0.mk (below_step (by repeat (first | (with_reducible first | exact HB.out | apply below_alloc | apply pw_below_drewN | apply below_drew1) | exact HB.out)) hb); clear HO352; clear HO361; clear HB; have HO352 := n0_; have HO361 := n1_; have HO365 := n2_; have HB := n3_; clear n0_ n1_ n2_ n3_; (try clear hb); (try clear hb2); (try clear hk); (try clear hi); (try clear ho0); obtain ⟨Ao23, co23, eo23⟩ := Kd.R_slice HO361.out; subst eo23) | (go_at_call 21; (with_reducible refine (impl_PathMtu.calls kj2 _ _ t358 t353 (wrap64 (1000 + t354)) t366 t367 _ ?side1 ?side2 A13.out).mono ?_); (case side1 => repeat (first | exact (Kd.R_reads' HO361.out).2.2 | (with_reducible refine Kd.C_alloc ?_ _) | (with_reducible refine Kd.C_drewN ?_ _) | (with_reducible refine Kd.C_drew ?_))); (case side2 => exact (Kd.R_reads' HO361.out).2.1); rintro e w24 ⟨rfl, hb⟩; have n0_ := Aside0.mk (Kd.R_below (by (with_reducible repeat (first | apply Kd.R_alloc | apply Kd.R_drewN | apply Kd.R_drew)); exact HO352.out) hb); have n1_ := Aside0.mk (Kd.R_below (by (with_reducible repeat (first | apply Kd.R_alloc | apply Kd.R_drewN | apply Kd.R_drew)); exact HO361.out) hb); have n2_ := Aside0.mk (Kd.R_below (by (with_reducible repeat (first | apply Kd.R_alloc | apply Kd.R_drewN | apply Kd.R_drew)); exact HO365.out) hb); have n3_ := Aside0.mk (below_step (by repeat (first | (with_reducible first | exact HB.out | apply below_alloc | apply pw_below_drewN | apply below_drew1) | exact HB.out)) hb); clear HO352; clear HO361; clear HO365; clear HB; have HO352 := n0_; have HO361 := n1_; have HO365 := n2_; have HB := n3_; clear n0_ n1_ n2_ n3_; (try clear hb); (try clear hb2); (try clear hk); (try clear hi)) | (go_at_call 21; (with_reducible refine (impl_PathMtu.calls kj2 _ _ t358 t353 (wrap64 ((wrap64 (1000 + t354)) + 600)) t368 t369 _ ?side1 ?side2 A14.out).mono ?_); (case side1 => repeat (first | exact (Kd.R_reads' HO361.out).2.2 | (with_reducible refine Kd.C_alloc ?_ _) | (with_reducible refine Kd.C_drewN ?_ _) | (with_reducible refine Kd.C_drew ?_))); (case side2 => exact (Kd.R_reads' HO361.out).2.1); rintro e w25 ⟨rfl, hb⟩; have n0_ := Aside0.mk (Kd.R_below (by (with_reducible repeat (first | apply Kd.R_alloc | apply Kd.R_drewN | apply Kd.R_drew)); exact HO352.out) hb); have n1_ := Aside0.mk (Kd.R_below (by (with_reducible repeat (first | apply Kd.R_alloc | apply Kd.R_drewN | apply Kd.R_drew)); exact HO361.out) hb); have n2_ := Aside0.mk (Kd.R_below (by (with_reducible repeat (first | apply Kd.R_alloc | apply Kd.R_drewN | apply Kd.R_drew)); exact HO365.out) hb); have n3_ := Aside0.mk (below_step (by repeat (first | (with_reducible first | exact HB.out | apply below_alloc | apply pw_below_drewN | apply below_drew1) | exact HB.out)) hb); clear HO352; clear HO361; clear HO365; clear HB; have HO352 := n0_; have HO361 := n1_; have HO365 := n2_; have HB := n3_; clear n0_ n1_ n2_ n3_; (try clear hb); (try clear hb2); (try clear hk); (try clear hi)) | (go_at_call 15; (with_reducible refine (impl_ExpirePaths.calls kj2 _ _ t350 (wrap64 (1000 + t354)) t370 t371 _ ?side1 ?side2 A15.out).mono ?_); (case side1 => repeat (first | exact (Kd.R_reads' HO352.out).2.2 | (with_reducible refine Kd.C_alloc ?_ _) | (with_reducible refine Kd.C_drewN ?_ _) | (with_reducible refine Kd.C_drew ?_))); (case side2 => exact (Kd.R_reads' HO352.out).2.1); rintro e w26 ⟨v372, rfl, ho0, hb⟩; have n0_ := Aside0.mk (Kd.R_elder' (by (with_reducible repeat (first | apply Kd.R_alloc | apply Kd.R_drewN | apply Kd.R_drew)); exact HO352.out) (Kd.R_base ho0) hb); have n1_ := Aside0.mk (Kd.R_elder' (by (with_reducible repeat (first | apply Kd.R_alloc | apply Kd.R_drewN | apply Kd.R_drew)); exact HO361.out) (Kd.R_base ho0) hb); have n2_ := Aside0.mk (Kd.R_elder' (by (with_reducible repeat (first | apply Kd.R_alloc | apply Kd.R_drewN | apply Kd.R_drew)); exact HO365.out) (Kd.R_base ho0) hb); have n3_ := Aside0.mk (Kd.R_lower (Kd.R_new' (Kd.R_new' (Kd.R_new' ho0 (Kd.R_lt (by (with_reducible repeat (first | apply Kd.R_alloc | apply Kd.R_drewN | apply Kd.R_drew)); exact HO352.out))) (Kd.R_lt (by (with_reducible repeat (first | apply Kd.R_alloc | apply Kd.R_drewN | apply Kd.R_drew)); exact HO361.out))) (Kd.R_lt (by (with_reducible repeat (first | apply Kd.R_alloc | apply Kd.R_drewN | apply Kd.R_drew)); exact HO365.out))) (below_size (by repeat (first | (with_reducible first | exact HB.out | apply below_alloc | apply pw_below_drewN | apply below_drew1) | exact HB.out)))); have n4_ := Aside0.mk (below_step (by repeat (first | (with_reducible first | exact HB.out | apply below_alloc | apply pw_below_drewN | apply below_drew1) | exact HB.out)) hb); clear HO352; clear HO361; clear HO365; clear HB; have HO352 := n0_; have HO361 := n1_; have HO365 := n2_; have HO373 := n3_; have HB := n4_; clear n0_ n1_ n2_ n3_ n4_; (try clear hb); (try clear hb2); (try clear hk); (try clear hi); (try clear ho0))))
        (try simp only [Act.put, List.setIfInBounds_toArray, List.set_cons_zero, List.set_cons_succ])
        go_cut [144] (fun v144 wc => ∃ (kq : Nat) (x144_15 : Bool), v144 = .bool x144_15 ∧ Aside0 (laws_FnPaths.j1 kq t353 (wrap64 (1000 + t354)) t358 t362 t366 x144_15 = some r) ∧ Aside0 (kq ≤ kj2) ∧ Aside0 (Kd.R k43 43 wc w.heap.size (fun k_ => some k_ ≠ (v364 : Value).ownBlock) (.slice Ao23 t358.length co23) t358) ∧ Aside0 (Kd.R k43 43 wc w.heap.size (fun k_ => some k_ ≠ ((.slice Ao23 t358.length co23) : Value).ownBlock) v364 t362) ∧ Aside0 (Below w.heap.size w wc))
        case first =>
          have H := HC16.out
          clear HC16
          by_cases c27 : t357 = 0
          · rw [if_pos c27] at H
            have c27b0 : (t357 == 0) = true := beq_iff_eq.mpr c27
            have c27b1 : (t357 != 0) = false := bne_eq_false_iff_eq.mpr c27
            clear c27
            (first | rw [c27b0] | (simp only [i64_w, i32_w]; rw [c27b0]) | skip)
            by_cases c28 : t359 = 0
            · rw [if_pos c28] at H
              have c28b0 : (t359 == 0) = true := beq_iff_eq.mpr c28
              have c28b1 : (t359 != 0) = false := bne_eq_false_iff_eq.mpr c28
              clear c28
              by_cases c29 : t367 = 0
              · rw [if_pos c29] at H
                have c29b0 : (t367 == 0) = true := beq_iff_eq.mpr c29
                have c29b1 : (t367 != 0) = false := bne_eq_false_iff_eq.mpr c29
                clear c29
                by_cases c30 : t369 = 0
                · rw [if_pos c30] at H
                  have c30b0 : (t369 == 0) = true := beq_iff_eq.mpr c30
                  have c30b1 : (t369 != 0) = false := bne_eq_false_iff_eq.mpr c30
                  clear c30
                  by_cases c31 : t371 = 0
                  · rw [if_pos c31] at H
                    have c31b0 : (t371 == 0) = true := beq_iff_eq.mpr c31
                    have c31b1 : (t371 != 0) = false := bne_eq_false_iff_eq.mpr c31
                    clear c31
                    by_cases c32 : (t358.length : Int) = (t362.length : Int)
                    · rw [if_pos c32] at H
                      have c32b0 : ((t358.length : Int) == (t362.length : Int)) = true := beq_iff_eq.mpr c32
                      have c32b1 : ((t358.length : Int) != (t362.length : Int)) = false := bne_eq_false_iff_eq.mpr c32
                      have c32b2 : (t358.length == t362.length) = true := by first | simpa using c32 | (simp at c32 ⊢; omega)
                      clear c32
                      by_cases c33 : t366 > t356
                      · rw [if_pos c33] at H
                        have c33b0 : decide (t356 < t366) = true := decide_eq_true c33
                        clear c33
                        have H' := Aside0.mk H
                        clear H
                        obtain ⟨Ao34, co34, eo34⟩ := Kd.R_slice HO365.out
                        subst eo34
                        go_wp2
                        repeat (go_quiet (fail); try go_wp2)
                        go_meet
                        case rel => exact ⟨_, (true), (by first | rfl | (simp; done) | (simp [*]; done)), H', ⟨by have := HJ2.out; first | omega | exact Nat.le_refl _⟩, ⟨by (with_reducible repeat (first | apply Kd.R_alloc | apply Kd.R_drewN | apply Kd.R_drew)); exact Kd.R_mono HO361.out (fun _ hk => hk.1.2)⟩, ⟨by (with_reducible repeat (first | apply Kd.R_alloc | apply Kd.R_drewN | apply Kd.R_drew)); exact Kd.R_mono HO365.out (fun _ hk => hk.1.2)⟩, ⟨by repeat (first | (with_reducible first | exact HB.out | apply below_alloc | apply pw_below_drewN | apply below_drew1) | exact HB.out)⟩⟩
                      · rw [if_neg c33] at H
                        have c33b0 : decide (t356 < t366) = false := decide_eq_false c33
                        clear c33
                        obtain ⟨ji35, hji35⟩ : ∃ j_ : Int, (mx t355 1280) = j_ := ⟨_, rfl⟩
                        replace H : (if t366 > (ji35) then (if t366 = t356 then (if t368 = 1500 then ((impl_PathsOK.f kj2 t358).bind fun t374 => (if t374 = true then (laws_FnPaths.j1 kj2 t353 (wrap64 (1000 + t354)) t358 t362 t366 (decide ((t370.length : Int) > (t350.length : Int)))) else (laws_FnPaths.j1 kj2 t353 (wrap64 (1000 + t354)) t358 t362 t366 true))) else (laws_FnPaths.j1 kj2 t353 (wrap64 (1000 + t354)) t358 t362 t366 true)) else (laws_FnPaths.j1 kj2 t353 (wrap64 (1000 + t354)) t358 t362 t366 true)) else (if t368 = 1500 then ((impl_PathsOK.f kj2 t358).bind fun t375 => (if t375 = true then (laws_FnPaths.j1 kj2 t353 (wrap64 (1000 + t354)) t358 t362 t366 (decide ((t370.length : Int) > (t350.length : Int)))) else (laws_FnPaths.j1 kj2 t353 (wrap64 (1000 + t354)) t358 t362 t366 true))) else (laws_FnPaths.j1 kj2 t353 (wrap64 (1000 + t354)) t358 t362 t366 true))) = some r := by first | (rw [hji35] at H; exact H) | (simp only [hji35] at H ⊢; exact H)
                        (try (have hji35l : 1280 ≤ ji35 := by (rw [← hji35]; unfold mx; (repeat' split) <;> omega)))
                        (try (have hji35m : 0 ≤ ji35 := by omega))
                        have hji35_ : (if t355 < 1280 then 1280 else t355) = ji35 := hji35
                        by_cases c36 : t366 > (ji35)
                        · rw [if_pos c36] at H
                          have c36b0 : decide ((ji35) < t366) = true := decide_eq_true c36
                          clear c36
                          by_cases c37 : t366 = t356
                          · rw [if_pos c37] at H
                            have c37b0 : (t366 == t356) = true := beq_iff_eq.mpr c37
                            have c37b1 : (t366 != t356) = false := bne_eq_false_iff_eq.mpr c37
                            clear c37
                            by_cases c38 : t368 = 1500
                            · rw [if_pos c38] at H
                              have c38b0 : (t368 == 1500) = true := beq_iff_eq.mpr c38
                              have c38b1 : (t368 != 1500) = false := bne_eq_false_iff_eq.mpr c38
                              clear c38
                              replace H := Option.bind_eq_some_iff.mp H
                              obtain ⟨t374, A390, H⟩ := H
                              replace H : (if t374 = true then (laws_FnPaths.j1 kj2 t353 (wrap64 (1000 + t354)) t358 t362 t366 (decide ((t370.length : Int) > (t350.length : Int)))) else (laws_FnPaths.j1 kj2 t353 (wrap64 (1000 + t354)) t358 t362 t366 true)) = some r := H
                              have A39 := Aside0.mk A390
                              clear A390
                              by_cases c40 : t374 = true
                              · subst c40
                                have H1 : (laws_FnPaths.j1 kj2 t353 (wrap64 (1000 + t354)) t358 t362 t366 (decide ((t370.length : Int) > (t350.length : Int)))) = some r := by rw [if_pos rfl] at H; exact H
                                clear H
                                have H := H1
                                clear H1
                                have H' := Aside0.mk H
                                clear H
                                obtain ⟨Ao41, co41, eo41⟩ := Kd.R_slice HO365.out
                                subst eo41
                                as_aux_lemma =>
                                  go_wp2_with (first | (go_at_call 12; (with_reducible refine (impl_PathsOK.calls kj2 _ _ t358 true _ ?side1 ?side2 A39.out).mono ?_); (case side1 => repeat (first | exact (Kd.R_reads' HO361.out).2.2 | (with_reducible refine Kd.C_alloc ?_ _) | (with_reducible refine Kd.C_drewN ?_ _) | (with_reducible refine Kd.C_drew ?_))); (case side2 => exact (Kd.R_reads' HO361.out).2.1); rintro e w42 ⟨rfl, hb⟩; have n0_ := Aside0.mk (Kd.R_below (by (with_reducible repeat (first | apply Kd.R_alloc | apply Kd.R_drewN | apply Kd.R_drew)); exact HO352.out) hb); have n1_ := Aside0.mk (Kd.R_below (by (with_reducible repeat (first | apply Kd.R_alloc | apply Kd.R_drewN | apply Kd.R_drew)); exact HO361.out) hb); have n2_ := Aside0.mk (Kd.R_below (by (with_reducible repeat (first | apply Kd.R_alloc | apply Kd.R_drewN | apply Kd.R_drew)); exact HO365.out) hb); have n3_ := Aside0.mk (Kd.R_below (by (with_reducible repeat (first | apply Kd.R_alloc | apply Kd.R_drewN | apply Kd.R_drew)); exact HO373.out) hb); have n4_ := Aside0.mk (below_step (by repeat (first | (with_reducible first | exact HB.out | apply below_alloc | apply pw_below_drewN | apply below_drew1) | exact HB.out)) hb); clear HO352; clear HO361; clear HO365; clear HO373; clear HB; have HO352 := n0_; have HO361 := n1_; have HO365 := n2_; have HO373 := n3_; have HB := n4_; clear n0_ n1_ n2_ n3_ n4_; (try clear hb); (try clear hb2); (try clear hk); (try clear hi); obtain ⟨Ao43, co43, eo43⟩ := Kd.R_slice HO373.out; subst eo43))
                                  repeat (go_quiet (first | (go_at_call 12; (with_reducible refine (impl_PathsOK.calls kj2 _ _ t358 true _ ?side1 ?side2 A39.out).mono ?_); (case side1 => repeat (first | exact (Kd.R_reads' HO361.out).2.2 | (with_reducible refine Kd.C_alloc ?_ _) | (with_reducible refine Kd.C_drewN ?_ _) | (with_reducible refine Kd.C_drew ?_))); (case side2 => exact (Kd.R_reads' HO361.out).2.1); rintro e w42 ⟨rfl, hb⟩; have n0_ := Aside0.mk (Kd.R_below (by (with_reducible repeat (first | apply Kd.R_alloc | apply Kd.R_drewN | apply Kd.R_drew)); exact HO352.out) hb); have n1_ := Aside0.mk (Kd.R_below (by (with_reducible repeat (first | apply Kd.R_alloc | apply Kd.R_drewN | apply Kd.R_drew)); exact HO361.out) hb); have n2_ := Aside0.mk (Kd.R_below (by (with_reducible repeat (first | apply Kd.R_alloc | apply Kd.R_drewN | apply Kd.R_drew)); exact HO365.out) hb); have n3_ := Aside0.mk (Kd.R_below (by (with_reducible repeat (first | apply Kd.R_alloc | apply Kd.R_drewN | apply Kd.R_drew)); exact HO373.out) hb); have n4_ := Aside0.mk (below_step (by repeat (first | (with_reducible first | exact HB.out | apply below_alloc | apply pw_below_drewN | apply below_drew1) | exact HB.out)) hb); clear HO352; clear HO361; clear HO365; clear HO373; clear HB; have HO352 := n0_; have HO361 := n1_; have HO365 := n2_; have HO373 := n3_; have HB := n4_; clear n0_ n1_ n2_ n3_ n4_; (try clear hb); (try clear hb2); (try clear hk); (try clear hi); obtain ⟨Ao43, co43, eo43⟩ := Kd.R_slice HO373.out; subst eo43)); try go_wp2_with (first | (go_at_call 12; (with_reducible refine (impl_PathsOK.calls kj2 _ _ t358 true _ ?side1 ?side2 A39.out).mono ?_); (case side1 => repeat (first | exact (Kd.R_reads' HO361.out).2.2 | (with_reducible refine Kd.C_alloc ?_ _) | (with_reducible refine Kd.C_drewN ?_ _) | (with_reducible refine Kd.C_drew ?_))); (case side2 => exact (Kd.R_reads' HO361.out).2.1); rintro e w42 ⟨rfl, hb⟩; have n0_ := Aside0.mk (Kd.R_below (by (with_reducible repeat (first | apply Kd.R_alloc | apply Kd.R_drewN | apply Kd.R_drew)); exact HO352.out) hb); have n1_ := Aside0.mk (Kd.R_below (by (with_reducible repeat (first | apply Kd.R_alloc | apply Kd.R_drewN | apply Kd.R_drew)); exact HO361.out) hb); have n2_ := Aside0.mk (Kd.R_below (by (with_reducible repeat (first | apply Kd.R_alloc | apply Kd.R_drewN | apply Kd.R_drew)); exact HO365.out) hb); have n3_ := Aside0.mk (Kd.R_below (by (with_reducible repeat (first | apply Kd.R_alloc | apply Kd.R_drewN | apply Kd.R_drew)); exact HO373.out) hb); have n4_ := Aside0.mk (below_step (by repeat (first | (with_reducible first | exact HB.out | apply below_alloc | apply pw_below_drewN | apply below_drew1) | exact HB.out)) hb); clear HO352; clear HO361; clear HO365; clear HO373; clear HB; have HO352 := n0_; have HO361 := n1_; have HO365 := n2_; have HO373 := n3_; have HB := n4_; clear n0_ n1_ n2_ n3_ n4_; (try clear hb); (try clear hb2); (try clear hk); (try clear hi); obtain ⟨Ao43, co43, eo43⟩ := Kd.R_slice HO373.out; subst eo43)))
                                  go_meet
                                  case rel => exact ⟨_, (decide ((t370.length : Int) > (t350.length : Int))), (by first | rfl | (simp; done) | (simp [*]; done)), H', ⟨by have := HJ2.out; first | omega | exact Nat.le_refl _⟩, ⟨by (with_reducible repeat (first | apply Kd.R_alloc | apply Kd.R_drewN | apply Kd.R_drew)); exact Kd.R_mono HO361.out (fun _ hk => hk.1.2)⟩, ⟨by (with_reducible repeat (first | apply Kd.R_alloc | apply Kd.R_drewN | apply Kd.R_drew)); exact Kd.R_mono HO365.out (fun _ hk => hk.1.2)⟩, ⟨by repeat (first | (with_reducible first | exact HB.out | apply below_alloc | apply pw_below_drewN | apply below_drew1) | exact HB.out)⟩⟩
                              · replace c40 := Bool.eq_false_iff.mpr c40
                                subst c40
                                have H1 : (laws_FnPaths.j1 kj2 t353 (wrap64 (1000 + t354)) t358 t362 t366 true) = some r := by rw [if_neg (show ¬ (false = true) by decide)] at H; exact H
                                clear H
                                have H := H1
                                clear H1
                                have H' := Aside0.mk H
                                clear H
                                obtain ⟨Ao44, co44, eo44⟩ := Kd.R_slice HO365.out
                                subst eo44
                                as_aux_lemma =>
                                  go_wp2_with (first | (go_at_call 12; (with_reducible refine (impl_PathsOK.calls kj2 _ _ t358 false _ ?side1 ?side2 A39.out).mono ?_); (case side1 => repeat (first | exact (Kd.R_reads' HO361.out).2.2 | (with_reducible refine Kd.C_alloc ?_ _) | (with_reducible refine Kd.C_drewN ?_ _) | (with_reducible refine Kd.C_drew ?_))); (case side2 => exact (Kd.R_reads' HO361.out).2.1); rintro e w45 ⟨rfl, hb⟩; have n0_ := Aside0.mk (Kd.R_below (by (with_reducible repeat (first | apply Kd.R_alloc | apply Kd.R_drewN | apply Kd.R_drew)); exact HO352.out) hb); have n1_ := Aside0.mk (Kd.R_below (by (with_reducible repeat (first | apply Kd.R_alloc | apply Kd.R_drewN | apply Kd.R_drew)); exact HO361.out) hb); have n2_ := Aside0.mk (Kd.R_below (by (with_reducible repeat (first | apply Kd.R_alloc | apply Kd.R_drewN | apply Kd.R_drew)); exact HO365.out) hb); have n3_ := Aside0.mk (Kd.R_below (by (with_reducible repeat (first | apply Kd.R_alloc | apply Kd.R_drewN | apply Kd.R_drew)); exact HO373.out) hb); have n4_ := Aside0.mk (below_step (by repeat (first | (with_reducible first | exact HB.out | apply below_alloc | apply pw_below_drewN | apply below_drew1) | exact HB.out)) hb); clear HO352; clear HO361; clear HO365; clear HO373; clear HB; have HO352 := n0_; have HO361 := n1_; have HO365 := n2_; have HO373 := n3_; have HB := n4_; clear n0_ n1_ n2_ n3_ n4_; (try clear hb); (try clear hb2); (try clear hk); (try clear hi)))
                                  repeat (go_quiet (first | (go_at_call 12; (with_reducible refine (impl_PathsOK.calls kj2 _ _ t358 false _ ?side1 ?side2 A39.out).mono ?_); (case side1 => repeat (first | exact (Kd.R_reads' HO361.out).2.2 | (with_reducible refine Kd.C_alloc ?_ _) | (with_reducible refine Kd.C_drewN ?_ _) | (with_reducible refine Kd.C_drew ?_))); (case side2 => exact (Kd.R_reads' HO361.out).2.1); rintro e w45 ⟨rfl, hb⟩; have n0_ := Aside0.mk (Kd.R_below (by (with_reducible repeat (first | apply Kd.R_alloc | apply Kd.R_drewN | apply Kd.R_drew)); exact HO352.out) hb); have n1_ := Aside0.mk (Kd.R_below (by (with_reducible repeat (first | apply Kd.R_alloc | apply Kd.R_drewN | apply Kd.R_drew)); exact HO361.out) hb); have n2_ := Aside0.mk (Kd.R_below (by (with_reducible repeat (first | apply Kd.R_alloc | apply Kd.R_drewN | apply Kd.R_drew)); exact HO365.out) hb); have n3_ := Aside0.mk (Kd.R_below (by (with_reducible repeat (first | apply Kd.R_alloc | apply Kd.R_drewN | apply Kd.R_drew)); exact HO373.out) hb); have n4_ := Aside0.mk (below_step (by repeat (first | (with_reducible first | exact HB.out | apply below_alloc | apply pw_below_drewN | apply below_drew1) | exact HB.out)) hb); clear HO352; clear HO361; clear HO365; clear HO373; clear HB; have HO352 := n0_; have HO361 := n1_; have HO365 := n2_; have HO373 := n3_; have HB := n4_; clear n0_ n1_ n2_ n3_ n4_; (try clear hb); (try clear hb2); (try clear hk); (try clear hi))); try go_wp2_with (first | (go_at_call 12; (with_reducible refine (impl_PathsOK.calls kj2 _ _ t358 false _ ?side1 ?side2 A39.out).mono ?_); (case side1 => repeat (first | exact (Kd.R_reads' HO361.out).2.2 | (with_reducible refine Kd.C_alloc ?_ _) | (with_reducible refine Kd.C_drewN ?_ _) | (with_reducible refine Kd.C_drew ?_))); (case side2 => exact (Kd.R_reads' HO361.out).2.1); rintro e w45 ⟨rfl, hb⟩; have n0_ := Aside0.mk (Kd.R_below (by (with_reducible repeat (first | apply Kd.R_alloc | apply Kd.R_drewN | apply Kd.R_drew)); exact HO352.out) hb); have n1_ := Aside0.mk (Kd.R_below (by (with_reducible repeat (first | apply Kd.R_alloc | apply Kd.R_drewN | apply Kd.R_drew)); exact HO361.out) hb); have n2_ := Aside0.mk (Kd.R_below (by (with_reducible repeat (first | apply Kd.R_alloc | apply Kd.R_drewN | apply Kd.R_drew)); exact HO365.out) hb); have n3_ := Aside0.mk (Kd.R_below (by (with_reducible repeat (first | apply Kd.R_alloc | apply Kd.R_drewN | apply Kd.R_drew)); exact HO373.out) hb); have n4_ := Aside0.mk (below_step (by repeat (first | (with_reducible first | exact HB.out | apply below_alloc | apply pw_below_drewN | apply below_drew1) | exact HB.out)) hb); clear HO352; clear HO361; clear HO365; clear HO373; clear HB; have HO352 := n0_; have HO361 := n1_; have HO365 := n2_; have HO373 := n3_; have HB := n4_; clear n0_ n1_ n2_ n3_ n4_; (try clear hb); (try clear hb2); (try clear hk); (try clear hi))))
                                  go_meet
                                  case rel => exact ⟨_, (true), (by first | rfl | (simp; done) | (simp [*]; done)), H', ⟨by have := HJ2.out; first | omega | exact Nat.le_refl _⟩, ⟨by (with_reducible repeat (first | apply Kd.R_alloc | apply Kd.R_drewN | apply Kd.R_drew)); exact Kd.R_mono HO361.out (fun _ hk => hk.1.2)⟩, ⟨by (with_reducible repeat (first | apply Kd.R_alloc | apply Kd.R_drewN | apply Kd.R_drew)); exact Kd.R_mono HO365.out (fun _ hk => hk.1.2)⟩, ⟨by repeat (first | (with_reducible first | exact HB.out | apply below_alloc | apply pw_below_drewN | apply below_drew1) | exact HB.out)⟩⟩
                            · rw [if_neg c38] at H
                              have c38b0 : (t368 == 1500) = false := beq_eq_false_iff_ne.mpr c38
                              have c38b1 : (t368 != 1500) = true := bne_iff_ne.mpr c38
                              have H' := Aside0.mk H
                              clear H
                              obtain ⟨Ao46, co46, eo46⟩ := Kd.R_slice HO365.out
                              subst eo46
                              as_aux_lemma =>
                                go_wp2
                                repeat (go_quiet (fail); try go_wp2)
                                go_meet
                                case rel => exact ⟨_, (true), (by first | rfl | (simp; done) | (simp [*]; done)), H', ⟨by have := HJ2.out; first | omega | exact Nat.le_refl _⟩, ⟨by (with_reducible repeat (first | apply Kd.R_alloc | apply Kd.R_drewN | apply Kd.R_drew)); exact Kd.R_mono HO361.out (fun _ hk => hk.1.2)⟩, ⟨by (with_reducible repeat (first | apply Kd.R_alloc | apply Kd.R_drewN | apply Kd.R_drew)); exact Kd.R_mono HO365.out (fun _ hk => hk.1.2)⟩, ⟨by repeat (first | (with_reducible first | exact HB.out | apply below_alloc | apply pw_below_drewN | apply below_drew1) | exact HB.out)⟩⟩
                          · rw [if_neg c37] at H
                            have c37b0 : (t366 == t356) = false := beq_eq_false_iff_ne.mpr c37
                            have c37b1 : (t366 != t356) = true := bne_iff_ne.mpr c37
                            have H' := Aside0.mk H
                            clear H
                            obtain ⟨Ao47, co47, eo47⟩ := Kd.R_slice HO365.out
                            subst eo47
                            as_aux_lemma =>
                              go_wp2
                              repeat (go_quiet (fail); try go_wp2)
                              go_meet
                              case rel => exact ⟨_, (true), (by first | rfl | (simp; done) | (simp [*]; done)), H', ⟨by have := HJ2.out; first | omega | exact Nat.le_refl _⟩, ⟨by (with_reducible repeat (first | apply Kd.R_alloc | apply Kd.R_drewN | apply Kd.R_drew)); exact Kd.R_mono HO361.out (fun _ hk => hk.1.2)⟩, ⟨by (with_reducible repeat (first | apply Kd.R_alloc | apply Kd.R_drewN | apply Kd.R_drew)); exact Kd.R_mono HO365.out (fun _ hk => hk.1.2)⟩, ⟨by repeat (first | (with_reducible first | exact HB.out | apply below_alloc | apply pw_below_drewN | apply below_drew1) | exact HB.out)⟩⟩
                        · rw [if_neg c36] at H
                          have c36b0 : decide ((ji35) < t366) = false := decide_eq_false c36
                          clear c36
                          by_cases c48 : t368 = 1500
                          · rw [if_pos c48] at H
                            have c48b0 : (t368 == 1500) = true := beq_iff_eq.mpr c48
                            have c48b1 : (t368 != 1500) = false := bne_eq_false_iff_eq.mpr c48
                            clear c48
                            replace H := Option.bind_eq_some_iff.mp H
                            obtain ⟨t375, A490, H⟩ := H
                            replace H : (if t375 = true then (laws_FnPaths.j1 kj2 t353 (wrap64 (1000 + t354)) t358 t362 t366 (decide ((t370.length : Int) > (t350.length : Int)))) else (laws_FnPaths.j1 kj2 t353 (wrap64 (1000 + t354)) t358 t362 t366 true)) = some r := H
                            have A49 := Aside0.mk A490
                            clear A490
                            by_cases c50 : t375 = true
                            · subst c50
                              have H1 : (laws_FnPaths.j1 kj2 t353 (wrap64 (1000 + t354)) t358 t362 t366 (decide ((t370.length : Int) > (t350.length : Int)))) = some r := by rw [if_pos rfl] at H; exact H
                              clear H
                              have H := H1
                              clear H1
                              have H' := Aside0.mk H
                              clear H
                              obtain ⟨Ao51, co51, eo51⟩ := Kd.R_slice HO365.out
                              subst eo51
                              as_aux_lemma =>
                                go_wp2_with (first | (go_at_call 12; (with_reducible refine (impl_PathsOK.calls kj2 _ _ t358 true _ ?side1 ?side2 A49.out).mono ?_); (case side1 => repeat (first | exact (Kd.R_reads' HO361.out).2.2 | (with_reducible refine Kd.C_alloc ?_ _) | (with_reducible refine Kd.C_drewN ?_ _) | (with_reducible refine Kd.C_drew ?_))); (case side2 => exact (Kd.R_reads' HO361.out).2.1); rintro e w52 ⟨rfl, hb⟩; have n0_ := Aside0.mk (Kd.R_below (by (with_reducible repeat (first | apply Kd.R_alloc | apply Kd.R_drewN | apply Kd.R_drew)); exact HO352.out) hb); have n1_ := Aside0.mk (Kd.R_below (by (with_reducible repeat (first | apply Kd.R_alloc | apply Kd.R_drewN | apply Kd.R_drew)); exact HO361.out) hb); have n2_ := Aside0.mk (Kd.R_below (by (with_reducible repeat (first | apply Kd.R_alloc | apply Kd.R_drewN | apply Kd.R_drew)); exact HO365.out) hb); have n3_ := Aside0.mk (Kd.R_below (by (with_reducible repeat (first | apply Kd.R_alloc | apply Kd.R_drewN | apply Kd.R_drew)); exact HO373.out) hb); have n4_ := Aside0.mk (below_step (by repeat (first | (with_reducible first | exact HB.out | apply below_alloc | apply pw_below_drewN | apply below_drew1) | exact HB.out)) hb); clear HO352; clear HO361; clear HO365; clear HO373; clear HB; have HO352 := n0_; have HO361 := n1_; have HO365 := n2_; have HO373 := n3_; have HB := n4_; clear n0_ n1_ n2_ n3_ n4_; (try clear hb); (try clear hb2); (try clear hk); (try clear hi); obtain ⟨Ao53, co53, eo53⟩ := Kd.R_slice HO373.out; subst eo53))
                                repeat (go_quiet (first | (go_at_call 12; (with_reducible refine (impl_PathsOK.calls kj2 _ _ t358 true _ ?side1 ?side2 A49.out).mono ?_); (case side1 => repeat (first | exact (Kd.R_reads' HO361.out).2.2 | (with_reducible refine Kd.C_alloc ?_ _) | (with_reducible refine Kd.C_drewN ?_ _) | (with_reducible refine Kd.C_drew ?_))); (case side2 => exact (Kd.R_reads' HO361.out).2.1); rintro e w52 ⟨rfl, hb⟩; have n0_ := Aside0.mk (Kd.R_below (by (with_reducible repeat (first | apply Kd.R_alloc | apply Kd.R_drewN | apply Kd.R_drew)); exact HO352.out) hb); have n1_ := Aside0.mk (Kd.R_below (by (with_reducible repeat (first | apply Kd.R_alloc | apply Kd.R_drewN | apply Kd.R_drew)); exact HO361.out) hb); have n2_ := Aside0.mk (Kd.R_below (by (with_reducible repeat (first | apply Kd.R_alloc | apply Kd.R_drewN | apply Kd.R_drew)); exact HO365.out) hb); have n3_ := Aside0.mk (Kd.R_below (by (with_reducible repeat (first | apply Kd.R_alloc | apply Kd.R_drewN | apply Kd.R_drew)); exact HO373.out) hb); have n4_ := Aside0.mk (below_step (by repeat (first | (with_reducible first | exact HB.out | apply below_alloc | apply pw_below_drewN | apply below_drew1) | exact HB.out)) hb); clear HO352; clear HO361; clear HO365; clear HO373; clear HB; have HO352 := n0_; have HO361 := n1_; have HO365 := n2_; have HO373 := n3_; have HB := n4_; clear n0_ n1_ n2_ n3_ n4_; (try clear hb); (try clear hb2); (try clear hk); (try clear hi); obtain ⟨Ao53, co53, eo53⟩ := Kd.R_slice HO373.out; subst eo53)); try go_wp2_with (first | (go_at_call 12; (with_reducible refine (impl_PathsOK.calls kj2 _ _ t358 true _ ?side1 ?side2 A49.out).mono ?_); (case side1 => repeat (first | exact (Kd.R_reads' HO361.out).2.2 | (with_reducible refine Kd.C_alloc ?_ _) | (with_reducible refine Kd.C_drewN ?_ _) | (with_reducible refine Kd.C_drew ?_))); (case side2 => exact (Kd.R_reads' HO361.out).2.1); rintro e w52 ⟨rfl, hb⟩; have n0_ := Aside0.mk (Kd.R_below (by (with_reducible repeat (first | apply Kd.R_alloc | apply Kd.R_drewN | apply Kd.R_drew)); exact HO352.out) hb); have n1_ := Aside0.mk (Kd.R_below (by (with_reducible repeat (first | apply Kd.R_alloc | apply Kd.R_drewN | apply Kd.R_drew)); exact HO361.out) hb); have n2_ := Aside0.mk (Kd.R_below (by (with_reducible repeat (first | apply Kd.R_alloc | apply Kd.R_drewN | apply Kd.R_drew)); exact HO365.out) hb); have n3_ := Aside0.mk (Kd.R_below (by (with_reducible repeat (first | apply Kd.R_alloc | apply Kd.R_drewN | apply Kd.R_drew)); exact HO373.out) hb); have n4_ := Aside0.mk (below_step (by repeat (first | (with_reducible first | exact HB.out | apply below_alloc | apply pw_below_drewN | apply below_drew1) | exact HB.out)) hb); clear HO352; clear HO361; clear HO365; clear HO373; clear HB; have HO352 := n0_; have HO361 := n1_; have HO365 := n2_; have HO373 := n3_; have HB := n4_; clear n0_ n1_ n2_ n3_ n4_; (try clear hb); (try clear hb2); (try clear hk); (try clear hi); obtain ⟨Ao53, co53, eo53⟩ := Kd.R_slice HO373.out; subst eo53)))
                                go_meet
                                case rel => exact ⟨_, (decide ((t370.length : Int) > (t350.length : Int))), (by first | rfl | (simp; done) | (simp [*]; done)), H', ⟨by have := HJ2.out; first | omega | exact Nat.le_refl _⟩, ⟨by (with_reducible repeat (first | apply Kd.R_alloc | apply Kd.R_drewN | apply Kd.R_drew)); exact Kd.R_mono HO361.out (fun _ hk => hk.1.2)⟩, ⟨by (with_reducible repeat (first | apply Kd.R_alloc | apply Kd.R_drewN | apply Kd.R_drew)); exact Kd.R_mono HO365.out (fun _ hk => hk.1.2)⟩, ⟨by repeat (first | (with_reducible first | exact HB.out | apply below_alloc | apply pw_below_drewN | apply below_drew1) | exact HB.out)⟩⟩
                            · replace c50 := Bool.eq_false_iff.mpr c50
                              subst c50
                              have H1 : (laws_FnPaths.j1 kj2 t353 (wrap64 (1000 + t354)) t358 t362 t366 true) = some r := by rw [if_neg (show ¬ (false = true) by decide)] at H; exact H
                              clear H
                              have H := H1
                              clear H1
                              have H' := Aside0.mk H
                              clear H
                              obtain ⟨Ao54, co54, eo54⟩ := Kd.R_slice HO365.out
                              subst eo54
                              as_aux_lemma =>
                                go_wp2_with (first | (go_at_call 12; (with_reducible refine (impl_PathsOK.calls kj2 _ _ t358 false _ ?side1 ?side2 A49.out).mono ?_); (case side1 => repeat (first | exact (Kd.R_reads' HO361.out).2.2 | (with_reducible refine Kd.C_alloc ?_ _) | (with_reducible refine Kd.C_drewN ?_ _) | (with_reducible refine Kd.C_drew ?_))); (case side2 => exact (Kd.R_reads' HO361.out).2.1); rintro e w55 ⟨rfl, hb⟩; have n0_ := Aside0.mk (Kd.R_below (by (with_reducible repeat (first | apply Kd.R_alloc | apply Kd.R_drewN | apply Kd.R_drew)); exact HO352.out) hb); have n1_ := Aside0.mk (Kd.R_below (by (with_reducible repeat (first | apply Kd.R_alloc | apply Kd.R_drewN | apply Kd.R_drew)); exact HO361.out) hb); have n2_ := Aside0.mk (Kd.R_below (by (with_reducible repeat (first | apply Kd.R_alloc | apply Kd.R_drewN | apply Kd.R_drew)); exact HO365.out) hb); have n3_ := Aside0.mk (Kd.R_below (by (with_reducible repeat (first | apply Kd.R_alloc | apply Kd.R_drewN | apply Kd.R_drew)); exact HO373.out) hb); have n4_ := Aside0.mk (below_step (by repeat (first | (with_reducible first | exact HB.out | apply below_alloc | apply pw_below_drewN | apply below_drew1) | exact HB.out)) hb); clear HO352; clear HO361; clear HO365; clear HO373; clear HB; have HO352 := n0_; have HO361 := n1_; have HO365 := n2_; have HO373 := n3_; have HB := n4_; clear n0_ n1_ n2_ n3_ n4_; (try clear hb); (try clear hb2); (try clear hk); (try clear hi)))
                                repeat (go_quiet (first | (go_at_call 12; (with_reducible refine (impl_PathsOK.calls kj2 _ _ t358 false _ ?side1 ?side2 A49.out).mono ?_); (case side1 => repeat (first | exact (Kd.R_reads' HO361.out).2.2 | (with_reducible refine Kd.C_alloc ?_ _) | (with_reducible refine Kd.C_drewN ?_ _) | (with_reducible refine Kd.C_drew ?_))); (case side2 => exact (Kd.R_reads' HO361.out).2.1); rintro e w55 ⟨rfl, hb⟩; have n0_ := Aside0.mk (Kd.R_below (by (with_reducible repeat (first | apply Kd.R_alloc | apply Kd.R_drewN | apply Kd.R_drew)); exact HO352.out) hb); have n1_ := Aside0.mk (Kd.R_below (by (with_reducible repeat (first | apply Kd.R_alloc | apply Kd.R_drewN | apply Kd.R_drew)); exact HO361.out) hb); have n2_ := Aside0.mk (Kd.R_below (by (with_reducible repeat (first | apply Kd.R_alloc | apply Kd.R_drewN | apply Kd.R_drew)); exact HO365.out) hb); have n3_ := Aside0.mk (Kd.R_below (by (with_reducible repeat (first | apply Kd.R_alloc | apply Kd.R_drewN | apply Kd.R_drew)); exact HO373.out) hb); have n4_ := Aside0.mk (below_step (by repeat (first | (with_reducible first | exact HB.out | apply below_alloc | apply pw_below_drewN | apply below_drew1) | exact HB.out)) hb); clear HO352; clear HO361; clear HO365; clear HO373; clear HB; have HO352 := n0_; have HO361 := n1_; have HO365 := n2_; have HO373 := n3_; have HB := n4_; clear n0_ n1_ n2_ n3_ n4_; (try clear hb); (try clear hb2); (try clear hk); (try clear hi))); try go_wp2_with (first | (go_at_call 12; (with_reducible refine (impl_PathsOK.calls kj2 _ _ t358 false _ ?side1 ?side2 A49.out).mono ?_); (case side1 => repeat (first | exact (Kd.R_reads' HO361.out).2.2 | (with_reducible refine Kd.C_alloc ?_ _) | (with_reducible refine Kd.C_drewN ?_ _) | (with_reducible refine Kd.C_drew ?_))); (case side2 => exact (Kd.R_reads' HO361.out).2.1); rintro e w55 ⟨rfl, hb⟩; have n0_ := Aside0.mk (Kd.R_below (by (with_reducible repeat (first | apply Kd.R_alloc | apply Kd.R_drewN | apply Kd.R_drew)); exact HO352.out) hb); have n1_ := Aside0.mk (Kd.R_below (by (with_reducible repeat (first | apply Kd.R_alloc | apply Kd.R_drewN | apply Kd.R_drew)); exact HO361.out) hb); have n2_ := Aside0.mk (Kd.R_below (by (with_reducible repeat (first | apply Kd.R_alloc | apply Kd.R_drewN | apply Kd.R_drew)); exact HO365.out) hb); have n3_ := Aside0.mk (Kd.R_below (by (with_reducible repeat (first | apply Kd.R_alloc | apply Kd.R_drewN | apply Kd.R_drew)); exact HO373.out) hb); have n4_ := Aside0.mk (below_step (by repeat (first | (with_reducible first | exact HB.out | apply below_alloc | apply pw_below_drewN | apply below_drew1) | exact HB.out)) hb); clear HO352; clear HO361; clear HO365; clear HO373; clear HB; have HO352 := n0_; have HO361 := n1_; have HO365 := n2_; have HO373 := n3_; have HB := n4_; clear n0_ n1_ n2_ n3_ n4_; (try clear hb); (try clear hb2); (try clear hk); (try clear hi))))
                                go_meet
                                case rel => exact ⟨_, (true), (by first | rfl | (simp; done) | (simp [*]; done)), H', ⟨by have := HJ2.out; first | omega | exact Nat.le_refl _⟩, ⟨by (with_reducible repeat (first | apply Kd.R_alloc | apply Kd.R_drewN | apply Kd.R_drew)); exact Kd.R_mono HO361.out (fun _ hk => hk.1.2)⟩, ⟨by (with_reducible repeat (first | apply Kd.R_alloc | apply Kd.R_drewN | apply Kd.R_drew)); exact Kd.R_mono HO365.out (fun _ hk => hk.1.2)⟩, ⟨by repeat (first | (with_reducible first | exact HB.out | apply below_alloc | apply pw_below_drewN | apply below_drew1) | exact HB.out)⟩⟩
                          · rw [if_neg c48] at H
                            have c48b0 : (t368 == 1500) = false := beq_eq_false_iff_ne.mpr c48
                            have c48b1 : (t368 != 1500) = true := bne_iff_ne.mpr c48
                            have H' := Aside0.mk H
                            clear H
                            obtain ⟨Ao56, co56, eo56⟩ := Kd.R_slice HO365.out
                            subst eo56
                            as_aux_lemma =>
                              go_wp2
                              repeat (go_quiet (fail); try go_wp2)
                              go_meet
                              case rel => exact ⟨_, (true), (by first | rfl | (simp; done) | (simp [*]; done)), H', ⟨by have := HJ2.out; first | omega | exact Nat.le_refl _⟩, ⟨by (with_reducible repeat (first | apply Kd.R_alloc | apply Kd.R_drewN | apply Kd.R_drew)); exact Kd.R_mono HO361.out (fun _ hk => hk.1.2)⟩, ⟨by (with_reducible repeat (first | apply Kd.R_alloc | apply Kd.R_drewN | apply Kd.R_drew)); exact Kd.R_mono HO365.out (fun _ hk => hk.1.2)⟩, ⟨by repeat (first | (with_reducible first | exact HB.out | apply below_alloc | apply pw_below_drewN | apply below_drew1) | exact HB.out)⟩⟩
                    · rw [if_neg c32] at H
                      have c32b0 : ((t358.length : Int) == (t362.length : Int)) = false := beq_eq_false_iff_ne.mpr c32
                      have c32b1 : ((t358.length : Int) != (t362.length : Int)) = true := bne_iff_ne.mpr c32
                      have c32b2 : (t358.length == t362.length) = false := by first | simpa using c32 | (simp at c32 ⊢; omega)
                      have H' := Aside0.mk H
                      clear H
                      obtain ⟨Ao57, co57, eo57⟩ := Kd.R_slice HO365.out
                      subst eo57
                      as_aux_lemma =>
                        go_wp2
                        repeat (go_quiet (fail); try go_wp2)
                        go_meet
                        case rel => exact ⟨_, (true), (by first | rfl | (simp; done) | (simp [*]; done)), H', ⟨by have := HJ2.out; first | omega | exact Nat.le_refl _⟩, ⟨by (with_reducible repeat (first | apply Kd.R_alloc | apply Kd.R_drewN | apply Kd.R_drew)); exact Kd.R_mono HO361.out (fun _ hk => hk.1.2)⟩, ⟨by (with_reducible repeat (first | apply Kd.R_alloc | apply Kd.R_drewN | apply Kd.R_drew)); exact Kd.R_mono HO365.out (fun _ hk => hk.1.2)⟩, ⟨by repeat (first | (with_reducible first | exact HB.out | apply below_alloc | apply pw_below_drewN | apply below_drew1) | exact HB.out)⟩⟩
                  · rw [if_neg c31] at H
                    have c31b0 : (t371 == 0) = false := beq_eq_false_iff_ne.mpr c31
                    have c31b1 : (t371 != 0) = true := bne_iff_ne.mpr c31
                    have H' := Aside0.mk H
                    clear H
                    as_aux_lemma =>
                      go_wp2
                      repeat (go_quiet (fail); try go_wp2)
                      go_meet
                      case rel => exact ⟨_, (true), (by first | rfl | (simp; done) | (simp [*]; done)), H', ⟨by have := HJ2.out; first | omega | exact Nat.le_refl _⟩, ⟨by (with_reducible repeat (first | apply Kd.R_alloc | apply Kd.R_drewN | apply Kd.R_drew)); exact Kd.R_mono HO361.out (fun _ hk => hk.1.2)⟩, ⟨by (with_reducible repeat (first | apply Kd.R_alloc | apply Kd.R_drewN | apply Kd.R_drew)); exact Kd.R_mono HO365.out (fun _ hk => hk.1.2)⟩, ⟨by repeat (first | (with_reducible first | exact HB.out | apply below_alloc | apply pw_below_drewN | apply below_drew1) | exact HB.out)⟩⟩
                · rw [if_neg c30] at H
                  have c30b0 : (t369 == 0) = false := beq_eq_false_iff_ne.mpr c30
                  have c30b1 : (t369 != 0) = true := bne_iff_ne.mpr c30
                  have H' := Aside0.mk H
                  clear H
                  as_aux_lemma =>
                    go_wp2
                    repeat (go_quiet (fail); try go_wp2)
                    go_meet
                    case rel => exact ⟨_, (true), (by first | rfl | (simp; done) | (simp [*]; done)), H', ⟨by have := HJ2.out; first | omega | exact Nat.le_refl _⟩, ⟨by (with_reducible repeat (first | apply Kd.R_alloc | apply Kd.R_drewN | apply Kd.R_drew)); exact Kd.R_mono HO361.out (fun _ hk => hk.1.2)⟩, ⟨by (with_reducible repeat (first | apply Kd.R_alloc | apply Kd.R_drewN | apply Kd.R_drew)); exact Kd.R_mono HO365.out (fun _ hk => hk.1.2)⟩, ⟨by repeat (first | (with_reducible first | exact HB.out | apply below_alloc | apply pw_below_drewN | apply below_drew1) | exact HB.out)⟩⟩
              · rw [if_neg c29] at H
                have c29b0 : (t367 == 0) = false := beq_eq_false_iff_ne.mpr c29
                have c29b1 : (t367 != 0) = true := bne_iff_ne.mpr c29
                have H' := Aside0.mk H
                clear H
                as_aux_lemma =>
                  go_wp2
                  repeat (go_quiet (fail); try go_wp2)
                  go_meet
                  case rel => exact ⟨_, (true), (by first | rfl | (simp; done) | (simp [*]; done)), H', ⟨by have := HJ2.out; first | omega | exact Nat.le_refl _⟩, ⟨by (with_reducible repeat (first | apply Kd.R_alloc | apply Kd.R_drewN | apply Kd.R_drew)); exact Kd.R_mono HO361.out (fun _ hk => hk.1.2)⟩, ⟨by (with_reducible repeat (first | apply Kd.R_alloc | apply Kd.R_drewN | apply Kd.R_drew)); exact Kd.R_mono HO365.out (fun _ hk => hk.1.2)⟩, ⟨by repeat (first | (with_reducible first | exact HB.out | apply below_alloc | apply pw_below_drewN | apply below_drew1) | exact HB.out)⟩⟩
            · rw [if_neg c28] at H
              have c28b0 : (t359 == 0) = false := beq_eq_false_iff_ne.mpr c28
              have c28b1 : (t359 != 0) = true := bne_iff_ne.mpr c28
              have H' := Aside0.mk H
              clear H
              as_aux_lemma =>
                go_wp2
                repeat (go_quiet (fail); try go_wp2)
                go_meet
                case rel => exact ⟨_, (true), (by first | rfl | (simp; done) | (simp [*]; done)), H', ⟨by have := HJ2.out; first | omega | exact Nat.le_refl _⟩, ⟨by (with_reducible repeat (first | apply Kd.R_alloc | apply Kd.R_drewN | apply Kd.R_drew)); exact Kd.R_mono HO361.out (fun _ hk => hk.1.2)⟩, ⟨by (with_reducible repeat (first | apply Kd.R_alloc | apply Kd.R_drewN | apply Kd.R_drew)); exact Kd.R_mono HO365.out (fun _ hk => hk.1.2)⟩, ⟨by repeat (first | (with_reducible first | exact HB.out | apply below_alloc | apply pw_below_drewN | apply below_drew1) | exact HB.out)⟩⟩
          · rw [if_neg c27] at H
            have c27b0 : (t357 == 0) = false := beq_eq_false_iff_ne.mpr c27
            have c27b1 : (t357 != 0) = true := bne_iff_ne.mpr c27
            (first | rw [c27b0] | (simp only [i64_w, i32_w]; rw [c27b0]) | skip)
            have H' := Aside0.mk H
            clear H
            as_aux_lemma =>
              go_wp2
              repeat (go_quiet (fail); try go_wp2)
              go_meet
              case rel => exact ⟨_, (true), (by first | rfl | (simp; done) | (simp [*]; done)), H', ⟨by have := HJ2.out; first | omega | exact Nat.le_refl _⟩, ⟨by (with_reducible repeat (first | apply Kd.R_alloc | apply Kd.R_drewN | apply Kd.R_drew)); exact Kd.R_mono HO361.out (fun _ hk => hk.1.2)⟩, ⟨by (with_reducible repeat (first | apply Kd.R_alloc | apply Kd.R_drewN | apply Kd.R_drew)); exact Kd.R_mono HO365.out (fun _ hk => hk.1.2)⟩, ⟨by repeat (first | (with_reducible first | exact HB.out | apply below_alloc | apply pw_below_drewN | apply below_drew1) | exact HB.out)⟩⟩
        case rest =>
          clear HC16
          try clear c1
          try clear c2
          try clear p2
          try clear c3
          try clear c4
          try clear c4b0
          try clear c4b1
          try clear c5
          try clear c6
          try clear p6
          try clear c27
          try clear c27b0
          try clear c27b1
          try clear c28
          try clear c28b0
          try clear c28b1
          try clear c29
          try clear c29b0
          try clear c29b1
          try clear c30
          try clear c30b0
          try clear c30b1
          try clear c31
          try clear c31b0
          try clear c31b1
          try clear c32
          try clear c32b0
          try clear c32b1
          try clear c32b2
          try clear c33
          try clear c33b0
          try clear c36
          try clear c36b0
          try clear c37
          try clear c37b0
          try clear c37b1
          try clear c38
          try clear c38b0
          try clear c38b1
          try clear c40
          try clear c48
          try clear c48b0
          try clear c48b1
          try clear c50
          try clear p2
          obtain ⟨kq, x144_15, rfl, HA, HJ15, HO_11, HO_13, HB⟩ := hcut
          cases kq with
          | zero => exact absurd HA.out (by simp [laws_FnPaths.j1])
          | succ kj15 =>
            have H := HA.out
            clear HA
            simp only [laws_FnPaths.j1] at H
            by_cases c58 : x144_15 = true
            · subst c58
              have H1 : (some false) = some r := by rw [if_pos rfl] at H; exact H
              clear H
              have H := H1
              clear H1
              obtain rfl := Option.some.inj H
              as_aux_lemma =>
                go_wp2
                repeat (go_quiet (fail); try go_wp2)
                go_ret
                exact ⟨by first | rfl | (simp [errW_none, errW_some] <;> rfl) | (simp [*, errW_none, errW_some] <;> rfl), by repeat (first | (with_reducible first | exact HB.out | apply below_alloc | apply pw_below_drewN | apply below_drew1) | exact HB.out)⟩
            · replace c58 := Bool.eq_false_iff.mpr c58
              subst c58
              have H1 : (laws_FnPaths.l0 kj15 t353 (wrap64 (1000 + t354)) t358 t362 t366 0) = some r := by rw [if_neg (show ¬ (false = true) by decide)] at H; exact H
              clear H
              have H := H1
              clear H1
              have H' := Aside0.mk H
              clear H
              go_wp2
              repeat (go_quiet (fail); try go_wp2)
              go_loopg [21] kj15 (fun kq v21 w' => ∃ (x21_3 : Int), v21 = .int .i64 x21_3 ∧ Aside0 (laws_FnPaths.l0 kq t353 (wrap64 (1000 + t354)) t358 t362 t366 x21_3 = some r) ∧ Aside0 (kq ≤ kj15) ∧ Aside0 (Kd.R k43 43 w' w.heap.size (fun k_ => some k_ ≠ (v364 : Value).ownBlock) (.slice Ao23 t358.length co23) t358) ∧ Aside0 (Kd.R k43 43 w' w.heap.size (fun k_ => some k_ ≠ ((.slice Ao23 t358.length co23) : Value).ownBlock) v364 t362) ∧ Aside0 (Below w.heap.size w w'))
              case atStart => exact ⟨(0), (by first | rfl | (simp; done) | (simp [*]; done)), H', ⟨Nat.le_refl _⟩, ⟨by (with_reducible repeat (first | apply Kd.R_alloc | apply Kd.R_drewN | apply Kd.R_drew)); exact HO_11.out⟩, ⟨by (with_reducible repeat (first | apply Kd.R_alloc | apply Kd.R_drewN | apply Kd.R_drew)); exact HO_13.out⟩, ⟨by repeat (first | (with_reducible first | exact HB.out | apply below_alloc | apply pw_below_drewN | apply below_drew1) | exact HB.out)⟩⟩
              case round =>
                clear H'
                try clear c1
                try clear c2
                try clear p2
                try clear c3
                try clear c4
                try clear c4b0
                try clear c4b1
                try clear c5
                try clear c6
                try clear p6
                try clear c27
                try clear c27b0
                try clear c27b1
                try clear c28
                try clear c28b0
                try clear c28b1
                try clear c29
                try clear c29b0
                try clear c29b1
                try clear c30
                try clear c30b0
                try clear c30b1
                try clear c31
                try clear c31b0
                try clear c31b1
                try clear c32
                try clear c32b0
                try clear c32b1
                try clear c32b2
                try clear c33
                try clear c33b0
                try clear c36
                try clear c36b0
                try clear c37
                try clear c37b0
                try clear c37b1
                try clear c38
                try clear c38b0
                try clear c38b1
                try clear c40
                try clear c48
                try clear c48b0
                try clear c48b1
                try clear c50
                try clear c58
                try clear p2
                try clear p6
                obtain ⟨x21_3, rfl, HA, HK3, HO_11, HO_13, HB⟩ := hrel
                cases gk with
                | zero => exact absurd HA.out (by simp [laws_FnPaths.l0])
                | succ k3 =>
                  have H := HA.out
                  clear HA
                  simp only [laws_FnPaths.l0] at H
                  by_cases c59 : x21_3 < (t358.length : Int)
                  · rw [if_pos c59] at H
                    have c59b0 : decide (x21_3 < (t358.length : Int)) = true := decide_eq_true c59
                    clear c59
                    by_cases c60 : 0 ≤ x21_3
                    · rw [if_pos c60] at H
                      have c60b0 : decide (0 ≤ x21_3) = true := decide_eq_true c60
                      clear c60
                      by_cases c61 : x21_3 < (t362.length : Int)
                      · rw [if_pos c61] at H
                        have c61b0 : decide (x21_3 < (t362.length : Int)) = true := decide_eq_true c61
                        clear c61
                        by_cases c62 : (!((((rd_T43 t358 x21_3).f0).toList) == (((rd_T43 t362 x21_3).f0).toList)) || (!(((rd_T43 t358 x21_3).f1) == ((rd_T43 t362 x21_3).f1)) || (!(((rd_T43 t358 x21_3).f2) == ((rd_T43 t362 x21_3).f2))))) = true
                        · rw [if_pos c62] at H
                          have c62b0 : (!((((rd_T43 t358 x21_3).f0).toList) == (((rd_T43 t362 x21_3).f0).toList)) || (!(((rd_T43 t358 x21_3).f1) == ((rd_T43 t362 x21_3).f1)) || (!(((rd_T43 t358 x21_3).f2) == ((rd_T43 t362 x21_3).f2))))) = true := c62
                          clear c62
                          obtain rfl := Option.some.inj H
                          have p376 : 0 ≤ (x21_3 : Int) := of_decide_eq_true (by first | (with_reducible assumption) | assumption)
                          have q376 : x21_3 < (t358.length : Int) := of_decide_eq_true (by first | (with_reducible assumption) | assumption)
                          obtain ⟨ad376, e376, hx376_0, hx376_1, hx376_2⟩ := at_T43 (Kd.R_reads' HO_11.out).2.2 x21_3 p376 q376
                          cases e376
                          replace p376 := eq_true p376
                          replace q376 := eq_true q376
                          obtain ⟨Ao63, co63, eo63⟩ := Kd.R_slice HO_13.out
                          subst eo63
                          have p377 : 0 ≤ (x21_3 : Int) := of_decide_eq_true (by first | (with_reducible assumption) | assumption)
                          have q377 : x21_3 < (t362.length : Int) := of_decide_eq_true (by first | (with_reducible assumption) | assumption)
                          obtain ⟨ad377, e377, hx377_0, hx377_1, hx377_2⟩ := at_T43 (Kd.R_reads' HO_13.out).2.2 x21_3 p377 q377
                          cases e377
                          replace p377 := eq_true p377
                          replace q377 := eq_true q377
                          as_aux_lemma =>
                            go_wp2
                            repeat (go_quiet (fail); try go_wp2)
                            go_ret
                            exact ⟨by first | rfl | (simp [errW_none, errW_some] <;> rfl) | (simp [*, errW_none, errW_some] <;> rfl), by repeat (first | (with_reducible first | exact HB.out | apply below_alloc | apply pw_below_drewN | apply below_drew1) | exact HB.out)⟩
                        · rw [if_neg c62] at H
                          have c62b0 : (!((((rd_T43 t358 x21_3).f0).toList) == (((rd_T43 t362 x21_3).f0).toList)) || (!(((rd_T43 t358 x21_3).f1) == ((rd_T43 t362 x21_3).f1)) || (!(((rd_T43 t358 x21_3).f2) == ((rd_T43 t362 x21_3).f2))))) = false := by simpa using c62
                          clear c62
                          by_cases c64 : ((rd_T43 t358 x21_3).f2) ≤ (wrap64 (1000 + t354))
                          · rw [if_pos c64] at H
                            have c64b0 : decide (((rd_T43 t358 x21_3).f2) ≤ (wrap64 (1000 + t354))) = true := decide_eq_true c64
                            clear c64
                            obtain rfl := Option.some.inj H
                            have p376 : 0 ≤ (x21_3 : Int) := of_decide_eq_true (by first | (with_reducible assumption) | assumption)
                            have q376 : x21_3 < (t358.length : Int) := of_decide_eq_true (by first | (with_reducible assumption) | assumption)
                            obtain ⟨ad376, e376, hx376_0, hx376_1, hx376_2⟩ := at_T43 (Kd.R_reads' HO_11.out).2.2 x21_3 p376 q376
                            cases e376
                            replace p376 := eq_true p376
                            replace q376 := eq_true q376
                            obtain ⟨Ao65, co65, eo65⟩ := Kd.R_slice HO_13.out
                            subst eo65
                            have p377 : 0 ≤ (x21_3 : Int) := of_decide_eq_true (by first | (with_reducible assumption) | assumption)
                            have q377 : x21_3 < (t362.length : Int) := of_decide_eq_true (by first | (with_reducible assumption) | assumption)
                            obtain ⟨ad377, e377, hx377_0, hx377_1, hx377_2⟩ := at_T43 (Kd.R_reads' HO_13.out).2.2 x21_3 p377 q377
                            cases e377
                            replace p377 := eq_true p377
                            replace q377 := eq_true q377
                            have p378 : 0 ≤ (x21_3 : Int) := of_decide_eq_true (by first | (with_reducible assumption) | assumption)
                            have q378 : x21_3 < (t358.length : Int) := of_decide_eq_true (by first | (with_reducible assumption) | assumption)
                            obtain ⟨ad378, e378, hx378_0, hx378_1, hx378_2⟩ := at_T43 (Kd.R_reads' HO_11.out).2.2 x21_3 p378 q378
                            obtain rfl : ad376 = ad378 := (by injection e378)
                            replace p378 := eq_true p378
                            replace q378 := eq_true q378
                            as_aux_lemma =>
                              go_wp2
                              repeat (go_quiet (fail); try go_wp2)
                              go_ret
                              exact ⟨by first | rfl | (simp [errW_none, errW_some] <;> rfl) | (simp [*, errW_none, errW_some] <;> rfl), by repeat (first | (with_reducible first | exact HB.out | apply below_alloc | apply pw_below_drewN | apply below_drew1) | exact HB.out)⟩
                          · rw [if_neg c64] at H
                            have c64b0 : decide (((rd_T43 t358 x21_3).f2) ≤ (wrap64 (1000 + t354))) = false := decide_eq_false c64
                            clear c64
                            have H' := Aside0.mk H
                            clear H
                            have p376 : 0 ≤ (x21_3 : Int) := of_decide_eq_true (by first | (with_reducible assumption) | assumption)
                            have q376 : x21_3 < (t358.length : Int) := of_decide_eq_true (by first | (with_reducible assumption) | assumption)
                            obtain ⟨ad376, e376, hx376_0, hx376_1, hx376_2⟩ := at_T43 (Kd.R_reads' HO_11.out).2.2 x21_3 p376 q376
                            cases e376
                            replace p376 := eq_true p376
                            replace q376 := eq_true q376
                            obtain ⟨Ao66, co66, eo66⟩ := Kd.R_slice HO_13.out
                            subst eo66
                            have p377 : 0 ≤ (x21_3 : Int) := of_decide_eq_true (by first | (with_reducible assumption) | assumption)
                            have q377 : x21_3 < (t362.length : Int) := of_decide_eq_true (by first | (with_reducible assumption) | assumption)
                            obtain ⟨ad377, e377, hx377_0, hx377_1, hx377_2⟩ := at_T43 (Kd.R_reads' HO_13.out).2.2 x21_3 p377 q377
                            cases e377
                            replace p377 := eq_true p377
                            replace q377 := eq_true q377
                            have p378 : 0 ≤ (x21_3 : Int) := of_decide_eq_true (by first | (with_reducible assumption) | assumption)
                            have q378 : x21_3 < (t358.length : Int) := of_decide_eq_true (by first | (with_reducible assumption) | assumption)
                            obtain ⟨ad378, e378, hx378_0, hx378_1, hx378_2⟩ := at_T43 (Kd.R_reads' HO_11.out).2.2 x21_3 p378 q378
                            obtain rfl : ad376 = ad378 := (by injection e378)
                            replace p378 := eq_true p378
                            replace q378 := eq_true q378
                            go_wp2
                            repeat (go_quiet (fail); try go_wp2)
                            go_roundg k3
                            case measure => have := HJ2.out; have := HJ15.out; have := HK3.out; omega
                            case rel => exact ⟨(wrap64 (x21_3 + 1)), (by first | rfl | (simp; done) | (simp [*]; done)), H', ⟨by have := HJ2.out; have := HJ15.out; have := HK3.out; omega⟩, ⟨by (with_reducible repeat (first | apply Kd.R_alloc | apply Kd.R_drewN | apply Kd.R_drew)); exact HO_11.out⟩, ⟨by (with_reducible repeat (first | apply Kd.R_alloc | apply Kd.R_drewN | apply Kd.R_drew)); exact HO_13.out⟩, ⟨by repeat (first | (with_reducible first | exact HB.out | apply below_alloc | apply pw_below_drewN | apply below_drew1) | exact HB.out)⟩⟩
                      · rw [if_neg c61] at H
                        exact absurd H (by simp)
                    · rw [if_neg c60] at H
                      exact absurd H (by simp)
                  · rw [if_neg c59] at H
                    have c59b0 : decide (x21_3 < (t358.length : Int)) = false := decide_eq_false c59
                    clear c59
                    by_cases c67 : (t353.size : Int) = 16
                    · rw [if_pos c67] at H
                      have c67b0 : ((t353.size : Int) == 16) = true := beq_iff_eq.mpr c67
                      have c67b1 : ((t353.size : Int) != 16) = false := bne_eq_false_iff_eq.mpr c67
                      clear c67
                      replace H := Option.bind_eq_some_iff.mp H
                      obtain ⟨⟨t379, t380⟩, A680, H⟩ := H
                      replace H : ((spec_SegmentSize.f k3 6 t366).bind fun bt381 => (if t380 = 0 then (if t379 = bt381.1 then (some (decide (t379 < t366))) else (some false)) else (some false))) = some r := H
                      have A68 := Aside0.mk A680
                      clear A680
                      replace H := Option.bind_eq_some_iff.mp H
                      obtain ⟨⟨t381, t382⟩, A690, H⟩ := H
                      replace H : (if t380 = 0 then (if t379 = t381 then (some (decide (t379 < t366))) else (some false)) else (some false)) = some r := H
                      have A69 := Aside0.mk A690
                      clear A690
                      by_cases c70 : t380 = 0
                      · rw [if_pos c70] at H
                        have c70b0 : (t380 == 0) = true := beq_iff_eq.mpr c70
                        have c70b1 : (t380 != 0) = false := bne_eq_false_iff_eq.mpr c70
                        clear c70
                        by_cases c71 : t379 = t381
                        · rw [if_pos c71] at H
                          have c71b0 : (t379 == t381) = true := beq_iff_eq.mpr c71
                          have c71b1 : (t379 != t381) = false := bne_eq_false_iff_eq.mpr c71
                          clear c71
                          obtain rfl := Option.some.inj H
                          as_aux_lemma =>
                            go_wp2_with (first | (go_at_call 8; (with_reducible refine (impl_SegmentSize.calls k3 6 t366 t379 t380 _ A68.out).mono ?_); rintro e w' ⟨rfl, ⟨nd, rfl⟩⟩; (try first | exact ⟨rfl, _, World.drewN_drewN _ _ _⟩ | exact ⟨rfl, _, Eq.trans (World.drewN_drewN _ _ _) (congrArg (World.drewN _) (Nat.add_assoc _ _ _))⟩)) | (go_at_call 7; (with_reducible refine (spec_SegmentSize.calls k3 6 t366 t381 t382 _ A69.out).mono ?_); rintro e w' ⟨rfl, ⟨nd, rfl⟩⟩; (try first | exact ⟨rfl, _, World.drewN_drewN _ _ _⟩ | exact ⟨rfl, _, Eq.trans (World.drewN_drewN _ _ _) (congrArg (World.drewN _) (Nat.add_assoc _ _ _))⟩)))
                            repeat (go_quiet (first | (go_at_call 8; (with_reducible refine (impl_SegmentSize.calls k3 6 t366 t379 t380 _ A68.out).mono ?_); rintro e w' ⟨rfl, ⟨nd, rfl⟩⟩; (try first | exact ⟨rfl, _, World.drewN_drewN _ _ _⟩ | exact ⟨rfl, _, Eq.trans (World.drewN_drewN _ _ _) (congrArg (World.drewN _) (Nat.add_assoc _ _ _))⟩)) | (go_at_call 7; (with_reducible refine (spec_SegmentSize.calls k3 6 t366 t381 t382 _ A69.out).mono ?_); rintro e w' ⟨rfl, ⟨nd, rfl⟩⟩; (try first | exact ⟨rfl, _, World.drewN_drewN _ _ _⟩ | exact ⟨rfl, _, Eq.trans (World.drewN_drewN _ _ _) (congrArg (World.drewN _) (Nat.add_assoc _ _ _))⟩))); try go_wp2_with (first | (go_at_call 8; (with_reducible refine (impl_SegmentSize.calls k3 6 t366 t379 t380 _ A68.out).mono ?_); rintro e w' ⟨rfl, ⟨nd, rfl⟩⟩; (try first | exact ⟨rfl, _, World.drewN_drewN _ _ _⟩ | exact ⟨rfl, _, Eq.trans (World.drewN_drewN _ _ _) (congrArg (World.drewN _) (Nat.add_assoc _ _ _))⟩)) | (go_at_call 7; (with_reducible refine (spec_SegmentSize.calls k3 6 t366 t381 t382 _ A69.out).mono ?_); rintro e w' ⟨rfl, ⟨nd, rfl⟩⟩; (try first | exact ⟨rfl, _, World.drewN_drewN _ _ _⟩ | exact ⟨rfl, _, Eq.trans (World.drewN_drewN _ _ _) (congrArg (World.drewN _) (Nat.add_assoc _ _ _))⟩))))
                            go_ret
                            exact ⟨by first | rfl | (simp [errW_none, errW_some] <;> rfl) | (simp [*, errW_none, errW_some] <;> rfl), by repeat (first | (with_reducible first | exact HB.out | apply below_alloc | apply pw_below_drewN | apply below_drew1) | exact HB.out)⟩
                        · rw [if_neg c71] at H
                          have c71b0 : (t379 == t381) = false := beq_eq_false_iff_ne.mpr c71
                          have c71b1 : (t379 != t381) = true := bne_iff_ne.mpr c71
                          obtain rfl := Option.some.inj H
                          as_aux_lemma =>
                            go_wp2_with (first | (go_at_call 8; (with_reducible refine (impl_SegmentSize.calls k3 6 t366 t379 t380 _ A68.out).mono ?_); rintro e w' ⟨rfl, ⟨nd, rfl⟩⟩; (try first | exact ⟨rfl, _, World.drewN_drewN _ _ _⟩ | exact ⟨rfl, _, Eq.trans (World.drewN_drewN _ _ _) (congrArg (World.drewN _) (Nat.add_assoc _ _ _))⟩)) | (go_at_call 7; (with_reducible refine (spec_SegmentSize.calls k3 6 t366 t381 t382 _ A69.out).mono ?_); rintro e w' ⟨rfl, ⟨nd, rfl⟩⟩; (try first | exact ⟨rfl, _, World.drewN_drewN _ _ _⟩ | exact ⟨rfl, _, Eq.trans (World.drewN_drewN _ _ _) (congrArg (World.drewN _) (Nat.add_assoc _ _ _))⟩)))
                            repeat (go_quiet (first | (go_at_call 8; (with_reducible refine (impl_SegmentSize.calls k3 6 t366 t379 t380 _ A68.out).mono ?_); rintro e w' ⟨rfl, ⟨nd, rfl⟩⟩; (try first | exact ⟨rfl, _, World.drewN_drewN _ _ _⟩ | exact ⟨rfl, _, Eq.trans (World.drewN_drewN _ _ _) (congrArg (World.drewN _) (Nat.add_assoc _ _ _))⟩)) | (go_at_call 7; (with_reducible refine (spec_SegmentSize.calls k3 6 t366 t381 t382 _ A69.out).mono ?_); rintro e w' ⟨rfl, ⟨nd, rfl⟩⟩; (try first | exact ⟨rfl, _, World.drewN_drewN _ _ _⟩ | exact ⟨rfl, _, Eq.trans (World.drewN_drewN _ _ _) (congrArg (World.drewN _) (Nat.add_assoc _ _ _))⟩))); try go_wp2_with (first | (go_at_call 8; (with_reducible refine (impl_SegmentSize.calls k3 6 t366 t379 t380 _ A68.out).mono ?_); rintro e w' ⟨rfl, ⟨nd, rfl⟩⟩; (try first | exact ⟨rfl, _, World.drewN_drewN _ _ _⟩ | exact ⟨rfl, _, Eq.trans (World.drewN_drewN _ _ _) (congrArg (World.drewN _) (Nat.add_assoc _ _ _))⟩)) | (go_at_call 7; (with_reducible refine (spec_SegmentSize.calls k3 6 t366 t381 t382 _ A69.out).mono ?_); rintro e w' ⟨rfl, ⟨nd, rfl⟩⟩; (try first | exact ⟨rfl, _, World.drewN_drewN _ _ _⟩ | exact ⟨rfl, _, Eq.trans (World.drewN_drewN _ _ _) (congrArg (World.drewN _) (Nat.add_assoc _ _ _))⟩))))
                            go_ret
                            exact ⟨by first | rfl | (simp [errW_none, errW_some] <;> rfl) | (simp [*, errW_none, errW_some] <;> rfl), by repeat (first | (with_reducible first | exact HB.out | apply below_alloc | apply pw_below_drewN | apply below_drew1) | exact HB.out)⟩
                      · rw [if_neg c70] at H
                        have c70b0 : (t380 == 0) = false := beq_eq_false_iff_ne.mpr c70
                        have c70b1 : (t380 != 0) = true := bne_iff_ne.mpr c70
                        obtain rfl := Option.some.inj H
                        as_aux_lemma =>
                          go_wp2_with (first | (go_at_call 8; (with_reducible refine (impl_SegmentSize.calls k3 6 t366 t379 t380 _ A68.out).mono ?_); rintro e w' ⟨rfl, ⟨nd, rfl⟩⟩; (try first | exact ⟨rfl, _, World.drewN_drewN _ _ _⟩ | exact ⟨rfl, _, Eq.trans (World.drewN_drewN _ _ _) (congrArg (World.drewN _) (Nat.add_assoc _ _ _))⟩)) | (go_at_call 7; (with_reducible refine (spec_SegmentSize.calls k3 6 t366 t381 t382 _ A69.out).mono ?_); rintro e w' ⟨rfl, ⟨nd, rfl⟩⟩; (try first | exact ⟨rfl, _, World.drewN_drewN _ _ _⟩ | exact ⟨rfl, _, Eq.trans (World.drewN_drewN _ _ _) (congrArg (World.drewN _) (Nat.add_assoc _ _ _))⟩)))
                          repeat (go_quiet (first | (go_at_call 8; (with_reducible refine (impl_SegmentSize.calls k3 6 t366 t379 t380 _ A68.out).mono ?_); rintro e w' ⟨rfl, ⟨nd, rfl⟩⟩; (try first | exact ⟨rfl, _, World.drewN_drewN _ _ _⟩ | exact ⟨rfl, _, Eq.trans (World.drewN_drewN _ _ _) (congrArg (World.drewN _) (Nat.add_assoc _ _ _))⟩)) | (go_at_call 7; (with_reducible refine (spec_SegmentSize.calls k3 6 t366 t381 t382 _ A69.out).mono ?_); rintro e w' ⟨rfl, ⟨nd, rfl⟩⟩; (try first | exact ⟨rfl, _, World.drewN_drewN _ _ _⟩ | exact ⟨rfl, _, Eq.trans (World.drewN_drewN _ _ _) (congrArg (World.drewN _) (Nat.add_assoc _ _ _))⟩))); try go_wp2_with (first | (go_at_call 8; (with_reducible refine (impl_SegmentSize.calls k3 6 t366 t379 t380 _ A68.out).mono ?_); rintro e w' ⟨rfl, ⟨nd, rfl⟩⟩; (try first | exact ⟨rfl, _, World.drewN_drewN _ _ _⟩ | exact ⟨rfl, _, Eq.trans (World.drewN_drewN _ _ _) (congrArg (World.drewN _) (Nat.add_assoc _ _ _))⟩)) | (go_at_call 7; (with_reducible refine (spec_SegmentSize.calls k3 6 t366 t381 t382 _ A69.out).mono ?_); rintro e w' ⟨rfl, ⟨nd, rfl⟩⟩; (try first | exact ⟨rfl, _, World.drewN_drewN _ _ _⟩ | exact ⟨rfl, _, Eq.trans (World.drewN_drewN _ _ _) (congrArg (World.drewN _) (Nat.add_assoc _ _ _))⟩))))
                          go_ret
                          exact ⟨by first | rfl | (simp [errW_none, errW_some] <;> rfl) | (simp [*, errW_none, errW_some] <;> rfl), by repeat (first | (with_reducible first | exact HB.out | apply below_alloc | apply pw_below_drewN | apply below_drew1) | exact HB.out)⟩
                    · rw [if_neg c67] at H
                      have c67b0 : ((t353.size : Int) == 16) = false := beq_eq_false_iff_ne.mpr c67
                      have c67b1 : ((t353.size : Int) != 16) = true := bne_iff_ne.mpr c67
                      replace H := Option.bind_eq_some_iff.mp H
                      obtain ⟨⟨t383, t384⟩, A720, H⟩ := H
                      replace H : ((spec_SegmentSize.f k3 4 t366).bind fun bt385 => (if t384 = 0 then (if t383 = bt385.1 then (some (decide (t383 < t366))) else (some false)) else (some false))) = some r := H
                      have A72 := Aside0.mk A720
                      clear A720
                      replace H := Option.bind_eq_some_iff.mp H
                      obtain ⟨⟨t385, t386⟩, A730, H⟩ := H
                      replace H : (if t384 = 0 then (if t383 = t385 then (some (decide (t383 < t366))) else (some false)) else (some false)) = some r := H
                      have A73 := Aside0.mk A730
                      clear A730
                      by_cases c74 : t384 = 0
                      · rw [if_pos c74] at H
                        have c74b0 : (t384 == 0) = true := beq_iff_eq.mpr c74
                        have c74b1 : (t384 != 0) = false := bne_eq_false_iff_eq.mpr c74
                        clear c74
                        by_cases c75 : t383 = t385
                        · rw [if_pos c75] at H
                          have c75b0 : (t383 == t385) = true := beq_iff_eq.mpr c75
                          have c75b1 : (t383 != t385) = false := bne_eq_false_iff_eq.mpr c75
                          clear c75
                          obtain rfl := Option.some.inj H
                          as_aux_lemma =>
                            go_wp2_with (first | (go_at_call 8; (with_reducible refine (impl_SegmentSize.calls k3 4 t366 t383 t384 _ A72.out).mono ?_); rintro e w' ⟨rfl, ⟨nd, rfl⟩⟩; (try first | exact ⟨rfl, _, World.drewN_drewN _ _ _⟩ | exact ⟨rfl, _, Eq.trans (World.drewN_drewN _ _ _) (congrArg (World.drewN _) (Nat.add_assoc _ _ _))⟩)) | (go_at_call 7; (with_reducible refine (spec_SegmentSize.calls k3 4 t366 t385 t386 _ A73.out).mono ?_); rintro e w' ⟨rfl, ⟨nd, rfl⟩⟩; (try first | exact ⟨rfl, _, World.drewN_drewN _ _ _⟩ | exact ⟨rfl, _, Eq.trans (World.drewN_drewN _ _ _) (congrArg (World.drewN _) (Nat.add_assoc _ _ _))⟩)))
                            repeat (go_quiet (first | (go_at_call 8; (with_reducible refine (impl_SegmentSize.calls k3 4 t366 t383 t384 _ A72.out).mono ?_); rintro e w' ⟨rfl, ⟨nd, rfl⟩⟩; (try first | exact ⟨rfl, _, World.drewN_drewN _ _ _⟩ | exact ⟨rfl, _, Eq.trans (World.drewN_drewN _ _ _) (congrArg (World.drewN _) (Nat.add_assoc _ _ _))⟩)) | (go_at_call 7; (with_reducible refine (spec_SegmentSize.calls k3 4 t366 t385 t386 _ A73.out).mono ?_); rintro e w' ⟨rfl, ⟨nd, rfl⟩⟩; (try first | exact ⟨rfl, _, World.drewN_drewN _ _ _⟩ | exact ⟨rfl, _, Eq.trans (World.drewN_drewN _ _ _) (congrArg (World.drewN _) (Nat.add_assoc _ _ _))⟩))); try go_wp2_with (first | (go_at_call 8; (with_reducible refine (impl_SegmentSize.calls k3 4 t366 t383 t384 _ A72.out).mono ?_); rintro e w' ⟨rfl, ⟨nd, rfl⟩⟩; (try first | exact ⟨rfl, _, World.drewN_drewN _ _ _⟩ | exact ⟨rfl, _, Eq.trans (World.drewN_drewN _ _ _) (congrArg (World.drewN _) (Nat.add_assoc _ _ _))⟩)) | (go_at_call 7; (with_reducible refine (spec_SegmentSize.calls k3 4 t366 t385 t386 _ A73.out).mono ?_); rintro e w' ⟨rfl, ⟨nd, rfl⟩⟩; (try first | exact ⟨rfl, _, World.drewN_drewN _ _ _⟩ | exact ⟨rfl, _, Eq.trans (World.drewN_drewN _ _ _) (congrArg (World.drewN _) (Nat.add_assoc _ _ _))⟩))))
                            go_ret
                            exact ⟨by first | rfl | (simp [errW_none, errW_some] <;> rfl) | (simp [*, errW_none, errW_some] <;> rfl), by repeat (first | (with_reducible first | exact HB.out | apply below_alloc | apply pw_below_drewN | apply below_drew1) | exact HB.out)⟩
                        · rw [if_neg c75] at H
                          have c75b0 : (t383 == t385) = false := beq_eq_false_iff_ne.mpr c75
                          have c75b1 : (t383 != t385) = true := bne_iff_ne.mpr c75
                          obtain rfl := Option.some.inj H
                          as_aux_lemma =>
                            go_wp2_with (first | (go_at_call 8; (with_reducible refine (impl_SegmentSize.calls k3 4 t366 t383 t384 _ A72.out).mono ?_); rintro e w' ⟨rfl, ⟨nd, rfl⟩⟩; (try first | exact ⟨rfl, _, World.drewN_drewN _ _ _⟩ | exact ⟨rfl, _, Eq.trans (World.drewN_drewN _ _ _) (congrArg (World.drewN _) (Nat.add_assoc _ _ _))⟩)) | (go_at_call 7; (with_reducible refine (spec_SegmentSize.calls k3 4 t366 t385 t386 _ A73.out).mono ?_); rintro e w' ⟨rfl, ⟨nd, rfl⟩⟩; (try first | exact ⟨rfl, _, World.drewN_drewN _ _ _⟩ | exact ⟨rfl, _, Eq.trans (World.drewN_drewN _ _ _) (congrArg (World.drewN _) (Nat.add_assoc _ _ _))⟩)))
                            repeat (go_quiet (first | (go_at_call 8; (with_reducible refine (impl_SegmentSize.calls k3 4 t366 t383 t384 _ A72.out).mono ?_); rintro e w' ⟨rfl, ⟨nd, rfl⟩⟩; (try first | exact ⟨rfl, _, World.drewN_drewN _ _ _⟩ | exact ⟨rfl, _, Eq.trans (World.drewN_drewN _ _ _) (congrArg (World.drewN _) (Nat.add_assoc _ _ _))⟩)) | (go_at_call 7; (with_reducible refine (spec_SegmentSize.calls k3 4 t366 t385 t386 _ A73.out).mono ?_); rintro e w' ⟨rfl, ⟨nd, rfl⟩⟩; (try first | exact ⟨rfl, _, World.drewN_drewN _ _ _⟩ | exact ⟨rfl, _, Eq.trans (World.drewN_drewN _ _ _) (congrArg (World.drewN _) (Nat.add_assoc _ _ _))⟩))); try go_wp2_with (first | (go_at_call 8; (with_reducible refine (impl_SegmentSize.calls k3 4 t366 t383 t384 _ A72.out).mono ?_); rintro e w' ⟨rfl, ⟨nd, rfl⟩⟩; (try first | exact ⟨rfl, _, World.drewN_drewN _ _ _⟩ | exact ⟨rfl, _, Eq.trans (World.drewN_drewN _ _ _) (congrArg (World.drewN _) (Nat.add_assoc _ _ _))⟩)) | (go_at_call 7; (with_reducible refine (spec_SegmentSize.calls k3 4 t366 t385 t386 _ A73.out).mono ?_); rintro e w' ⟨rfl, ⟨nd, rfl⟩⟩; (try first | exact ⟨rfl, _, World.drewN_drewN _ _ _⟩ | exact ⟨rfl, _, Eq.trans (World.drewN_drewN _ _ _) (congrArg (World.drewN _) (Nat.add_assoc _ _ _))⟩))))
                            go_ret
                            exact ⟨by first | rfl | (simp [errW_none, errW_some] <;> rfl) | (simp [*, errW_none, errW_some] <;> rfl), by repeat (first | (with_reducible first | exact HB.out | apply below_alloc | apply pw_below_drewN | apply below_drew1) | exact HB.out)⟩
                      · rw [if_neg c74] at H
                        have c74b0 : (t384 == 0) = false := beq_eq_false_iff_ne.mpr c74
                        have c74b1 : (t384 != 0) = true := bne_iff_ne.mpr c74
                        obtain rfl := Option.some.inj H
                        as_aux_lemma =>
                          go_wp2_with (first | (go_at_call 8; (with_reducible refine (impl_SegmentSize.calls k3 4 t366 t383 t384 _ A72.out).mono ?_); rintro e w' ⟨rfl, ⟨nd, rfl⟩⟩; (try first | exact ⟨rfl, _, World.drewN_drewN _ _ _⟩ | exact ⟨rfl, _, Eq.trans (World.drewN_drewN _ _ _) (congrArg (World.drewN _) (Nat.add_assoc _ _ _))⟩)) | (go_at_call 7; (with_reducible refine (spec_SegmentSize.calls k3 4 t366 t385 t386 _ A73.out).mono ?_); rintro e w' ⟨rfl, ⟨nd, rfl⟩⟩; (try first | exact ⟨rfl, _, World.drewN_drewN _ _ _⟩ | exact ⟨rfl, _, Eq.trans (World.drewN_drewN _ _ _) (congrArg (World.drewN _) (Nat.add_assoc _ _ _))⟩)))
                          repeat (go_quiet (first | (go_at_call 8; (with_reducible refine (impl_SegmentSize.calls k3 4 t366 t383 t384 _ A72.out).mono ?_); rintro e w' ⟨rfl, ⟨nd, rfl⟩⟩; (try first | exact ⟨rfl, _, World.drewN_drewN _ _ _⟩ | exact ⟨rfl, _, Eq.trans (World.drewN_drewN _ _ _) (congrArg (World.drewN _) (Nat.add_assoc _ _ _))⟩)) | (go_at_call 7; (with_reducible refine (spec_SegmentSize.calls k3 4 t366 t385 t386 _ A73.out).mono ?_); rintro e w' ⟨rfl, ⟨nd, rfl⟩⟩; (try first | exact ⟨rfl, _, World.drewN_drewN _ _ _⟩ | exact ⟨rfl, _, Eq.trans (World.drewN_drewN _ _ _) (congrArg (World.drewN _) (Nat.add_assoc _ _ _))⟩))); try go_wp2_with (first | (go_at_call 8; (with_reducible refine (impl_SegmentSize.calls k3 4 t366 t383 t384 _ A72.out).mono ?_); rintro e w' ⟨rfl, ⟨nd, rfl⟩⟩; (try first | exact ⟨rfl, _, World.drewN_drewN _ _ _⟩ | exact ⟨rfl, _, Eq.trans (World.drewN_drewN _ _ _) (congrArg (World.drewN _) (Nat.add_assoc _ _ _))⟩)) | (go_at_call 7; (with_reducible refine (spec_SegmentSize.calls k3 4 t366 t385 t386 _ A73.out).mono ?_); rintro e w' ⟨rfl, ⟨nd, rfl⟩⟩; (try first | exact ⟨rfl, _, World.drewN_drewN _ _ _⟩ | exact ⟨rfl, _, Eq.trans (World.drewN_drewN _ _ _) (congrArg (World.drewN _) (Nat.add_assoc _ _ _))⟩))))
                          go_ret
                          exact ⟨by first | rfl | (simp [errW_none, errW_some] <;> rfl) | (simp [*, errW_none, errW_some] <;> rfl), by repeat (first | (with_reducible first | exact HB.out | apply below_alloc | apply pw_below_drewN | apply below_drew1) | exact HB.out)⟩
  
/-- THE ONE PURE STATEMENT of laws_FnPaths: yours. -/
def laws_FnPaths.Pure : Prop := ∀ (l0 : List Int) (l1 : List Int), l0.length ≤ maxLen → l0.length * 1 ≤ 140737488351232 → (∀ x ∈ l0, (Lit.int .u8 x).wf = true) → l1.length ≤ maxLen → l1.length * 1 ≤ 140737488351232 → (∀ x ∈ l1, (Lit.int .u8 x).wf = true) → ∃ k, laws_FnPaths.f k l0 l1 = some true
theorem laws_FnPaths.walk (P : laws_FnPaths.Pure) (a0 : Option Addr) (len0 cap0 : Nat) (z0 : List Int) (a1 : Option Addr) (len1 cap1 : Nat) (z1 : List Int) (w : World) (w0 : (a0 = none ∧ len0 = 0 ∧ cap0 = 0 ∧ z0 = []) ∨ ∃ x, a0 = some x ∧ len0 ≤ cap0 ∧ cap0 ≤ maxLen ∧ z0.length = cap0 ∧ (∀ i, i < z0.length → w.cell? (x.add i) = some (.int .u8 (z0.getD i 0))) ∧ ∀ n ∈ z0, (Lit.int .u8 n).wf = true) (y0 : len0 * 1 ≤ 140737488351232) (w1 : (a1 = none ∧ len1 = 0 ∧ cap1 = 0 ∧ z1 = []) ∨ ∃ x, a1 = some x ∧ len1 ≤ cap1 ∧ cap1 ≤ maxLen ∧ z1.length = cap1 ∧ (∀ i, i < z1.length → w.cell? (x.add i) = some (.int .u8 (z1.getD i 0))) ∧ ∀ n ∈ z1, (Lit.int .u8 n).wf = true) (y1 : len1 * 1 ≤ 140737488351232) :
    Calls Try.prog 6 #[.slice a0 len0 cap0, .slice a1 len1 cap1] w fun e w' => e = .returned (.bool true) ∧ Below w.heap.size w w' := by
  obtain ⟨l0, rfl, hr0, hm0, hw0, hc0⟩ := ReadsInt.ofRowC w0
  obtain ⟨l1, rfl, hr1, hm1, hw1, hc1⟩ := ReadsInt.ofRowC w1
  obtain ⟨k, h⟩ := P l0 l1 hm0 y0 hw0 hm1 y1 hw1
  refine (laws_FnPaths.calls k _ _ l0 _ _ l1 true w (Kd.C_of_reads (d := (0 : Int)) (h1 := fun _ => rfl) hr0) hc0 (Kd.C_of_reads (d := (0 : Int)) (h1 := fun _ => rfl) hr1) hc1 h).mono ?_
  rintro e w' ⟨rfl, hd⟩
  exact ⟨rfl, hd⟩

end Go.Proofs.Ytgbkpledbjkjoaa.PFnPaths
