-- OWN TEXT of FnRto: made by own_print.sh, finished by hand
import Derived.Test.YtjaheohpgnegoaaGFnRtox0
import Derived.Test.YtjaheohpgnegoaaGFnRtox1
import Derived.Test.YtjaheohpgnegoaaGFnRtox2
import Derived.Test.YtjaheohpgnegoaaGFnRtox5
namespace Go.Proofs.Ytjaheohpgnegoaa.PFnRto
open Go.RowKit Go.Proofs.YtjaheohpgnegoaaW.PrintWords Go.Proofs.YtjaheohpgnegoaaW.PrintLast Go.Proofs.YtjaheohpgnegoaaW.PrintMore
attribute [local go_sem] max2_int min2_int max_two min_two max_three min_three max_four min_four   -- for this text's walks alone
set_option linter.unusedVariables false
set_option linter.unusedSimpArgs false

attribute [local go_sem high] eqA25
/-! ### laws_FnRto: function 8 -/
mutual
def laws_FnRto.j0 : Nat → List Int → List Int → Bool → Option (Bool)
  | 0, _, _, _ => none
  | k + 1, x0, x1, x27 => if x27 = true then (some true) else ((spec_TimingOf.f k x0).bind fun bt188 => ((impl_Rto.f bt188.1 bt188.2.1 bt188.2.2.1 bt188.2.2.2).bind fun bt193 => ((spec_Rto.f bt188.1 bt188.2.1 bt188.2.2.1 bt188.2.2.2).bind fun bt195 => ((laws_at.f x1 0 5000).bind fun t197 => ((impl_Sample.f bt188.1 bt188.2.1 bt188.2.2.1 bt188.2.2.2 t197 true).bind fun bt198 => ((laws_at.f x1 0 5000).bind fun t204 => ((impl_Sample.f bt188.1 bt188.2.1 bt188.2.2.1 bt188.2.2.2 t204 false).bind fun bt205 => ((laws_at.f x1 0 5000).bind fun t211 => ((spec_Sample.f bt188.1 bt188.2.1 bt188.2.2.1 bt188.2.2.2 t211 false).bind fun bt212 => ((impl_BackOff.f bt188.1 bt188.2.1 bt188.2.2.1 bt188.2.2.2).bind fun bt218 => ((impl_Rto.f bt218.1 bt218.2.1 bt218.2.2.1 bt218.2.2.2.1).bind fun bt224 => (if bt193.2 = 0 then (if bt198.2.2.2.2 = 0 then (if bt205.2.2.2.2 = 0 then (if bt218.2.2.2.2 = 0 then (if bt224.2 = 0 then (if bt193.1 = bt195.1 then (if (!(bt198.1 == bt188.1) || (!(bt198.2.1 == bt188.2.1) || (!(bt198.2.2.1 == bt188.2.2.1) || (!(bt198.2.2.2.1 == bt188.2.2.2))))) = true then (laws_FnRto.j1 k bt193.1 bt224.1 true bt188.1 bt188.2.1 bt188.2.2.1 bt188.2.2.2 bt218.1 bt218.2.1 bt218.2.2.1 bt218.2.2.2.1) else (if (!(bt205.1 == bt212.1) || (!(bt205.2.1 == bt212.2.1) || (!(bt205.2.2.1 == bt212.2.2.1) || (!(bt205.2.2.2.1 == bt212.2.2.2.1))))) = true then (laws_FnRto.j1 k bt193.1 bt224.1 true bt188.1 bt188.2.1 bt188.2.2.1 bt188.2.2.2 bt218.1 bt218.2.1 bt218.2.2.1 bt218.2.2.2.1) else ((impl_TimingOK.f bt205.1 bt205.2.1 bt205.2.2.1 bt205.2.2.2.1).bind fun t226 => (if t226 = true then (if bt205.2.2.2.1 = 0 then (laws_FnRto.j1 k bt193.1 bt224.1 false bt188.1 bt188.2.1 bt188.2.2.1 bt188.2.2.2 bt218.1 bt218.2.1 bt218.2.2.1 bt218.2.2.2.1) else (laws_FnRto.j1 k bt193.1 bt224.1 bt188.1 bt188.1 bt188.2.1 bt188.2.2.1 bt188.2.2.2 bt218.1 bt218.2.1 bt218.2.2.1 bt218.2.2.2.1)) else (laws_FnRto.j1 k bt193.1 bt224.1 true bt188.1 bt188.2.1 bt188.2.2.1 bt188.2.2.2 bt218.1 bt218.2.1 bt218.2.2.1 bt218.2.2.2.1))))) else (laws_FnRto.j1 k bt193.1 bt224.1 true bt188.1 bt188.2.1 bt188.2.2.1 bt188.2.2.2 bt218.1 bt218.2.1 bt218.2.2.1 bt218.2.2.2.1)) else (laws_FnRto.j1 k bt193.1 bt224.1 true bt188.1 bt188.2.1 bt188.2.2.1 bt188.2.2.2 bt218.1 bt218.2.1 bt218.2.2.1 bt218.2.2.2.1)) else (laws_FnRto.j1 k bt193.1 bt224.1 true bt188.1 bt188.2.1 bt188.2.2.1 bt188.2.2.2 bt218.1 bt218.2.1 bt218.2.2.1 bt218.2.2.2.1)) else (laws_FnRto.j1 k bt193.1 bt224.1 true bt188.1 bt188.2.1 bt188.2.2.1 bt188.2.2.2 bt218.1 bt218.2.1 bt218.2.2.1 bt218.2.2.2.1)) else (laws_FnRto.j1 k bt193.1 bt224.1 true bt188.1 bt188.2.1 bt188.2.2.1 bt188.2.2.2 bt218.1 bt218.2.1 bt218.2.2.1 bt218.2.2.2.1)) else (laws_FnRto.j1 k bt193.1 bt224.1 true bt188.1 bt188.2.1 bt188.2.2.1 bt188.2.2.2 bt218.1 bt218.2.1 bt218.2.2.1 bt218.2.2.2.1)))))))))))))
def laws_FnRto.j1 : Nat → Int → Int → Bool → Bool → Int → Int → Int → Bool → Int → Int → Int → Option (Bool)
  | 0, _, _, _, _, _, _, _, _, _, _, _ => none
  | k + 1, x6, x18, x117, x193000, x193001, x193002, x193003, x224000, x224001, x224002, x224003 => if x117 = true then (some false) else (if x6 < 200 then (some false) else (if x6 > 60000 then (some false) else (if x6 < (wrap64 (Int.tdiv x193001 8)) then (if x6 < 60000 then (some false) else (if x224003 = x193003 then (some true) else (some (x18 == (mn 60000 (wrap64 (2 * x6))))))) else (if x224003 = x193003 then (some true) else (some (x18 == (mn 60000 (wrap64 (2 * x6)))))))))
end
def laws_FnRto.f (k : Nat) (l0 : List Int) (l1 : List Int) : Option (Bool) := if (l0.length : Int) > 1048576 then (laws_FnRto.j0 k l0 l1 true) else (laws_FnRto.j0 k l0 l1 (decide ((l1.length : Int) > 1048576)))
theorem laws_FnRto.mono_l : ∀ k, (∀ y0 y1 y2, LeO (laws_FnRto.j0 k y0 y1 y2) (laws_FnRto.j0 (k + 1) y0 y1 y2)) ∧ (∀ y0 y1 y2 y3 y4 y5 y6 y7 y8 y9 y10, LeO (laws_FnRto.j1 k y0 y1 y2 y3 y4 y5 y6 y7 y8 y9 y10) (laws_FnRto.j1 (k + 1) y0 y1 y2 y3 y4 y5 y6 y7 y8 y9 y10))
  | 0 => ⟨fun _ _ _ r h => by simp [laws_FnRto.j0] at h, fun _ _ _ _ _ _ _ _ _ _ _ r h => by simp [laws_FnRto.j1] at h⟩
  | k + 1 => by
    obtain ⟨ih0, ih1⟩ := laws_FnRto.mono_l k
    refine ⟨?_, ?_⟩
    · intro y0 y1 y2
      unfold laws_FnRto.j0
      repeat' first
      | (with_reducible exact ih0 _ _ _)
      | (with_reducible exact ih1 _ _ _ _ _ _ _ _ _ _ _)
      | (with_reducible exact spec_TimingOf.mono _ _)
      | (with_reducible exact LeO.refl _)
      | (with_reducible exact LeO.none _)
      | (with_reducible refine LeO.ite ?_ ?_)
      | (with_reducible refine LeO.bind ?_ (fun _ => ?_))
      | exact ih0 _ _ _
      | exact ih1 _ _ _ _ _ _ _ _ _ _ _
      | exact spec_TimingOf.mono _ _
      | exact LeO.none _
      | refine LeO.ite ?_ ?_
      | refine LeO.bind ?_ (fun _ => ?_)
    · intro y0 y1 y2 y3 y4 y5 y6 y7 y8 y9 y10
      unfold laws_FnRto.j1
      repeat' first
      | (with_reducible exact ih0 _ _ _)
      | (with_reducible exact ih1 _ _ _ _ _ _ _ _ _ _ _)
      | (with_reducible exact spec_TimingOf.mono _ _)
      | (with_reducible exact LeO.refl _)
      | (with_reducible exact LeO.none _)
      | (with_reducible refine LeO.ite ?_ ?_)
      | (with_reducible refine LeO.bind ?_ (fun _ => ?_))
      | exact ih0 _ _ _
      | exact ih1 _ _ _ _ _ _ _ _ _ _ _
      | exact spec_TimingOf.mono _ _
      | exact LeO.none _
      | refine LeO.ite ?_ ?_
      | refine LeO.bind ?_ (fun _ => ?_)
theorem laws_FnRto.mono : ∀ a0 a1 k, LeO (laws_FnRto.f k a0 a1) (laws_FnRto.f (k + 1) a0 a1) := by
  intro a0 a1 k
  obtain ⟨ih0, ih1⟩ := laws_FnRto.mono_l k
  unfold laws_FnRto.f
  repeat' first
      | (with_reducible exact ih0 _ _ _)
      | (with_reducible exact ih1 _ _ _ _ _ _ _ _ _ _ _)
      | (with_reducible exact spec_TimingOf.mono _ _)
      | (with_reducible exact LeO.refl _)
      | (with_reducible exact LeO.none _)
      | (with_reducible refine LeO.ite ?_ ?_)
      | (with_reducible refine LeO.bind ?_ (fun _ => ?_))
      | exact ih0 _ _ _
      | exact ih1 _ _ _ _ _ _ _ _ _ _ _
      | exact spec_TimingOf.mono _ _
      | exact LeO.none _
      | refine LeO.ite ?_ ?_
      | refine LeO.bind ?_ (fun _ => ?_)
def laws_FnRto.T6 : Bool × List (List Nat × List Nat) := (true, [([], []), ([], []), ([1], [1]), ([0, 2, 2], [0, 2]), ([3], [3]), ([4], [4]), ([4], [4]), ([], []), ([7, 5, 3, 0, 1, 2, 3, 4, 5, 7], [5, 7]), ([6, 8, 0, 1, 2, 3, 4, 5, 6, 7, 8], [6])])
def laws_FnRto.B6 : List Nat := [0, 0, 2, 7, 15, 31, 31, 0, 191, 511]
theorem laws_FnRto.tab6 : rtab .any (opsOf Try.f8 6) = laws_FnRto.T6 := by kernel_rfl
theorem laws_FnRto.bits6 : waitsOk laws_FnRto.T6.2 laws_FnRto.B6 = true := by kernel_rfl
def laws_FnRto.T7 : Bool × List (List Nat × List Nat) := (true, [([], []), ([], []), ([1], [1]), ([0, 2, 2], [0, 2]), ([3], [3]), ([4], [4]), ([4], [4]), ([], []), ([7, 5, 3, 0, 1, 2, 3, 4, 5, 7], [5, 7]), ([6, 8, 0, 1, 2, 3, 4, 5, 6, 7, 8], [6])])
def laws_FnRto.B7 : List Nat := [0, 0, 2, 7, 15, 31, 31, 0, 191, 511]
theorem laws_FnRto.tab7 : rtab .any (opsOf Try.f8 7) = laws_FnRto.T7 := by kernel_rfl
theorem laws_FnRto.bits7 : waitsOk laws_FnRto.T7.2 laws_FnRto.B7 = true := by kernel_rfl
def laws_FnRto.T8 : Bool × List (List Nat × List Nat) := (true, [([], []), ([], []), ([1], [1]), ([0, 2, 2], [0, 2]), ([3], [3]), ([4], [4]), ([4], [4]), ([], []), ([7, 5, 3, 0, 1, 2, 3, 4, 5, 7], [5, 7]), ([6, 8, 0, 1, 2, 3, 4, 5, 6, 7, 8], [6])])
def laws_FnRto.B8 : List Nat := [0, 0, 2, 7, 15, 31, 31, 0, 191, 511]
theorem laws_FnRto.tab8 : rtab .any (opsOf Try.f8 8) = laws_FnRto.T8 := by kernel_rfl
theorem laws_FnRto.bits8 : waitsOk laws_FnRto.T8.2 laws_FnRto.B8 = true := by kernel_rfl
set_option maxHeartbeats 8000000 in
set_option maxRecDepth 100000 in
theorem laws_FnRto.calls (k : Nat) (A0 : Option Addr) (c0 : Nat) (l0 : List Int) (A1 : Option Addr) (c1 : Nat) (l1 : List Int) (r : Bool) (w : World) (hr0 : Kd.C (Kd.int .u8) w A0 l0.length l0) (hc0 : l0.length ≤ c0) (hr1 : Kd.C (Kd.int .u8) w A1 l1.length l1) (hc1 : l1.length ≤ c1) (h : laws_FnRto.f k l0 l1 = some r) :
    Calls Try.prog 8 #[.slice A0 l0.length c0, .slice A1 l1.length c1] w fun e w' => e = .returned (.bool r) ∧ Below w.heap.size w w' := by
  have hu25 := Try.underlying25
  have HR0 := Aside0.mk hr0
  have HC0 := Aside0.mk hc0
  clear hr0 hc0
  have HR1 := Aside0.mk hr1
  have HC1 := Aside0.mk hc1
  clear hr1 hc1
  have HB := Aside0.mk (Below.refl w.heap.size w)
  have H : (if (l0.length : Int) > 1048576 then (laws_FnRto.j0 k l0 l1 true) else (laws_FnRto.j0 k l0 l1 (decide ((l1.length : Int) > 1048576)))) = some r := h
  clear h
  have HC3 := Aside0.mk H
  clear H
  go_enter Try.func8, Try.ntmps8
  go_upto_region 1 with (fail)
  go_cut [27] (fun v27 wc => ∃ (kq : Nat) (x27_2 : Bool), v27 = .bool x27_2 ∧ Aside0 (laws_FnRto.j0 kq l0 l1 x27_2 = some r) ∧ Aside0 (kq ≤ k) ∧ Aside0 (Below w.heap.size w wc))
  case first =>
    have H := HC3.out
    clear HC3
    by_cases c4 : (l0.length : Int) > 1048576
    · rw [if_pos c4] at H
      have c4b0 : decide (1048576 < (l0.length : Int)) = true := decide_eq_true c4
      have c4b1 : decide (1048576 < l0.length) = true := decide_eq_true (by omega)
      clear c4
      (first | rw [c4b0] | (simp only [i64_w, i32_w]; rw [c4b0]) | skip)
      have H' := Aside0.mk H
      clear H
      go_wp2
      go_meet
      case rel => exact ⟨_, (true), (by first | rfl | (simp; done) | (simp [*]; done)), H', ⟨by first | omega | exact Nat.le_refl _⟩, ⟨by repeat (first | (with_reducible first | exact HB.out | apply below_alloc | apply pw_below_drewN | apply below_drew1) | exact HB.out)⟩⟩
    · rw [if_neg c4] at H
      have c4b0 : decide (1048576 < (l0.length : Int)) = false := decide_eq_false c4
      have c4b1 : decide (1048576 < l0.length) = false := decide_eq_false (by omega)
      clear c4
      (first | rw [c4b0] | (simp only [i64_w, i32_w]; rw [c4b0]) | skip)
      have H' := Aside0.mk H
      clear H
      go_wp2
      go_meet
      case rel => exact ⟨_, (decide ((l1.length : Int) > 1048576)), (by first | rfl | (simp; done) | (simp [*]; done)), H', ⟨by first | omega | exact Nat.le_refl _⟩, ⟨by repeat (first | (with_reducible first | exact HB.out | apply below_alloc | apply pw_below_drewN | apply below_drew1) | exact HB.out)⟩⟩
  case rest =>
    clear HC3
    try clear c1
    try clear p2
    try clear c4
    try clear c4b0
    try clear c4b1
    obtain ⟨kq, x27_2, rfl, HA, HJ2, HB⟩ := hcut
    cases kq with
    | zero => exact absurd HA.out (by simp [laws_FnRto.j0])
    | succ kj2 =>
      have H := HA.out
      clear HA
      simp only [laws_FnRto.j0] at H
      by_cases c5 : x27_2 = true
      · subst c5
        have H1 : (some true) = some r := by rw [if_pos rfl] at H; exact H
        clear H
        have H := H1
        clear H1
        obtain rfl := Option.some.inj H
        go_wp2
        go_ret
        exact ⟨by first | rfl | (simp [errW_none, errW_some] <;> rfl) | (simp [*, errW_none, errW_some] <;> rfl), by repeat (first | (with_reducible first | exact HB.out | apply below_alloc | apply pw_below_drewN | apply below_drew1) | exact HB.out)⟩
      · replace c5 := Bool.eq_false_iff.mpr c5
        subst c5
        have H1 : ((spec_TimingOf.f kj2 l0).bind fun bt188 => ((impl_Rto.f bt188.1 bt188.2.1 bt188.2.2.1 bt188.2.2.2).bind fun bt193 => ((spec_Rto.f bt188.1 bt188.2.1 bt188.2.2.1 bt188.2.2.2).bind fun bt195 => ((laws_at.f l1 0 5000).bind fun t197 => ((impl_Sample.f bt188.1 bt188.2.1 bt188.2.2.1 bt188.2.2.2 t197 true).bind fun bt198 => ((laws_at.f l1 0 5000).bind fun t204 => ((impl_Sample.f bt188.1 bt188.2.1 bt188.2.2.1 bt188.2.2.2 t204 false).bind fun bt205 => ((laws_at.f l1 0 5000).bind fun t211 => ((spec_Sample.f bt188.1 bt188.2.1 bt188.2.2.1 bt188.2.2.2 t211 false).bind fun bt212 => ((impl_BackOff.f bt188.1 bt188.2.1 bt188.2.2.1 bt188.2.2.2).bind fun bt218 => ((impl_Rto.f bt218.1 bt218.2.1 bt218.2.2.1 bt218.2.2.2.1).bind fun bt224 => (if bt193.2 = 0 then (if bt198.2.2.2.2 = 0 then (if bt205.2.2.2.2 = 0 then (if bt218.2.2.2.2 = 0 then (if bt224.2 = 0 then (if bt193.1 = bt195.1 then (if (!(bt198.1 == bt188.1) || (!(bt198.2.1 == bt188.2.1) || (!(bt198.2.2.1 == bt188.2.2.1) || (!(bt198.2.2.2.1 == bt188.2.2.2))))) = true then (laws_FnRto.j1 kj2 bt193.1 bt224.1 true bt188.1 bt188.2.1 bt188.2.2.1 bt188.2.2.2 bt218.1 bt218.2.1 bt218.2.2.1 bt218.2.2.2.1) else (if (!(bt205.1 == bt212.1) || (!(bt205.2.1 == bt212.2.1) || (!(bt205.2.2.1 == bt212.2.2.1) || (!(bt205.2.2.2.1 == bt212.2.2.2.1))))) = true then (laws_FnRto.j1 kj2 bt193.1 bt224.1 true bt188.1 bt188.2.1 bt188.2.2.1 bt188.2.2.2 bt218.1 bt218.2.1 bt218.2.2.1 bt218.2.2.2.1) else ((impl_TimingOK.f bt205.1 bt205.2.1 bt205.2.2.1 bt205.2.2.2.1).bind fun t226 => (if t226 = true then (if bt205.2.2.2.1 = 0 then (laws_FnRto.j1 kj2 bt193.1 bt224.1 false bt188.1 bt188.2.1 bt188.2.2.1 bt188.2.2.2 bt218.1 bt218.2.1 bt218.2.2.1 bt218.2.2.2.1) else (laws_FnRto.j1 kj2 bt193.1 bt224.1 bt188.1 bt188.1 bt188.2.1 bt188.2.2.1 bt188.2.2.2 bt218.1 bt218.2.1 bt218.2.2.1 bt218.2.2.2.1)) else (laws_FnRto.j1 kj2 bt193.1 bt224.1 true bt188.1 bt188.2.1 bt188.2.2.1 bt188.2.2.2 bt218.1 bt218.2.1 bt218.2.2.1 bt218.2.2.2.1))))) else (laws_FnRto.j1 kj2 bt193.1 bt224.1 true bt188.1 bt188.2.1 bt188.2.2.1 bt188.2.2.2 bt218.1 bt218.2.1 bt218.2.2.1 bt218.2.2.2.1)) else (laws_FnRto.j1 kj2 bt193.1 bt224.1 true bt188.1 bt188.2.1 bt188.2.2.1 bt188.2.2.2 bt218.1 bt218.2.1 bt218.2.2.1 bt218.2.2.2.1)) else (laws_FnRto.j1 kj2 bt193.1 bt224.1 true bt188.1 bt188.2.1 bt188.2.2.1 bt188.2.2.2 bt218.1 bt218.2.1 bt218.2.2.1 bt218.2.2.2.1)) else (laws_FnRto.j1 kj2 bt193.1 bt224.1 true bt188.1 bt188.2.1 bt188.2.2.1 bt188.2.2.2 bt218.1 bt218.2.1 bt218.2.2.1 bt218.2.2.2.1)) else (laws_FnRto.j1 kj2 bt193.1 bt224.1 true bt188.1 bt188.2.1 bt188.2.2.1 bt188.2.2.2 bt218.1 bt218.2.1 bt218.2.2.1 bt218.2.2.2.1)) else (laws_FnRto.j1 kj2 bt193.1 bt224.1 true bt188.1 bt188.2.1 bt188.2.2.1 bt188.2.2.2 bt218.1 bt218.2.1 bt218.2.2.1 bt218.2.2.2.1))))))))))))) = some r := by rw [if_neg (show ¬ (false = true) by decide)] at H; exact H
        clear H
        have H := H1
        clear H1
        replace H := Option.bind_eq_some_iff.mp H
        obtain ⟨⟨t188, t189, t190, t191⟩, A60, H⟩ := H
        replace H : ((impl_Rto.f t188 t189 t190 t191).bind fun bt193 => ((spec_Rto.f t188 t189 t190 t191).bind fun bt195 => ((laws_at.f l1 0 5000).bind fun t197 => ((impl_Sample.f t188 t189 t190 t191 t197 true).bind fun bt198 => ((laws_at.f l1 0 5000).bind fun t204 => ((impl_Sample.f t188 t189 t190 t191 t204 false).bind fun bt205 => ((laws_at.f l1 0 5000).bind fun t211 => ((spec_Sample.f t188 t189 t190 t191 t211 false).bind fun bt212 => ((impl_BackOff.f t188 t189 t190 t191).bind fun bt218 => ((impl_Rto.f bt218.1 bt218.2.1 bt218.2.2.1 bt218.2.2.2.1).bind fun bt224 => (if bt193.2 = 0 then (if bt198.2.2.2.2 = 0 then (if bt205.2.2.2.2 = 0 then (if bt218.2.2.2.2 = 0 then (if bt224.2 = 0 then (if bt193.1 = bt195.1 then (if (!(bt198.1 == t188) || (!(bt198.2.1 == t189) || (!(bt198.2.2.1 == t190) || (!(bt198.2.2.2.1 == t191))))) = true then (laws_FnRto.j1 kj2 bt193.1 bt224.1 true t188 t189 t190 t191 bt218.1 bt218.2.1 bt218.2.2.1 bt218.2.2.2.1) else (if (!(bt205.1 == bt212.1) || (!(bt205.2.1 == bt212.2.1) || (!(bt205.2.2.1 == bt212.2.2.1) || (!(bt205.2.2.2.1 == bt212.2.2.2.1))))) = true then (laws_FnRto.j1 kj2 bt193.1 bt224.1 true t188 t189 t190 t191 bt218.1 bt218.2.1 bt218.2.2.1 bt218.2.2.2.1) else ((impl_TimingOK.f bt205.1 bt205.2.1 bt205.2.2.1 bt205.2.2.2.1).bind fun t226 => (if t226 = true then (if bt205.2.2.2.1 = 0 then (laws_FnRto.j1 kj2 bt193.1 bt224.1 false t188 t189 t190 t191 bt218.1 bt218.2.1 bt218.2.2.1 bt218.2.2.2.1) else (laws_FnRto.j1 kj2 bt193.1 bt224.1 t188 t188 t189 t190 t191 bt218.1 bt218.2.1 bt218.2.2.1 bt218.2.2.2.1)) else (laws_FnRto.j1 kj2 bt193.1 bt224.1 true t188 t189 t190 t191 bt218.1 bt218.2.1 bt218.2.2.1 bt218.2.2.2.1))))) else (laws_FnRto.j1 kj2 bt193.1 bt224.1 true t188 t189 t190 t191 bt218.1 bt218.2.1 bt218.2.2.1 bt218.2.2.2.1)) else (laws_FnRto.j1 kj2 bt193.1 bt224.1 true t188 t189 t190 t191 bt218.1 bt218.2.1 bt218.2.2.1 bt218.2.2.2.1)) else (laws_FnRto.j1 kj2 bt193.1 bt224.1 true t188 t189 t190 t191 bt218.1 bt218.2.1 bt218.2.2.1 bt218.2.2.2.1)) else (laws_FnRto.j1 kj2 bt193.1 bt224.1 true t188 t189 t190 t191 bt218.1 bt218.2.1 bt218.2.2.1 bt218.2.2.2.1)) else (laws_FnRto.j1 kj2 bt193.1 bt224.1 true t188 t189 t190 t191 bt218.1 bt218.2.1 bt218.2.2.1 bt218.2.2.2.1)) else (laws_FnRto.j1 kj2 bt193.1 bt224.1 true t188 t189 t190 t191 bt218.1 bt218.2.1 bt218.2.2.1 bt218.2.2.2.1)))))))))))) = some r := H
        have A6 := Aside0.mk A60
        clear A60
        replace H := Option.bind_eq_some_iff.mp H
        obtain ⟨⟨t193, t194⟩, A70, H⟩ := H
        replace H : ((spec_Rto.f t188 t189 t190 t191).bind fun bt195 => ((laws_at.f l1 0 5000).bind fun t197 => ((impl_Sample.f t188 t189 t190 t191 t197 true).bind fun bt198 => ((laws_at.f l1 0 5000).bind fun t204 => ((impl_Sample.f t188 t189 t190 t191 t204 false).bind fun bt205 => ((laws_at.f l1 0 5000).bind fun t211 => ((spec_Sample.f t188 t189 t190 t191 t211 false).bind fun bt212 => ((impl_BackOff.f t188 t189 t190 t191).bind fun bt218 => ((impl_Rto.f bt218.1 bt218.2.1 bt218.2.2.1 bt218.2.2.2.1).bind fun bt224 => (if t194 = 0 then (if bt198.2.2.2.2 = 0 then (if bt205.2.2.2.2 = 0 then (if bt218.2.2.2.2 = 0 then (if bt224.2 = 0 then (if t193 = bt195.1 then (if (!(bt198.1 == t188) || (!(bt198.2.1 == t189) || (!(bt198.2.2.1 == t190) || (!(bt198.2.2.2.1 == t191))))) = true then (laws_FnRto.j1 kj2 t193 bt224.1 true t188 t189 t190 t191 bt218.1 bt218.2.1 bt218.2.2.1 bt218.2.2.2.1) else (if (!(bt205.1 == bt212.1) || (!(bt205.2.1 == bt212.2.1) || (!(bt205.2.2.1 == bt212.2.2.1) || (!(bt205.2.2.2.1 == bt212.2.2.2.1))))) = true then (laws_FnRto.j1 kj2 t193 bt224.1 true t188 t189 t190 t191 bt218.1 bt218.2.1 bt218.2.2.1 bt218.2.2.2.1) else ((impl_TimingOK.f bt205.1 bt205.2.1 bt205.2.2.1 bt205.2.2.2.1).bind fun t226 => (if t226 = true then (if bt205.2.2.2.1 = 0 then (laws_FnRto.j1 kj2 t193 bt224.1 false t188 t189 t190 t191 bt218.1 bt218.2.1 bt218.2.2.1 bt218.2.2.2.1) else (laws_FnRto.j1 kj2 t193 bt224.1 t188 t188 t189 t190 t191 bt218.1 bt218.2.1 bt218.2.2.1 bt218.2.2.2.1)) else (laws_FnRto.j1 kj2 t193 bt224.1 true t188 t189 t190 t191 bt218.1 bt218.2.1 bt218.2.2.1 bt218.2.2.2.1))))) else (laws_FnRto.j1 kj2 t193 bt224.1 true t188 t189 t190 t191 bt218.1 bt218.2.1 bt218.2.2.1 bt218.2.2.2.1)) else (laws_FnRto.j1 kj2 t193 bt224.1 true t188 t189 t190 t191 bt218.1 bt218.2.1 bt218.2.2.1 bt218.2.2.2.1)) else (laws_FnRto.j1 kj2 t193 bt224.1 true t188 t189 t190 t191 bt218.1 bt218.2.1 bt218.2.2.1 bt218.2.2.2.1)) else (laws_FnRto.j1 kj2 t193 bt224.1 true t188 t189 t190 t191 bt218.1 bt218.2.1 bt218.2.2.1 bt218.2.2.2.1)) else (laws_FnRto.j1 kj2 t193 bt224.1 true t188 t189 t190 t191 bt218.1 bt218.2.1 bt218.2.2.1 bt218.2.2.2.1)) else (laws_FnRto.j1 kj2 t193 bt224.1 true t188 t189 t190 t191 bt218.1 bt218.2.1 bt218.2.2.1 bt218.2.2.2.1))))))))))) = some r := H
        have A7 := Aside0.mk A70
        clear A70
        replace H := Option.bind_eq_some_iff.mp H
        obtain ⟨⟨t195, t196⟩, A80, H⟩ := H
        replace H : ((laws_at.f l1 0 5000).bind fun t197 => ((impl_Sample.f t188 t189 t190 t191 t197 true).bind fun bt198 => ((laws_at.f l1 0 5000).bind fun t204 => ((impl_Sample.f t188 t189 t190 t191 t204 false).bind fun bt205 => ((laws_at.f l1 0 5000).bind fun t211 => ((spec_Sample.f t188 t189 t190 t191 t211 false).bind fun bt212 => ((impl_BackOff.f t188 t189 t190 t191).bind fun bt218 => ((impl_Rto.f bt218.1 bt218.2.1 bt218.2.2.1 bt218.2.2.2.1).bind fun bt224 => (if t194 = 0 then (if bt198.2.2.2.2 = 0 then (if bt205.2.2.2.2 = 0 then (if bt218.2.2.2.2 = 0 then (if bt224.2 = 0 then (if t193 = t195 then (if (!(bt198.1 == t188) || (!(bt198.2.1 == t189) || (!(bt198.2.2.1 == t190) || (!(bt198.2.2.2.1 == t191))))) = true then (laws_FnRto.j1 kj2 t193 bt224.1 true t188 t189 t190 t191 bt218.1 bt218.2.1 bt218.2.2.1 bt218.2.2.2.1) else (if (!(bt205.1 == bt212.1) || (!(bt205.2.1 == bt212.2.1) || (!(bt205.2.2.1 == bt212.2.2.1) || (!(bt205.2.2.2.1 == bt212.2.2.2.1))))) = true then (laws_FnRto.j1 kj2 t193 bt224.1 true t188 t189 t190 t191 bt218.1 bt218.2.1 bt218.2.2.1 bt218.2.2.2.1) else ((impl_TimingOK.f bt205.1 bt205.2.1 bt205.2.2.1 bt205.2.2.2.1).bind fun t226 => (if t226 = true then (if bt205.2.2.2.1 = 0 then (laws_FnRto.j1 kj2 t193 bt224.1 false t188 t189 t190 t191 bt218.1 bt218.2.1 bt218.2.2.1 bt218.2.2.2.1) else (laws_FnRto.j1 kj2 t193 bt224.1 t188 t188 t189 t190 t191 bt218.1 bt218.2.1 bt218.2.2.1 bt218.2.2.2.1)) else (laws_FnRto.j1 kj2 t193 bt224.1 true t188 t189 t190 t191 bt218.1 bt218.2.1 bt218.2.2.1 bt218.2.2.2.1))))) else (laws_FnRto.j1 kj2 t193 bt224.1 true t188 t189 t190 t191 bt218.1 bt218.2.1 bt218.2.2.1 bt218.2.2.2.1)) else (laws_FnRto.j1 kj2 t193 bt224.1 true t188 t189 t190 t191 bt218.1 bt218.2.1 bt218.2.2.1 bt218.2.2.2.1)) else (laws_FnRto.j1 kj2 t193 bt224.1 true t188 t189 t190 t191 bt218.1 bt218.2.1 bt218.2.2.1 bt218.2.2.2.1)) else (laws_FnRto.j1 kj2 t193 bt224.1 true t188 t189 t190 t191 bt218.1 bt218.2.1 bt218.2.2.1 bt218.2.2.2.1)) else (laws_FnRto.j1 kj2 t193 bt224.1 true t188 t189 t190 t191 bt218.1 bt218.2.1 bt218.2.2.1 bt218.2.2.2.1)) else (laws_FnRto.j1 kj2 t193 bt224.1 true t188 t189 t190 t191 bt218.1 bt218.2.1 bt218.2.2.1 bt218.2.2.2.1)))))))))) = some r := H
        have A8 := Aside0.mk A80
        clear A80
        replace H := Option.bind_eq_some_iff.mp H
        obtain ⟨t197, A90, H⟩ := H
        replace H : ((impl_Sample.f t188 t189 t190 t191 t197 true).bind fun bt198 => ((laws_at.f l1 0 5000).bind fun t204 => ((impl_Sample.f t188 t189 t190 t191 t204 false).bind fun bt205 => ((laws_at.f l1 0 5000).bind fun t211 => ((spec_Sample.f t188 t189 t190 t191 t211 false).bind fun bt212 => ((impl_BackOff.f t188 t189 t190 t191).bind fun bt218 => ((impl_Rto.f bt218.1 bt218.2.1 bt218.2.2.1 bt218.2.2.2.1).bind fun bt224 => (if t194 = 0 then (if bt198.2.2.2.2 = 0 then (if bt205.2.2.2.2 = 0 then (if bt218.2.2.2.2 = 0 then (if bt224.2 = 0 then (if t193 = t195 then (if (!(bt198.1 == t188) || (!(bt198.2.1 == t189) || (!(bt198.2.2.1 == t190) || (!(bt198.2.2.2.1 == t191))))) = true then (laws_FnRto.j1 kj2 t193 bt224.1 true t188 t189 t190 t191 bt218.1 bt218.2.1 bt218.2.2.1 bt218.2.2.2.1) else (if (!(bt205.1 == bt212.1) || (!(bt205.2.1 == bt212.2.1) || (!(bt205.2.2.1 == bt212.2.2.1) || (!(bt205.2.2.2.1 == bt212.2.2.2.1))))) = true then (laws_FnRto.j1 kj2 t193 bt224.1 true t188 t189 t190 t191 bt218.1 bt218.2.1 bt218.2.2.1 bt218.2.2.2.1) else ((impl_TimingOK.f bt205.1 bt205.2.1 bt205.2.2.1 bt205.2.2.2.1).bind fun t226 => (if t226 = true then (if bt205.2.2.2.1 = 0 then (laws_FnRto.j1 kj2 t193 bt224.1 false t188 t189 t190 t191 bt218.1 bt218.2.1 bt218.2.2.1 bt218.2.2.2.1) else (laws_FnRto.j1 kj2 t193 bt224.1 t188 t188 t189 t190 t191 bt218.1 bt218.2.1 bt218.2.2.1 bt218.2.2.2.1)) else (laws_FnRto.j1 kj2 t193 bt224.1 true t188 t189 t190 t191 bt218.1 bt218.2.1 bt218.2.2.1 bt218.2.2.2.1))))) else (laws_FnRto.j1 kj2 t193 bt224.1 true t188 t189 t190 t191 bt218.1 bt218.2.1 bt218.2.2.1 bt218.2.2.2.1)) else (laws_FnRto.j1 kj2 t193 bt224.1 true t188 t189 t190 t191 bt218.1 bt218.2.1 bt218.2.2.1 bt218.2.2.2.1)) else (laws_FnRto.j1 kj2 t193 bt224.1 true t188 t189 t190 t191 bt218.1 bt218.2.1 bt218.2.2.1 bt218.2.2.2.1)) else (laws_FnRto.j1 kj2 t193 bt224.1 true t188 t189 t190 t191 bt218.1 bt218.2.1 bt218.2.2.1 bt218.2.2.2.1)) else (laws_FnRto.j1 kj2 t193 bt224.1 true t188 t189 t190 t191 bt218.1 bt218.2.1 bt218.2.2.1 bt218.2.2.2.1)) else (laws_FnRto.j1 kj2 t193 bt224.1 true t188 t189 t190 t191 bt218.1 bt218.2.1 bt218.2.2.1 bt218.2.2.2.1))))))))) = some r := H
        have A9 := Aside0.mk A90
        clear A90
        replace H := Option.bind_eq_some_iff.mp H
        obtain ⟨⟨t198, t199, t200, t201, t202⟩, A100, H⟩ := H
        replace H : ((laws_at.f l1 0 5000).bind fun t204 => ((impl_Sample.f t188 t189 t190 t191 t204 false).bind fun bt205 => ((laws_at.f l1 0 5000).bind fun t211 => ((spec_Sample.f t188 t189 t190 t191 t211 false).bind fun bt212 => ((impl_BackOff.f t188 t189 t190 t191).bind fun bt218 => ((impl_Rto.f bt218.1 bt218.2.1 bt218.2.2.1 bt218.2.2.2.1).bind fun bt224 => (if t194 = 0 then (if t202 = 0 then (if bt205.2.2.2.2 = 0 then (if bt218.2.2.2.2 = 0 then (if bt224.2 = 0 then (if t193 = t195 then (if (!(t198 == t188) || (!(t199 == t189) || (!(t200 == t190) || (!(t201 == t191))))) = true then (laws_FnRto.j1 kj2 t193 bt224.1 true t188 t189 t190 t191 bt218.1 bt218.2.1 bt218.2.2.1 bt218.2.2.2.1) else (if (!(bt205.1 == bt212.1) || (!(bt205.2.1 == bt212.2.1) || (!(bt205.2.2.1 == bt212.2.2.1) || (!(bt205.2.2.2.1 == bt212.2.2.2.1))))) = true then (laws_FnRto.j1 kj2 t193 bt224.1 true t188 t189 t190 t191 bt218.1 bt218.2.1 bt218.2.2.1 bt218.2.2.2.1) else ((impl_TimingOK.f bt205.1 bt205.2.1 bt205.2.2.1 bt205.2.2.2.1).bind fun t226 => (if t226 = true then (if bt205.2.2.2.1 = 0 then (laws_FnRto.j1 kj2 t193 bt224.1 false t188 t189 t190 t191 bt218.1 bt218.2.1 bt218.2.2.1 bt218.2.2.2.1) else (laws_FnRto.j1 kj2 t193 bt224.1 t188 t188 t189 t190 t191 bt218.1 bt218.2.1 bt218.2.2.1 bt218.2.2.2.1)) else (laws_FnRto.j1 kj2 t193 bt224.1 true t188 t189 t190 t191 bt218.1 bt218.2.1 bt218.2.2.1 bt218.2.2.2.1))))) else (laws_FnRto.j1 kj2 t193 bt224.1 true t188 t189 t190 t191 bt218.1 bt218.2.1 bt218.2.2.1 bt218.2.2.2.1)) else (laws_FnRto.j1 kj2 t193 bt224.1 true t188 t189 t190 t191 bt218.1 bt218.2.1 bt218.2.2.1 bt218.2.2.2.1)) else (laws_FnRto.j1 kj2 t193 bt224.1 true t188 t189 t190 t191 bt218.1 bt218.2.1 bt218.2.2.1 bt218.2.2.2.1)) else (laws_FnRto.j1 kj2 t193 bt224.1 true t188 t189 t190 t191 bt218.1 bt218.2.1 bt218.2.2.1 bt218.2.2.2.1)) else (laws_FnRto.j1 kj2 t193 bt224.1 true t188 t189 t190 t191 bt218.1 bt218.2.1 bt218.2.2.1 bt218.2.2.2.1)) else (laws_FnRto.j1 kj2 t193 bt224.1 true t188 t189 t190 t191 bt218.1 bt218.2.1 bt218.2.2.1 bt218.2.2.2.1)))))))) = some r := H
        have A10 := Aside0.mk A100
        clear A100
        replace H := Option.bind_eq_some_iff.mp H
        obtain ⟨t204, A110, H⟩ := H
        replace H : ((impl_Sample.f t188 t189 t190 t191 t204 false).bind fun bt205 => ((laws_at.f l1 0 5000).bind fun t211 => ((spec_Sample.f t188 t189 t190 t191 t211 false).bind fun bt212 => ((impl_BackOff.f t188 t189 t190 t191).bind fun bt218 => ((impl_Rto.f bt218.1 bt218.2.1 bt218.2.2.1 bt218.2.2.2.1).bind fun bt224 => (if t194 = 0 then (if t202 = 0 then (if bt205.2.2.2.2 = 0 then (if bt218.2.2.2.2 = 0 then (if bt224.2 = 0 then (if t193 = t195 then (if (!(t198 == t188) || (!(t199 == t189) || (!(t200 == t190) || (!(t201 == t191))))) = true then (laws_FnRto.j1 kj2 t193 bt224.1 true t188 t189 t190 t191 bt218.1 bt218.2.1 bt218.2.2.1 bt218.2.2.2.1) else (if (!(bt205.1 == bt212.1) || (!(bt205.2.1 == bt212.2.1) || (!(bt205.2.2.1 == bt212.2.2.1) || (!(bt205.2.2.2.1 == bt212.2.2.2.1))))) = true then (laws_FnRto.j1 kj2 t193 bt224.1 true t188 t189 t190 t191 bt218.1 bt218.2.1 bt218.2.2.1 bt218.2.2.2.1) else ((impl_TimingOK.f bt205.1 bt205.2.1 bt205.2.2.1 bt205.2.2.2.1).bind fun t226 => (if t226 = true then (if bt205.2.2.2.1 = 0 then (laws_FnRto.j1 kj2 t193 bt224.1 false t188 t189 t190 t191 bt218.1 bt218.2.1 bt218.2.2.1 bt218.2.2.2.1) else (laws_FnRto.j1 kj2 t193 bt224.1 t188 t188 t189 t190 t191 bt218.1 bt218.2.1 bt218.2.2.1 bt218.2.2.2.1)) else (laws_FnRto.j1 kj2 t193 bt224.1 true t188 t189 t190 t191 bt218.1 bt218.2.1 bt218.2.2.1 bt218.2.2.2.1))))) else (laws_FnRto.j1 kj2 t193 bt224.1 true t188 t189 t190 t191 bt218.1 bt218.2.1 bt218.2.2.1 bt218.2.2.2.1)) else (laws_FnRto.j1 kj2 t193 bt224.1 true t188 t189 t190 t191 bt218.1 bt218.2.1 bt218.2.2.1 bt218.2.2.2.1)) else (laws_FnRto.j1 kj2 t193 bt224.1 true t188 t189 t190 t191 bt218.1 bt218.2.1 bt218.2.2.1 bt218.2.2.2.1)) else (laws_FnRto.j1 kj2 t193 bt224.1 true t188 t189 t190 t191 bt218.1 bt218.2.1 bt218.2.2.1 bt218.2.2.2.1)) else (laws_FnRto.j1 kj2 t193 bt224.1 true t188 t189 t190 t191 bt218.1 bt218.2.1 bt218.2.2.1 bt218.2.2.2.1)) else (laws_FnRto.j1 kj2 t193 bt224.1 true t188 t189 t190 t191 bt218.1 bt218.2.1 bt218.2.2.1 bt218.2.2.2.1))))))) = some r := H
        have A11 := Aside0.mk A110
        clear A110
        replace H := Option.bind_eq_some_iff.mp H
        obtain ⟨⟨t205, t206, t207, t208, t209⟩, A120, H⟩ := H
        replace H : ((laws_at.f l1 0 5000).bind fun t211 => ((spec_Sample.f t188 t189 t190 t191 t211 false).bind fun bt212 => ((impl_BackOff.f t188 t189 t190 t191).bind fun bt218 => ((impl_Rto.f bt218.1 bt218.2.1 bt218.2.2.1 bt218.2.2.2.1).bind fun bt224 => (if t194 = 0 then (if t202 = 0 then (if t209 = 0 then (if bt218.2.2.2.2 = 0 then (if bt224.2 = 0 then (if t193 = t195 then (if (!(t198 == t188) || (!(t199 == t189) || (!(t200 == t190) || (!(t201 == t191))))) = true then (laws_FnRto.j1 kj2 t193 bt224.1 true t188 t189 t190 t191 bt218.1 bt218.2.1 bt218.2.2.1 bt218.2.2.2.1) else (if (!(t205 == bt212.1) || (!(t206 == bt212.2.1) || (!(t207 == bt212.2.2.1) || (!(t208 == bt212.2.2.2.1))))) = true then (laws_FnRto.j1 kj2 t193 bt224.1 true t188 t189 t190 t191 bt218.1 bt218.2.1 bt218.2.2.1 bt218.2.2.2.1) else ((impl_TimingOK.f t205 t206 t207 t208).bind fun t226 => (if t226 = true then (if t208 = 0 then (laws_FnRto.j1 kj2 t193 bt224.1 false t188 t189 t190 t191 bt218.1 bt218.2.1 bt218.2.2.1 bt218.2.2.2.1) else (laws_FnRto.j1 kj2 t193 bt224.1 t188 t188 t189 t190 t191 bt218.1 bt218.2.1 bt218.2.2.1 bt218.2.2.2.1)) else (laws_FnRto.j1 kj2 t193 bt224.1 true t188 t189 t190 t191 bt218.1 bt218.2.1 bt218.2.2.1 bt218.2.2.2.1))))) else (laws_FnRto.j1 kj2 t193 bt224.1 true t188 t189 t190 t191 bt218.1 bt218.2.1 bt218.2.2.1 bt218.2.2.2.1)) else (laws_FnRto.j1 kj2 t193 bt224.1 true t188 t189 t190 t191 bt218.1 bt218.2.1 bt218.2.2.1 bt218.2.2.2.1)) else (laws_FnRto.j1 kj2 t193 bt224.1 true t188 t189 t190 t191 bt218.1 bt218.2.1 bt218.2.2.1 bt218.2.2.2.1)) else (laws_FnRto.j1 kj2 t193 bt224.1 true t188 t189 t190 t191 bt218.1 bt218.2.1 bt218.2.2.1 bt218.2.2.2.1)) else (laws_FnRto.j1 kj2 t193 bt224.1 true t188 t189 t190 t191 bt218.1 bt218.2.1 bt218.2.2.1 bt218.2.2.2.1)) else (laws_FnRto.j1 kj2 t193 bt224.1 true t188 t189 t190 t191 bt218.1 bt218.2.1 bt218.2.2.1 bt218.2.2.2.1)))))) = some r := H
        have A12 := Aside0.mk A120
        clear A120
        replace H := Option.bind_eq_some_iff.mp H
        obtain ⟨t211, A130, H⟩ := H
        replace H : ((spec_Sample.f t188 t189 t190 t191 t211 false).bind fun bt212 => ((impl_BackOff.f t188 t189 t190 t191).bind fun bt218 => ((impl_Rto.f bt218.1 bt218.2.1 bt218.2.2.1 bt218.2.2.2.1).bind fun bt224 => (if t194 = 0 then (if t202 = 0 then (if t209 = 0 then (if bt218.2.2.2.2 = 0 then (if bt224.2 = 0 then (if t193 = t195 then (if (!(t198 == t188) || (!(t199 == t189) || (!(t200 == t190) || (!(t201 == t191))))) = true then (laws_FnRto.j1 kj2 t193 bt224.1 true t188 t189 t190 t191 bt218.1 bt218.2.1 bt218.2.2.1 bt218.2.2.2.1) else (if (!(t205 == bt212.1) || (!(t206 == bt212.2.1) || (!(t207 == bt212.2.2.1) || (!(t208 == bt212.2.2.2.1))))) = true then (laws_FnRto.j1 kj2 t193 bt224.1 true t188 t189 t190 t191 bt218.1 bt218.2.1 bt218.2.2.1 bt218.2.2.2.1) else ((impl_TimingOK.f t205 t206 t207 t208).bind fun t226 => (if t226 = true then (if t208 = 0 then (laws_FnRto.j1 kj2 t193 bt224.1 false t188 t189 t190 t191 bt218.1 bt218.2.1 bt218.2.2.1 bt218.2.2.2.1) else (laws_FnRto.j1 kj2 t193 bt224.1 t188 t188 t189 t190 t191 bt218.1 bt218.2.1 bt218.2.2.1 bt218.2.2.2.1)) else (laws_FnRto.j1 kj2 t193 bt224.1 true t188 t189 t190 t191 bt218.1 bt218.2.1 bt218.2.2.1 bt218.2.2.2.1))))) else (laws_FnRto.j1 kj2 t193 bt224.1 true t188 t189 t190 t191 bt218.1 bt218.2.1 bt218.2.2.1 bt218.2.2.2.1)) else (laws_FnRto.j1 kj2 t193 bt224.1 true t188 t189 t190 t191 bt218.1 bt218.2.1 bt218.2.2.1 bt218.2.2.2.1)) else (laws_FnRto.j1 kj2 t193 bt224.1 true t188 t189 t190 t191 bt218.1 bt218.2.1 bt218.2.2.1 bt218.2.2.2.1)) else (laws_FnRto.j1 kj2 t193 bt224.1 true t188 t189 t190 t191 bt218.1 bt218.2.1 bt218.2.2.1 bt218.2.2.2.1)) else (laws_FnRto.j1 kj2 t193 bt224.1 true t188 t189 t190 t191 bt218.1 bt218.2.1 bt218.2.2.1 bt218.2.2.2.1)) else (laws_FnRto.j1 kj2 t193 bt224.1 true t188 t189 t190 t191 bt218.1 bt218.2.1 bt218.2.2.1 bt218.2.2.2.1))))) = some r := H
        have A13 := Aside0.mk A130
        clear A130
        replace H := Option.bind_eq_some_iff.mp H
        obtain ⟨⟨t212, t213, t214, t215, t216⟩, A140, H⟩ := H
        replace H : ((impl_BackOff.f t188 t189 t190 t191).bind fun bt218 => ((impl_Rto.f bt218.1 bt218.2.1 bt218.2.2.1 bt218.2.2.2.1).bind fun bt224 => (if t194 = 0 then (if t202 = 0 then (if t209 = 0 then (if bt218.2.2.2.2 = 0 then (if bt224.2 = 0 then (if t193 = t195 then (if (!(t198 == t188) || (!(t199 == t189) || (!(t200 == t190) || (!(t201 == t191))))) = true then (laws_FnRto.j1 kj2 t193 bt224.1 true t188 t189 t190 t191 bt218.1 bt218.2.1 bt218.2.2.1 bt218.2.2.2.1) else (if (!(t205 == t212) || (!(t206 == t213) || (!(t207 == t214) || (!(t208 == t215))))) = true then (laws_FnRto.j1 kj2 t193 bt224.1 true t188 t189 t190 t191 bt218.1 bt218.2.1 bt218.2.2.1 bt218.2.2.2.1) else ((impl_TimingOK.f t205 t206 t207 t208).bind fun t226 => (if t226 = true then (if t208 = 0 then (laws_FnRto.j1 kj2 t193 bt224.1 false t188 t189 t190 t191 bt218.1 bt218.2.1 bt218.2.2.1 bt218.2.2.2.1) else (laws_FnRto.j1 kj2 t193 bt224.1 t188 t188 t189 t190 t191 bt218.1 bt218.2.1 bt218.2.2.1 bt218.2.2.2.1)) else (laws_FnRto.j1 kj2 t193 bt224.1 true t188 t189 t190 t191 bt218.1 bt218.2.1 bt218.2.2.1 bt218.2.2.2.1))))) else (laws_FnRto.j1 kj2 t193 bt224.1 true t188 t189 t190 t191 bt218.1 bt218.2.1 bt218.2.2.1 bt218.2.2.2.1)) else (laws_FnRto.j1 kj2 t193 bt224.1 true t188 t189 t190 t191 bt218.1 bt218.2.1 bt218.2.2.1 bt218.2.2.2.1)) else (laws_FnRto.j1 kj2 t193 bt224.1 true t188 t189 t190 t191 bt218.1 bt218.2.1 bt218.2.2.1 bt218.2.2.2.1)) else (laws_FnRto.j1 kj2 t193 bt224.1 true t188 t189 t190 t191 bt218.1 bt218.2.1 bt218.2.2.1 bt218.2.2.2.1)) else (laws_FnRto.j1 kj2 t193 bt224.1 true t188 t189 t190 t191 bt218.1 bt218.2.1 bt218.2.2.1 bt218.2.2.2.1)) else (laws_FnRto.j1 kj2 t193 bt224.1 true t188 t189 t190 t191 bt218.1 bt218.2.1 bt218.2.2.1 bt218.2.2.2.1)))) = some r := H
        have A14 := Aside0.mk A140
        clear A140
        replace H := Option.bind_eq_some_iff.mp H
        obtain ⟨⟨t218, t219, t220, t221, t222⟩, A150, H⟩ := H
        replace H : ((impl_Rto.f t218 t219 t220 t221).bind fun bt224 => (if t194 = 0 then (if t202 = 0 then (if t209 = 0 then (if t222 = 0 then (if bt224.2 = 0 then (if t193 = t195 then (if (!(t198 == t188) || (!(t199 == t189) || (!(t200 == t190) || (!(t201 == t191))))) = true then (laws_FnRto.j1 kj2 t193 bt224.1 true t188 t189 t190 t191 t218 t219 t220 t221) else (if (!(t205 == t212) || (!(t206 == t213) || (!(t207 == t214) || (!(t208 == t215))))) = true then (laws_FnRto.j1 kj2 t193 bt224.1 true t188 t189 t190 t191 t218 t219 t220 t221) else ((impl_TimingOK.f t205 t206 t207 t208).bind fun t226 => (if t226 = true then (if t208 = 0 then (laws_FnRto.j1 kj2 t193 bt224.1 false t188 t189 t190 t191 t218 t219 t220 t221) else (laws_FnRto.j1 kj2 t193 bt224.1 t188 t188 t189 t190 t191 t218 t219 t220 t221)) else (laws_FnRto.j1 kj2 t193 bt224.1 true t188 t189 t190 t191 t218 t219 t220 t221))))) else (laws_FnRto.j1 kj2 t193 bt224.1 true t188 t189 t190 t191 t218 t219 t220 t221)) else (laws_FnRto.j1 kj2 t193 bt224.1 true t188 t189 t190 t191 t218 t219 t220 t221)) else (laws_FnRto.j1 kj2 t193 bt224.1 true t188 t189 t190 t191 t218 t219 t220 t221)) else (laws_FnRto.j1 kj2 t193 bt224.1 true t188 t189 t190 t191 t218 t219 t220 t221)) else (laws_FnRto.j1 kj2 t193 bt224.1 true t188 t189 t190 t191 t218 t219 t220 t221)) else (laws_FnRto.j1 kj2 t193 bt224.1 true t188 t189 t190 t191 t218 t219 t220 t221))) = some r := H
        have A15 := Aside0.mk A150
        clear A150
        replace H := Option.bind_eq_some_iff.mp H
        obtain ⟨⟨t224, t225⟩, A160, H⟩ := H
        replace H : (if t194 = 0 then (if t202 = 0 then (if t209 = 0 then (if t222 = 0 then (if t225 = 0 then (if t193 = t195 then (if (!(t198 == t188) || (!(t199 == t189) || (!(t200 == t190) || (!(t201 == t191))))) = true then (laws_FnRto.j1 kj2 t193 t224 true t188 t189 t190 t191 t218 t219 t220 t221) else (if (!(t205 == t212) || (!(t206 == t213) || (!(t207 == t214) || (!(t208 == t215))))) = true then (laws_FnRto.j1 kj2 t193 t224 true t188 t189 t190 t191 t218 t219 t220 t221) else ((impl_TimingOK.f t205 t206 t207 t208).bind fun t226 => (if t226 = true then (if t208 = 0 then (laws_FnRto.j1 kj2 t193 t224 false t188 t189 t190 t191 t218 t219 t220 t221) else (laws_FnRto.j1 kj2 t193 t224 t188 t188 t189 t190 t191 t218 t219 t220 t221)) else (laws_FnRto.j1 kj2 t193 t224 true t188 t189 t190 t191 t218 t219 t220 t221))))) else (laws_FnRto.j1 kj2 t193 t224 true t188 t189 t190 t191 t218 t219 t220 t221)) else (laws_FnRto.j1 kj2 t193 t224 true t188 t189 t190 t191 t218 t219 t220 t221)) else (laws_FnRto.j1 kj2 t193 t224 true t188 t189 t190 t191 t218 t219 t220 t221)) else (laws_FnRto.j1 kj2 t193 t224 true t188 t189 t190 t191 t218 t219 t220 t221)) else (laws_FnRto.j1 kj2 t193 t224 true t188 t189 t190 t191 t218 t219 t220 t221)) else (laws_FnRto.j1 kj2 t193 t224 true t188 t189 t190 t191 t218 t219 t220 t221)) = some r := H
        have A16 := Aside0.mk A160
        clear A160
        have HC17 := Aside0.mk H
        clear H
        try go_wp2_with (first | ((with_reducible refine gate_callee (f := 19) rfl ?_); refine goesL_ (some 29) rfl rfl Try.func19 (by kernel_rfl) rfl #[.slice A0 l0.length c0] rfl (by (try simp only [List.map_toArray, List.map_cons, List.map_nil]); first | done | rfl | (simp only [List.length_drop, List.length_take]; rfl)) ?_; (with_reducible refine (spec_TimingOf.calls kj2 _ _ l0 t188 t189 t190 t191 _ ?side1 ?side2 A6.out).mono ?_); (case side1 => repeat (first | exact (Kd.C_below HR0.out HB.out) | (with_reducible refine Kd.C_alloc ?_ _) | (with_reducible refine Kd.C_drewN ?_ _) | (with_reducible refine Kd.C_drew ?_))); (case side2 => exact HC0.out); rintro e w18 ⟨rfl, hb⟩; refine ⟨_, rfl, ?_⟩; have n0_ := Aside0.mk (below_step (by repeat (first | (with_reducible first | exact HB.out | apply below_alloc | apply pw_below_drewN | apply below_drew1) | exact HB.out)) hb); clear HB; have HB := n0_; clear n0_; (try clear hb); (try clear hb2); (try clear hk); (try clear hi)) | ((with_reducible refine gate_dst (N := 5) rfl ?_); (try (refine gate_guard (by rfl) ?_; dsimp only)); refine box_event ?hg (N := 5) ?hd (cs := #[.bool false, .int .i64 0, .int .i64 0, .int .i64 0]) (t := 25) ?hr ?_; (case hd => rfl); (case hg => rfl); (case hr => first | (go_simp; done) | (go_simp; rfl)); intro gb192 hg w19 hbox hb; have n0_ := Aside0.mk (below_step (by repeat (first | (with_reducible first | exact HB.out | apply below_alloc | apply pw_below_drewN | apply below_drew1) | exact HB.out)) hb); have n1_ := Aside0.mk (hbox); have n2_ := Aside0.mk ((by rw [hg]; exact (below_size (by repeat (first | (with_reducible first | exact HB.out | apply below_alloc | apply pw_below_drewN | apply below_drew1) | exact HB.out))) : w.heap.size ≤ gb192)); have n3_ := Aside0.mk ((by rw [hg]; exact (below_size (by repeat (first | (with_reducible first | exact HB.out | apply below_alloc | apply pw_below_drewN | apply below_drew1) | exact HB.out))) : w.heap.size ≤ gb192)); clear HB; have HB := n0_; have BK192 := n1_; have GW192 := n2_; have GE192 := n3_; clear n0_ n1_ n2_ n3_; clear hb hbox hg; have hcz20_0 : w19.cell? ⟨gb192, 0, none⟩ = some (.bool false) := (blk_cell BK192.out 0).trans rfl; have hcz20_1 : w19.cell? ⟨gb192, 1, none⟩ = some (.int .i64 0) := (blk_cell BK192.out 1).trans rfl; have hcz20_2 : w19.cell? ⟨gb192, 2, none⟩ = some (.int .i64 0) := (blk_cell BK192.out 2).trans rfl; have hcz20_3 : w19.cell? ⟨gb192, 3, none⟩ = some (.int .i64 0) := (blk_cell BK192.out 3).trans rfl; have hfz20_0 := blk_frozen BK192.out 0; have hfz20_1 := blk_frozen BK192.out 1; have hfz20_2 := blk_frozen BK192.out 2; have hfz20_3 := blk_frozen BK192.out 3) | ((with_reducible refine gate_callee (f := 13) rfl ?_); refine goesL_ (some 32) rfl rfl Try.func13 (by kernel_rfl) rfl #[.agg #[.bool t188, .int .i64 t189, .int .i64 t190, .int .i64 t191]] rfl (by (try simp only [List.map_toArray, List.map_cons, List.map_nil]); first | done | rfl | (simp only [List.length_drop, List.length_take]; rfl)) ?_; (with_reducible refine (impl_Rto.calls t188 t189 t190 t191 t193 t194 _ A7.out).mono ?_); rintro e w21 ⟨rfl, hb⟩; refine ⟨_, rfl, ?_⟩; have n0_ := Aside0.mk (blk_below (g := gb192) (o := .cells #[.bool t188, .int .i64 t189, .int .i64 t190, .int .i64 t191] 25 (0, 0)) (by (with_reducible repeat (first | refine blk_drewN ?_ _ | refine blk_drew ?_ | refine blk_alloc ?_ _)); refine blk_put (cs := #[.bool t188, .int .i64 t189, .int .i64 t190, .int .i64 0]) ?_ 3 _ rfl; (with_reducible repeat (first | refine blk_drewN ?_ _ | refine blk_drew ?_ | refine blk_alloc ?_ _)); refine blk_put (cs := #[.bool t188, .int .i64 t189, .int .i64 0, .int .i64 0]) ?_ 2 _ rfl; (with_reducible repeat (first | refine blk_drewN ?_ _ | refine blk_drew ?_ | refine blk_alloc ?_ _)); refine blk_put (cs := #[.bool t188, .int .i64 0, .int .i64 0, .int .i64 0]) ?_ 1 _ rfl; (with_reducible repeat (first | refine blk_drewN ?_ _ | refine blk_drew ?_ | refine blk_alloc ?_ _)); refine blk_put (cs := #[.bool false, .int .i64 0, .int .i64 0, .int .i64 0]) ?_ 0 _ rfl; (with_reducible repeat (first | refine blk_drewN ?_ _ | refine blk_drew ?_ | refine blk_alloc ?_ _)); exact BK192.out) hb); have n1_ := Aside0.mk (below_step (by repeat (first | (with_reducible first | exact HB.out | apply below_alloc | apply pw_below_drewN | apply below_drew1 | refine below_set ?_ GE192.out) | exact HB.out)) hb); clear BK192; clear HB; have BK192 := n0_; have HB := n1_; clear n0_ n1_; (try clear hb); (try clear hb2); (try clear hk); (try clear hi); have hcz22_0 : w21.cell? ⟨gb192, 0, none⟩ = some (.bool t188) := (blk_cell BK192.out 0).trans rfl; have hcz22_1 : w21.cell? ⟨gb192, 1, none⟩ = some (.int .i64 t189) := (blk_cell BK192.out 1).trans rfl; have hcz22_2 : w21.cell? ⟨gb192, 2, none⟩ = some (.int .i64 t190) := (blk_cell BK192.out 2).trans rfl; have hcz22_3 : w21.cell? ⟨gb192, 3, none⟩ = some (.int .i64 t191) := (blk_cell BK192.out 3).trans rfl; have hfz22_0 := blk_frozen BK192.out 0; have hfz22_1 := blk_frozen BK192.out 1; have hfz22_2 := blk_frozen BK192.out 2; have hfz22_3 := blk_frozen BK192.out 3) | ((with_reducible refine gate_callee (f := 12) rfl ?_); refine goesL_ (some 37) rfl rfl Try.func12 (by kernel_rfl) rfl #[.agg #[.bool t188, .int .i64 t189, .int .i64 t190, .int .i64 t191]] rfl (by (try simp only [List.map_toArray, List.map_cons, List.map_nil]); first | done | rfl | (simp only [List.length_drop, List.length_take]; rfl)) ?_; (with_reducible refine (spec_Rto.calls t188 t189 t190 t191 t195 t196 _ A8.out).mono ?_); rintro e w23 ⟨rfl, hb⟩; refine ⟨_, rfl, ?_⟩; have n0_ := Aside0.mk (blk_below (g := gb192) (o := .cells #[.bool t188, .int .i64 t189, .int .i64 t190, .int .i64 t191] 25 (0, 0)) (by (with_reducible repeat (first | refine blk_drewN ?_ _ | refine blk_drew ?_ | refine blk_alloc ?_ _)); exact BK192.out) hb); have n1_ := Aside0.mk (below_step (by repeat (first | (with_reducible first | exact HB.out | apply below_alloc | apply pw_below_drewN | apply below_drew1 | refine below_set ?_ GE192.out) | exact HB.out)) hb); clear BK192; clear HB; have BK192 := n0_; have HB := n1_; clear n0_ n1_; (try clear hb); (try clear hb2); (try clear hk); (try clear hi)))
        have n0_ := Aside0.mk (blk_drew BK192.out)
        have n1_ := Aside0.mk (below_drew1 HB.out)
        clear BK192
        clear HB
        have BK192 := n0_
        have HB := n1_
        clear n0_ n1_
        refine start_ (n := 10) (S := fun w' => w'.cell? ⟨gb192, 0, none⟩ = some (.bool t188) ∧ w'.cell? ⟨gb192, 1, none⟩ = some (.int .i64 t189) ∧ w'.cell? ⟨gb192, 2, none⟩ = some (.int .i64 t190) ∧ w'.cell? ⟨gb192, 3, none⟩ = some (.int .i64 t191)) (ds := []) #[false, false, false, false, false, false, false, false, false, false] (by kernel_rfl) rfl rfl ⟨(blk_cell BK192.out 0).trans rfl, (blk_cell BK192.out 1).trans rfl, (blk_cell BK192.out 2).trans rfl, (blk_cell BK192.out 3).trans rfl⟩ (fun hHeld => ?_); refine with_tabW laws_FnRto.tab6 laws_FnRto.bits6 (fun HT_ HW_ => ?_)
        generalize w23.drew = w24 at BK192 HB hHeld ⊢
        refine pure_ (i := 1) (N := some 42) (v := ?_) (a' := ?_) #[false, true, false, false, false, false, false, false, false, false] rfl rfl (any_of HT_.out (by kernel_rfl)) (fun _ _ _ h => h) (Or.inl ⟨by rfl, ?_⟩) ?_ ?_
        rotate_left
        · intro w'
          go_simp
          with_reducible rfl
        rotate_left
        · simp only [Act.put, List.setIfInBounds_toArray, List.set_cons_zero, List.set_cons_succ, i64_w, i32_w]
          rfl
        refine take_ (i := 0) (N := some 41) (v := ?_) (a' := ?_) #[true, true, false, false, false, false, false, false, false, false] rfl rfl (take_ofW HT_.out HW_.out (by kernel_rfl)) (fun _ _ _ h => h) (Or.inl ⟨by rfl, ?_⟩) hHeld ?_ ?_
        rotate_left
        · rintro w' ⟨s0, s1, s2, s3⟩
          go_simp
          with_reducible rfl
        rotate_left
        · simp only [Act.put, List.setIfInBounds_toArray, List.set_cons_zero, List.set_cons_succ, i64_w, i32_w]
          rfl
        refine join_ (σ := Nat) 2 #[true, true, true, true, true, true, true, true, false, false] (fun s_ => [(43, .int .i64 t197), (44, .tuple #[.agg #[.bool t198, .int .i64 t199, .int .i64 t200, .int .i64 t201], .int .i64 t202]), (10, .pointer (some ⟨s_, 0, none⟩)), (40, .tuple #[.agg #[.bool t198, .int .i64 t199, .int .i64 t200, .int .i64 t201], .int .i64 t202]), (45, .agg #[.bool t198, .int .i64 t199, .int .i64 t200, .int .i64 t201]), (46, .int .i64 t202)]) (fun s_ w' => (w'.cell? ⟨gb192, 0, none⟩ = some (.bool t188) ∧ w'.cell? ⟨gb192, 1, none⟩ = some (.int .i64 t189) ∧ w'.cell? ⟨gb192, 2, none⟩ = some (.int .i64 t190) ∧ w'.cell? ⟨gb192, 3, none⟩ = some (.int .i64 t191)) ∧ (w'.heap[gb192]? = some (.cells #[.bool t188, .int .i64 t189, .int .i64 t190, .int .i64 t191] 25 (0, 0))) ∧ (w'.heap[s_]? = some (.cells #[.bool false, .int .i64 0, .int .i64 0, .int .i64 0] 25 (0, 0))) ∧ (w.heap.size ≤ s_) ∧ (w.heap.size ≤ s_) ∧ (gb192 ≠ s_) ∧ (s_ ≠ gb192) ∧ (Below w.heap.size w w')) ?_ ?_
        rotate_left
        · intro hCont
          refine two_ (i := 2) (j := 7) (Ni := some 43) (Nj := some 10) #[true, true, true, false, false, false, false, false, false, false] #[true, true, false, false, false, false, false, true, false, false] rfl rfl rfl rfl (two_of HT_.out (by kernel_rfl)) (by decide) (by decide) (fun K hK => ?_) (fun K hK => ?_)
          · skip
            refine goes_ Try.func20 (by kernel_rfl) rfl #[.slice A1 l1.length c1, .int .i64 0, .int .i64 5000] (by rfl) rfl rfl (by (try simp only [List.map_toArray, List.map_cons, List.map_nil]); first | done | rfl | (simp only [List.length_drop, List.length_take]; rfl)) ?_
            with_reducible refine (laws_at.calls _ _ l1 0 5000 t197 _ ?side1 ?side2 A9.out).mono ?_
            (case side1 => repeat (first | exact (Kd.C_below HR1.out HB.out) | (with_reducible refine Kd.C_alloc ?_ _) | (with_reducible refine Kd.C_drewN ?_ _) | (with_reducible refine Kd.C_drew ?_)))
            (case side2 => exact HC1.out)
            rintro e w' ⟨rfl, ⟨nd, rfl⟩⟩
            refine ⟨_, rfl, ?_⟩
            refine hK.out _ _ ⟨(blk_cell BK192.out 0).trans rfl, (blk_cell BK192.out 1).trans rfl, (blk_cell BK192.out 2).trans rfl, (blk_cell BK192.out 3).trans rfl⟩ (fun hHeld => ?_)
            clear hK K
            refine norm_ (a' := ?_) ?_ ?_
            rotate_left
            · show Act.put _ (some 43) _ = _
              simp only [Act.put, List.setIfInBounds_toArray, List.set_cons_zero, List.set_cons_succ, i64_w, i32_w]
              rfl
            refine two_ (i := 3) (j := 7) (Ni := some 44) (Nj := some 10) #[true, true, true, true, false, false, false, false, false, false] #[true, true, true, false, false, false, false, true, false, false] rfl rfl rfl rfl (two_of HT_.out (by kernel_rfl)) (by decide) (by decide) (fun K hK => ?_) (fun K hK => ?_)
            · skip
              refine goes_ Try.func18 (by kernel_rfl) rfl #[.agg #[.bool t188, .int .i64 t189, .int .i64 t190, .int .i64 t191], .int .i64 t197, .bool true] (by rfl) rfl rfl (by (try simp only [List.map_toArray, List.map_cons, List.map_nil]); first | done | rfl | (simp only [List.length_drop, List.length_take]; rfl)) ?_
              with_reducible refine (impl_Sample.calls t188 t189 t190 t191 t197 true t198 t199 t200 t201 t202 _ A10.out).mono ?_
              rintro e w25 ⟨rfl, hb⟩
              refine ⟨_, rfl, ?_⟩
              have n0_ := Aside0.mk (blk_below (g := gb192) (o := .cells #[.bool t188, .int .i64 t189, .int .i64 t190, .int .i64 t191] 25 (0, 0)) (by (with_reducible repeat (first | refine blk_drewN ?_ _ | refine blk_drew ?_ | refine blk_alloc ?_ _)); exact BK192.out) hb)
              have n1_ := Aside0.mk (below_step (by repeat (first | (with_reducible first | exact HB.out | apply below_alloc | apply pw_below_drewN | apply below_drew1 | refine below_set ?_ GE192.out) | exact HB.out)) hb)
              clear BK192
              clear HB
              have BK192 := n0_
              have HB := n1_
              clear n0_ n1_
              (try clear hb)
              (try clear hb2)
              (try clear hk)
              (try clear hi)
              refine hK.out _ _ ⟨(blk_cell BK192.out 0).trans rfl, (blk_cell BK192.out 1).trans rfl, (blk_cell BK192.out 2).trans rfl, (blk_cell BK192.out 3).trans rfl⟩ (fun hHeld => ?_)
              clear hK K
              refine norm_ (a' := ?_) ?_ ?_
              rotate_left
              · show Act.put _ (some 44) _ = _
                simp only [Act.put, List.setIfInBounds_toArray, List.set_cons_zero, List.set_cons_succ, i64_w, i32_w]
                rfl
              refine pure_ (i := 4) (N := some 40) (v := ?_) (a' := ?_) #[true, true, true, true, true, false, false, false, false, false] rfl rfl (any_of HT_.out (by kernel_rfl)) (fun _ _ _ h => h) (Or.inl ⟨by rfl, ?_⟩) ?_ ?_
              rotate_left
              · intro w'
                go_simp
                with_reducible rfl
              rotate_left
              · simp only [Act.put, List.setIfInBounds_toArray, List.set_cons_zero, List.set_cons_succ, i64_w, i32_w]
                rfl
              refine pure_ (i := 5) (N := some 45) (v := ?_) (a' := ?_) #[true, true, true, true, true, true, false, false, false, false] rfl rfl (any_of HT_.out (by kernel_rfl)) (fun _ _ _ h => h) (Or.inl ⟨by rfl, ?_⟩) ?_ ?_
              rotate_left
              · intro w'
                go_simp
                with_reducible rfl
              rotate_left
              · simp only [Act.put, List.setIfInBounds_toArray, List.set_cons_zero, List.set_cons_succ, i64_w, i32_w]
                rfl
              refine pure_ (i := 6) (N := some 46) (v := ?_) (a' := ?_) #[true, true, true, true, true, true, true, false, false, false] rfl rfl (any_of HT_.out (by kernel_rfl)) (fun _ _ _ h => h) (Or.inl ⟨by rfl, ?_⟩) ?_ ?_
              rotate_left
              · intro w'
                go_simp
                with_reducible rfl
              rotate_left
              · simp only [Act.put, List.setIfInBounds_toArray, List.set_cons_zero, List.set_cons_succ, i64_w, i32_w]
                rfl
              refine one_ (i := 7) (N := some 10) #[true, true, true, true, true, true, true, true, false, false] rfl rfl (one_of HT_.out (by kernel_rfl)) (by decide) (fun K hK => ?_)
              refine box_step ?hg (N := 10) ?hd (cs := #[.bool false, .int .i64 0, .int .i64 0, .int .i64 0]) (t := 25) ?hr ?_; (case hd => rfl); (case hg => rfl); (case hr => first | (go_simp; done) | (go_simp; rfl))
              intro gb203 hg w26 hbox hb
              have n0_ := Aside0.mk (blk_below (g := gb192) (o := .cells #[.bool t188, .int .i64 t189, .int .i64 t190, .int .i64 t191] 25 (0, 0)) (by (with_reducible repeat (first | refine blk_drewN ?_ _ | refine blk_drew ?_ | refine blk_alloc ?_ _)); exact BK192.out) hb)
              have n1_ := Aside0.mk (below_step (by repeat (first | (with_reducible first | exact HB.out | apply below_alloc | apply pw_below_drewN | apply below_drew1 | refine below_set ?_ GE192.out) | exact HB.out)) hb)
              have n2_ := Aside0.mk (hbox)
              have n3_ := Aside0.mk ((by rw [hg]; exact (below_size (by repeat (first | (with_reducible first | exact HB.out | apply below_alloc | apply pw_below_drewN | apply below_drew1 | refine below_set ?_ GE192.out) | exact HB.out))) : w.heap.size ≤ gb203))
              have n4_ := Aside0.mk ((by rw [hg]; exact (below_size (by repeat (first | (with_reducible first | exact HB.out | apply below_alloc | apply pw_below_drewN | apply below_drew1 | refine below_set ?_ GE192.out) | exact HB.out))) : w.heap.size ≤ gb203))
              have n5_ := Aside0.mk ((by rw [hg]; exact Nat.ne_of_lt (blk_lt (g := gb192) (o := .cells #[.bool t188, .int .i64 t189, .int .i64 t190, .int .i64 t191] 25 (0, 0)) (by (with_reducible repeat (first | refine blk_drewN ?_ _ | refine blk_drew ?_ | refine blk_alloc ?_ _)); exact BK192.out)) : gb192 ≠ gb203))
              have n6_ := Aside0.mk ((by rw [hg]; exact Nat.ne_of_gt (blk_lt (g := gb192) (o := .cells #[.bool t188, .int .i64 t189, .int .i64 t190, .int .i64 t191] 25 (0, 0)) (by (with_reducible repeat (first | refine blk_drewN ?_ _ | refine blk_drew ?_ | refine blk_alloc ?_ _)); exact BK192.out)) : gb203 ≠ gb192))
              clear BK192
              clear HB
              have BK192 := n0_
              have HB := n1_
              have BK203 := n2_
              have GW203 := n3_
              have GE203 := n4_
              have NB192_203 := n5_
              have NB203_192 := n6_
              clear n0_ n1_ n2_ n3_ n4_ n5_ n6_
              clear hb hbox hg
              refine hK.out _ _ ⟨(blk_cell BK192.out 0).trans rfl, (blk_cell BK192.out 1).trans rfl, (blk_cell BK192.out 2).trans rfl, (blk_cell BK192.out 3).trans rfl⟩ (fun hHeld => ?_)
              clear hK K
              refine norm_ (a' := ?_) ?_ ?_
              rotate_left
              · show Act.put _ (some 10) _ = _
                simp only [Act.put, List.setIfInBounds_toArray, List.set_cons_zero, List.set_cons_succ, i64_w, i32_w]
                rfl
              exact norm_ (by simp only [putAll, Act.put, List.setIfInBounds_toArray, List.set_cons_zero, List.set_cons_succ]) (hCont (gb203) _ ⟨hHeld, (by (with_reducible repeat (first | refine blk_drewN ?_ _ | refine blk_drew ?_ | refine blk_alloc ?_ _)); exact BK192.out), (by (with_reducible repeat (first | refine blk_drewN ?_ _ | refine blk_drew ?_ | refine blk_alloc ?_ _)); exact BK203.out), GW203.out, GE203.out, NB192_203.out, NB203_192.out, (by repeat (first | (with_reducible first | exact HB.out | apply below_alloc | apply pw_below_drewN | apply below_drew1 | refine below_set ?_ GE192.out | refine below_set ?_ GE203.out) | exact HB.out))⟩)
            · skip
              refine box_step ?hg (N := 10) ?hd (cs := #[.bool false, .int .i64 0, .int .i64 0, .int .i64 0]) (t := 25) ?hr ?_; (case hd => rfl); (case hg => rfl); (case hr => first | (go_simp; done) | (go_simp; rfl))
              intro gb203 hg w25 hbox hb
              have n0_ := Aside0.mk (blk_below (g := gb192) (o := .cells #[.bool t188, .int .i64 t189, .int .i64 t190, .int .i64 t191] 25 (0, 0)) (by (with_reducible repeat (first | refine blk_drewN ?_ _ | refine blk_drew ?_ | refine blk_alloc ?_ _)); exact BK192.out) hb)
              have n1_ := Aside0.mk (below_step (by repeat (first | (with_reducible first | exact HB.out | apply below_alloc | apply pw_below_drewN | apply below_drew1 | refine below_set ?_ GE192.out) | exact HB.out)) hb)
              have n2_ := Aside0.mk (hbox)
              have n3_ := Aside0.mk ((by rw [hg]; exact (below_size (by repeat (first | (with_reducible first | exact HB.out | apply below_alloc | apply pw_below_drewN | apply below_drew1 | refine below_set ?_ GE192.out) | exact HB.out))) : w.heap.size ≤ gb203))
              have n4_ := Aside0.mk ((by rw [hg]; exact (below_size (by repeat (first | (with_reducible first | exact HB.out | apply below_alloc | apply pw_below_drewN | apply below_drew1 | refine below_set ?_ GE192.out) | exact HB.out))) : w.heap.size ≤ gb203))
              have n5_ := Aside0.mk ((by rw [hg]; exact Nat.ne_of_lt (blk_lt (g := gb192) (o := .cells #[.bool t188, .int .i64 t189, .int .i64 t190, .int .i64 t191] 25 (0, 0)) (by (with_reducible repeat (first | refine blk_drewN ?_ _ | refine blk_drew ?_ | refine blk_alloc ?_ _)); exact BK192.out)) : gb192 ≠ gb203))
              have n6_ := Aside0.mk ((by rw [hg]; exact Nat.ne_of_gt (blk_lt (g := gb192) (o := .cells #[.bool t188, .int .i64 t189, .int .i64 t190, .int .i64 t191] 25 (0, 0)) (by (with_reducible repeat (first | refine blk_drewN ?_ _ | refine blk_drew ?_ | refine blk_alloc ?_ _)); exact BK192.out)) : gb203 ≠ gb192))
              clear BK192
              clear HB
              have BK192 := n0_
              have HB := n1_
              have BK203 := n2_
              have GW203 := n3_
              have GE203 := n4_
              have NB192_203 := n5_
              have NB203_192 := n6_
              clear n0_ n1_ n2_ n3_ n4_ n5_ n6_
              clear hb hbox hg
              refine hK.out _ _ ⟨(blk_cell BK192.out 0).trans rfl, (blk_cell BK192.out 1).trans rfl, (blk_cell BK192.out 2).trans rfl, (blk_cell BK192.out 3).trans rfl⟩ (fun hHeld => ?_)
              clear hK K
              refine norm_ (a' := ?_) ?_ ?_
              rotate_left
              · show Act.put _ (some 10) _ = _
                simp only [Act.put, List.setIfInBounds_toArray, List.set_cons_zero, List.set_cons_succ, i64_w, i32_w]
                rfl
              refine one_ (i := 3) (N := some 44) #[true, true, true, true, false, false, false, true, false, false] rfl rfl (one_of HT_.out (by kernel_rfl)) (by decide) (fun K hK => ?_)
              refine goes_ Try.func18 (by kernel_rfl) rfl #[.agg #[.bool t188, .int .i64 t189, .int .i64 t190, .int .i64 t191], .int .i64 t197, .bool true] (by rfl) rfl rfl (by (try simp only [List.map_toArray, List.map_cons, List.map_nil]); first | done | rfl | (simp only [List.length_drop, List.length_take]; rfl)) ?_
              with_reducible refine (impl_Sample.calls t188 t189 t190 t191 t197 true t198 t199 t200 t201 t202 _ A10.out).mono ?_
              rintro e w26 ⟨rfl, hb⟩
              refine ⟨_, rfl, ?_⟩
              have n0_ := Aside0.mk (blk_below (g := gb192) (o := .cells #[.bool t188, .int .i64 t189, .int .i64 t190, .int .i64 t191] 25 (0, 0)) (by (with_reducible repeat (first | refine blk_drewN ?_ _ | refine blk_drew ?_ | refine blk_alloc ?_ _)); exact BK192.out) hb)
              have n1_ := Aside0.mk (blk_below (g := gb203) (o := .cells #[.bool false, .int .i64 0, .int .i64 0, .int .i64 0] 25 (0, 0)) (by (with_reducible repeat (first | refine blk_drewN ?_ _ | refine blk_drew ?_ | refine blk_alloc ?_ _)); exact BK203.out) hb)
              have n2_ := Aside0.mk (below_step (by repeat (first | (with_reducible first | exact HB.out | apply below_alloc | apply pw_below_drewN | apply below_drew1 | refine below_set ?_ GE192.out | refine below_set ?_ GE203.out) | exact HB.out)) hb)
              clear BK192
              clear BK203
              clear HB
              have BK192 := n0_
              have BK203 := n1_
              have HB := n2_
              clear n0_ n1_ n2_
              (try clear hb)
              (try clear hb2)
              (try clear hk)
              (try clear hi)
              refine hK.out _ _ ⟨(blk_cell BK192.out 0).trans rfl, (blk_cell BK192.out 1).trans rfl, (blk_cell BK192.out 2).trans rfl, (blk_cell BK192.out 3).trans rfl⟩ (fun hHeld => ?_)
              clear hK K
              refine norm_ (a' := ?_) ?_ ?_
              rotate_left
              · show Act.put _ (some 44) _ = _
                simp only [Act.put, List.setIfInBounds_toArray, List.set_cons_zero, List.set_cons_succ, i64_w, i32_w]
                rfl
              refine pure_ (i := 4) (N := some 40) (v := ?_) (a' := ?_) #[true, true, true, true, true, false, false, true, false, false] rfl rfl (any_of HT_.out (by kernel_rfl)) (fun _ _ _ h => h) (Or.inl ⟨by rfl, ?_⟩) ?_ ?_
              rotate_left
              · intro w'
                go_simp
                with_reducible rfl
              rotate_left
              · simp only [Act.put, List.setIfInBounds_toArray, List.set_cons_zero, List.set_cons_succ, i64_w, i32_w]
                rfl
              refine pure_ (i := 5) (N := some 45) (v := ?_) (a' := ?_) #[true, true, true, true, true, true, false, true, false, false] rfl rfl (any_of HT_.out (by kernel_rfl)) (fun _ _ _ h => h) (Or.inl ⟨by rfl, ?_⟩) ?_ ?_
              rotate_left
              · intro w'
                go_simp
                with_reducible rfl
              rotate_left
              · simp only [Act.put, List.setIfInBounds_toArray, List.set_cons_zero, List.set_cons_succ, i64_w, i32_w]
                rfl
              refine pure_ (i := 6) (N := some 46) (v := ?_) (a' := ?_) #[true, true, true, true, true, true, true, true, false, false] rfl rfl (any_of HT_.out (by kernel_rfl)) (fun _ _ _ h => h) (Or.inl ⟨by rfl, ?_⟩) ?_ ?_
              rotate_left
              · intro w'
                go_simp
                with_reducible rfl
              rotate_left
              · simp only [Act.put, List.setIfInBounds_toArray, List.set_cons_zero, List.set_cons_succ, i64_w, i32_w]
                rfl
              exact norm_ (by simp only [putAll, Act.put, List.setIfInBounds_toArray, List.set_cons_zero, List.set_cons_succ]) (hCont (gb203) _ ⟨hHeld, (by (with_reducible repeat (first | refine blk_drewN ?_ _ | refine blk_drew ?_ | refine blk_alloc ?_ _)); exact BK192.out), (by (with_reducible repeat (first | refine blk_drewN ?_ _ | refine blk_drew ?_ | refine blk_alloc ?_ _)); exact BK203.out), GW203.out, GE203.out, NB192_203.out, NB203_192.out, (by repeat (first | (with_reducible first | exact HB.out | apply below_alloc | apply pw_below_drewN | apply below_drew1 | refine below_set ?_ GE192.out | refine below_set ?_ GE203.out) | exact HB.out))⟩)
          · skip
            refine box_step ?hg (N := 10) ?hd (cs := #[.bool false, .int .i64 0, .int .i64 0, .int .i64 0]) (t := 25) ?hr ?_; (case hd => rfl); (case hg => rfl); (case hr => first | (go_simp; done) | (go_simp; rfl))
            intro gb203 hg w25 hbox hb
            have n0_ := Aside0.mk (blk_below (g := gb192) (o := .cells #[.bool t188, .int .i64 t189, .int .i64 t190, .int .i64 t191] 25 (0, 0)) (by (with_reducible repeat (first | refine blk_drewN ?_ _ | refine blk_drew ?_ | refine blk_alloc ?_ _)); exact BK192.out) hb)
            have n1_ := Aside0.mk (below_step (by repeat (first | (with_reducible first | exact HB.out | apply below_alloc | apply pw_below_drewN | apply below_drew1 | refine below_set ?_ GE192.out) | exact HB.out)) hb)
            have n2_ := Aside0.mk (hbox)
            have n3_ := Aside0.mk ((by rw [hg]; exact (below_size (by repeat (first | (with_reducible first | exact HB.out | apply below_alloc | apply pw_below_drewN | apply below_drew1 | refine below_set ?_ GE192.out) | exact HB.out))) : w.heap.size ≤ gb203))
            have n4_ := Aside0.mk ((by rw [hg]; exact (below_size (by repeat (first | (with_reducible first | exact HB.out | apply below_alloc | apply pw_below_drewN | apply below_drew1 | refine below_set ?_ GE192.out) | exact HB.out))) : w.heap.size ≤ gb203))
            have n5_ := Aside0.mk ((by rw [hg]; exact Nat.ne_of_lt (blk_lt (g := gb192) (o := .cells #[.bool t188, .int .i64 t189, .int .i64 t190, .int .i64 t191] 25 (0, 0)) (by (with_reducible repeat (first | refine blk_drewN ?_ _ | refine blk_drew ?_ | refine blk_alloc ?_ _)); exact BK192.out)) : gb192 ≠ gb203))
            have n6_ := Aside0.mk ((by rw [hg]; exact Nat.ne_of_gt (blk_lt (g := gb192) (o := .cells #[.bool t188, .int .i64 t189, .int .i64 t190, .int .i64 t191] 25 (0, 0)) (by (with_reducible repeat (first | refine blk_drewN ?_ _ | refine blk_drew ?_ | refine blk_alloc ?_ _)); exact BK192.out)) : gb203 ≠ gb192))
            clear BK192
            clear HB
            have BK192 := n0_
            have HB := n1_
            have BK203 := n2_
            have GW203 := n3_
            have GE203 := n4_
            have NB192_203 := n5_
            have NB203_192 := n6_
            clear n0_ n1_ n2_ n3_ n4_ n5_ n6_
            clear hb hbox hg
            refine hK.out _ _ ⟨(blk_cell BK192.out 0).trans rfl, (blk_cell BK192.out 1).trans rfl, (blk_cell BK192.out 2).trans rfl, (blk_cell BK192.out 3).trans rfl⟩ (fun hHeld => ?_)
            clear hK K
            refine norm_ (a' := ?_) ?_ ?_
            rotate_left
            · show Act.put _ (some 10) _ = _
              simp only [Act.put, List.setIfInBounds_toArray, List.set_cons_zero, List.set_cons_succ, i64_w, i32_w]
              rfl
            refine one_ (i := 2) (N := some 43) #[true, true, true, false, false, false, false, true, false, false] rfl rfl (one_of HT_.out (by kernel_rfl)) (by decide) (fun K hK => ?_)
            refine goes_ Try.func20 (by kernel_rfl) rfl #[.slice A1 l1.length c1, .int .i64 0, .int .i64 5000] (by rfl) rfl rfl (by (try simp only [List.map_toArray, List.map_cons, List.map_nil]); first | done | rfl | (simp only [List.length_drop, List.length_take]; rfl)) ?_
            with_reducible refine (laws_at.calls _ _ l1 0 5000 t197 _ ?side1 ?side2 A9.out).mono ?_
            (case side1 => repeat (first | exact (Kd.C_below HR1.out HB.out) | (with_reducible refine Kd.C_alloc ?_ _) | (with_reducible refine Kd.C_drewN ?_ _) | (with_reducible refine Kd.C_drew ?_)))
            (case side2 => exact HC1.out)
            rintro e w' ⟨rfl, ⟨nd, rfl⟩⟩
            refine ⟨_, rfl, ?_⟩
            refine hK.out _ _ ⟨(blk_cell BK192.out 0).trans rfl, (blk_cell BK192.out 1).trans rfl, (blk_cell BK192.out 2).trans rfl, (blk_cell BK192.out 3).trans rfl⟩ (fun hHeld => ?_)
            clear hK K
            refine norm_ (a' := ?_) ?_ ?_
            rotate_left
            · show Act.put _ (some 43) _ = _
              simp only [Act.put, List.setIfInBounds_toArray, List.set_cons_zero, List.set_cons_succ, i64_w, i32_w]
              rfl
            refine one_ (i := 3) (N := some 44) #[true, true, true, true, false, false, false, true, false, false] rfl rfl (one_of HT_.out (by kernel_rfl)) (by decide) (fun K hK => ?_)
            refine goes_ Try.func18 (by kernel_rfl) rfl #[.agg #[.bool t188, .int .i64 t189, .int .i64 t190, .int .i64 t191], .int .i64 t197, .bool true] (by rfl) rfl rfl (by (try simp only [List.map_toArray, List.map_cons, List.map_nil]); first | done | rfl | (simp only [List.length_drop, List.length_take]; rfl)) ?_
            with_reducible refine (impl_Sample.calls t188 t189 t190 t191 t197 true t198 t199 t200 t201 t202 _ A10.out).mono ?_
            rintro e w26 ⟨rfl, hb⟩
            refine ⟨_, rfl, ?_⟩
            have n0_ := Aside0.mk (blk_below (g := gb192) (o := .cells #[.bool t188, .int .i64 t189, .int .i64 t190, .int .i64 t191] 25 (0, 0)) (by (with_reducible repeat (first | refine blk_drewN ?_ _ | refine blk_drew ?_ | refine blk_alloc ?_ _)); exact BK192.out) hb)
            have n1_ := Aside0.mk (blk_below (g := gb203) (o := .cells #[.bool false, .int .i64 0, .int .i64 0, .int .i64 0] 25 (0, 0)) (by (with_reducible repeat (first | refine blk_drewN ?_ _ | refine blk_drew ?_ | refine blk_alloc ?_ _)); exact BK203.out) hb)
            have n2_ := Aside0.mk (below_step (by repeat (first | (with_reducible first | exact HB.out | apply below_alloc | apply pw_below_drewN | apply below_drew1 | refine below_set ?_ GE192.out | refine below_set ?_ GE203.out) | exact HB.out)) hb)
            clear BK192
            clear BK203
            clear HB
            have BK192 := n0_
            have BK203 := n1_
            have HB := n2_
            clear n0_ n1_ n2_
            (try clear hb)
            (try clear hb2)
            (try clear hk)
            (try clear hi)
            refine hK.out _ _ ⟨(blk_cell BK192.out 0).trans rfl, (blk_cell BK192.out 1).trans rfl, (blk_cell BK192.out 2).trans rfl, (blk_cell BK192.out 3).trans rfl⟩ (fun hHeld => ?_)
            clear hK K
            refine norm_ (a' := ?_) ?_ ?_
            rotate_left
            · show Act.put _ (some 44) _ = _
              simp only [Act.put, List.setIfInBounds_toArray, List.set_cons_zero, List.set_cons_succ, i64_w, i32_w]
              rfl
            refine pure_ (i := 4) (N := some 40) (v := ?_) (a' := ?_) #[true, true, true, true, true, false, false, true, false, false] rfl rfl (any_of HT_.out (by kernel_rfl)) (fun _ _ _ h => h) (Or.inl ⟨by rfl, ?_⟩) ?_ ?_
            rotate_left
            · intro w'
              go_simp
              with_reducible rfl
            rotate_left
            · simp only [Act.put, List.setIfInBounds_toArray, List.set_cons_zero, List.set_cons_succ, i64_w, i32_w]
              rfl
            refine pure_ (i := 5) (N := some 45) (v := ?_) (a' := ?_) #[true, true, true, true, true, true, false, true, false, false] rfl rfl (any_of HT_.out (by kernel_rfl)) (fun _ _ _ h => h) (Or.inl ⟨by rfl, ?_⟩) ?_ ?_
            rotate_left
            · intro w'
              go_simp
              with_reducible rfl
            rotate_left
            · simp only [Act.put, List.setIfInBounds_toArray, List.set_cons_zero, List.set_cons_succ, i64_w, i32_w]
              rfl
            refine pure_ (i := 6) (N := some 46) (v := ?_) (a' := ?_) #[true, true, true, true, true, true, true, true, false, false] rfl rfl (any_of HT_.out (by kernel_rfl)) (fun _ _ _ h => h) (Or.inl ⟨by rfl, ?_⟩) ?_ ?_
            rotate_left
            · intro w'
              go_simp
              with_reducible rfl
            rotate_left
            · simp only [Act.put, List.setIfInBounds_toArray, List.set_cons_zero, List.set_cons_succ, i64_w, i32_w]
              rfl
            exact norm_ (by simp only [putAll, Act.put, List.setIfInBounds_toArray, List.set_cons_zero, List.set_cons_succ]) (hCont (gb203) _ ⟨hHeld, (by (with_reducible repeat (first | refine blk_drewN ?_ _ | refine blk_drew ?_ | refine blk_alloc ?_ _)); exact BK192.out), (by (with_reducible repeat (first | refine blk_drewN ?_ _ | refine blk_drew ?_ | refine blk_alloc ?_ _)); exact BK203.out), GW203.out, GE203.out, NB192_203.out, NB203_192.out, (by repeat (first | (with_reducible first | exact HB.out | apply below_alloc | apply pw_below_drewN | apply below_drew1 | refine below_set ?_ GE192.out | refine below_set ?_ GE203.out) | exact HB.out))⟩)
        rintro gb203 w27 ⟨hS_, h0_, h1_, h2_, h3_, h4_, h5_, h6_⟩
        have n0_ : Aside0 (w27.heap[gb192]? = some (.cells #[.bool t188, .int .i64 t189, .int .i64 t190, .int .i64 t191] 25 (0, 0))) := ⟨h0_⟩
        have n1_ : Aside0 (w27.heap[gb203]? = some (.cells #[.bool false, .int .i64 0, .int .i64 0, .int .i64 0] 25 (0, 0))) := ⟨h1_⟩
        have n2_ : Aside0 (w.heap.size ≤ gb203) := ⟨h2_⟩
        have n3_ : Aside0 (w.heap.size ≤ gb203) := ⟨h3_⟩
        have n4_ : Aside0 (gb192 ≠ gb203) := ⟨h4_⟩
        have n5_ : Aside0 (gb203 ≠ gb192) := ⟨h5_⟩
        have n6_ : Aside0 (Below w.heap.size w w27) := ⟨h6_⟩
        clear BK192
        clear HB
        clear h0_ h1_ h2_ h3_ h4_ h5_ h6_
        have BK192 := n0_
        have BK203 := n1_
        have GW203 := n2_
        have GE203 := n3_
        have NB192_203 := n4_
        have NB203_192 := n5_
        have HB := n6_
        clear n0_ n1_ n2_ n3_ n4_ n5_ n6_
        have hHeld : w27.cell? ⟨gb192, 0, none⟩ = some (.bool t188) ∧ w27.cell? ⟨gb192, 1, none⟩ = some (.int .i64 t189) ∧ w27.cell? ⟨gb192, 2, none⟩ = some (.int .i64 t190) ∧ w27.cell? ⟨gb192, 3, none⟩ = some (.int .i64 t191) := hS_
        refine norm_ (a' := ?_) ?_ ?_
        rotate_left
        · simp only [putAll, Act.put, List.setIfInBounds_toArray, List.set_cons_zero, List.set_cons_succ]
          rfl
        refine one_ (i := 8) (N := none) #[true, true, true, true, true, true, true, true, true, false] rfl rfl (one_of HT_.out (by kernel_rfl)) (by decide) (fun K hK => ?_)
        have hs28 : w27.cell? ⟨gb203, 0, none⟩ = some (.bool false) := (blk_cell BK203.out 0).trans rfl
        have hfs28 := blk_frozen BK203.out 0
        have hns28_0 := NB192_203.out
        have hms28_0 := NB203_192.out
        have hs29 : w27.cell? ⟨gb203, 1, none⟩ = some (.int .i64 0) := (blk_cell BK203.out 1).trans rfl
        have hfs29 := blk_frozen BK203.out 1
        have hns29_0 := NB192_203.out
        have hms29_0 := NB203_192.out
        have hs30 : w27.cell? ⟨gb203, 2, none⟩ = some (.int .i64 0) := (blk_cell BK203.out 2).trans rfl
        have hfs30 := blk_frozen BK203.out 2
        have hns30_0 := NB192_203.out
        have hms30_0 := NB203_192.out
        have hs31 : w27.cell? ⟨gb203, 3, none⟩ = some (.int .i64 0) := (blk_cell BK203.out 3).trans rfl
        have hfs31 := blk_frozen BK203.out 3
        have hns31_0 := NB192_203.out
        have hms31_0 := NB203_192.out
        refine skip_ (w1 := ?_) (by rfl) rfl ?_ ?_
        rotate_left
        · go_simp
          rfl
        refine hK.out _ _ ⟨((cell_far (p := ⟨gb203, _, none⟩) NB192_203.out _).trans (((cell_far (p := ⟨gb203, _, none⟩) NB192_203.out _).trans (((cell_far (p := ⟨gb203, _, none⟩) NB192_203.out _).trans (((cell_far (p := ⟨gb203, _, none⟩) NB192_203.out _).trans (hHeld.1)))))))), ((cell_far (p := ⟨gb203, _, none⟩) NB192_203.out _).trans (((cell_far (p := ⟨gb203, _, none⟩) NB192_203.out _).trans (((cell_far (p := ⟨gb203, _, none⟩) NB192_203.out _).trans (((cell_far (p := ⟨gb203, _, none⟩) NB192_203.out _).trans (hHeld.2.1)))))))), ((cell_far (p := ⟨gb203, _, none⟩) NB192_203.out _).trans (((cell_far (p := ⟨gb203, _, none⟩) NB192_203.out _).trans (((cell_far (p := ⟨gb203, _, none⟩) NB192_203.out _).trans (((cell_far (p := ⟨gb203, _, none⟩) NB192_203.out _).trans (hHeld.2.2.1)))))))), ((cell_far (p := ⟨gb203, _, none⟩) NB192_203.out _).trans (((cell_far (p := ⟨gb203, _, none⟩) NB192_203.out _).trans (((cell_far (p := ⟨gb203, _, none⟩) NB192_203.out _).trans (((cell_far (p := ⟨gb203, _, none⟩) NB192_203.out _).trans (hHeld.2.2.2))))))))⟩ (fun hHeld => ?_)
        clear hK K
        refine pure_ (i := 9) (N := some 11) (v := ?_) (a' := ?_) #[true, true, true, true, true, true, true, true, true, true] rfl rfl (any_of HT_.out (by kernel_rfl)) (fun _ _ _ h => h) (Or.inl ⟨by rfl, ?_⟩) ?_ ?_
        rotate_left
        · intro w'
          go_simp
          with_reducible rfl
        rotate_left
        · simp only [Act.put, List.setIfInBounds_toArray, List.set_cons_zero, List.set_cons_succ, i64_w, i32_w]
          rfl
        refine done_ (done_of HT_.out (by kernel_rfl)) ?_
        try go_wp2
        have n0_ : Aside0 (((((w27.setCell ⟨gb203, 0, none⟩ (.bool t198)).setCell ⟨gb203, 1, none⟩ (.int .i64 t199)).setCell ⟨gb203, 2, none⟩ (.int .i64 t200)).setCell ⟨gb203, 3, none⟩ (.int .i64 t201)).heap[gb192]? = some (.cells #[.bool t188, .int .i64 t189, .int .i64 t190, .int .i64 t191] 25 (0, 0))) := ⟨by (with_reducible repeat (first | refine blk_drewN ?_ _ | refine blk_drew ?_ | refine blk_alloc ?_ _)); refine blk_far ?_ NB192_203.out _; (with_reducible repeat (first | refine blk_drewN ?_ _ | refine blk_drew ?_ | refine blk_alloc ?_ _)); refine blk_far ?_ NB192_203.out _; (with_reducible repeat (first | refine blk_drewN ?_ _ | refine blk_drew ?_ | refine blk_alloc ?_ _)); refine blk_far ?_ NB192_203.out _; (with_reducible repeat (first | refine blk_drewN ?_ _ | refine blk_drew ?_ | refine blk_alloc ?_ _)); refine blk_far ?_ NB192_203.out _; (with_reducible repeat (first | refine blk_drewN ?_ _ | refine blk_drew ?_ | refine blk_alloc ?_ _)); exact BK192.out⟩
        have n1_ : Aside0 (((((w27.setCell ⟨gb203, 0, none⟩ (.bool t198)).setCell ⟨gb203, 1, none⟩ (.int .i64 t199)).setCell ⟨gb203, 2, none⟩ (.int .i64 t200)).setCell ⟨gb203, 3, none⟩ (.int .i64 t201)).heap[gb203]? = some (.cells #[.bool t198, .int .i64 t199, .int .i64 t200, .int .i64 t201] 25 (0, 0))) := ⟨by (with_reducible repeat (first | refine blk_drewN ?_ _ | refine blk_drew ?_ | refine blk_alloc ?_ _)); refine blk_put (cs := #[.bool t198, .int .i64 t199, .int .i64 t200, .int .i64 0]) ?_ 3 _ rfl; (with_reducible repeat (first | refine blk_drewN ?_ _ | refine blk_drew ?_ | refine blk_alloc ?_ _)); refine blk_put (cs := #[.bool t198, .int .i64 t199, .int .i64 0, .int .i64 0]) ?_ 2 _ rfl; (with_reducible repeat (first | refine blk_drewN ?_ _ | refine blk_drew ?_ | refine blk_alloc ?_ _)); refine blk_put (cs := #[.bool t198, .int .i64 0, .int .i64 0, .int .i64 0]) ?_ 1 _ rfl; (with_reducible repeat (first | refine blk_drewN ?_ _ | refine blk_drew ?_ | refine blk_alloc ?_ _)); refine blk_put (cs := #[.bool false, .int .i64 0, .int .i64 0, .int .i64 0]) ?_ 0 _ rfl; (with_reducible repeat (first | refine blk_drewN ?_ _ | refine blk_drew ?_ | refine blk_alloc ?_ _)); exact BK203.out⟩
        have n2_ : Aside0 (Below w.heap.size w ((((w27.setCell ⟨gb203, 0, none⟩ (.bool t198)).setCell ⟨gb203, 1, none⟩ (.int .i64 t199)).setCell ⟨gb203, 2, none⟩ (.int .i64 t200)).setCell ⟨gb203, 3, none⟩ (.int .i64 t201))) := ⟨by repeat (first | (with_reducible first | exact HB.out | apply below_alloc | apply pw_below_drewN | apply below_drew1 | refine below_set ?_ GE192.out | refine below_set ?_ GE203.out) | exact HB.out)⟩
        (try clear BK192)
        (try clear BK203)
        (try clear HB)
        generalize ((((w27.setCell ⟨gb203, 0, none⟩ (.bool t198)).setCell ⟨gb203, 1, none⟩ (.int .i64 t199)).setCell ⟨gb203, 2, none⟩ (.int .i64 t200)).setCell ⟨gb203, 3, none⟩ (.int .i64 t201)) = w32 at n0_ n1_ n2_ ⊢
        have BK192 := n0_
        have BK203 := n1_
        have HB := n2_
        clear n0_ n1_ n2_
        have n0_ := Aside0.mk (blk_drew BK192.out)
        have n1_ := Aside0.mk (blk_drew BK203.out)
        have n2_ := Aside0.mk (below_drew1 HB.out)
        clear BK192
        clear BK203
        clear HB
        have BK192 := n0_
        have BK203 := n1_
        have HB := n2_
        clear n0_ n1_ n2_
        refine start_ (n := 10) (S := fun w' => w'.cell? ⟨gb192, 0, none⟩ = some (.bool t188) ∧ w'.cell? ⟨gb192, 1, none⟩ = some (.int .i64 t189) ∧ w'.cell? ⟨gb192, 2, none⟩ = some (.int .i64 t190) ∧ w'.cell? ⟨gb192, 3, none⟩ = some (.int .i64 t191)) (ds := []) #[false, false, false, false, false, false, false, false, false, false] (by kernel_rfl) rfl rfl ⟨(blk_cell BK192.out 0).trans rfl, (blk_cell BK192.out 1).trans rfl, (blk_cell BK192.out 2).trans rfl, (blk_cell BK192.out 3).trans rfl⟩ (fun hHeld => ?_); refine with_tabW laws_FnRto.tab7 laws_FnRto.bits7 (fun HT_ HW_ => ?_)
        generalize w32.drew = w33 at BK192 BK203 HB hHeld ⊢
        refine pure_ (i := 1) (N := some 49) (v := ?_) (a' := ?_) #[false, true, false, false, false, false, false, false, false, false] rfl rfl (any_of HT_.out (by kernel_rfl)) (fun _ _ _ h => h) (Or.inl ⟨by rfl, ?_⟩) ?_ ?_
        rotate_left
        · intro w'
          go_simp
          with_reducible rfl
        rotate_left
        · simp only [Act.put, List.setIfInBounds_toArray, List.set_cons_zero, List.set_cons_succ, i64_w, i32_w]
          rfl
        refine take_ (i := 0) (N := some 48) (v := ?_) (a' := ?_) #[true, true, false, false, false, false, false, false, false, false] rfl rfl (take_ofW HT_.out HW_.out (by kernel_rfl)) (fun _ _ _ h => h) (Or.inl ⟨by rfl, ?_⟩) hHeld ?_ ?_
        rotate_left
        · rintro w' ⟨s0, s1, s2, s3⟩
          go_simp
          with_reducible rfl
        rotate_left
        · simp only [Act.put, List.setIfInBounds_toArray, List.set_cons_zero, List.set_cons_succ, i64_w, i32_w]
          rfl
        refine join_ (σ := Nat) 2 #[true, true, true, true, true, true, true, true, false, false] (fun s_ => [(50, .int .i64 t204), (51, .tuple #[.agg #[.bool t205, .int .i64 t206, .int .i64 t207, .int .i64 t208], .int .i64 t209]), (12, .pointer (some ⟨s_, 0, none⟩)), (47, .tuple #[.agg #[.bool t205, .int .i64 t206, .int .i64 t207, .int .i64 t208], .int .i64 t209]), (52, .agg #[.bool t205, .int .i64 t206, .int .i64 t207, .int .i64 t208]), (53, .int .i64 t209)]) (fun s_ w' => (w'.cell? ⟨gb192, 0, none⟩ = some (.bool t188) ∧ w'.cell? ⟨gb192, 1, none⟩ = some (.int .i64 t189) ∧ w'.cell? ⟨gb192, 2, none⟩ = some (.int .i64 t190) ∧ w'.cell? ⟨gb192, 3, none⟩ = some (.int .i64 t191)) ∧ (w'.heap[gb192]? = some (.cells #[.bool t188, .int .i64 t189, .int .i64 t190, .int .i64 t191] 25 (0, 0))) ∧ (w'.heap[gb203]? = some (.cells #[.bool t198, .int .i64 t199, .int .i64 t200, .int .i64 t201] 25 (0, 0))) ∧ (w'.heap[s_]? = some (.cells #[.bool false, .int .i64 0, .int .i64 0, .int .i64 0] 25 (0, 0))) ∧ (w.heap.size ≤ s_) ∧ (w.heap.size ≤ s_) ∧ (gb192 ≠ s_) ∧ (s_ ≠ gb192) ∧ (gb203 ≠ s_) ∧ (s_ ≠ gb203) ∧ (Below w.heap.size w w')) ?_ ?_
        rotate_left
        · intro hCont
          refine two_ (i := 2) (j := 7) (Ni := some 50) (Nj := some 12) #[true, true, true, false, false, false, false, false, false, false] #[true, true, false, false, false, false, false, true, false, false] rfl rfl rfl rfl (two_of HT_.out (by kernel_rfl)) (by decide) (by decide) (fun K hK => ?_) (fun K hK => ?_)
          · skip
            refine goes_ Try.func20 (by kernel_rfl) rfl #[.slice A1 l1.length c1, .int .i64 0, .int .i64 5000] (by rfl) rfl rfl (by (try simp only [List.map_toArray, List.map_cons, List.map_nil]); first | done | rfl | (simp only [List.length_drop, List.length_take]; rfl)) ?_
            with_reducible refine (laws_at.calls _ _ l1 0 5000 t204 _ ?side1 ?side2 A11.out).mono ?_
            (case side1 => repeat (first | exact (Kd.C_below HR1.out HB.out) | (with_reducible refine Kd.C_alloc ?_ _) | (with_reducible refine Kd.C_drewN ?_ _) | (with_reducible refine Kd.C_drew ?_)))
            (case side2 => exact HC1.out)
            rintro e w' ⟨rfl, ⟨nd, rfl⟩⟩
            refine ⟨_, rfl, ?_⟩
            refine hK.out _ _ ⟨(blk_cell BK192.out 0).trans rfl, (blk_cell BK192.out 1).trans rfl, (blk_cell BK192.out 2).trans rfl, (blk_cell BK192.out 3).trans rfl⟩ (fun hHeld => ?_)
            clear hK K
            refine norm_ (a' := ?_) ?_ ?_
            rotate_left
            · show Act.put _ (some 50) _ = _
              simp only [Act.put, List.setIfInBounds_toArray, List.set_cons_zero, List.set_cons_succ, i64_w, i32_w]
              rfl
            refine two_ (i := 3) (j := 7) (Ni := some 51) (Nj := some 12) #[true, true, true, true, false, false, false, false, false, false] #[true, true, true, false, false, false, false, true, false, false] rfl rfl rfl rfl (two_of HT_.out (by kernel_rfl)) (by decide) (by decide) (fun K hK => ?_) (fun K hK => ?_)
            · skip
              refine goes_ Try.func18 (by kernel_rfl) rfl #[.agg #[.bool t188, .int .i64 t189, .int .i64 t190, .int .i64 t191], .int .i64 t204, .bool false] (by rfl) rfl rfl (by (try simp only [List.map_toArray, List.map_cons, List.map_nil]); first | done | rfl | (simp only [List.length_drop, List.length_take]; rfl)) ?_
              with_reducible refine (impl_Sample.calls t188 t189 t190 t191 t204 false t205 t206 t207 t208 t209 _ A12.out).mono ?_
              rintro e w34 ⟨rfl, hb⟩
              refine ⟨_, rfl, ?_⟩
              have n0_ := Aside0.mk (blk_below (g := gb192) (o := .cells #[.bool t188, .int .i64 t189, .int .i64 t190, .int .i64 t191] 25 (0, 0)) (by (with_reducible repeat (first | refine blk_drewN ?_ _ | refine blk_drew ?_ | refine blk_alloc ?_ _)); exact BK192.out) hb)
              have n1_ := Aside0.mk (blk_below (g := gb203) (o := .cells #[.bool t198, .int .i64 t199, .int .i64 t200, .int .i64 t201] 25 (0, 0)) (by (with_reducible repeat (first | refine blk_drewN ?_ _ | refine blk_drew ?_ | refine blk_alloc ?_ _)); exact BK203.out) hb)
              have n2_ := Aside0.mk (below_step (by repeat (first | (with_reducible first | exact HB.out | apply below_alloc | apply pw_below_drewN | apply below_drew1 | refine below_set ?_ GE192.out | refine below_set ?_ GE203.out) | exact HB.out)) hb)
              clear BK192
              clear BK203
              clear HB
              have BK192 := n0_
              have BK203 := n1_
              have HB := n2_
              clear n0_ n1_ n2_
              (try clear hb)
              (try clear hb2)
              (try clear hk)
              (try clear hi)
              refine hK.out _ _ ⟨(blk_cell BK192.out 0).trans rfl, (blk_cell BK192.out 1).trans rfl, (blk_cell BK192.out 2).trans rfl, (blk_cell BK192.out 3).trans rfl⟩ (fun hHeld => ?_)
              clear hK K
              refine norm_ (a' := ?_) ?_ ?_
              rotate_left
              · show Act.put _ (some 51) _ = _
                simp only [Act.put, List.setIfInBounds_toArray, List.set_cons_zero, List.set_cons_succ, i64_w, i32_w]
                rfl
              refine pure_ (i := 4) (N := some 47) (v := ?_) (a' := ?_) #[true, true, true, true, true, false, false, false, false, false] rfl rfl (any_of HT_.out (by kernel_rfl)) (fun _ _ _ h => h) (Or.inl ⟨by rfl, ?_⟩) ?_ ?_
              rotate_left
              · intro w'
                go_simp
                with_reducible rfl
              rotate_left
              · simp only [Act.put, List.setIfInBounds_toArray, List.set_cons_zero, List.set_cons_succ, i64_w, i32_w]
                rfl
              refine pure_ (i := 5) (N := some 52) (v := ?_) (a' := ?_) #[true, true, true, true, true, true, false, false, false, false] rfl rfl (any_of HT_.out (by kernel_rfl)) (fun _ _ _ h => h) (Or.inl ⟨by rfl, ?_⟩) ?_ ?_
              rotate_left
              · intro w'
                go_simp
                with_reducible rfl
              rotate_left
              · simp only [Act.put, List.setIfInBounds_toArray, List.set_cons_zero, List.set_cons_succ, i64_w, i32_w]
                rfl
              refine pure_ (i := 6) (N := some 53) (v := ?_) (a' := ?_) #[true, true, true, true, true, true, true, false, false, false] rfl rfl (any_of HT_.out (by kernel_rfl)) (fun _ _ _ h => h) (Or.inl ⟨by rfl, ?_⟩) ?_ ?_
              rotate_left
              · intro w'
                go_simp
                with_reducible rfl
              rotate_left
              · simp only [Act.put, List.setIfInBounds_toArray, List.set_cons_zero, List.set_cons_succ, i64_w, i32_w]
                rfl
              refine one_ (i := 7) (N := some 12) #[true, true, true, true, true, true, true, true, false, false] rfl rfl (one_of HT_.out (by kernel_rfl)) (by decide) (fun K hK => ?_)
              refine box_step ?hg (N := 12) ?hd (cs := #[.bool false, .int .i64 0, .int .i64 0, .int .i64 0]) (t := 25) ?hr ?_; (case hd => rfl); (case hg => rfl); (case hr => first | (go_simp; done) | (go_simp; rfl))
              intro gb210 hg w35 hbox hb
              have n0_ := Aside0.mk (blk_below (g := gb192) (o := .cells #[.bool t188, .int .i64 t189, .int .i64 t190, .int .i64 t191] 25 (0, 0)) (by (with_reducible repeat (first | refine blk_drewN ?_ _ | refine blk_drew ?_ | refine blk_alloc ?_ _)); exact BK192.out) hb)
              have n1_ := Aside0.mk (blk_below (g := gb203) (o := .cells #[.bool t198, .int .i64 t199, .int .i64 t200, .int .i64 t201] 25 (0, 0)) (by (with_reducible repeat (first | refine blk_drewN ?_ _ | refine blk_drew ?_ | refine blk_alloc ?_ _)); exact BK203.out) hb)
              have n2_ := Aside0.mk (below_step (by repeat (first | (with_reducible first | exact HB.out | apply below_alloc | apply pw_below_drewN | apply below_drew1 | refine below_set ?_ GE192.out | refine below_set ?_ GE203.out) | exact HB.out)) hb)
              have n3_ := Aside0.mk (hbox)
              have n4_ := Aside0.mk ((by rw [hg]; exact (below_size (by repeat (first | (with_reducible first | exact HB.out | apply below_alloc | apply pw_below_drewN | apply below_drew1 | refine below_set ?_ GE192.out | refine below_set ?_ GE203.out) | exact HB.out))) : w.heap.size ≤ gb210))
              have n5_ := Aside0.mk ((by rw [hg]; exact (below_size (by repeat (first | (with_reducible first | exact HB.out | apply below_alloc | apply pw_below_drewN | apply below_drew1 | refine below_set ?_ GE192.out | refine below_set ?_ GE203.out) | exact HB.out))) : w.heap.size ≤ gb210))
              have n6_ := Aside0.mk ((by rw [hg]; exact Nat.ne_of_lt (blk_lt (g := gb192) (o := .cells #[.bool t188, .int .i64 t189, .int .i64 t190, .int .i64 t191] 25 (0, 0)) (by (with_reducible repeat (first | refine blk_drewN ?_ _ | refine blk_drew ?_ | refine blk_alloc ?_ _)); exact BK192.out)) : gb192 ≠ gb210))
              have n7_ := Aside0.mk ((by rw [hg]; exact Nat.ne_of_gt (blk_lt (g := gb192) (o := .cells #[.bool t188, .int .i64 t189, .int .i64 t190, .int .i64 t191] 25 (0, 0)) (by (with_reducible repeat (first | refine blk_drewN ?_ _ | refine blk_drew ?_ | refine blk_alloc ?_ _)); exact BK192.out)) : gb210 ≠ gb192))
              have n8_ := Aside0.mk ((by rw [hg]; exact Nat.ne_of_lt (blk_lt (g := gb203) (o := .cells #[.bool t198, .int .i64 t199, .int .i64 t200, .int .i64 t201] 25 (0, 0)) (by (with_reducible repeat (first | refine blk_drewN ?_ _ | refine blk_drew ?_ | refine blk_alloc ?_ _)); exact BK203.out)) : gb203 ≠ gb210))
              have n9_ := Aside0.mk ((by rw [hg]; exact Nat.ne_of_gt (blk_lt (g := gb203) (o := .cells #[.bool t198, .int .i64 t199, .int .i64 t200, .int .i64 t201] 25 (0, 0)) (by (with_reducible repeat (first | refine blk_drewN ?_ _ | refine blk_drew ?_ | refine blk_alloc ?_ _)); exact BK203.out)) : gb210 ≠ gb203))
              clear BK192
              clear BK203
              clear HB
              have BK192 := n0_
              have BK203 := n1_
              have HB := n2_
              have BK210 := n3_
              have GW210 := n4_
              have GE210 := n5_
              have NB192_210 := n6_
              have NB210_192 := n7_
              have NB203_210 := n8_
              have NB210_203 := n9_
              clear n0_ n1_ n2_ n3_ n4_ n5_ n6_ n7_ n8_ n9_
              clear hb hbox hg
              refine hK.out _ _ ⟨(blk_cell BK192.out 0).trans rfl, (blk_cell BK192.out 1).trans rfl, (blk_cell BK192.out 2).trans rfl, (blk_cell BK192.out 3).trans rfl⟩ (fun hHeld => ?_)
              clear hK K
              refine norm_ (a' := ?_) ?_ ?_
              rotate_left
              · show Act.put _ (some 12) _ = _
                simp only [Act.put, List.setIfInBounds_toArray, List.set_cons_zero, List.set_cons_succ, i64_w, i32_w]
                rfl
              exact norm_ (by simp only [putAll, Act.put, List.setIfInBounds_toArray, List.set_cons_zero, List.set_cons_succ]) (hCont (gb210) _ ⟨hHeld, (by (with_reducible repeat (first | refine blk_drewN ?_ _ | refine blk_drew ?_ | refine blk_alloc ?_ _)); exact BK192.out), (by (with_reducible repeat (first | refine blk_drewN ?_ _ | refine blk_drew ?_ | refine blk_alloc ?_ _)); exact BK203.out), (by (with_reducible repeat (first | refine blk_drewN ?_ _ | refine blk_drew ?_ | refine blk_alloc ?_ _)); exact BK210.out), GW210.out, GE210.out, NB192_210.out, NB210_192.out, NB203_210.out, NB210_203.out, (by repeat (first | (with_reducible first | exact HB.out | apply below_alloc | apply pw_below_drewN | apply below_drew1 | refine below_set ?_ GE192.out | refine below_set ?_ GE203.out | refine below_set ?_ GE210.out) | exact HB.out))⟩)
            · skip
              refine box_step ?hg (N := 12) ?hd (cs := #[.bool false, .int .i64 0, .int .i64 0, .int .i64 0]) (t := 25) ?hr ?_; (case hd => rfl); (case hg => rfl); (case hr => first | (go_simp; done) | (go_simp; rfl))
              intro gb210 hg w34 hbox hb
              have n0_ := Aside0.mk (blk_below (g := gb192) (o := .cells #[.bool t188, .int .i64 t189, .int .i64 t190, .int .i64 t191] 25 (0, 0)) (by (with_reducible repeat (first | refine blk_drewN ?_ _ | refine blk_drew ?_ | refine blk_alloc ?_ _)); exact BK192.out) hb)
              have n1_ := Aside0.mk (blk_below (g := gb203) (o := .cells #[.bool t198, .int .i64 t199, .int .i64 t200, .int .i64 t201] 25 (0, 0)) (by (with_reducible repeat (first | refine blk_drewN ?_ _ | refine blk_drew ?_ | refine blk_alloc ?_ _)); exact BK203.out) hb)
              have n2_ := Aside0.mk (below_step (by repeat (first | (with_reducible first | exact HB.out | apply below_alloc | apply pw_below_drewN | apply below_drew1 | refine below_set ?_ GE192.out | refine below_set ?_ GE203.out) | exact HB.out)) hb)
              have n3_ := Aside0.mk (hbox)
              have n4_ := Aside0.mk ((by rw [hg]; exact (below_size (by repeat (first | (with_reducible first | exact HB.out | apply below_alloc | apply pw_below_drewN | apply below_drew1 | refine below_set ?_ GE192.out | refine below_set ?_ GE203.out) | exact HB.out))) : w.heap.size ≤ gb210))
              have n5_ := Aside0.mk ((by rw [hg]; exact (below_size (by repeat (first | (with_reducible first | exact HB.out | apply below_alloc | apply pw_below_drewN | apply below_drew1 | refine below_set ?_ GE192.out | refine below_set ?_ GE203.out) | exact HB.out))) : w.heap.size ≤ gb210))
              have n6_ := Aside0.mk ((by rw [hg]; exact Nat.ne_of_lt (blk_lt (g := gb192) (o := .cells #[.bool t188, .int .i64 t189, .int .i64 t190, .int .i64 t191] 25 (0, 0)) (by (with_reducible repeat (first | refine blk_drewN ?_ _ | refine blk_drew ?_ | refine blk_alloc ?_ _)); exact BK192.out)) : gb192 ≠ gb210))
              have n7_ := Aside0.mk ((by rw [hg]; exact Nat.ne_of_gt (blk_lt (g := gb192) (o := .cells #[.bool t188, .int .i64 t189, .int .i64 t190, .int .i64 t191] 25 (0, 0)) (by (with_reducible repeat (first | refine blk_drewN ?_ _ | refine blk_drew ?_ | refine blk_alloc ?_ _)); exact BK192.out)) : gb210 ≠ gb192))
              have n8_ := Aside0.mk ((by rw [hg]; exact Nat.ne_of_lt (blk_lt (g := gb203) (o := .cells #[.bool t198, .int .i64 t199, .int .i64 t200, .int .i64 t201] 25 (0, 0)) (by (with_reducible repeat (first | refine blk_drewN ?_ _ | refine blk_drew ?_ | refine blk_alloc ?_ _)); exact BK203.out)) : gb203 ≠ gb210))
              have n9_ := Aside0.mk ((by rw [hg]; exact Nat.ne_of_gt (blk_lt (g := gb203) (o := .cells #[.bool t198, .int .i64 t199, .int .i64 t200, .int .i64 t201] 25 (0, 0)) (by (with_reducible repeat (first | refine blk_drewN ?_ _ | refine blk_drew ?_ | refine blk_alloc ?_ _)); exact BK203.out)) : gb210 ≠ gb203))
              clear BK192
              clear BK203
              clear HB
              have BK192 := n0_
              have BK203 := n1_
              have HB := n2_
              have BK210 := n3_
              have GW210 := n4_
              have GE210 := n5_
              have NB192_210 := n6_
              have NB210_192 := n7_
              have NB203_210 := n8_
              have NB210_203 := n9_
              clear n0_ n1_ n2_ n3_ n4_ n5_ n6_ n7_ n8_ n9_
              clear hb hbox hg
              refine hK.out _ _ ⟨(blk_cell BK192.out 0).trans rfl, (blk_cell BK192.out 1).trans rfl, (blk_cell BK192.out 2).trans rfl, (blk_cell BK192.out 3).trans rfl⟩ (fun hHeld => ?_)
              clear hK K
              refine norm_ (a' := ?_) ?_ ?_
              rotate_left
              · show Act.put _ (some 12) _ = _
                simp only [Act.put, List.setIfInBounds_toArray, List.set_cons_zero, List.set_cons_succ, i64_w, i32_w]
                rfl
              refine one_ (i := 3) (N := some 51) #[true, true, true, true, false, false, false, true, false, false] rfl rfl (one_of HT_.out (by kernel_rfl)) (by decide) (fun K hK => ?_)
              refine goes_ Try.func18 (by kernel_rfl) rfl #[.agg #[.bool t188, .int .i64 t189, .int .i64 t190, .int .i64 t191], .int .i64 t204, .bool false] (by rfl) rfl rfl (by (try simp only [List.map_toArray, List.map_cons, List.map_nil]); first | done | rfl | (simp only [List.length_drop, List.length_take]; rfl)) ?_
              with_reducible refine (impl_Sample.calls t188 t189 t190 t191 t204 false t205 t206 t207 t208 t209 _ A12.out).mono ?_
              rintro e w35 ⟨rfl, hb⟩
              refine ⟨_, rfl, ?_⟩
              have n0_ := Aside0.mk (blk_below (g := gb192) (o := .cells #[.bool t188, .int .i64 t189, .int .i64 t190, .int .i64 t191] 25 (0, 0)) (by (with_reducible repeat (first | refine blk_drewN ?_ _ | refine blk_drew ?_ | refine blk_alloc ?_ _)); exact BK192.out) hb)
              have n1_ := Aside0.mk (blk_below (g := gb203) (o := .cells #[.bool t198, .int .i64 t199, .int .i64 t200, .int .i64 t201] 25 (0, 0)) (by (with_reducible repeat (first | refine blk_drewN ?_ _ | refine blk_drew ?_ | refine blk_alloc ?_ _)); exact BK203.out) hb)
              have n2_ := Aside0.mk (blk_below (g := gb210) (o := .cells #[.bool false, .int .i64 0, .int .i64 0, .int .i64 0] 25 (0, 0)) (by (with_reducible repeat (first | refine blk_drewN ?_ _ | refine blk_drew ?_ | refine blk_alloc ?_ _)); exact BK210.out) hb)
              have n3_ := Aside0.mk (below_step (by repeat (first | (with_reducible first | exact HB.out | apply below_alloc | apply pw_below_drewN | apply below_drew1 | refine below_set ?_ GE192.out | refine below_set ?_ GE203.out | refine below_set ?_ GE210.out) | exact HB.out)) hb)
              clear BK192
              clear BK203
              clear BK210
              clear HB
              have BK192 := n0_
              have BK203 := n1_
              have BK210 := n2_
              have HB := n3_
              clear n0_ n1_ n2_ n3_
              (try clear hb)
              (try clear hb2)
              (try clear hk)
              (try clear hi)
              refine hK.out _ _ ⟨(blk_cell BK192.out 0).trans rfl, (blk_cell BK192.out 1).trans rfl, (blk_cell BK192.out 2).trans rfl, (blk_cell BK192.out 3).trans rfl⟩ (fun hHeld => ?_)
              clear hK K
              refine norm_ (a' := ?_) ?_ ?_
              rotate_left
              · show Act.put _ (some 51) _ = _
                simp only [Act.put, List.setIfInBounds_toArray, List.set_cons_zero, List.set_cons_succ, i64_w, i32_w]
                rfl
              refine pure_ (i := 4) (N := some 47) (v := ?_) (a' := ?_) #[true, true, true, true, true, false, false, true, false, false] rfl rfl (any_of HT_.out (by kernel_rfl)) (fun _ _ _ h => h) (Or.inl ⟨by rfl, ?_⟩) ?_ ?_
              rotate_left
              · intro w'
                go_simp
                with_reducible rfl
              rotate_left
              · simp only [Act.put, List.setIfInBounds_toArray, List.set_cons_zero, List.set_cons_succ, i64_w, i32_w]
                rfl
              refine pure_ (i := 5) (N := some 52) (v := ?_) (a' := ?_) #[true, true, true, true, true, true, false, true, false, false] rfl rfl (any_of HT_.out (by kernel_rfl)) (fun _ _ _ h => h) (Or.inl ⟨by rfl, ?_⟩) ?_ ?_
              rotate_left
              · intro w'
                go_simp
                with_reducible rfl
              rotate_left
              · simp only [Act.put, List.setIfInBounds_toArray, List.set_cons_zero, List.set_cons_succ, i64_w, i32_w]
                rfl
              refine pure_ (i := 6) (N := some 53) (v := ?_) (a' := ?_) #[true, true, true, true, true, true, true, true, false, false] rfl rfl (any_of HT_.out (by kernel_rfl)) (fun _ _ _ h => h) (Or.inl ⟨by rfl, ?_⟩) ?_ ?_
              rotate_left
              · intro w'
                go_simp
                with_reducible rfl
              rotate_left
              · simp only [Act.put, List.setIfInBounds_toArray, List.set_cons_zero, List.set_cons_succ, i64_w, i32_w]
                rfl
              exact norm_ (by simp only [putAll, Act.put, List.setIfInBounds_toArray, List.set_cons_zero, List.set_cons_succ]) (hCont (gb210) _ ⟨hHeld, (by (with_reducible repeat (first | refine blk_drewN ?_ _ | refine blk_drew ?_ | refine blk_alloc ?_ _)); exact BK192.out), (by (with_reducible repeat (first | refine blk_drewN ?_ _ | refine blk_drew ?_ | refine blk_alloc ?_ _)); exact BK203.out), (by (with_reducible repeat (first | refine blk_drewN ?_ _ | refine blk_drew ?_ | refine blk_alloc ?_ _)); exact BK210.out), GW210.out, GE210.out, NB192_210.out, NB210_192.out, NB203_210.out, NB210_203.out, (by repeat (first | (with_reducible first | exact HB.out | apply below_alloc | apply pw_below_drewN | apply below_drew1 | refine below_set ?_ GE192.out | refine below_set ?_ GE203.out | refine below_set ?_ GE210.out) | exact HB.out))⟩)
          · skip
            refine box_step ?hg (N := 12) ?hd (cs := #[.bool false, .int .i64 0, .int .i64 0, .int .i64 0]) (t := 25) ?hr ?_; (case hd => rfl); (case hg => rfl); (case hr => first | (go_simp; done) | (go_simp; rfl))
            intro gb210 hg w34 hbox hb
            have n0_ := Aside0.mk (blk_below (g := gb192) (o := .cells #[.bool t188, .int .i64 t189, .int .i64 t190, .int .i64 t191] 25 (0, 0)) (by (with_reducible repeat (first | refine blk_drewN ?_ _ | refine blk_drew ?_ | refine blk_alloc ?_ _)); exact BK192.out) hb)
            have n1_ := Aside0.mk (blk_below (g := gb203) (o := .cells #[.bool t198, .int .i64 t199, .int .i64 t200, .int .i64 t201] 25 (0, 0)) (by (with_reducible repeat (first | refine blk_drewN ?_ _ | refine blk_drew ?_ | refine blk_alloc ?_ _)); exact BK203.out) hb)
            have n2_ := Aside0.mk (below_step (by repeat (first | (with_reducible first | exact HB.out | apply below_alloc | apply pw_below_drewN | apply below_drew1 | refine below_set ?_ GE192.out | refine below_set ?_ GE203.out) | exact HB.out)) hb)
            have n3_ := Aside0.mk (hbox)
            have n4_ := Aside0.mk ((by rw [hg]; exact (below_size (by repeat (first | (with_reducible first | exact HB.out | apply below_alloc | apply pw_below_drewN | apply below_drew1 | refine below_set ?_ GE192.out | refine below_set ?_ GE203.out) | exact HB.out))) : w.heap.size ≤ gb210))
            have n5_ := Aside0.mk ((by rw [hg]; exact (below_size (by repeat (first | (with_reducible first | exact HB.out | apply below_alloc | apply pw_below_drewN | apply below_drew1 | refine below_set ?_ GE192.out | refine below_set ?_ GE203.out) | exact HB.out))) : w.heap.size ≤ gb210))
            have n6_ := Aside0.mk ((by rw [hg]; exact Nat.ne_of_lt (blk_lt (g := gb192) (o := .cells #[.bool t188, .int .i64 t189, .int .i64 t190, .int .i64 t191] 25 (0, 0)) (by (with_reducible repeat (first | refine blk_drewN ?_ _ | refine blk_drew ?_ | refine blk_alloc ?_ _)); exact BK192.out)) : gb192 ≠ gb210))
            have n7_ := Aside0.mk ((by rw [hg]; exact Nat.ne_of_gt (blk_lt (g := gb192) (o := .cells #[.bool t188, .int .i64 t189, .int .i64 t190, .int .i64 t191] 25 (0, 0)) (by (with_reducible repeat (first | refine blk_drewN ?_ _ | refine blk_drew ?_ | refine blk_alloc ?_ _)); exact BK192.out)) : gb210 ≠ gb192))
            have n8_ := Aside0.mk ((by rw [hg]; exact Nat.ne_of_lt (blk_lt (g := gb203) (o := .cells #[.bool t198, .int .i64 t199, .int .i64 t200, .int .i64 t201] 25 (0, 0)) (by (with_reducible repeat (first | refine blk_drewN ?_ _ | refine blk_drew ?_ | refine blk_alloc ?_ _)); exact BK203.out)) : gb203 ≠ gb210))
            have n9_ := Aside0.mk ((by rw [hg]; exact Nat.ne_of_gt (blk_lt (g := gb203) (o := .cells #[.bool t198, .int .i64 t199, .int .i64 t200, .int .i64 t201] 25 (0, 0)) (by (with_reducible repeat (first | refine blk_drewN ?_ _ | refine blk_drew ?_ | refine blk_alloc ?_ _)); exact BK203.out)) : gb210 ≠ gb203))
            clear BK192
            clear BK203
            clear HB
            have BK192 := n0_
            have BK203 := n1_
            have HB := n2_
            have BK210 := n3_
            have GW210 := n4_
            have GE210 := n5_
            have NB192_210 := n6_
            have NB210_192 := n7_
            have NB203_210 := n8_
            have NB210_203 := n9_
            clear n0_ n1_ n2_ n3_ n4_ n5_ n6_ n7_ n8_ n9_
            clear hb hbox hg
            refine hK.out _ _ ⟨(blk_cell BK192.out 0).trans rfl, (blk_cell BK192.out 1).trans rfl, (blk_cell BK192.out 2).trans rfl, (blk_cell BK192.out 3).trans rfl⟩ (fun hHeld => ?_)
            clear hK K
            refine norm_ (a' := ?_) ?_ ?_
            rotate_left
            · show Act.put _ (some 12) _ = _
              simp only [Act.put, List.setIfInBounds_toArray, List.set_cons_zero, List.set_cons_succ, i64_w, i32_w]
              rfl
            refine one_ (i := 2) (N := some 50) #[true, true, true, false, false, false, false, true, false, false] rfl rfl (one_of HT_.out (by kernel_rfl)) (by decide) (fun K hK => ?_)
            refine goes_ Try.func20 (by kernel_rfl) rfl #[.slice A1 l1.length c1, .int .i64 0, .int .i64 5000] (by rfl) rfl rfl (by (try simp only [List.map_toArray, List.map_cons, List.map_nil]); first | done | rfl | (simp only [List.length_drop, List.length_take]; rfl)) ?_
            with_reducible refine (laws_at.calls _ _ l1 0 5000 t204 _ ?side1 ?side2 A11.out).mono ?_
            (case side1 => repeat (first | exact (Kd.C_below HR1.out HB.out) | (with_reducible refine Kd.C_alloc ?_ _) | (with_reducible refine Kd.C_drewN ?_ _) | (with_reducible refine Kd.C_drew ?_)))
            (case side2 => exact HC1.out)
            rintro e w' ⟨rfl, ⟨nd, rfl⟩⟩
            refine ⟨_, rfl, ?_⟩
            refine hK.out _ _ ⟨(blk_cell BK192.out 0).trans rfl, (blk_cell BK192.out 1).trans rfl, (blk_cell BK192.out 2).trans rfl, (blk_cell BK192.out 3).trans rfl⟩ (fun hHeld => ?_)
            clear hK K
            refine norm_ (a' := ?_) ?_ ?_
            rotate_left
            · show Act.put _ (some 50) _ = _
              simp only [Act.put, List.setIfInBounds_toArray, List.set_cons_zero, List.set_cons_succ, i64_w, i32_w]
              rfl
            refine one_ (i := 3) (N := some 51) #[true, true, true, true, false, false, false, true, false, false] rfl rfl (one_of HT_.out (by kernel_rfl)) (by decide) (fun K hK => ?_)
            refine goes_ Try.func18 (by kernel_rfl) rfl #[.agg #[.bool t188, .int .i64 t189, .int .i64 t190, .int .i64 t191], .int .i64 t204, .bool false] (by rfl) rfl rfl (by (try simp only [List.map_toArray, List.map_cons, List.map_nil]); first | done | rfl | (simp only [List.length_drop, List.length_take]; rfl)) ?_
            with_reducible refine (impl_Sample.calls t188 t189 t190 t191 t204 false t205 t206 t207 t208 t209 _ A12.out).mono ?_
            rintro e w35 ⟨rfl, hb⟩
            refine ⟨_, rfl, ?_⟩
            have n0_ := Aside0.mk (blk_below (g := gb192) (o := .cells #[.bool t188, .int .i64 t189, .int .i64 t190, .int .i64 t191] 25 (0, 0)) (by (with_reducible repeat (first | refine blk_drewN ?_ _ | refine blk_drew ?_ | refine blk_alloc ?_ _)); exact BK192.out) hb)
            have n1_ := Aside0.mk (blk_below (g := gb203) (o := .cells #[.bool t198, .int .i64 t199, .int .i64 t200, .int .i64 t201] 25 (0, 0)) (by (with_reducible repeat (first | refine blk_drewN ?_ _ | refine blk_drew ?_ | refine blk_alloc ?_ _)); exact BK203.out) hb)
            have n2_ := Aside0.mk (blk_below (g := gb210) (o := .cells #[.bool false, .int .i64 0, .int .i64 0, .int .i64 0] 25 (0, 0)) (by (with_reducible repeat (first | refine blk_drewN ?_ _ | refine blk_drew ?_ | refine blk_alloc ?_ _)); exact BK210.out) hb)
            have n3_ := Aside0.mk (below_step (by repeat (first | (with_reducible first | exact HB.out | apply below_alloc | apply pw_below_drewN | apply below_drew1 | refine below_set ?_ GE192.out | refine below_set ?_ GE203.out | refine below_set ?_ GE210.out) | exact HB.out)) hb)
            clear BK192
            clear BK203
            clear BK210
            clear HB
            have BK192 := n0_
            have BK203 := n1_
            have BK210 := n2_
            have HB := n3_
            clear n0_ n1_ n2_ n3_
            (try clear hb)
            (try clear hb2)
            (try clear hk)
            (try clear hi)
            refine hK.out _ _ ⟨(blk_cell BK192.out 0).trans rfl, (blk_cell BK192.out 1).trans rfl, (blk_cell BK192.out 2).trans rfl, (blk_cell BK192.out 3).trans rfl⟩ (fun hHeld => ?_)
            clear hK K
            refine norm_ (a' := ?_) ?_ ?_
            rotate_left
            · show Act.put _ (some 51) _ = _
              simp only [Act.put, List.setIfInBounds_toArray, List.set_cons_zero, List.set_cons_succ, i64_w, i32_w]
              rfl
            refine pure_ (i := 4) (N := some 47) (v := ?_) (a' := ?_) #[true, true, true, true, true, false, false, true, false, false] rfl rfl (any_of HT_.out (by kernel_rfl)) (fun _ _ _ h => h) (Or.inl ⟨by rfl, ?_⟩) ?_ ?_
            rotate_left
            · intro w'
              go_simp
              with_reducible rfl
            rotate_left
            · simp only [Act.put, List.setIfInBounds_toArray, List.set_cons_zero, List.set_cons_succ, i64_w, i32_w]
              rfl
            refine pure_ (i := 5) (N := some 52) (v := ?_) (a' := ?_) #[true, true, true, true, true, true, false, true, false, false] rfl rfl (any_of HT_.out (by kernel_rfl)) (fun _ _ _ h => h) (Or.inl ⟨by rfl, ?_⟩) ?_ ?_
            rotate_left
            · intro w'
              go_simp
              with_reducible rfl
            rotate_left
            · simp only [Act.put, List.setIfInBounds_toArray, List.set_cons_zero, List.set_cons_succ, i64_w, i32_w]
              rfl
            refine pure_ (i := 6) (N := some 53) (v := ?_) (a' := ?_) #[true, true, true, true, true, true, true, true, false, false] rfl rfl (any_of HT_.out (by kernel_rfl)) (fun _ _ _ h => h) (Or.inl ⟨by rfl, ?_⟩) ?_ ?_
            rotate_left
            · intro w'
              go_simp
              with_reducible rfl
            rotate_left
            · simp only [Act.put, List.setIfInBounds_toArray, List.set_cons_zero, List.set_cons_succ, i64_w, i32_w]
              rfl
            exact norm_ (by simp only [putAll, Act.put, List.setIfInBounds_toArray, List.set_cons_zero, List.set_cons_succ]) (hCont (gb210) _ ⟨hHeld, (by (with_reducible repeat (first | refine blk_drewN ?_ _ | refine blk_drew ?_ | refine blk_alloc ?_ _)); exact BK192.out), (by (with_reducible repeat (first | refine blk_drewN ?_ _ | refine blk_drew ?_ | refine blk_alloc ?_ _)); exact BK203.out), (by (with_reducible repeat (first | refine blk_drewN ?_ _ | refine blk_drew ?_ | refine blk_alloc ?_ _)); exact BK210.out), GW210.out, GE210.out, NB192_210.out, NB210_192.out, NB203_210.out, NB210_203.out, (by repeat (first | (with_reducible first | exact HB.out | apply below_alloc | apply pw_below_drewN | apply below_drew1 | refine below_set ?_ GE192.out | refine below_set ?_ GE203.out | refine below_set ?_ GE210.out) | exact HB.out))⟩)
        rintro gb210 w36 ⟨hS_, h0_, h1_, h2_, h3_, h4_, h5_, h6_, h7_, h8_, h9_⟩
        have n0_ : Aside0 (w36.heap[gb192]? = some (.cells #[.bool t188, .int .i64 t189, .int .i64 t190, .int .i64 t191] 25 (0, 0))) := ⟨h0_⟩
        have n1_ : Aside0 (w36.heap[gb203]? = some (.cells #[.bool t198, .int .i64 t199, .int .i64 t200, .int .i64 t201] 25 (0, 0))) := ⟨h1_⟩
        have n2_ : Aside0 (w36.heap[gb210]? = some (.cells #[.bool false, .int .i64 0, .int .i64 0, .int .i64 0] 25 (0, 0))) := ⟨h2_⟩
        have n3_ : Aside0 (w.heap.size ≤ gb210) := ⟨h3_⟩
        have n4_ : Aside0 (w.heap.size ≤ gb210) := ⟨h4_⟩
        have n5_ : Aside0 (gb192 ≠ gb210) := ⟨h5_⟩
        have n6_ : Aside0 (gb210 ≠ gb192) := ⟨h6_⟩
        have n7_ : Aside0 (gb203 ≠ gb210) := ⟨h7_⟩
        have n8_ : Aside0 (gb210 ≠ gb203) := ⟨h8_⟩
        have n9_ : Aside0 (Below w.heap.size w w36) := ⟨h9_⟩
        clear BK192
        clear BK203
        clear HB
        clear h0_ h1_ h2_ h3_ h4_ h5_ h6_ h7_ h8_ h9_
        have BK192 := n0_
        have BK203 := n1_
        have BK210 := n2_
        have GW210 := n3_
        have GE210 := n4_
        have NB192_210 := n5_
        have NB210_192 := n6_
        have NB203_210 := n7_
        have NB210_203 := n8_
        have HB := n9_
        clear n0_ n1_ n2_ n3_ n4_ n5_ n6_ n7_ n8_ n9_
        have hHeld : w36.cell? ⟨gb192, 0, none⟩ = some (.bool t188) ∧ w36.cell? ⟨gb192, 1, none⟩ = some (.int .i64 t189) ∧ w36.cell? ⟨gb192, 2, none⟩ = some (.int .i64 t190) ∧ w36.cell? ⟨gb192, 3, none⟩ = some (.int .i64 t191) := hS_
        refine norm_ (a' := ?_) ?_ ?_
        rotate_left
        · simp only [putAll, Act.put, List.setIfInBounds_toArray, List.set_cons_zero, List.set_cons_succ]
          rfl
        refine one_ (i := 8) (N := none) #[true, true, true, true, true, true, true, true, true, false] rfl rfl (one_of HT_.out (by kernel_rfl)) (by decide) (fun K hK => ?_)
        have hs37 : w36.cell? ⟨gb210, 0, none⟩ = some (.bool false) := (blk_cell BK210.out 0).trans rfl
        have hfs37 := blk_frozen BK210.out 0
        have hns37_0 := NB192_210.out
        have hns37_1 := NB203_210.out
        have hms37_0 := NB210_192.out
        have hms37_1 := NB210_203.out
        have hs38 : w36.cell? ⟨gb210, 1, none⟩ = some (.int .i64 0) := (blk_cell BK210.out 1).trans rfl
        have hfs38 := blk_frozen BK210.out 1
        have hns38_0 := NB192_210.out
        have hns38_1 := NB203_210.out
        have hms38_0 := NB210_192.out
        have hms38_1 := NB210_203.out
        have hs39 : w36.cell? ⟨gb210, 2, none⟩ = some (.int .i64 0) := (blk_cell BK210.out 2).trans rfl
        have hfs39 := blk_frozen BK210.out 2
        have hns39_0 := NB192_210.out
        have hns39_1 := NB203_210.out
        have hms39_0 := NB210_192.out
        have hms39_1 := NB210_203.out
        have hs40 : w36.cell? ⟨gb210, 3, none⟩ = some (.int .i64 0) := (blk_cell BK210.out 3).trans rfl
        have hfs40 := blk_frozen BK210.out 3
        have hns40_0 := NB192_210.out
        have hns40_1 := NB203_210.out
        have hms40_0 := NB210_192.out
        have hms40_1 := NB210_203.out
        refine skip_ (w1 := ?_) (by rfl) rfl ?_ ?_
        rotate_left
        · go_simp
          rfl
        refine hK.out _ _ ⟨((cell_far (p := ⟨gb210, _, none⟩) NB192_210.out _).trans (((cell_far (p := ⟨gb210, _, none⟩) NB192_210.out _).trans (((cell_far (p := ⟨gb210, _, none⟩) NB192_210.out _).trans (((cell_far (p := ⟨gb210, _, none⟩) NB192_210.out _).trans (hHeld.1)))))))), ((cell_far (p := ⟨gb210, _, none⟩) NB192_210.out _).trans (((cell_far (p := ⟨gb210, _, none⟩) NB192_210.out _).trans (((cell_far (p := ⟨gb210, _, none⟩) NB192_210.out _).trans (((cell_far (p := ⟨gb210, _, none⟩) NB192_210.out _).trans (hHeld.2.1)))))))), ((cell_far (p := ⟨gb210, _, none⟩) NB192_210.out _).trans (((cell_far (p := ⟨gb210, _, none⟩) NB192_210.out _).trans (((cell_far (p := ⟨gb210, _, none⟩) NB192_210.out _).trans (((cell_far (p := ⟨gb210, _, none⟩) NB192_210.out _).trans (hHeld.2.2.1)))))))), ((cell_far (p := ⟨gb210, _, none⟩) NB192_210.out _).trans (((cell_far (p := ⟨gb210, _, none⟩) NB192_210.out _).trans (((cell_far (p := ⟨gb210, _, none⟩) NB192_210.out _).trans (((cell_far (p := ⟨gb210, _, none⟩) NB192_210.out _).trans (hHeld.2.2.2))))))))⟩ (fun hHeld => ?_)
        clear hK K
        refine pure_ (i := 9) (N := some 13) (v := ?_) (a' := ?_) #[true, true, true, true, true, true, true, true, true, true] rfl rfl (any_of HT_.out (by kernel_rfl)) (fun _ _ _ h => h) (Or.inl ⟨by rfl, ?_⟩) ?_ ?_
        rotate_left
        · intro w'
          go_simp
          with_reducible rfl
        rotate_left
        · simp only [Act.put, List.setIfInBounds_toArray, List.set_cons_zero, List.set_cons_succ, i64_w, i32_w]
          rfl
        refine done_ (done_of HT_.out (by kernel_rfl)) ?_
        try go_wp2
        have n0_ : Aside0 (((((w36.setCell ⟨gb210, 0, none⟩ (.bool t205)).setCell ⟨gb210, 1, none⟩ (.int .i64 t206)).setCell ⟨gb210, 2, none⟩ (.int .i64 t207)).setCell ⟨gb210, 3, none⟩ (.int .i64 t208)).heap[gb192]? = some (.cells #[.bool t188, .int .i64 t189, .int .i64 t190, .int .i64 t191] 25 (0, 0))) := ⟨by (with_reducible repeat (first | refine blk_drewN ?_ _ | refine blk_drew ?_ | refine blk_alloc ?_ _)); refine blk_far ?_ NB192_210.out _; (with_reducible repeat (first | refine blk_drewN ?_ _ | refine blk_drew ?_ | refine blk_alloc ?_ _)); refine blk_far ?_ NB192_210.out _; (with_reducible repeat (first | refine blk_drewN ?_ _ | refine blk_drew ?_ | refine blk_alloc ?_ _)); refine blk_far ?_ NB192_210.out _; (with_reducible repeat (first | refine blk_drewN ?_ _ | refine blk_drew ?_ | refine blk_alloc ?_ _)); refine blk_far ?_ NB192_210.out _; (with_reducible repeat (first | refine blk_drewN ?_ _ | refine blk_drew ?_ | refine blk_alloc ?_ _)); exact BK192.out⟩
        have n1_ : Aside0 (((((w36.setCell ⟨gb210, 0, none⟩ (.bool t205)).setCell ⟨gb210, 1, none⟩ (.int .i64 t206)).setCell ⟨gb210, 2, none⟩ (.int .i64 t207)).setCell ⟨gb210, 3, none⟩ (.int .i64 t208)).heap[gb203]? = some (.cells #[.bool t198, .int .i64 t199, .int .i64 t200, .int .i64 t201] 25 (0, 0))) := ⟨by (with_reducible repeat (first | refine blk_drewN ?_ _ | refine blk_drew ?_ | refine blk_alloc ?_ _)); refine blk_far ?_ NB203_210.out _; (with_reducible repeat (first | refine blk_drewN ?_ _ | refine blk_drew ?_ | refine blk_alloc ?_ _)); refine blk_far ?_ NB203_210.out _; (with_reducible repeat (first | refine blk_drewN ?_ _ | refine blk_drew ?_ | refine blk_alloc ?_ _)); refine blk_far ?_ NB203_210.out _; (with_reducible repeat (first | refine blk_drewN ?_ _ | refine blk_drew ?_ | refine blk_alloc ?_ _)); refine blk_far ?_ NB203_210.out _; (with_reducible repeat (first | refine blk_drewN ?_ _ | refine blk_drew ?_ | refine blk_alloc ?_ _)); exact BK203.out⟩
        have n2_ : Aside0 (((((w36.setCell ⟨gb210, 0, none⟩ (.bool t205)).setCell ⟨gb210, 1, none⟩ (.int .i64 t206)).setCell ⟨gb210, 2, none⟩ (.int .i64 t207)).setCell ⟨gb210, 3, none⟩ (.int .i64 t208)).heap[gb210]? = some (.cells #[.bool t205, .int .i64 t206, .int .i64 t207, .int .i64 t208] 25 (0, 0))) := ⟨by (with_reducible repeat (first | refine blk_drewN ?_ _ | refine blk_drew ?_ | refine blk_alloc ?_ _)); refine blk_put (cs := #[.bool t205, .int .i64 t206, .int .i64 t207, .int .i64 0]) ?_ 3 _ rfl; (with_reducible repeat (first | refine blk_drewN ?_ _ | refine blk_drew ?_ | refine blk_alloc ?_ _)); refine blk_put (cs := #[.bool t205, .int .i64 t206, .int .i64 0, .int .i64 0]) ?_ 2 _ rfl; (with_reducible repeat (first | refine blk_drewN ?_ _ | refine blk_drew ?_ | refine blk_alloc ?_ _)); refine blk_put (cs := #[.bool t205, .int .i64 0, .int .i64 0, .int .i64 0]) ?_ 1 _ rfl; (with_reducible repeat (first | refine blk_drewN ?_ _ | refine blk_drew ?_ | refine blk_alloc ?_ _)); refine blk_put (cs := #[.bool false, .int .i64 0, .int .i64 0, .int .i64 0]) ?_ 0 _ rfl; (with_reducible repeat (first | refine blk_drewN ?_ _ | refine blk_drew ?_ | refine blk_alloc ?_ _)); exact BK210.out⟩
        have n3_ : Aside0 (Below w.heap.size w ((((w36.setCell ⟨gb210, 0, none⟩ (.bool t205)).setCell ⟨gb210, 1, none⟩ (.int .i64 t206)).setCell ⟨gb210, 2, none⟩ (.int .i64 t207)).setCell ⟨gb210, 3, none⟩ (.int .i64 t208))) := ⟨by repeat (first | (with_reducible first | exact HB.out | apply below_alloc | apply pw_below_drewN | apply below_drew1 | refine below_set ?_ GE192.out | refine below_set ?_ GE203.out | refine below_set ?_ GE210.out) | exact HB.out)⟩
        (try clear BK192)
        (try clear BK203)
        (try clear BK210)
        (try clear HB)
        generalize ((((w36.setCell ⟨gb210, 0, none⟩ (.bool t205)).setCell ⟨gb210, 1, none⟩ (.int .i64 t206)).setCell ⟨gb210, 2, none⟩ (.int .i64 t207)).setCell ⟨gb210, 3, none⟩ (.int .i64 t208)) = w41 at n0_ n1_ n2_ n3_ ⊢
        have BK192 := n0_
        have BK203 := n1_
        have BK210 := n2_
        have HB := n3_
        clear n0_ n1_ n2_ n3_
        have n0_ := Aside0.mk (blk_drew BK192.out)
        have n1_ := Aside0.mk (blk_drew BK203.out)
        have n2_ := Aside0.mk (blk_drew BK210.out)
        have n3_ := Aside0.mk (below_drew1 HB.out)
        clear BK192
        clear BK203
        clear BK210
        clear HB
        have BK192 := n0_
        have BK203 := n1_
        have BK210 := n2_
        have HB := n3_
        clear n0_ n1_ n2_ n3_
        refine start_ (n := 10) (S := fun w' => w'.cell? ⟨gb192, 0, none⟩ = some (.bool t188) ∧ w'.cell? ⟨gb192, 1, none⟩ = some (.int .i64 t189) ∧ w'.cell? ⟨gb192, 2, none⟩ = some (.int .i64 t190) ∧ w'.cell? ⟨gb192, 3, none⟩ = some (.int .i64 t191)) (ds := []) #[false, false, false, false, false, false, false, false, false, false] (by kernel_rfl) rfl rfl ⟨(blk_cell BK192.out 0).trans rfl, (blk_cell BK192.out 1).trans rfl, (blk_cell BK192.out 2).trans rfl, (blk_cell BK192.out 3).trans rfl⟩ (fun hHeld => ?_); refine with_tabW laws_FnRto.tab8 laws_FnRto.bits8 (fun HT_ HW_ => ?_)
        generalize w41.drew = w42 at BK192 BK203 BK210 HB hHeld ⊢
        refine pure_ (i := 1) (N := some 56) (v := ?_) (a' := ?_) #[false, true, false, false, false, false, false, false, false, false] rfl rfl (any_of HT_.out (by kernel_rfl)) (fun _ _ _ h => h) (Or.inl ⟨by rfl, ?_⟩) ?_ ?_
        rotate_left
        · intro w'
          go_simp
          with_reducible rfl
        rotate_left
        · simp only [Act.put, List.setIfInBounds_toArray, List.set_cons_zero, List.set_cons_succ, i64_w, i32_w]
          rfl
        refine take_ (i := 0) (N := some 55) (v := ?_) (a' := ?_) #[true, true, false, false, false, false, false, false, false, false] rfl rfl (take_ofW HT_.out HW_.out (by kernel_rfl)) (fun _ _ _ h => h) (Or.inl ⟨by rfl, ?_⟩) hHeld ?_ ?_
        rotate_left
        · rintro w' ⟨s0, s1, s2, s3⟩
          go_simp
          with_reducible rfl
        rotate_left
        · simp only [Act.put, List.setIfInBounds_toArray, List.set_cons_zero, List.set_cons_succ, i64_w, i32_w]
          rfl
        refine join_ (σ := Nat) 2 #[true, true, true, true, true, true, true, true, false, false] (fun s_ => [(57, .int .i64 t211), (58, .tuple #[.agg #[.bool t212, .int .i64 t213, .int .i64 t214, .int .i64 t215], .int .i64 t216]), (14, .pointer (some ⟨s_, 0, none⟩)), (54, .tuple #[.agg #[.bool t212, .int .i64 t213, .int .i64 t214, .int .i64 t215], .int .i64 t216]), (59, .agg #[.bool t212, .int .i64 t213, .int .i64 t214, .int .i64 t215]), (60, .int .i64 t216)]) (fun s_ w' => (w'.cell? ⟨gb192, 0, none⟩ = some (.bool t188) ∧ w'.cell? ⟨gb192, 1, none⟩ = some (.int .i64 t189) ∧ w'.cell? ⟨gb192, 2, none⟩ = some (.int .i64 t190) ∧ w'.cell? ⟨gb192, 3, none⟩ = some (.int .i64 t191)) ∧ (w'.heap[gb192]? = some (.cells #[.bool t188, .int .i64 t189, .int .i64 t190, .int .i64 t191] 25 (0, 0))) ∧ (w'.heap[gb203]? = some (.cells #[.bool t198, .int .i64 t199, .int .i64 t200, .int .i64 t201] 25 (0, 0))) ∧ (w'.heap[gb210]? = some (.cells #[.bool t205, .int .i64 t206, .int .i64 t207, .int .i64 t208] 25 (0, 0))) ∧ (w'.heap[s_]? = some (.cells #[.bool false, .int .i64 0, .int .i64 0, .int .i64 0] 25 (0, 0))) ∧ (w.heap.size ≤ s_) ∧ (w.heap.size ≤ s_) ∧ (gb192 ≠ s_) ∧ (s_ ≠ gb192) ∧ (gb203 ≠ s_) ∧ (s_ ≠ gb203) ∧ (gb210 ≠ s_) ∧ (s_ ≠ gb210) ∧ (Below w.heap.size w w')) ?_ ?_
        rotate_left
        · intro hCont
          refine two_ (i := 2) (j := 7) (Ni := some 57) (Nj := some 14) #[true, true, true, false, false, false, false, false, false, false] #[true, true, false, false, false, false, false, true, false, false] rfl rfl rfl rfl (two_of HT_.out (by kernel_rfl)) (by decide) (by decide) (fun K hK => ?_) (fun K hK => ?_)
          · skip
            refine goes_ Try.func20 (by kernel_rfl) rfl #[.slice A1 l1.length c1, .int .i64 0, .int .i64 5000] (by rfl) rfl rfl (by (try simp only [List.map_toArray, List.map_cons, List.map_nil]); first | done | rfl | (simp only [List.length_drop, List.length_take]; rfl)) ?_
            with_reducible refine (laws_at.calls _ _ l1 0 5000 t211 _ ?side1 ?side2 A13.out).mono ?_
            (case side1 => repeat (first | exact (Kd.C_below HR1.out HB.out) | (with_reducible refine Kd.C_alloc ?_ _) | (with_reducible refine Kd.C_drewN ?_ _) | (with_reducible refine Kd.C_drew ?_)))
            (case side2 => exact HC1.out)
            rintro e w' ⟨rfl, ⟨nd, rfl⟩⟩
            refine ⟨_, rfl, ?_⟩
            refine hK.out _ _ ⟨(blk_cell BK192.out 0).trans rfl, (blk_cell BK192.out 1).trans rfl, (blk_cell BK192.out 2).trans rfl, (blk_cell BK192.out 3).trans rfl⟩ (fun hHeld => ?_)
            clear hK K
            refine norm_ (a' := ?_) ?_ ?_
            rotate_left
            · show Act.put _ (some 57) _ = _
              simp only [Act.put, List.setIfInBounds_toArray, List.set_cons_zero, List.set_cons_succ, i64_w, i32_w]
              rfl
            refine two_ (i := 3) (j := 7) (Ni := some 58) (Nj := some 14) #[true, true, true, true, false, false, false, false, false, false] #[true, true, true, false, false, false, false, true, false, false] rfl rfl rfl rfl (two_of HT_.out (by kernel_rfl)) (by decide) (by decide) (fun K hK => ?_) (fun K hK => ?_)
            · skip
              refine goes_ Try.func17 (by kernel_rfl) rfl #[.agg #[.bool t188, .int .i64 t189, .int .i64 t190, .int .i64 t191], .int .i64 t211, .bool false] (by rfl) rfl rfl (by (try simp only [List.map_toArray, List.map_cons, List.map_nil]); first | done | rfl | (simp only [List.length_drop, List.length_take]; rfl)) ?_
              with_reducible refine (spec_Sample.calls t188 t189 t190 t191 t211 false t212 t213 t214 t215 t216 _ A14.out).mono ?_
              rintro e w43 ⟨rfl, hb⟩
              refine ⟨_, rfl, ?_⟩
              have n0_ := Aside0.mk (blk_below (g := gb192) (o := .cells #[.bool t188, .int .i64 t189, .int .i64 t190, .int .i64 t191] 25 (0, 0)) (by (with_reducible repeat (first | refine blk_drewN ?_ _ | refine blk_drew ?_ | refine blk_alloc ?_ _)); exact BK192.out) hb)
              have n1_ := Aside0.mk (blk_below (g := gb203) (o := .cells #[.bool t198, .int .i64 t199, .int .i64 t200, .int .i64 t201] 25 (0, 0)) (by (with_reducible repeat (first | refine blk_drewN ?_ _ | refine blk_drew ?_ | refine blk_alloc ?_ _)); exact BK203.out) hb)
              have n2_ := Aside0.mk (blk_below (g := gb210) (o := .cells #[.bool t205, .int .i64 t206, .int .i64 t207, .int .i64 t208] 25 (0, 0)) (by (with_reducible repeat (first | refine blk_drewN ?_ _ | refine blk_drew ?_ | refine blk_alloc ?_ _)); exact BK210.out) hb)
              have n3_ := Aside0.mk (below_step (by repeat (first | (with_reducible first | exact HB.out | apply below_alloc | apply pw_below_drewN | apply below_drew1 | refine below_set ?_ GE192.out | refine below_set ?_ GE203.out | refine below_set ?_ GE210.out) | exact HB.out)) hb)
              clear BK192
              clear BK203
              clear BK210
              clear HB
              have BK192 := n0_
              have BK203 := n1_
              have BK210 := n2_
              have HB := n3_
              clear n0_ n1_ n2_ n3_
              (try clear hb)
              (try clear hb2)
              (try clear hk)
              (try clear hi)
              refine hK.out _ _ ⟨(blk_cell BK192.out 0).trans rfl, (blk_cell BK192.out 1).trans rfl, (blk_cell BK192.out 2).trans rfl, (blk_cell BK192.out 3).trans rfl⟩ (fun hHeld => ?_)
              clear hK K
              refine norm_ (a' := ?_) ?_ ?_
              rotate_left
              · show Act.put _ (some 58) _ = _
                simp only [Act.put, List.setIfInBounds_toArray, List.set_cons_zero, List.set_cons_succ, i64_w, i32_w]
                rfl
              refine pure_ (i := 4) (N := some 54) (v := ?_) (a' := ?_) #[true, true, true, true, true, false, false, false, false, false] rfl rfl (any_of HT_.out (by kernel_rfl)) (fun _ _ _ h => h) (Or.inl ⟨by rfl, ?_⟩) ?_ ?_
              rotate_left
              · intro w'
                go_simp
                with_reducible rfl
              rotate_left
              · simp only [Act.put, List.setIfInBounds_toArray, List.set_cons_zero, List.set_cons_succ, i64_w, i32_w]
                rfl
              refine pure_ (i := 5) (N := some 59) (v := ?_) (a' := ?_) #[true, true, true, true, true, true, false, false, false, false] rfl rfl (any_of HT_.out (by kernel_rfl)) (fun _ _ _ h => h) (Or.inl ⟨by rfl, ?_⟩) ?_ ?_
              rotate_left
              · intro w'
                go_simp
                with_reducible rfl
              rotate_left
              · simp only [Act.put, List.setIfInBounds_toArray, List.set_cons_zero, List.set_cons_succ, i64_w, i32_w]
                rfl
              refine pure_ (i := 6) (N := some 60) (v := ?_) (a' := ?_) #[true, true, true, true, true, true, true, false, false, false] rfl rfl (any_of HT_.out (by kernel_rfl)) (fun _ _ _ h => h) (Or.inl ⟨by rfl, ?_⟩) ?_ ?_
              rotate_left
              · intro w'
                go_simp
                with_reducible rfl
              rotate_left
              · simp only [Act.put, List.setIfInBounds_toArray, List.set_cons_zero, List.set_cons_succ, i64_w, i32_w]
                rfl
              refine one_ (i := 7) (N := some 14) #[true, true, true, true, true, true, true, true, false, false] rfl rfl (one_of HT_.out (by kernel_rfl)) (by decide) (fun K hK => ?_)
              refine box_step ?hg (N := 14) ?hd (cs := #[.bool false, .int .i64 0, .int .i64 0, .int .i64 0]) (t := 25) ?hr ?_; (case hd => rfl); (case hg => rfl); (case hr => first | (go_simp; done) | (go_simp; rfl))
              intro gb217 hg w44 hbox hb
              have n0_ := Aside0.mk (blk_below (g := gb192) (o := .cells #[.bool t188, .int .i64 t189, .int .i64 t190, .int .i64 t191] 25 (0, 0)) (by (with_reducible repeat (first | refine blk_drewN ?_ _ | refine blk_drew ?_ | refine blk_alloc ?_ _)); exact BK192.out) hb)
              have n1_ := Aside0.mk (blk_below (g := gb203) (o := .cells #[.bool t198, .int .i64 t199, .int .i64 t200, .int .i64 t201] 25 (0, 0)) (by (with_reducible repeat (first | refine blk_drewN ?_ _ | refine blk_drew ?_ | refine blk_alloc ?_ _)); exact BK203.out) hb)
              have n2_ := Aside0.mk (blk_below (g := gb210) (o := .cells #[.bool t205, .int .i64 t206, .int .i64 t207, .int .i64 t208] 25 (0, 0)) (by (with_reducible repeat (first | refine blk_drewN ?_ _ | refine blk_drew ?_ | refine blk_alloc ?_ _)); exact BK210.out) hb)
              have n3_ := Aside0.mk (below_step (by repeat (first | (with_reducible first | exact HB.out | apply below_alloc | apply pw_below_drewN | apply below_drew1 | refine below_set ?_ GE192.out | refine below_set ?_ GE203.out | refine below_set ?_ GE210.out) | exact HB.out)) hb)
              have n4_ := Aside0.mk (hbox)
              have n5_ := Aside0.mk ((by rw [hg]; exact (below_size (by repeat (first | (with_reducible first | exact HB.out | apply below_alloc | apply pw_below_drewN | apply below_drew1 | refine below_set ?_ GE192.out | refine below_set ?_ GE203.out | refine below_set ?_ GE210.out) | exact HB.out))) : w.heap.size ≤ gb217))
              have n6_ := Aside0.mk ((by rw [hg]; exact (below_size (by repeat (first | (with_reducible first | exact HB.out | apply below_alloc | apply pw_below_drewN | apply below_drew1 | refine below_set ?_ GE192.out | refine below_set ?_ GE203.out | refine below_set ?_ GE210.out) | exact HB.out))) : w.heap.size ≤ gb217))
              have n7_ := Aside0.mk ((by rw [hg]; exact Nat.ne_of_lt (blk_lt (g := gb192) (o := .cells #[.bool t188, .int .i64 t189, .int .i64 t190, .int .i64 t191] 25 (0, 0)) (by (with_reducible repeat (first | refine blk_drewN ?_ _ | refine blk_drew ?_ | refine blk_alloc ?_ _)); exact BK192.out)) : gb192 ≠ gb217))
              have n8_ := Aside0.mk ((by rw [hg]; exact Nat.ne_of_gt (blk_lt (g := gb192) (o := .cells #[.bool t188, .int .i64 t189, .int .i64 t190, .int .i64 t191] 25 (0, 0)) (by (with_reducible repeat (first | refine blk_drewN ?_ _ | refine blk_drew ?_ | refine blk_alloc ?_ _)); exact BK192.out)) : gb217 ≠ gb192))
              have n9_ := Aside0.mk ((by rw [hg]; exact Nat.ne_of_lt (blk_lt (g := gb203) (o := .cells #[.bool t198, .int .i64 t199, .int .i64 t200, .int .i64 t201] 25 (0, 0)) (by (with_reducible repeat (first | refine blk_drewN ?_ _ | refine blk_drew ?_ | refine blk_alloc ?_ _)); exact BK203.out)) : gb203 ≠ gb217))
              have n10_ := Aside0.mk ((by rw [hg]; exact Nat.ne_of_gt (blk_lt (g := gb203) (o := .cells #[.bool t198, .int .i64 t199, .int .i64 t200, .int .i64 t201] 25 (0, 0)) (by (with_reducible repeat (first | refine blk_drewN ?_ _ | refine blk_drew ?_ | refine blk_alloc ?_ _)); exact BK203.out)) : gb217 ≠ gb203))
              have n11_ := Aside0.mk ((by rw [hg]; exact Nat.ne_of_lt (blk_lt (g := gb210) (o := .cells #[.bool t205, .int .i64 t206, .int .i64 t207, .int .i64 t208] 25 (0, 0)) (by (with_reducible repeat (first | refine blk_drewN ?_ _ | refine blk_drew ?_ | refine blk_alloc ?_ _)); exact BK210.out)) : gb210 ≠ gb217))
              have n12_ := Aside0.mk ((by rw [hg]; exact Nat.ne_of_gt (blk_lt (g := gb210) (o := .cells #[.bool t205, .int .i64 t206, .int .i64 t207, .int .i64 t208] 25 (0, 0)) (by (with_reducible repeat (first | refine blk_drewN ?_ _ | refine blk_drew ?_ | refine blk_alloc ?_ _)); exact BK210.out)) : gb217 ≠ gb210))
              clear BK192
              clear BK203
              clear BK210
              clear HB
              have BK192 := n0_
              have BK203 := n1_
              have BK210 := n2_
              have HB := n3_
              have BK217 := n4_
              have GW217 := n5_
              have GE217 := n6_
              have NB192_217 := n7_
              have NB217_192 := n8_
              have NB203_217 := n9_
              have NB217_203 := n10_
              have NB210_217 := n11_
              have NB217_210 := n12_
              clear n0_ n1_ n2_ n3_ n4_ n5_ n6_ n7_ n8_ n9_ n10_ n11_ n12_
              clear hb hbox hg
              refine hK.out _ _ ⟨(blk_cell BK192.out 0).trans rfl, (blk_cell BK192.out 1).trans rfl, (blk_cell BK192.out 2).trans rfl, (blk_cell BK192.out 3).trans rfl⟩ (fun hHeld => ?_)
              clear hK K
              refine norm_ (a' := ?_) ?_ ?_
              rotate_left
              · show Act.put _ (some 14) _ = _
                simp only [Act.put, List.setIfInBounds_toArray, List.set_cons_zero, List.set_cons_succ, i64_w, i32_w]
                rfl
              exact norm_ (by simp only [putAll, Act.put, List.setIfInBounds_toArray, List.set_cons_zero, List.set_cons_succ]) (hCont (gb217) _ ⟨hHeld, (by (with_reducible repeat (first | refine blk_drewN ?_ _ | refine blk_drew ?_ | refine blk_alloc ?_ _)); exact BK192.out), (by (with_reducible repeat (first | refine blk_drewN ?_ _ | refine blk_drew ?_ | refine blk_alloc ?_ _)); exact BK203.out), (by (with_reducible repeat (first | refine blk_drewN ?_ _ | refine blk_drew ?_ | refine blk_alloc ?_ _)); exact BK210.out), (by (with_reducible repeat (first | refine blk_drewN ?_ _ | refine blk_drew ?_ | refine blk_alloc ?_ _)); exact BK217.out), GW217.out, GE217.out, NB192_217.out, NB217_192.out, NB203_217.out, NB217_203.out, NB210_217.out, NB217_210.out, (by repeat (first | (with_reducible first | exact HB.out | apply below_alloc | apply pw_below_drewN | apply below_drew1 | refine below_set ?_ GE192.out | refine below_set ?_ GE203.out | refine below_set ?_ GE210.out | refine below_set ?_ GE217.out) | exact HB.out))⟩)
            · skip
              refine box_step ?hg (N := 14) ?hd (cs := #[.bool false, .int .i64 0, .int .i64 0, .int .i64 0]) (t := 25) ?hr ?_; (case hd => rfl); (case hg => rfl); (case hr => first | (go_simp; done) | (go_simp; rfl))
              intro gb217 hg w43 hbox hb
              have n0_ := Aside0.mk (blk_below (g := gb192) (o := .cells #[.bool t188, .int .i64 t189, .int .i64 t190, .int .i64 t191] 25 (0, 0)) (by (with_reducible repeat (first | refine blk_drewN ?_ _ | refine blk_drew ?_ | refine blk_alloc ?_ _)); exact BK192.out) hb)
              have n1_ := Aside0.mk (blk_below (g := gb203) (o := .cells #[.bool t198, .int .i64 t199, .int .i64 t200, .int .i64 t201] 25 (0, 0)) (by (with_reducible repeat (first | refine blk_drewN ?_ _ | refine blk_drew ?_ | refine blk_alloc ?_ _)); exact BK203.out) hb)
              have n2_ := Aside0.mk (blk_below (g := gb210) (o := .cells #[.bool t205, .int .i64 t206, .int .i64 t207, .int .i64 t208] 25 (0, 0)) (by (with_reducible repeat (first | refine blk_drewN ?_ _ | refine blk_drew ?_ | refine blk_alloc ?_ _)); exact BK210.out) hb)
              have n3_ := Aside0.mk (below_step (by repeat (first | (with_reducible first | exact HB.out | apply below_alloc | apply pw_below_drewN | apply below_drew1 | refine below_set ?_ GE192.out | refine below_set ?_ GE203.out | refine below_set ?_ GE210.out) | exact HB.out)) hb)
              have n4_ := Aside0.mk (hbox)
              have n5_ := Aside0.mk ((by rw [hg]; exact (below_size (by repeat (first | (with_reducible first | exact HB.out | apply below_alloc | apply pw_below_drewN | apply below_drew1 | refine below_set ?_ GE192.out | refine below_set ?_ GE203.out | refine below_set ?_ GE210.out) | exact HB.out))) : w.heap.size ≤ gb217))
              have n6_ := Aside0.mk ((by rw [hg]; exact (below_size (by repeat (first | (with_reducible first | exact HB.out | apply below_alloc | apply pw_below_drewN | apply below_drew1 | refine below_set ?_ GE192.out | refine below_set ?_ GE203.out | refine below_set ?_ GE210.out) | exact HB.out))) : w.heap.size ≤ gb217))
              have n7_ := Aside0.mk ((by rw [hg]; exact Nat.ne_of_lt (blk_lt (g := gb192) (o := .cells #[.bool t188, .int .i64 t189, .int .i64 t190, .int .i64 t191] 25 (0, 0)) (by (with_reducible repeat (first | refine blk_drewN ?_ _ | refine blk_drew ?_ | refine blk_alloc ?_ _)); exact BK192.out)) : gb192 ≠ gb217))
              have n8_ := Aside0.mk ((by rw [hg]; exact Nat.ne_of_gt (blk_lt (g := gb192) (o := .cells #[.bool t188, .int .i64 t189, .int .i64 t190, .int .i64 t191] 25 (0, 0)) (by (with_reducible repeat (first | refine blk_drewN ?_ _ | refine blk_drew ?_ | refine blk_alloc ?_ _)); exact BK192.out)) : gb217 ≠ gb192))
              have n9_ := Aside0.mk ((by rw [hg]; exact Nat.ne_of_lt (blk_lt (g := gb203) (o := .cells #[.bool t198, .int .i64 t199, .int .i64 t200, .int .i64 t201] 25 (0, 0)) (by (with_reducible repeat (first | refine blk_drewN ?_ _ | refine blk_drew ?_ | refine blk_alloc ?_ _)); exact BK203.out)) : gb203 ≠ gb217))
              have n10_ := Aside0.mk ((by rw [hg]; exact Nat.ne_of_gt (blk_lt (g := gb203) (o := .cells #[.bool t198, .int .i64 t199, .int .i64 t200, .int .i64 t201] 25 (0, 0)) (by (with_reducible repeat (first | refine blk_drewN ?_ _ | refine blk_drew ?_ | refine blk_alloc ?_ _)); exact BK203.out)) : gb217 ≠ gb203))
              have n11_ := Aside0.mk ((by rw [hg]; exact Nat.ne_of_lt (blk_lt (g := gb210) (o := .cells #[.bool t205, .int .i64 t206, .int .i64 t207, .int .i64 t208] 25 (0, 0)) (by (with_reducible repeat (first | refine blk_drewN ?_ _ | refine blk_drew ?_ | refine blk_alloc ?_ _)); exact BK210.out)) : gb210 ≠ gb217))
              have n12_ := Aside0.mk ((by rw [hg]; exact Nat.ne_of_gt (blk_lt (g := gb210) (o := .cells #[.bool t205, .int .i64 t206, .int .i64 t207, .int .i64 t208] 25 (0, 0)) (by (with_reducible repeat (first | refine blk_drewN ?_ _ | refine blk_drew ?_ | refine blk_alloc ?_ _)); exact BK210.out)) : gb217 ≠ gb210))
              clear BK192
              clear BK203
              clear BK210
              clear HB
              have BK192 := n0_
              have BK203 := n1_
              have BK210 := n2_
              have HB := n3_
              have BK217 := n4_
              have GW217 := n5_
              have GE217 := n6_
              have NB192_217 := n7_
              have NB217_192 := n8_
              have NB203_217 := n9_
              have NB217_203 := n10_
              have NB210_217 := n11_
              have NB217_210 := n12_
              clear n0_ n1_ n2_ n3_ n4_ n5_ n6_ n7_ n8_ n9_ n10_ n11_ n12_
              clear hb hbox hg
              refine hK.out _ _ ⟨(blk_cell BK192.out 0).trans rfl, (blk_cell BK192.out 1).trans rfl, (blk_cell BK192.out 2).trans rfl, (blk_cell BK192.out 3).trans rfl⟩ (fun hHeld => ?_)
              clear hK K
              refine norm_ (a' := ?_) ?_ ?_
              rotate_left
              · show Act.put _ (some 14) _ = _
                simp only [Act.put, List.setIfInBounds_toArray, List.set_cons_zero, List.set_cons_succ, i64_w, i32_w]
                rfl
              refine one_ (i := 3) (N := some 58) #[true, true, true, true, false, false, false, true, false, false] rfl rfl (one_of HT_.out (by kernel_rfl)) (by decide) (fun K hK => ?_)
              refine goes_ Try.func17 (by kernel_rfl) rfl #[.agg #[.bool t188, .int .i64 t189, .int .i64 t190, .int .i64 t191], .int .i64 t211, .bool false] (by rfl) rfl rfl (by (try simp only [List.map_toArray, List.map_cons, List.map_nil]); first | done | rfl | (simp only [List.length_drop, List.length_take]; rfl)) ?_
              with_reducible refine (spec_Sample.calls t188 t189 t190 t191 t211 false t212 t213 t214 t215 t216 _ A14.out).mono ?_
              rintro e w44 ⟨rfl, hb⟩
              refine ⟨_, rfl, ?_⟩
              have n0_ := Aside0.mk (blk_below (g := gb192) (o := .cells #[.bool t188, .int .i64 t189, .int .i64 t190, .int .i64 t191] 25 (0, 0)) (by (with_reducible repeat (first | refine blk_drewN ?_ _ | refine blk_drew ?_ | refine blk_alloc ?_ _)); exact BK192.out) hb)
              have n1_ := Aside0.mk (blk_below (g := gb203) (o := .cells #[.bool t198, .int .i64 t199, .int .i64 t200, .int .i64 t201] 25 (0, 0)) (by (with_reducible repeat (first | refine blk_drewN ?_ _ | refine blk_drew ?_ | refine blk_alloc ?_ _)); exact BK203.out) hb)
              have n2_ := Aside0.mk (blk_below (g := gb210) (o := .cells #[.bool t205, .int .i64 t206, .int .i64 t207, .int .i64 t208] 25 (0, 0)) (by (with_reducible repeat (first | refine blk_drewN ?_ _ | refine blk_drew ?_ | refine blk_alloc ?_ _)); exact BK210.out) hb)
              have n3_ := Aside0.mk (blk_below (g := gb217) (o := .cells #[.bool false, .int .i64 0, .int .i64 0, .int .i64 0] 25 (0, 0)) (by (with_reducible repeat (first | refine blk_drewN ?_ _ | refine blk_drew ?_ | refine blk_alloc ?_ _)); exact BK217.out) hb)
              have n4_ := Aside0.mk (below_step (by repeat (first | (with_reducible first | exact HB.out | apply below_alloc | apply pw_below_drewN | apply below_drew1 | refine below_set ?_ GE192.out | refine below_set ?_ GE203.out | refine below_set ?_ GE210.out | refine below_set ?_ GE217.out) | exact HB.out)) hb)
              clear BK192
              clear BK203
              clear BK210
              clear BK217
              clear HB
              have BK192 := n0_
              have BK203 := n1_
              have BK210 := n2_
              have BK217 := n3_
              have HB := n4_
              clear n0_ n1_ n2_ n3_ n4_
              (try clear hb)
              (try clear hb2)
              (try clear hk)
              (try clear hi)
              refine hK.out _ _ ⟨(blk_cell BK192.out 0).trans rfl, (blk_cell BK192.out 1).trans rfl, (blk_cell BK192.out 2).trans rfl, (blk_cell BK192.out 3).trans rfl⟩ (fun hHeld => ?_)
              clear hK K
              refine norm_ (a' := ?_) ?_ ?_
              rotate_left
              · show Act.put _ (some 58) _ = _
                simp only [Act.put, List.setIfInBounds_toArray, List.set_cons_zero, List.set_cons_succ, i64_w, i32_w]
                rfl
              refine pure_ (i := 4) (N := some 54) (v := ?_) (a' := ?_) #[true, true, true, true, true, false, false, true, false, false] rfl rfl (any_of HT_.out (by kernel_rfl)) (fun _ _ _ h => h) (Or.inl ⟨by rfl, ?_⟩) ?_ ?_
              rotate_left
              · intro w'
                go_simp
                with_reducible rfl
              rotate_left
              · simp only [Act.put, List.setIfInBounds_toArray, List.set_cons_zero, List.set_cons_succ, i64_w, i32_w]
                rfl
              refine pure_ (i := 5) (N := some 59) (v := ?_) (a' := ?_) #[true, true, true, true, true, true, false, true, false, false] rfl rfl (any_of HT_.out (by kernel_rfl)) (fun _ _ _ h => h) (Or.inl ⟨by rfl, ?_⟩) ?_ ?_
              rotate_left
              · intro w'
                go_simp
                with_reducible rfl
              rotate_left
              · simp only [Act.put, List.setIfInBounds_toArray, List.set_cons_zero, List.set_cons_succ, i64_w, i32_w]
                rfl
              refine pure_ (i := 6) (N := some 60) (v := ?_) (a' := ?_) #[true, true, true, true, true, true, true, true, false, false] rfl rfl (any_of HT_.out (by kernel_rfl)) (fun _ _ _ h => h) (Or.inl ⟨by rfl, ?_⟩) ?_ ?_
              rotate_left
              · intro w'
                go_simp
                with_reducible rfl
              rotate_left
              · simp only [Act.put, List.setIfInBounds_toArray, List.set_cons_zero, List.set_cons_succ, i64_w, i32_w]
                rfl
              exact norm_ (by simp only [putAll, Act.put, List.setIfInBounds_toArray, List.set_cons_zero, List.set_cons_succ]) (hCont (gb217) _ ⟨hHeld, (by (with_reducible repeat (first | refine blk_drewN ?_ _ | refine blk_drew ?_ | refine blk_alloc ?_ _)); exact BK192.out), (by (with_reducible repeat (first | refine blk_drewN ?_ _ | refine blk_drew ?_ | refine blk_alloc ?_ _)); exact BK203.out), (by (with_reducible repeat (first | refine blk_drewN ?_ _ | refine blk_drew ?_ | refine blk_alloc ?_ _)); exact BK210.out), (by (with_reducible repeat (first | refine blk_drewN ?_ _ | refine blk_drew ?_ | refine blk_alloc ?_ _)); exact BK217.out), GW217.out, GE217.out, NB192_217.out, NB217_192.out, NB203_217.out, NB217_203.out, NB210_217.out, NB217_210.out, (by repeat (first | (with_reducible first | exact HB.out | apply below_alloc | apply pw_below_drewN | apply below_drew1 | refine below_set ?_ GE192.out | refine below_set ?_ GE203.out | refine below_set ?_ GE210.out | refine below_set ?_ GE217.out) | exact HB.out))⟩)
          · skip
            refine box_step ?hg (N := 14) ?hd (cs := #[.bool false, .int .i64 0, .int .i64 0, .int .i64 0]) (t := 25) ?hr ?_; (case hd => rfl); (case hg => rfl); (case hr => first | (go_simp; done) | (go_simp; rfl))
            intro gb217 hg w43 hbox hb
            have n0_ := Aside0.mk (blk_below (g := gb192) (o := .cells #[.bool t188, .int .i64 t189, .int .i64 t190, .int .i64 t191] 25 (0, 0)) (by (with_reducible repeat (first | refine blk_drewN ?_ _ | refine blk_drew ?_ | refine blk_alloc ?_ _)); exact BK192.out) hb)
            have n1_ := Aside0.mk (blk_below (g := gb203) (o := .cells #[.bool t198, .int .i64 t199, .int .i64 t200, .int .i64 t201] 25 (0, 0)) (by (with_reducible repeat (first | refine blk_drewN ?_ _ | refine blk_drew ?_ | refine blk_alloc ?_ _)); exact BK203.out) hb)
            have n2_ := Aside0.mk (blk_below (g := gb210) (o := .cells #[.bool t205, .int .i64 t206, .int .i64 t207, .int .i64 t208] 25 (0, 0)) (by (with_reducible repeat (first | refine blk_drewN ?_ _ | refine blk_drew ?_ | refine blk_alloc ?_ _)); exact BK210.out) hb)
            have n3_ := Aside0.mk (below_step (by repeat (first | (with_reducible first | exact HB.out | apply below_alloc | apply pw_below_drewN | apply below_drew1 | refine below_set ?_ GE192.out | refine below_set ?_ GE203.out | refine below_set ?_ GE210.out) | exact HB.out)) hb)
            have n4_ := Aside0.mk (hbox)
            have n5_ := Aside0.mk ((by rw [hg]; exact (below_size (by repeat (first | (with_reducible first | exact HB.out | apply below_alloc | apply pw_below_drewN | apply below_drew1 | refine below_set ?_ GE192.out | refine below_set ?_ GE203.out | refine below_set ?_ GE210.out) | exact HB.out))) : w.heap.size ≤ gb217))
            have n6_ := Aside0.mk ((by rw [hg]; exact (below_size (by repeat (first | (with_reducible first | exact HB.out | apply below_alloc | apply pw_below_drewN | apply below_drew1 | refine below_set ?_ GE192.out | refine below_set ?_ GE203.out | refine below_set ?_ GE210.out) | exact HB.out))) : w.heap.size ≤ gb217))
            have n7_ := Aside0.mk ((by rw [hg]; exact Nat.ne_of_lt (blk_lt (g := gb192) (o := .cells #[.bool t188, .int .i64 t189, .int .i64 t190, .int .i64 t191] 25 (0, 0)) (by (with_reducible repeat (first | refine blk_drewN ?_ _ | refine blk_drew ?_ | refine blk_alloc ?_ _)); exact BK192.out)) : gb192 ≠ gb217))
            have n8_ := Aside0.mk ((by rw [hg]; exact Nat.ne_of_gt (blk_lt (g := gb192) (o := .cells #[.bool t188, .int .i64 t189, .int .i64 t190, .int .i64 t191] 25 (0, 0)) (by (with_reducible repeat (first | refine blk_drewN ?_ _ | refine blk_drew ?_ | refine blk_alloc ?_ _)); exact BK192.out)) : gb217 ≠ gb192))
            have n9_ := Aside0.mk ((by rw [hg]; exact Nat.ne_of_lt (blk_lt (g := gb203) (o := .cells #[.bool t198, .int .i64 t199, .int .i64 t200, .int .i64 t201] 25 (0, 0)) (by (with_reducible repeat (first | refine blk_drewN ?_ _ | refine blk_drew ?_ | refine blk_alloc ?_ _)); exact BK203.out)) : gb203 ≠ gb217))
            have n10_ := Aside0.mk ((by rw [hg]; exact Nat.ne_of_gt (blk_lt (g := gb203) (o := .cells #[.bool t198, .int .i64 t199, .int .i64 t200, .int .i64 t201] 25 (0, 0)) (by (with_reducible repeat (first | refine blk_drewN ?_ _ | refine blk_drew ?_ | refine blk_alloc ?_ _)); exact BK203.out)) : gb217 ≠ gb203))
            have n11_ := Aside0.mk ((by rw [hg]; exact Nat.ne_of_lt (blk_lt (g := gb210) (o := .cells #[.bool t205, .int .i64 t206, .int .i64 t207, .int .i64 t208] 25 (0, 0)) (by (with_reducible repeat (first | refine blk_drewN ?_ _ | refine blk_drew ?_ | refine blk_alloc ?_ _)); exact BK210.out)) : gb210 ≠ gb217))
            have n12_ := Aside0.mk ((by rw [hg]; exact Nat.ne_of_gt (blk_lt (g := gb210) (o := .cells #[.bool t205, .int .i64 t206, .int .i64 t207, .int .i64 t208] 25 (0, 0)) (by (with_reducible repeat (first | refine blk_drewN ?_ _ | refine blk_drew ?_ | refine blk_alloc ?_ _)); exact BK210.out)) : gb217 ≠ gb210))
            clear BK192
            clear BK203
            clear BK210
            clear HB
            have BK192 := n0_
            have BK203 := n1_
            have BK210 := n2_
            have HB := n3_
            have BK217 := n4_
            have GW217 := n5_
            have GE217 := n6_
            have NB192_217 := n7_
            have NB217_192 := n8_
            have NB203_217 := n9_
            have NB217_203 := n10_
            have NB210_217 := n11_
            have NB217_210 := n12_
            clear n0_ n1_ n2_ n3_ n4_ n5_ n6_ n7_ n8_ n9_ n10_ n11_ n12_
            clear hb hbox hg
            refine hK.out _ _ ⟨(blk_cell BK192.out 0).trans rfl, (blk_cell BK192.out 1).trans rfl, (blk_cell BK192.out 2).trans rfl, (blk_cell BK192.out 3).trans rfl⟩ (fun hHeld => ?_)
            clear hK K
            refine norm_ (a' := ?_) ?_ ?_
            rotate_left
            · show Act.put _ (some 14) _ = _
              simp only [Act.put, List.setIfInBounds_toArray, List.set_cons_zero, List.set_cons_succ, i64_w, i32_w]
              rfl
            refine one_ (i := 2) (N := some 57) #[true, true, true, false, false, false, false, true, false, false] rfl rfl (one_of HT_.out (by kernel_rfl)) (by decide) (fun K hK => ?_)
            refine goes_ Try.func20 (by kernel_rfl) rfl #[.slice A1 l1.length c1, .int .i64 0, .int .i64 5000] (by rfl) rfl rfl (by (try simp only [List.map_toArray, List.map_cons, List.map_nil]); first | done | rfl | (simp only [List.length_drop, List.length_take]; rfl)) ?_
            with_reducible refine (laws_at.calls _ _ l1 0 5000 t211 _ ?side1 ?side2 A13.out).mono ?_
            (case side1 => repeat (first | exact (Kd.C_below HR1.out HB.out) | (with_reducible refine Kd.C_alloc ?_ _) | (with_reducible refine Kd.C_drewN ?_ _) | (with_reducible refine Kd.C_drew ?_)))
            (case side2 => exact HC1.out)
            rintro e w' ⟨rfl, ⟨nd, rfl⟩⟩
            refine ⟨_, rfl, ?_⟩
            refine hK.out _ _ ⟨(blk_cell BK192.out 0).trans rfl, (blk_cell BK192.out 1).trans rfl, (blk_cell BK192.out 2).trans rfl, (blk_cell BK192.out 3).trans rfl⟩ (fun hHeld => ?_)
            clear hK K
            refine norm_ (a' := ?_) ?_ ?_
            rotate_left
            · show Act.put _ (some 57) _ = _
              simp only [Act.put, List.setIfInBounds_toArray, List.set_cons_zero, List.set_cons_succ, i64_w, i32_w]
              rfl
            refine one_ (i := 3) (N := some 58) #[true, true, true, true, false, false, false, true, false, false] rfl rfl (one_of HT_.out (by kernel_rfl)) (by decide) (fun K hK => ?_)
            refine goes_ Try.func17 (by kernel_rfl) rfl #[.agg #[.bool t188, .int .i64 t189, .int .i64 t190, .int .i64 t191], .int .i64 t211, .bool false] (by rfl) rfl rfl (by (try simp only [List.map_toArray, List.map_cons, List.map_nil]); first | done | rfl | (simp only [List.length_drop, List.length_take]; rfl)) ?_
            with_reducible refine (spec_Sample.calls t188 t189 t190 t191 t211 false t212 t213 t214 t215 t216 _ A14.out).mono ?_
            rintro e w44 ⟨rfl, hb⟩
            refine ⟨_, rfl, ?_⟩
            have n0_ := Aside0.mk (blk_below (g := gb192) (o := .cells #[.bool t188, .int .i64 t189, .int .i64 t190, .int .i64 t191] 25 (0, 0)) (by (with_reducible repeat (first | refine blk_drewN ?_ _ | refine blk_drew ?_ | refine blk_alloc ?_ _)); exact BK192.out) hb)
            have n1_ := Aside0.mk (blk_below (g := gb203) (o := .cells #[.bool t198, .int .i64 t199, .int .i64 t200, .int .i64 t201] 25 (0, 0)) (by (with_reducible repeat (first | refine blk_drewN ?_ _ | refine blk_drew ?_ | refine blk_alloc ?_ _)); exact BK203.out) hb)
            have n2_ := Aside0.mk (blk_below (g := gb210) (o := .cells #[.bool t205, .int .i64 t206, .int .i64 t207, .int .i64 t208] 25 (0, 0)) (by (with_reducible repeat (first | refine blk_drewN ?_ _ | refine blk_drew ?_ | refine blk_alloc ?_ _)); exact BK210.out) hb)
            have n3_ := Aside0.mk (blk_below (g := gb217) (o := .cells #[.bool false, .int .i64 0, .int .i64 0, .int .i64 0] 25 (0, 0)) (by (with_reducible repeat (first | refine blk_drewN ?_ _ | refine blk_drew ?_ | refine blk_alloc ?_ _)); exact BK217.out) hb)
            have n4_ := Aside0.mk (below_step (by repeat (first | (with_reducible first | exact HB.out | apply below_alloc | apply pw_below_drewN | apply below_drew1 | refine below_set ?_ GE192.out | refine below_set ?_ GE203.out | refine below_set ?_ GE210.out | refine below_set ?_ GE217.out) | exact HB.out)) hb)
            clear BK192
            clear BK203
            clear BK210
            clear BK217
            clear HB
            have BK192 := n0_
            have BK203 := n1_
            have BK210 := n2_
            have BK217 := n3_
            have HB := n4_
            clear n0_ n1_ n2_ n3_ n4_
            (try clear hb)
            (try clear hb2)
            (try clear hk)
            (try clear hi)
            refine hK.out _ _ ⟨(blk_cell BK192.out 0).trans rfl, (blk_cell BK192.out 1).trans rfl, (blk_cell BK192.out 2).trans rfl, (blk_cell BK192.out 3).trans rfl⟩ (fun hHeld => ?_)
            clear hK K
            refine norm_ (a' := ?_) ?_ ?_
            rotate_left
            · show Act.put _ (some 58) _ = _
              simp only [Act.put, List.setIfInBounds_toArray, List.set_cons_zero, List.set_cons_succ, i64_w, i32_w]
              rfl
            refine pure_ (i := 4) (N := some 54) (v := ?_) (a' := ?_) #[true, true, true, true, true, false, false, true, false, false] rfl rfl (any_of HT_.out (by kernel_rfl)) (fun _ _ _ h => h) (Or.inl ⟨by rfl, ?_⟩) ?_ ?_
            rotate_left
            · intro w'
              go_simp
              with_reducible rfl
            rotate_left
            · simp only [Act.put, List.setIfInBounds_toArray, List.set_cons_zero, List.set_cons_succ, i64_w, i32_w]
              rfl
            refine pure_ (i := 5) (N := some 59) (v := ?_) (a' := ?_) #[true, true, true, true, true, true, false, true, false, false] rfl rfl (any_of HT_.out (by kernel_rfl)) (fun _ _ _ h => h) (Or.inl ⟨by rfl, ?_⟩) ?_ ?_
            rotate_left
            · intro w'
              go_simp
              with_reducible rfl
            rotate_left
            · simp only [Act.put, List.setIfInBounds_toArray, List.set_cons_zero, List.set_cons_succ, i64_w, i32_w]
              rfl
            refine pure_ (i := 6) (N := some 60) (v := ?_) (a' := ?_) #[true, true, true, true, true, true, true, true, false, false] rfl rfl (any_of HT_.out (by kernel_rfl)) (fun _ _ _ h => h) (Or.inl ⟨by rfl, ?_⟩) ?_ ?_
            rotate_left
            · intro w'
              go_simp
              with_reducible rfl
            rotate_left
            · simp only [Act.put, List.setIfInBounds_toArray, List.set_cons_zero, List.set_cons_succ, i64_w, i32_w]
              rfl
            exact norm_ (by simp only [putAll, Act.put, List.setIfInBounds_toArray, List.set_cons_zero, List.set_cons_succ]) (hCont (gb217) _ ⟨hHeld, (by (with_reducible repeat (first | refine blk_drewN ?_ _ | refine blk_drew ?_ | refine blk_alloc ?_ _)); exact BK192.out), (by (with_reducible repeat (first | refine blk_drewN ?_ _ | refine blk_drew ?_ | refine blk_alloc ?_ _)); exact BK203.out), (by (with_reducible repeat (first | refine blk_drewN ?_ _ | refine blk_drew ?_ | refine blk_alloc ?_ _)); exact BK210.out), (by (with_reducible repeat (first | refine blk_drewN ?_ _ | refine blk_drew ?_ | refine blk_alloc ?_ _)); exact BK217.out), GW217.out, GE217.out, NB192_217.out, NB217_192.out, NB203_217.out, NB217_203.out, NB210_217.out, NB217_210.out, (by repeat (first | (with_reducible first | exact HB.out | apply below_alloc | apply pw_below_drewN | apply below_drew1 | refine below_set ?_ GE192.out | refine below_set ?_ GE203.out | refine below_set ?_ GE210.out | refine below_set ?_ GE217.out) | exact HB.out))⟩)
        rintro gb217 w45 ⟨hS_, h0_, h1_, h2_, h3_, h4_, h5_, h6_, h7_, h8_, h9_, h10_, h11_, h12_⟩
        have n0_ : Aside0 (w45.heap[gb192]? = some (.cells #[.bool t188, .int .i64 t189, .int .i64 t190, .int .i64 t191] 25 (0, 0))) := ⟨h0_⟩
        have n1_ : Aside0 (w45.heap[gb203]? = some (.cells #[.bool t198, .int .i64 t199, .int .i64 t200, .int .i64 t201] 25 (0, 0))) := ⟨h1_⟩
        have n2_ : Aside0 (w45.heap[gb210]? = some (.cells #[.bool t205, .int .i64 t206, .int .i64 t207, .int .i64 t208] 25 (0, 0))) := ⟨h2_⟩
        have n3_ : Aside0 (w45.heap[gb217]? = some (.cells #[.bool false, .int .i64 0, .int .i64 0, .int .i64 0] 25 (0, 0))) := ⟨h3_⟩
        have n4_ : Aside0 (w.heap.size ≤ gb217) := ⟨h4_⟩
        have n5_ : Aside0 (w.heap.size ≤ gb217) := ⟨h5_⟩
        have n6_ : Aside0 (gb192 ≠ gb217) := ⟨h6_⟩
        have n7_ : Aside0 (gb217 ≠ gb192) := ⟨h7_⟩
        have n8_ : Aside0 (gb203 ≠ gb217) := ⟨h8_⟩
        have n9_ : Aside0 (gb217 ≠ gb203) := ⟨h9_⟩
        have n10_ : Aside0 (gb210 ≠ gb217) := ⟨h10_⟩
        have n11_ : Aside0 (gb217 ≠ gb210) := ⟨h11_⟩
        have n12_ : Aside0 (Below w.heap.size w w45) := ⟨h12_⟩
        clear BK192
        clear BK203
        clear BK210
        clear HB
        clear h0_ h1_ h2_ h3_ h4_ h5_ h6_ h7_ h8_ h9_ h10_ h11_ h12_
        have BK192 := n0_
        have BK203 := n1_
        have BK210 := n2_
        have BK217 := n3_
        have GW217 := n4_
        have GE217 := n5_
        have NB192_217 := n6_
        have NB217_192 := n7_
        have NB203_217 := n8_
        have NB217_203 := n9_
        have NB210_217 := n10_
        have NB217_210 := n11_
        have HB := n12_
        clear n0_ n1_ n2_ n3_ n4_ n5_ n6_ n7_ n8_ n9_ n10_ n11_ n12_
        have hHeld : w45.cell? ⟨gb192, 0, none⟩ = some (.bool t188) ∧ w45.cell? ⟨gb192, 1, none⟩ = some (.int .i64 t189) ∧ w45.cell? ⟨gb192, 2, none⟩ = some (.int .i64 t190) ∧ w45.cell? ⟨gb192, 3, none⟩ = some (.int .i64 t191) := hS_
        refine norm_ (a' := ?_) ?_ ?_
        rotate_left
        · simp only [putAll, Act.put, List.setIfInBounds_toArray, List.set_cons_zero, List.set_cons_succ]
          rfl
        refine one_ (i := 8) (N := none) #[true, true, true, true, true, true, true, true, true, false] rfl rfl (one_of HT_.out (by kernel_rfl)) (by decide) (fun K hK => ?_)
        have hs46 : w45.cell? ⟨gb217, 0, none⟩ = some (.bool false) := (blk_cell BK217.out 0).trans rfl
        have hfs46 := blk_frozen BK217.out 0
        have hns46_0 := NB192_217.out
        have hns46_1 := NB203_217.out
        have hns46_2 := NB210_217.out
        have hms46_0 := NB217_192.out
        have hms46_1 := NB217_203.out
        have hms46_2 := NB217_210.out
        have hs47 : w45.cell? ⟨gb217, 1, none⟩ = some (.int .i64 0) := (blk_cell BK217.out 1).trans rfl
        have hfs47 := blk_frozen BK217.out 1
        have hns47_0 := NB192_217.out
        have hns47_1 := NB203_217.out
        have hns47_2 := NB210_217.out
        have hms47_0 := NB217_192.out
        have hms47_1 := NB217_203.out
        have hms47_2 := NB217_210.out
        have hs48 : w45.cell? ⟨gb217, 2, none⟩ = some (.int .i64 0) := (blk_cell BK217.out 2).trans rfl
        have hfs48 := blk_frozen BK217.out 2
        have hns48_0 := NB192_217.out
        have hns48_1 := NB203_217.out
        have hns48_2 := NB210_217.out
        have hms48_0 := NB217_192.out
        have hms48_1 := NB217_203.out
        have hms48_2 := NB217_210.out
        have hs49 : w45.cell? ⟨gb217, 3, none⟩ = some (.int .i64 0) := (blk_cell BK217.out 3).trans rfl
        have hfs49 := blk_frozen BK217.out 3
        have hns49_0 := NB192_217.out
        have hns49_1 := NB203_217.out
        have hns49_2 := NB210_217.out
        have hms49_0 := NB217_192.out
        have hms49_1 := NB217_203.out
        have hms49_2 := NB217_210.out
        refine skip_ (w1 := ?_) (by rfl) rfl ?_ ?_
        rotate_left
        · go_simp
          rfl
        refine hK.out _ _ ⟨((cell_far (p := ⟨gb217, _, none⟩) NB192_217.out _).trans (((cell_far (p := ⟨gb217, _, none⟩) NB192_217.out _).trans (((cell_far (p := ⟨gb217, _, none⟩) NB192_217.out _).trans (((cell_far (p := ⟨gb217, _, none⟩) NB192_217.out _).trans (hHeld.1)))))))), ((cell_far (p := ⟨gb217, _, none⟩) NB192_217.out _).trans (((cell_far (p := ⟨gb217, _, none⟩) NB192_217.out _).trans (((cell_far (p := ⟨gb217, _, none⟩) NB192_217.out _).trans (((cell_far (p := ⟨gb217, _, none⟩) NB192_217.out _).trans (hHeld.2.1)))))))), ((cell_far (p := ⟨gb217, _, none⟩) NB192_217.out _).trans (((cell_far (p := ⟨gb217, _, none⟩) NB192_217.out _).trans (((cell_far (p := ⟨gb217, _, none⟩) NB192_217.out _).trans (((cell_far (p := ⟨gb217, _, none⟩) NB192_217.out _).trans (hHeld.2.2.1)))))))), ((cell_far (p := ⟨gb217, _, none⟩) NB192_217.out _).trans (((cell_far (p := ⟨gb217, _, none⟩) NB192_217.out _).trans (((cell_far (p := ⟨gb217, _, none⟩) NB192_217.out _).trans (((cell_far (p := ⟨gb217, _, none⟩) NB192_217.out _).trans (hHeld.2.2.2))))))))⟩ (fun hHeld => ?_)
        clear hK K
        refine pure_ (i := 9) (N := some 15) (v := ?_) (a' := ?_) #[true, true, true, true, true, true, true, true, true, true] rfl rfl (any_of HT_.out (by kernel_rfl)) (fun _ _ _ h => h) (Or.inl ⟨by rfl, ?_⟩) ?_ ?_
        rotate_left
        · intro w'
          go_simp
          with_reducible rfl
        rotate_left
        · simp only [Act.put, List.setIfInBounds_toArray, List.set_cons_zero, List.set_cons_succ, i64_w, i32_w]
          rfl
        refine done_ (done_of HT_.out (by kernel_rfl)) ?_
        have hnb50 := NB192_203.out
        have hnc50 := NB203_192.out
        have hnb51 := NB192_210.out
        have hnc51 := NB210_192.out
        have hnb52 := NB192_217.out
        have hnc52 := NB217_192.out
        have hcz53_0 : w45.cell? ⟨gb192, 0, none⟩ = some (.bool t188) := (blk_cell BK192.out 0).trans rfl
        have hcz53_1 : w45.cell? ⟨gb192, 1, none⟩ = some (.int .i64 t189) := (blk_cell BK192.out 1).trans rfl
        have hcz53_2 : w45.cell? ⟨gb192, 2, none⟩ = some (.int .i64 t190) := (blk_cell BK192.out 2).trans rfl
        have hcz53_3 : w45.cell? ⟨gb192, 3, none⟩ = some (.int .i64 t191) := (blk_cell BK192.out 3).trans rfl
        have hfz53_0 := blk_frozen BK192.out 0
        have hfz53_1 := blk_frozen BK192.out 1
        have hfz53_2 := blk_frozen BK192.out 2
        have hfz53_3 := blk_frozen BK192.out 3
        go_upto_region 11 with (first | ((with_reducible refine gate_callee (f := 15) rfl ?_); refine goesL_ (some 63) rfl rfl Try.func15 (by kernel_rfl) rfl #[.agg #[.bool t188, .int .i64 t189, .int .i64 t190, .int .i64 t191]] rfl (by (try simp only [List.map_toArray, List.map_cons, List.map_nil]); first | done | rfl | (simp only [List.length_drop, List.length_take]; rfl)) ?_; (with_reducible refine (impl_BackOff.calls t188 t189 t190 t191 t218 t219 t220 t221 t222 _ A15.out).mono ?_); rintro e w54 ⟨rfl, hb⟩; refine ⟨_, rfl, ?_⟩; have n0_ := Aside0.mk (blk_below (g := gb192) (o := .cells #[.bool t188, .int .i64 t189, .int .i64 t190, .int .i64 t191] 25 (0, 0)) (by (with_reducible repeat (first | refine blk_drewN ?_ _ | refine blk_drew ?_ | refine blk_alloc ?_ _)); refine blk_far ?_ NB192_217.out _; (with_reducible repeat (first | refine blk_drewN ?_ _ | refine blk_drew ?_ | refine blk_alloc ?_ _)); refine blk_far ?_ NB192_217.out _; (with_reducible repeat (first | refine blk_drewN ?_ _ | refine blk_drew ?_ | refine blk_alloc ?_ _)); refine blk_far ?_ NB192_217.out _; (with_reducible repeat (first | refine blk_drewN ?_ _ | refine blk_drew ?_ | refine blk_alloc ?_ _)); refine blk_far ?_ NB192_217.out _; (with_reducible repeat (first | refine blk_drewN ?_ _ | refine blk_drew ?_ | refine blk_alloc ?_ _)); exact BK192.out) hb); have n1_ := Aside0.mk (blk_below (g := gb203) (o := .cells #[.bool t198, .int .i64 t199, .int .i64 t200, .int .i64 t201] 25 (0, 0)) (by (with_reducible repeat (first | refine blk_drewN ?_ _ | refine blk_drew ?_ | refine blk_alloc ?_ _)); refine blk_far ?_ NB203_217.out _; (with_reducible repeat (first | refine blk_drewN ?_ _ | refine blk_drew ?_ | refine blk_alloc ?_ _)); refine blk_far ?_ NB203_217.out _; (with_reducible repeat (first | refine blk_drewN ?_ _ | refine blk_drew ?_ | refine blk_alloc ?_ _)); refine blk_far ?_ NB203_217.out _; (with_reducible repeat (first | refine blk_drewN ?_ _ | refine blk_drew ?_ | refine blk_alloc ?_ _)); refine blk_far ?_ NB203_217.out _; (with_reducible repeat (first | refine blk_drewN ?_ _ | refine blk_drew ?_ | refine blk_alloc ?_ _)); exact BK203.out) hb); have n2_ := Aside0.mk (blk_below (g := gb210) (o := .cells #[.bool t205, .int .i64 t206, .int .i64 t207, .int .i64 t208] 25 (0, 0)) (by (with_reducible repeat (first | refine blk_drewN ?_ _ | refine blk_drew ?_ | refine blk_alloc ?_ _)); refine blk_far ?_ NB210_217.out _; (with_reducible repeat (first | refine blk_drewN ?_ _ | refine blk_drew ?_ | refine blk_alloc ?_ _)); refine blk_far ?_ NB210_217.out _; (with_reducible repeat (first | refine blk_drewN ?_ _ | refine blk_drew ?_ | refine blk_alloc ?_ _)); refine blk_far ?_ NB210_217.out _; (with_reducible repeat (first | refine blk_drewN ?_ _ | refine blk_drew ?_ | refine blk_alloc ?_ _)); refine blk_far ?_ NB210_217.out _; (with_reducible repeat (first | refine blk_drewN ?_ _ | refine blk_drew ?_ | refine blk_alloc ?_ _)); exact BK210.out) hb); have n3_ := Aside0.mk (blk_below (g := gb217) (o := .cells #[.bool t212, .int .i64 t213, .int .i64 t214, .int .i64 t215] 25 (0, 0)) (by (with_reducible repeat (first | refine blk_drewN ?_ _ | refine blk_drew ?_ | refine blk_alloc ?_ _)); refine blk_put (cs := #[.bool t212, .int .i64 t213, .int .i64 t214, .int .i64 0]) ?_ 3 _ rfl; (with_reducible repeat (first | refine blk_drewN ?_ _ | refine blk_drew ?_ | refine blk_alloc ?_ _)); refine blk_put (cs := #[.bool t212, .int .i64 t213, .int .i64 0, .int .i64 0]) ?_ 2 _ rfl; (with_reducible repeat (first | refine blk_drewN ?_ _ | refine blk_drew ?_ | refine blk_alloc ?_ _)); refine blk_put (cs := #[.bool t212, .int .i64 0, .int .i64 0, .int .i64 0]) ?_ 1 _ rfl; (with_reducible repeat (first | refine blk_drewN ?_ _ | refine blk_drew ?_ | refine blk_alloc ?_ _)); refine blk_put (cs := #[.bool false, .int .i64 0, .int .i64 0, .int .i64 0]) ?_ 0 _ rfl; (with_reducible repeat (first | refine blk_drewN ?_ _ | refine blk_drew ?_ | refine blk_alloc ?_ _)); exact BK217.out) hb); have n4_ := Aside0.mk (below_step (by repeat (first | (with_reducible first | exact HB.out | apply below_alloc | apply pw_below_drewN | apply below_drew1 | refine below_set ?_ GE192.out | refine below_set ?_ GE203.out | refine below_set ?_ GE210.out | refine below_set ?_ GE217.out) | exact HB.out)) hb); clear BK192; clear BK203; clear BK210; clear BK217; clear HB; have BK192 := n0_; have BK203 := n1_; have BK210 := n2_; have BK217 := n3_; have HB := n4_; clear n0_ n1_ n2_ n3_ n4_; (try clear hb); (try clear hb2); (try clear hk); (try clear hi)) | ((with_reducible refine gate_dst (N := 16) rfl ?_); (try (refine gate_guard (by rfl) ?_; dsimp only)); refine box_event ?hg (N := 16) ?hd (cs := #[.bool false, .int .i64 0, .int .i64 0, .int .i64 0]) (t := 25) ?hr ?_; (case hd => rfl); (case hg => rfl); (case hr => first | (go_simp; done) | (go_simp; rfl)); intro gb223 hg w55 hbox hb; have n0_ := Aside0.mk (blk_below (g := gb192) (o := .cells #[.bool t188, .int .i64 t189, .int .i64 t190, .int .i64 t191] 25 (0, 0)) (by (with_reducible repeat (first | refine blk_drewN ?_ _ | refine blk_drew ?_ | refine blk_alloc ?_ _)); exact BK192.out) hb); have n1_ := Aside0.mk (blk_below (g := gb203) (o := .cells #[.bool t198, .int .i64 t199, .int .i64 t200, .int .i64 t201] 25 (0, 0)) (by (with_reducible repeat (first | refine blk_drewN ?_ _ | refine blk_drew ?_ | refine blk_alloc ?_ _)); exact BK203.out) hb); have n2_ := Aside0.mk (blk_below (g := gb210) (o := .cells #[.bool t205, .int .i64 t206, .int .i64 t207, .int .i64 t208] 25 (0, 0)) (by (with_reducible repeat (first | refine blk_drewN ?_ _ | refine blk_drew ?_ | refine blk_alloc ?_ _)); exact BK210.out) hb); have n3_ := Aside0.mk (blk_below (g := gb217) (o := .cells #[.bool t212, .int .i64 t213, .int .i64 t214, .int .i64 t215] 25 (0, 0)) (by (with_reducible repeat (first | refine blk_drewN ?_ _ | refine blk_drew ?_ | refine blk_alloc ?_ _)); exact BK217.out) hb); have n4_ := Aside0.mk (below_step (by repeat (first | (with_reducible first | exact HB.out | apply below_alloc | apply pw_below_drewN | apply below_drew1 | refine below_set ?_ GE192.out | refine below_set ?_ GE203.out | refine below_set ?_ GE210.out | refine below_set ?_ GE217.out) | exact HB.out)) hb); have n5_ := Aside0.mk (hbox); have n6_ := Aside0.mk ((by rw [hg]; exact (below_size (by repeat (first | (with_reducible first | exact HB.out | apply below_alloc | apply pw_below_drewN | apply below_drew1 | refine below_set ?_ GE192.out | refine below_set ?_ GE203.out | refine below_set ?_ GE210.out | refine below_set ?_ GE217.out) | exact HB.out))) : w.heap.size ≤ gb223)); have n7_ := Aside0.mk ((by rw [hg]; exact (below_size (by repeat (first | (with_reducible first | exact HB.out | apply below_alloc | apply pw_below_drewN | apply below_drew1 | refine below_set ?_ GE192.out | refine below_set ?_ GE203.out | refine below_set ?_ GE210.out | refine below_set ?_ GE217.out) | exact HB.out))) : w.heap.size ≤ gb223)); have n8_ := Aside0.mk ((by rw [hg]; exact Nat.ne_of_lt (blk_lt (g := gb192) (o := .cells #[.bool t188, .int .i64 t189, .int .i64 t190, .int .i64 t191] 25 (0, 0)) (by (with_reducible repeat (first | refine blk_drewN ?_ _ | refine blk_drew ?_ | refine blk_alloc ?_ _)); exact BK192.out)) : gb192 ≠ gb223)); have n9_ := Aside0.mk ((by rw [hg]; exact Nat.ne_of_gt (blk_lt (g := gb192) (o := .cells #[.bool t188, .int .i64 t189, .int .i64 t190, .int .i64 t191] 25 (0, 0)) (by (with_reducible repeat (first | refine blk_drewN ?_ _ | refine blk_drew ?_ | refine blk_alloc ?_ _)); exact BK192.out)) : gb223 ≠ gb192)); have n10_ := Aside0.mk ((by rw [hg]; exact Nat.ne_of_lt (blk_lt (g := gb203) (o := .cells #[.bool t198, .int .i64 t199, .int .i64 t200, .int .i64 t201] 25 (0, 0)) (by (with_reducible repeat (first | refine blk_drewN ?_ _ | refine blk_drew ?_ | refine blk_alloc ?_ _)); exact BK203.out)) : gb203 ≠ gb223)); have n11_ := Aside0.mk ((by rw [hg]; exact Nat.ne_of_gt (blk_lt (g := gb203) (o := .cells #[.bool t198, .int .i64 t199, .int .i64 t200, .int .i64 t201] 25 (0, 0)) (by (with_reducible repeat (first | refine blk_drewN ?_ _ | refine blk_drew ?_ | refine blk_alloc ?_ _)); exact BK203.out)) : gb223 ≠ gb203)); have n12_ := Aside0.mk ((by rw [hg]; exact Nat.ne_of_lt (blk_lt (g := gb210) (o := .cells #[.bool t205, .int .i64 t206, .int .i64 t207, .int .i64 t208] 25 (0, 0)) (by (with_reducible repeat (first | refine blk_drewN ?_ _ | refine blk_drew ?_ | refine blk_alloc ?_ _)); exact BK210.out)) : gb210 ≠ gb223)); have n13_ := Aside0.mk ((by rw [hg]; exact Nat.ne_of_gt (blk_lt (g := gb210) (o := .cells #[.bool t205, .int .i64 t206, .int .i64 t207, .int .i64 t208] 25 (0, 0)) (by (with_reducible repeat (first | refine blk_drewN ?_ _ | refine blk_drew ?_ | refine blk_alloc ?_ _)); exact BK210.out)) : gb223 ≠ gb210)); have n14_ := Aside0.mk ((by rw [hg]; exact Nat.ne_of_lt (blk_lt (g := gb217) (o := .cells #[.bool t212, .int .i64 t213, .int .i64 t214, .int .i64 t215] 25 (0, 0)) (by (with_reducible repeat (first | refine blk_drewN ?_ _ | refine blk_drew ?_ | refine blk_alloc ?_ _)); exact BK217.out)) : gb217 ≠ gb223)); have n15_ := Aside0.mk ((by rw [hg]; exact Nat.ne_of_gt (blk_lt (g := gb217) (o := .cells #[.bool t212, .int .i64 t213, .int .i64 t214, .int .i64 t215] 25 (0, 0)) (by (with_reducible repeat (first | refine blk_drewN ?_ _ | refine blk_drew ?_ | refine blk_alloc ?_ _)); exact BK217.out)) : gb223 ≠ gb217)); clear BK192; clear BK203; clear BK210; clear BK217; clear HB; have BK192 := n0_; have BK203 := n1_; have BK210 := n2_; have BK217 := n3_; have HB := n4_; have BK223 := n5_; have GW223 := n6_; have GE223 := n7_; have NB192_223 := n8_; have NB223_192 := n9_; have NB203_223 := n10_; have NB223_203 := n11_; have NB210_223 := n12_; have NB223_210 := n13_; have NB217_223 := n14_; have NB223_217 := n15_; clear n0_ n1_ n2_ n3_ n4_ n5_ n6_ n7_ n8_ n9_ n10_ n11_ n12_ n13_ n14_ n15_; clear hb hbox hg; have hnb56 := NB223_192.out; have hnc56 := NB192_223.out; have hnb57 := NB223_203.out; have hnc57 := NB203_223.out; have hnb58 := NB223_210.out; have hnc58 := NB210_223.out; have hnb59 := NB223_217.out; have hnc59 := NB217_223.out; have hcz60_0 : w55.cell? ⟨gb223, 0, none⟩ = some (.bool false) := (blk_cell BK223.out 0).trans rfl; have hcz60_1 : w55.cell? ⟨gb223, 1, none⟩ = some (.int .i64 0) := (blk_cell BK223.out 1).trans rfl; have hcz60_2 : w55.cell? ⟨gb223, 2, none⟩ = some (.int .i64 0) := (blk_cell BK223.out 2).trans rfl; have hcz60_3 : w55.cell? ⟨gb223, 3, none⟩ = some (.int .i64 0) := (blk_cell BK223.out 3).trans rfl; have hfz60_0 := blk_frozen BK223.out 0; have hfz60_1 := blk_frozen BK223.out 1; have hfz60_2 := blk_frozen BK223.out 2; have hfz60_3 := blk_frozen BK223.out 3) | ((with_reducible refine gate_callee (f := 13) rfl ?_); refine goesL_ (some 68) rfl rfl Try.func13 (by kernel_rfl) rfl #[.agg #[.bool t218, .int .i64 t219, .int .i64 t220, .int .i64 t221]] rfl (by (try simp only [List.map_toArray, List.map_cons, List.map_nil]); first | done | rfl | (simp only [List.length_drop, List.length_take]; rfl)) ?_; (with_reducible refine (impl_Rto.calls t218 t219 t220 t221 t224 t225 _ A16.out).mono ?_); rintro e w61 ⟨rfl, hb⟩; refine ⟨_, rfl, ?_⟩; have n0_ := Aside0.mk (blk_below (g := gb192) (o := .cells #[.bool t188, .int .i64 t189, .int .i64 t190, .int .i64 t191] 25 (0, 0)) (by (with_reducible repeat (first | refine blk_drewN ?_ _ | refine blk_drew ?_ | refine blk_alloc ?_ _)); refine blk_far ?_ NB192_223.out _; (with_reducible repeat (first | refine blk_drewN ?_ _ | refine blk_drew ?_ | refine blk_alloc ?_ _)); refine blk_far ?_ NB192_223.out _; (with_reducible repeat (first | refine blk_drewN ?_ _ | refine blk_drew ?_ | refine blk_alloc ?_ _)); refine blk_far ?_ NB192_223.out _; (with_reducible repeat (first | refine blk_drewN ?_ _ | refine blk_drew ?_ | refine blk_alloc ?_ _)); refine blk_far ?_ NB192_223.out _; (with_reducible repeat (first | refine blk_drewN ?_ _ | refine blk_drew ?_ | refine blk_alloc ?_ _)); exact BK192.out) hb); have n1_ := Aside0.mk (blk_below (g := gb203) (o := .cells #[.bool t198, .int .i64 t199, .int .i64 t200, .int .i64 t201] 25 (0, 0)) (by (with_reducible repeat (first | refine blk_drewN ?_ _ | refine blk_drew ?_ | refine blk_alloc ?_ _)); refine blk_far ?_ NB203_223.out _; (with_reducible repeat (first | refine blk_drewN ?_ _ | refine blk_drew ?_ | refine blk_alloc ?_ _)); refine blk_far ?_ NB203_223.out _; (with_reducible repeat (first | refine blk_drewN ?_ _ | refine blk_drew ?_ | refine blk_alloc ?_ _)); refine blk_far ?_ NB203_223.out _; (with_reducible repeat (first | refine blk_drewN ?_ _ | refine blk_drew ?_ | refine blk_alloc ?_ _)); refine blk_far ?_ NB203_223.out _; (with_reducible repeat (first | refine blk_drewN ?_ _ | refine blk_drew ?_ | refine blk_alloc ?_ _)); exact BK203.out) hb); have n2_ := Aside0.mk (blk_below (g := gb210) (o := .cells #[.bool t205, .int .i64 t206, .int .i64 t207, .int .i64 t208] 25 (0, 0)) (by (with_reducible repeat (first | refine blk_drewN ?_ _ | refine blk_drew ?_ | refine blk_alloc ?_ _)); refine blk_far ?_ NB210_223.out _; (with_reducible repeat (first | refine blk_drewN ?_ _ | refine blk_drew ?_ | refine blk_alloc ?_ _)); refine blk_far ?_ NB210_223.out _; (with_reducible repeat (first | refine blk_drewN ?_ _ | refine blk_drew ?_ | refine blk_alloc ?_ _)); refine blk_far ?_ NB210_223.out _; (with_reducible repeat (first | refine blk_drewN ?_ _ | refine blk_drew ?_ | refine blk_alloc ?_ _)); refine blk_far ?_ NB210_223.out _; (with_reducible repeat (first | refine blk_drewN ?_ _ | refine blk_drew ?_ | refine blk_alloc ?_ _)); exact BK210.out) hb); have n3_ := Aside0.mk (blk_below (g := gb217) (o := .cells #[.bool t212, .int .i64 t213, .int .i64 t214, .int .i64 t215] 25 (0, 0)) (by (with_reducible repeat (first | refine blk_drewN ?_ _ | refine blk_drew ?_ | refine blk_alloc ?_ _)); refine blk_far ?_ NB217_223.out _; (with_reducible repeat (first | refine blk_drewN ?_ _ | refine blk_drew ?_ | refine blk_alloc ?_ _)); refine blk_far ?_ NB217_223.out _; (with_reducible repeat (first | refine blk_drewN ?_ _ | refine blk_drew ?_ | refine blk_alloc ?_ _)); refine blk_far ?_ NB217_223.out _; (with_reducible repeat (first | refine blk_drewN ?_ _ | refine blk_drew ?_ | refine blk_alloc ?_ _)); refine blk_far ?_ NB217_223.out _; (with_reducible repeat (first | refine blk_drewN ?_ _ | refine blk_drew ?_ | refine blk_alloc ?_ _)); exact BK217.out) hb); have n4_ := Aside0.mk (blk_below (g := gb223) (o := .cells #[.bool t218, .int .i64 t219, .int .i64 t220, .int .i64 t221] 25 (0, 0)) (by (with_reducible repeat (first | refine blk_drewN ?_ _ | refine blk_drew ?_ | refine blk_alloc ?_ _)); refine blk_put (cs := #[.bool t218, .int .i64 t219, .int .i64 t220, .int .i64 0]) ?_ 3 _ rfl; (with_reducible repeat (first | refine blk_drewN ?_ _ | refine blk_drew ?_ | refine blk_alloc ?_ _)); refine blk_put (cs := #[.bool t218, .int .i64 t219, .int .i64 0, .int .i64 0]) ?_ 2 _ rfl; (with_reducible repeat (first | refine blk_drewN ?_ _ | refine blk_drew ?_ | refine blk_alloc ?_ _)); refine blk_put (cs := #[.bool t218, .int .i64 0, .int .i64 0, .int .i64 0]) ?_ 1 _ rfl; (with_reducible repeat (first | refine blk_drewN ?_ _ | refine blk_drew ?_ | refine blk_alloc ?_ _)); refine blk_put (cs := #[.bool false, .int .i64 0, .int .i64 0, .int .i64 0]) ?_ 0 _ rfl; (with_reducible repeat (first | refine blk_drewN ?_ _ | refine blk_drew ?_ | refine blk_alloc ?_ _)); exact BK223.out) hb); have n5_ := Aside0.mk (below_step (by repeat (first | (with_reducible first | exact HB.out | apply below_alloc | apply pw_below_drewN | apply below_drew1 | refine below_set ?_ GE192.out | refine below_set ?_ GE203.out | refine below_set ?_ GE210.out | refine below_set ?_ GE217.out | refine below_set ?_ GE223.out) | exact HB.out)) hb); clear BK192; clear BK203; clear BK210; clear BK217; clear BK223; clear HB; have BK192 := n0_; have BK203 := n1_; have BK210 := n2_; have BK217 := n3_; have BK223 := n4_; have HB := n5_; clear n0_ n1_ n2_ n3_ n4_ n5_; (try clear hb); (try clear hb2); (try clear hk); (try clear hi)))
        (try simp only [Act.put, List.setIfInBounds_toArray, List.set_cons_zero, List.set_cons_succ])
        go_cut [117] (fun v117 wc => ∃ (kq : Nat) (x117_16 : Bool), v117 = .bool x117_16 ∧ Aside0 (laws_FnRto.j1 kq t193 t224 x117_16 t188 t189 t190 t191 t218 t219 t220 t221 = some r) ∧ Aside0 (kq ≤ kj2) ∧ Aside0 (wc.heap[gb192]? = some (.cells #[.bool t188, .int .i64 t189, .int .i64 t190, .int .i64 t191] 25 (0, 0))) ∧ Aside0 (wc.heap[gb203]? = some (.cells #[.bool t198, .int .i64 t199, .int .i64 t200, .int .i64 t201] 25 (0, 0))) ∧ Aside0 (wc.heap[gb210]? = some (.cells #[.bool t205, .int .i64 t206, .int .i64 t207, .int .i64 t208] 25 (0, 0))) ∧ Aside0 (wc.heap[gb217]? = some (.cells #[.bool t212, .int .i64 t213, .int .i64 t214, .int .i64 t215] 25 (0, 0))) ∧ Aside0 (wc.heap[gb223]? = some (.cells #[.bool t218, .int .i64 t219, .int .i64 t220, .int .i64 t221] 25 (0, 0))) ∧ Aside0 (Below w.heap.size w wc))
        case first =>
          have H := HC17.out
          clear HC17
          by_cases c62 : t194 = 0
          · rw [if_pos c62] at H
            have c62b0 : (t194 == 0) = true := beq_iff_eq.mpr c62
            have c62b1 : (t194 != 0) = false := bne_eq_false_iff_eq.mpr c62
            clear c62
            (first | rw [c62b0] | (simp only [i64_w, i32_w]; rw [c62b0]) | skip)
            by_cases c63 : t202 = 0
            · rw [if_pos c63] at H
              have c63b0 : (t202 == 0) = true := beq_iff_eq.mpr c63
              have c63b1 : (t202 != 0) = false := bne_eq_false_iff_eq.mpr c63
              clear c63
              by_cases c64 : t209 = 0
              · rw [if_pos c64] at H
                have c64b0 : (t209 == 0) = true := beq_iff_eq.mpr c64
                have c64b1 : (t209 != 0) = false := bne_eq_false_iff_eq.mpr c64
                clear c64
                by_cases c65 : t222 = 0
                · rw [if_pos c65] at H
                  have c65b0 : (t222 == 0) = true := beq_iff_eq.mpr c65
                  have c65b1 : (t222 != 0) = false := bne_eq_false_iff_eq.mpr c65
                  clear c65
                  by_cases c66 : t225 = 0
                  · rw [if_pos c66] at H
                    have c66b0 : (t225 == 0) = true := beq_iff_eq.mpr c66
                    have c66b1 : (t225 != 0) = false := bne_eq_false_iff_eq.mpr c66
                    clear c66
                    by_cases c67 : t193 = t195
                    · rw [if_pos c67] at H
                      have c67b0 : (t193 == t195) = true := beq_iff_eq.mpr c67
                      have c67b1 : (t193 != t195) = false := bne_eq_false_iff_eq.mpr c67
                      clear c67
                      by_cases c68 : (!(t198 == t188) || (!(t199 == t189) || (!(t200 == t190) || (!(t201 == t191))))) = true
                      · rw [if_pos c68] at H
                        have c68b0 : (!(t198 == t188) || (!(t199 == t189) || (!(t200 == t190) || (!(t201 == t191))))) = true := c68
                        clear c68
                        have H' := Aside0.mk H
                        clear H
                        have hnb69 := NB203_192.out
                        have hnc69 := NB192_203.out
                        have hnb70 := NB203_210.out
                        have hnc70 := NB210_203.out
                        have hnb71 := NB203_217.out
                        have hnc71 := NB217_203.out
                        have hnb72 := NB203_223.out
                        have hnc72 := NB223_203.out
                        have hcz73_0 : w61.cell? ⟨gb203, 0, none⟩ = some (.bool t198) := (blk_cell BK203.out 0).trans rfl
                        have hcz73_1 : w61.cell? ⟨gb203, 1, none⟩ = some (.int .i64 t199) := (blk_cell BK203.out 1).trans rfl
                        have hcz73_2 : w61.cell? ⟨gb203, 2, none⟩ = some (.int .i64 t200) := (blk_cell BK203.out 2).trans rfl
                        have hcz73_3 : w61.cell? ⟨gb203, 3, none⟩ = some (.int .i64 t201) := (blk_cell BK203.out 3).trans rfl
                        have hfz73_0 := blk_frozen BK203.out 0
                        have hfz73_1 := blk_frozen BK203.out 1
                        have hfz73_2 := blk_frozen BK203.out 2
                        have hfz73_3 := blk_frozen BK203.out 3
                        have hnb74 := NB192_210.out
                        have hnc74 := NB210_192.out
                        have hnb75 := NB192_217.out
                        have hnc75 := NB217_192.out
                        have hnb76 := NB192_223.out
                        have hnc76 := NB223_192.out
                        have hcz77_0 : w61.cell? ⟨gb192, 0, none⟩ = some (.bool t188) := (blk_cell BK192.out 0).trans rfl
                        have hcz77_1 : w61.cell? ⟨gb192, 1, none⟩ = some (.int .i64 t189) := (blk_cell BK192.out 1).trans rfl
                        have hcz77_2 : w61.cell? ⟨gb192, 2, none⟩ = some (.int .i64 t190) := (blk_cell BK192.out 2).trans rfl
                        have hcz77_3 : w61.cell? ⟨gb192, 3, none⟩ = some (.int .i64 t191) := (blk_cell BK192.out 3).trans rfl
                        have hfz77_0 := blk_frozen BK192.out 0
                        have hfz77_1 := blk_frozen BK192.out 1
                        have hfz77_2 := blk_frozen BK192.out 2
                        have hfz77_3 := blk_frozen BK192.out 3
                        go_wp2
                        go_meet
                        case rel => exact ⟨_, (true), (by first | rfl | (simp; done) | (simp [*]; done)), H', ⟨by have := HJ2.out; first | omega | exact Nat.le_refl _⟩, ⟨by (with_reducible repeat (first | refine blk_drewN ?_ _ | refine blk_drew ?_ | refine blk_alloc ?_ _)); exact BK192.out⟩, ⟨by (with_reducible repeat (first | refine blk_drewN ?_ _ | refine blk_drew ?_ | refine blk_alloc ?_ _)); exact BK203.out⟩, ⟨by (with_reducible repeat (first | refine blk_drewN ?_ _ | refine blk_drew ?_ | refine blk_alloc ?_ _)); exact BK210.out⟩, ⟨by (with_reducible repeat (first | refine blk_drewN ?_ _ | refine blk_drew ?_ | refine blk_alloc ?_ _)); exact BK217.out⟩, ⟨by (with_reducible repeat (first | refine blk_drewN ?_ _ | refine blk_drew ?_ | refine blk_alloc ?_ _)); exact BK223.out⟩, ⟨by repeat (first | (with_reducible first | exact HB.out | apply below_alloc | apply pw_below_drewN | apply below_drew1 | refine below_set ?_ GE192.out | refine below_set ?_ GE203.out | refine below_set ?_ GE210.out | refine below_set ?_ GE217.out | refine below_set ?_ GE223.out) | exact HB.out)⟩⟩
                      · rw [if_neg c68] at H
                        have c68b0 : (!(t198 == t188) || (!(t199 == t189) || (!(t200 == t190) || (!(t201 == t191))))) = false := by simpa using c68
                        clear c68
                        by_cases c78 : (!(t205 == t212) || (!(t206 == t213) || (!(t207 == t214) || (!(t208 == t215))))) = true
                        · rw [if_pos c78] at H
                          have c78b0 : (!(t205 == t212) || (!(t206 == t213) || (!(t207 == t214) || (!(t208 == t215))))) = true := c78
                          clear c78
                          have H' := Aside0.mk H
                          clear H
                          have hnb79 := NB203_192.out
                          have hnc79 := NB192_203.out
                          have hnb80 := NB203_210.out
                          have hnc80 := NB210_203.out
                          have hnb81 := NB203_217.out
                          have hnc81 := NB217_203.out
                          have hnb82 := NB203_223.out
                          have hnc82 := NB223_203.out
                          have hcz83_0 : w61.cell? ⟨gb203, 0, none⟩ = some (.bool t198) := (blk_cell BK203.out 0).trans rfl
                          have hcz83_1 : w61.cell? ⟨gb203, 1, none⟩ = some (.int .i64 t199) := (blk_cell BK203.out 1).trans rfl
                          have hcz83_2 : w61.cell? ⟨gb203, 2, none⟩ = some (.int .i64 t200) := (blk_cell BK203.out 2).trans rfl
                          have hcz83_3 : w61.cell? ⟨gb203, 3, none⟩ = some (.int .i64 t201) := (blk_cell BK203.out 3).trans rfl
                          have hfz83_0 := blk_frozen BK203.out 0
                          have hfz83_1 := blk_frozen BK203.out 1
                          have hfz83_2 := blk_frozen BK203.out 2
                          have hfz83_3 := blk_frozen BK203.out 3
                          have hnb84 := NB192_210.out
                          have hnc84 := NB210_192.out
                          have hnb85 := NB192_217.out
                          have hnc85 := NB217_192.out
                          have hnb86 := NB192_223.out
                          have hnc86 := NB223_192.out
                          have hcz87_0 : w61.cell? ⟨gb192, 0, none⟩ = some (.bool t188) := (blk_cell BK192.out 0).trans rfl
                          have hcz87_1 : w61.cell? ⟨gb192, 1, none⟩ = some (.int .i64 t189) := (blk_cell BK192.out 1).trans rfl
                          have hcz87_2 : w61.cell? ⟨gb192, 2, none⟩ = some (.int .i64 t190) := (blk_cell BK192.out 2).trans rfl
                          have hcz87_3 : w61.cell? ⟨gb192, 3, none⟩ = some (.int .i64 t191) := (blk_cell BK192.out 3).trans rfl
                          have hfz87_0 := blk_frozen BK192.out 0
                          have hfz87_1 := blk_frozen BK192.out 1
                          have hfz87_2 := blk_frozen BK192.out 2
                          have hfz87_3 := blk_frozen BK192.out 3
                          have hnb88 := NB210_217.out
                          have hnc88 := NB217_210.out
                          have hnb89 := NB210_223.out
                          have hnc89 := NB223_210.out
                          have hcz90_0 : w61.cell? ⟨gb210, 0, none⟩ = some (.bool t205) := (blk_cell BK210.out 0).trans rfl
                          have hcz90_1 : w61.cell? ⟨gb210, 1, none⟩ = some (.int .i64 t206) := (blk_cell BK210.out 1).trans rfl
                          have hcz90_2 : w61.cell? ⟨gb210, 2, none⟩ = some (.int .i64 t207) := (blk_cell BK210.out 2).trans rfl
                          have hcz90_3 : w61.cell? ⟨gb210, 3, none⟩ = some (.int .i64 t208) := (blk_cell BK210.out 3).trans rfl
                          have hfz90_0 := blk_frozen BK210.out 0
                          have hfz90_1 := blk_frozen BK210.out 1
                          have hfz90_2 := blk_frozen BK210.out 2
                          have hfz90_3 := blk_frozen BK210.out 3
                          have hnb91 := NB217_223.out
                          have hnc91 := NB223_217.out
                          have hcz92_0 : w61.cell? ⟨gb217, 0, none⟩ = some (.bool t212) := (blk_cell BK217.out 0).trans rfl
                          have hcz92_1 : w61.cell? ⟨gb217, 1, none⟩ = some (.int .i64 t213) := (blk_cell BK217.out 1).trans rfl
                          have hcz92_2 : w61.cell? ⟨gb217, 2, none⟩ = some (.int .i64 t214) := (blk_cell BK217.out 2).trans rfl
                          have hcz92_3 : w61.cell? ⟨gb217, 3, none⟩ = some (.int .i64 t215) := (blk_cell BK217.out 3).trans rfl
                          have hfz92_0 := blk_frozen BK217.out 0
                          have hfz92_1 := blk_frozen BK217.out 1
                          have hfz92_2 := blk_frozen BK217.out 2
                          have hfz92_3 := blk_frozen BK217.out 3
                          go_wp2
                          go_meet
                          case rel => exact ⟨_, (true), (by first | rfl | (simp; done) | (simp [*]; done)), H', ⟨by have := HJ2.out; first | omega | exact Nat.le_refl _⟩, ⟨by (with_reducible repeat (first | refine blk_drewN ?_ _ | refine blk_drew ?_ | refine blk_alloc ?_ _)); exact BK192.out⟩, ⟨by (with_reducible repeat (first | refine blk_drewN ?_ _ | refine blk_drew ?_ | refine blk_alloc ?_ _)); exact BK203.out⟩, ⟨by (with_reducible repeat (first | refine blk_drewN ?_ _ | refine blk_drew ?_ | refine blk_alloc ?_ _)); exact BK210.out⟩, ⟨by (with_reducible repeat (first | refine blk_drewN ?_ _ | refine blk_drew ?_ | refine blk_alloc ?_ _)); exact BK217.out⟩, ⟨by (with_reducible repeat (first | refine blk_drewN ?_ _ | refine blk_drew ?_ | refine blk_alloc ?_ _)); exact BK223.out⟩, ⟨by repeat (first | (with_reducible first | exact HB.out | apply below_alloc | apply pw_below_drewN | apply below_drew1 | refine below_set ?_ GE192.out | refine below_set ?_ GE203.out | refine below_set ?_ GE210.out | refine below_set ?_ GE217.out | refine below_set ?_ GE223.out) | exact HB.out)⟩⟩
                        · rw [if_neg c78] at H
                          have c78b0 : (!(t205 == t212) || (!(t206 == t213) || (!(t207 == t214) || (!(t208 == t215))))) = false := by simpa using c78
                          clear c78
                          replace H := Option.bind_eq_some_iff.mp H
                          obtain ⟨t226, A930, H⟩ := H
                          replace H : (if t226 = true then (if t208 = 0 then (laws_FnRto.j1 kj2 t193 t224 false t188 t189 t190 t191 t218 t219 t220 t221) else (laws_FnRto.j1 kj2 t193 t224 t188 t188 t189 t190 t191 t218 t219 t220 t221)) else (laws_FnRto.j1 kj2 t193 t224 true t188 t189 t190 t191 t218 t219 t220 t221)) = some r := H
                          have A93 := Aside0.mk A930
                          clear A930
                          by_cases c94 : t226 = true
                          · subst c94
                            have H1 : (if t208 = 0 then (laws_FnRto.j1 kj2 t193 t224 false t188 t189 t190 t191 t218 t219 t220 t221) else (laws_FnRto.j1 kj2 t193 t224 t188 t188 t189 t190 t191 t218 t219 t220 t221)) = some r := by rw [if_pos rfl] at H; exact H
                            clear H
                            have H := H1
                            clear H1
                            by_cases c95 : t208 = 0
                            · rw [if_pos c95] at H
                              have c95b0 : (t208 == 0) = true := beq_iff_eq.mpr c95
                              have c95b1 : (t208 != 0) = false := bne_eq_false_iff_eq.mpr c95
                              clear c95
                              have H' := Aside0.mk H
                              clear H
                              have hnb96 := NB203_192.out
                              have hnc96 := NB192_203.out
                              have hnb97 := NB203_210.out
                              have hnc97 := NB210_203.out
                              have hnb98 := NB203_217.out
                              have hnc98 := NB217_203.out
                              have hnb99 := NB203_223.out
                              have hnc99 := NB223_203.out
                              have hcz100_0 : w61.cell? ⟨gb203, 0, none⟩ = some (.bool t198) := (blk_cell BK203.out 0).trans rfl
                              have hcz100_1 : w61.cell? ⟨gb203, 1, none⟩ = some (.int .i64 t199) := (blk_cell BK203.out 1).trans rfl
                              have hcz100_2 : w61.cell? ⟨gb203, 2, none⟩ = some (.int .i64 t200) := (blk_cell BK203.out 2).trans rfl
                              have hcz100_3 : w61.cell? ⟨gb203, 3, none⟩ = some (.int .i64 t201) := (blk_cell BK203.out 3).trans rfl
                              have hfz100_0 := blk_frozen BK203.out 0
                              have hfz100_1 := blk_frozen BK203.out 1
                              have hfz100_2 := blk_frozen BK203.out 2
                              have hfz100_3 := blk_frozen BK203.out 3
                              have hnb101 := NB192_210.out
                              have hnc101 := NB210_192.out
                              have hnb102 := NB192_217.out
                              have hnc102 := NB217_192.out
                              have hnb103 := NB192_223.out
                              have hnc103 := NB223_192.out
                              have hcz104_0 : w61.cell? ⟨gb192, 0, none⟩ = some (.bool t188) := (blk_cell BK192.out 0).trans rfl
                              have hcz104_1 : w61.cell? ⟨gb192, 1, none⟩ = some (.int .i64 t189) := (blk_cell BK192.out 1).trans rfl
                              have hcz104_2 : w61.cell? ⟨gb192, 2, none⟩ = some (.int .i64 t190) := (blk_cell BK192.out 2).trans rfl
                              have hcz104_3 : w61.cell? ⟨gb192, 3, none⟩ = some (.int .i64 t191) := (blk_cell BK192.out 3).trans rfl
                              have hfz104_0 := blk_frozen BK192.out 0
                              have hfz104_1 := blk_frozen BK192.out 1
                              have hfz104_2 := blk_frozen BK192.out 2
                              have hfz104_3 := blk_frozen BK192.out 3
                              have hnb105 := NB210_217.out
                              have hnc105 := NB217_210.out
                              have hnb106 := NB210_223.out
                              have hnc106 := NB223_210.out
                              have hcz107_0 : w61.cell? ⟨gb210, 0, none⟩ = some (.bool t205) := (blk_cell BK210.out 0).trans rfl
                              have hcz107_1 : w61.cell? ⟨gb210, 1, none⟩ = some (.int .i64 t206) := (blk_cell BK210.out 1).trans rfl
                              have hcz107_2 : w61.cell? ⟨gb210, 2, none⟩ = some (.int .i64 t207) := (blk_cell BK210.out 2).trans rfl
                              have hcz107_3 : w61.cell? ⟨gb210, 3, none⟩ = some (.int .i64 t208) := (blk_cell BK210.out 3).trans rfl
                              have hfz107_0 := blk_frozen BK210.out 0
                              have hfz107_1 := blk_frozen BK210.out 1
                              have hfz107_2 := blk_frozen BK210.out 2
                              have hfz107_3 := blk_frozen BK210.out 3
                              have hnb108 := NB217_223.out
                              have hnc108 := NB223_217.out
                              have hcz109_0 : w61.cell? ⟨gb217, 0, none⟩ = some (.bool t212) := (blk_cell BK217.out 0).trans rfl
                              have hcz109_1 : w61.cell? ⟨gb217, 1, none⟩ = some (.int .i64 t213) := (blk_cell BK217.out 1).trans rfl
                              have hcz109_2 : w61.cell? ⟨gb217, 2, none⟩ = some (.int .i64 t214) := (blk_cell BK217.out 2).trans rfl
                              have hcz109_3 : w61.cell? ⟨gb217, 3, none⟩ = some (.int .i64 t215) := (blk_cell BK217.out 3).trans rfl
                              have hfz109_0 := blk_frozen BK217.out 0
                              have hfz109_1 := blk_frozen BK217.out 1
                              have hfz109_2 := blk_frozen BK217.out 2
                              have hfz109_3 := blk_frozen BK217.out 3
                              go_wp2_with (first | (go_at_call 11; (with_reducible refine (impl_TimingOK.calls t205 t206 t207 t208 true _ A93.out).mono ?_); rintro e w110 ⟨rfl, hb⟩; have n0_ := Aside0.mk (blk_below (g := gb192) (o := .cells #[.bool t188, .int .i64 t189, .int .i64 t190, .int .i64 t191] 25 (0, 0)) (by (with_reducible repeat (first | refine blk_drewN ?_ _ | refine blk_drew ?_ | refine blk_alloc ?_ _)); exact BK192.out) hb); have n1_ := Aside0.mk (blk_below (g := gb203) (o := .cells #[.bool t198, .int .i64 t199, .int .i64 t200, .int .i64 t201] 25 (0, 0)) (by (with_reducible repeat (first | refine blk_drewN ?_ _ | refine blk_drew ?_ | refine blk_alloc ?_ _)); exact BK203.out) hb); have n2_ := Aside0.mk (blk_below (g := gb210) (o := .cells #[.bool t205, .int .i64 t206, .int .i64 t207, .int .i64 t208] 25 (0, 0)) (by (with_reducible repeat (first | refine blk_drewN ?_ _ | refine blk_drew ?_ | refine blk_alloc ?_ _)); exact BK210.out) hb); have n3_ := Aside0.mk (blk_below (g := gb217) (o := .cells #[.bool t212, .int .i64 t213, .int .i64 t214, .int .i64 t215] 25 (0, 0)) (by (with_reducible repeat (first | refine blk_drewN ?_ _ | refine blk_drew ?_ | refine blk_alloc ?_ _)); exact BK217.out) hb); have n4_ := Aside0.mk (blk_below (g := gb223) (o := .cells #[.bool t218, .int .i64 t219, .int .i64 t220, .int .i64 t221] 25 (0, 0)) (by (with_reducible repeat (first | refine blk_drewN ?_ _ | refine blk_drew ?_ | refine blk_alloc ?_ _)); exact BK223.out) hb); have n5_ := Aside0.mk (below_step (by repeat (first | (with_reducible first | exact HB.out | apply below_alloc | apply pw_below_drewN | apply below_drew1 | refine below_set ?_ GE192.out | refine below_set ?_ GE203.out | refine below_set ?_ GE210.out | refine below_set ?_ GE217.out | refine below_set ?_ GE223.out) | exact HB.out)) hb); clear BK192; clear BK203; clear BK210; clear BK217; clear BK223; clear HB; have BK192 := n0_; have BK203 := n1_; have BK210 := n2_; have BK217 := n3_; have BK223 := n4_; have HB := n5_; clear n0_ n1_ n2_ n3_ n4_ n5_; (try clear hb); (try clear hb2); (try clear hk); (try clear hi); have hcz111_0 : w110.cell? ⟨gb210, 0, none⟩ = some (.bool t205) := (blk_cell BK210.out 0).trans rfl; have hcz111_1 : w110.cell? ⟨gb210, 1, none⟩ = some (.int .i64 t206) := (blk_cell BK210.out 1).trans rfl; have hcz111_2 : w110.cell? ⟨gb210, 2, none⟩ = some (.int .i64 t207) := (blk_cell BK210.out 2).trans rfl; have hcz111_3 : w110.cell? ⟨gb210, 3, none⟩ = some (.int .i64 t208) := (blk_cell BK210.out 3).trans rfl; have hfz111_0 := blk_frozen BK210.out 0; have hfz111_1 := blk_frozen BK210.out 1; have hfz111_2 := blk_frozen BK210.out 2; have hfz111_3 := blk_frozen BK210.out 3))
                              go_meet
                              case rel => exact ⟨_, (false), (by first | rfl | (simp; done) | (simp [*]; done)), H', ⟨by have := HJ2.out; first | omega | exact Nat.le_refl _⟩, ⟨by (with_reducible repeat (first | refine blk_drewN ?_ _ | refine blk_drew ?_ | refine blk_alloc ?_ _)); exact BK192.out⟩, ⟨by (with_reducible repeat (first | refine blk_drewN ?_ _ | refine blk_drew ?_ | refine blk_alloc ?_ _)); exact BK203.out⟩, ⟨by (with_reducible repeat (first | refine blk_drewN ?_ _ | refine blk_drew ?_ | refine blk_alloc ?_ _)); exact BK210.out⟩, ⟨by (with_reducible repeat (first | refine blk_drewN ?_ _ | refine blk_drew ?_ | refine blk_alloc ?_ _)); exact BK217.out⟩, ⟨by (with_reducible repeat (first | refine blk_drewN ?_ _ | refine blk_drew ?_ | refine blk_alloc ?_ _)); exact BK223.out⟩, ⟨by repeat (first | (with_reducible first | exact HB.out | apply below_alloc | apply pw_below_drewN | apply below_drew1 | refine below_set ?_ GE192.out | refine below_set ?_ GE203.out | refine below_set ?_ GE210.out | refine below_set ?_ GE217.out | refine below_set ?_ GE223.out) | exact HB.out)⟩⟩
                            · rw [if_neg c95] at H
                              have c95b0 : (t208 == 0) = false := beq_eq_false_iff_ne.mpr c95
                              have c95b1 : (t208 != 0) = true := bne_iff_ne.mpr c95
                              have H' := Aside0.mk H
                              clear H
                              have hnb112 := NB203_192.out
                              have hnc112 := NB192_203.out
                              have hnb113 := NB203_210.out
                              have hnc113 := NB210_203.out
                              have hnb114 := NB203_217.out
                              have hnc114 := NB217_203.out
                              have hnb115 := NB203_223.out
                              have hnc115 := NB223_203.out
                              have hcz116_0 : w61.cell? ⟨gb203, 0, none⟩ = some (.bool t198) := (blk_cell BK203.out 0).trans rfl
                              have hcz116_1 : w61.cell? ⟨gb203, 1, none⟩ = some (.int .i64 t199) := (blk_cell BK203.out 1).trans rfl
                              have hcz116_2 : w61.cell? ⟨gb203, 2, none⟩ = some (.int .i64 t200) := (blk_cell BK203.out 2).trans rfl
                              have hcz116_3 : w61.cell? ⟨gb203, 3, none⟩ = some (.int .i64 t201) := (blk_cell BK203.out 3).trans rfl
                              have hfz116_0 := blk_frozen BK203.out 0
                              have hfz116_1 := blk_frozen BK203.out 1
                              have hfz116_2 := blk_frozen BK203.out 2
                              have hfz116_3 := blk_frozen BK203.out 3
                              have hnb117 := NB192_210.out
                              have hnc117 := NB210_192.out
                              have hnb118 := NB192_217.out
                              have hnc118 := NB217_192.out
                              have hnb119 := NB192_223.out
                              have hnc119 := NB223_192.out
                              have hcz120_0 : w61.cell? ⟨gb192, 0, none⟩ = some (.bool t188) := (blk_cell BK192.out 0).trans rfl
                              have hcz120_1 : w61.cell? ⟨gb192, 1, none⟩ = some (.int .i64 t189) := (blk_cell BK192.out 1).trans rfl
                              have hcz120_2 : w61.cell? ⟨gb192, 2, none⟩ = some (.int .i64 t190) := (blk_cell BK192.out 2).trans rfl
                              have hcz120_3 : w61.cell? ⟨gb192, 3, none⟩ = some (.int .i64 t191) := (blk_cell BK192.out 3).trans rfl
                              have hfz120_0 := blk_frozen BK192.out 0
                              have hfz120_1 := blk_frozen BK192.out 1
                              have hfz120_2 := blk_frozen BK192.out 2
                              have hfz120_3 := blk_frozen BK192.out 3
                              have hnb121 := NB210_217.out
                              have hnc121 := NB217_210.out
                              have hnb122 := NB210_223.out
                              have hnc122 := NB223_210.out
                              have hcz123_0 : w61.cell? ⟨gb210, 0, none⟩ = some (.bool t205) := (blk_cell BK210.out 0).trans rfl
                              have hcz123_1 : w61.cell? ⟨gb210, 1, none⟩ = some (.int .i64 t206) := (blk_cell BK210.out 1).trans rfl
                              have hcz123_2 : w61.cell? ⟨gb210, 2, none⟩ = some (.int .i64 t207) := (blk_cell BK210.out 2).trans rfl
                              have hcz123_3 : w61.cell? ⟨gb210, 3, none⟩ = some (.int .i64 t208) := (blk_cell BK210.out 3).trans rfl
                              have hfz123_0 := blk_frozen BK210.out 0
                              have hfz123_1 := blk_frozen BK210.out 1
                              have hfz123_2 := blk_frozen BK210.out 2
                              have hfz123_3 := blk_frozen BK210.out 3
                              have hnb124 := NB217_223.out
                              have hnc124 := NB223_217.out
                              have hcz125_0 : w61.cell? ⟨gb217, 0, none⟩ = some (.bool t212) := (blk_cell BK217.out 0).trans rfl
                              have hcz125_1 : w61.cell? ⟨gb217, 1, none⟩ = some (.int .i64 t213) := (blk_cell BK217.out 1).trans rfl
                              have hcz125_2 : w61.cell? ⟨gb217, 2, none⟩ = some (.int .i64 t214) := (blk_cell BK217.out 2).trans rfl
                              have hcz125_3 : w61.cell? ⟨gb217, 3, none⟩ = some (.int .i64 t215) := (blk_cell BK217.out 3).trans rfl
                              have hfz125_0 := blk_frozen BK217.out 0
                              have hfz125_1 := blk_frozen BK217.out 1
                              have hfz125_2 := blk_frozen BK217.out 2
                              have hfz125_3 := blk_frozen BK217.out 3
                              go_wp2_with (first | (go_at_call 11; (with_reducible refine (impl_TimingOK.calls t205 t206 t207 t208 true _ A93.out).mono ?_); rintro e w126 ⟨rfl, hb⟩; have n0_ := Aside0.mk (blk_below (g := gb192) (o := .cells #[.bool t188, .int .i64 t189, .int .i64 t190, .int .i64 t191] 25 (0, 0)) (by (with_reducible repeat (first | refine blk_drewN ?_ _ | refine blk_drew ?_ | refine blk_alloc ?_ _)); exact BK192.out) hb); have n1_ := Aside0.mk (blk_below (g := gb203) (o := .cells #[.bool t198, .int .i64 t199, .int .i64 t200, .int .i64 t201] 25 (0, 0)) (by (with_reducible repeat (first | refine blk_drewN ?_ _ | refine blk_drew ?_ | refine blk_alloc ?_ _)); exact BK203.out) hb); have n2_ := Aside0.mk (blk_below (g := gb210) (o := .cells #[.bool t205, .int .i64 t206, .int .i64 t207, .int .i64 t208] 25 (0, 0)) (by (with_reducible repeat (first | refine blk_drewN ?_ _ | refine blk_drew ?_ | refine blk_alloc ?_ _)); exact BK210.out) hb); have n3_ := Aside0.mk (blk_below (g := gb217) (o := .cells #[.bool t212, .int .i64 t213, .int .i64 t214, .int .i64 t215] 25 (0, 0)) (by (with_reducible repeat (first | refine blk_drewN ?_ _ | refine blk_drew ?_ | refine blk_alloc ?_ _)); exact BK217.out) hb); have n4_ := Aside0.mk (blk_below (g := gb223) (o := .cells #[.bool t218, .int .i64 t219, .int .i64 t220, .int .i64 t221] 25 (0, 0)) (by (with_reducible repeat (first | refine blk_drewN ?_ _ | refine blk_drew ?_ | refine blk_alloc ?_ _)); exact BK223.out) hb); have n5_ := Aside0.mk (below_step (by repeat (first | (with_reducible first | exact HB.out | apply below_alloc | apply pw_below_drewN | apply below_drew1 | refine below_set ?_ GE192.out | refine below_set ?_ GE203.out | refine below_set ?_ GE210.out | refine below_set ?_ GE217.out | refine below_set ?_ GE223.out) | exact HB.out)) hb); clear BK192; clear BK203; clear BK210; clear BK217; clear BK223; clear HB; have BK192 := n0_; have BK203 := n1_; have BK210 := n2_; have BK217 := n3_; have BK223 := n4_; have HB := n5_; clear n0_ n1_ n2_ n3_ n4_ n5_; (try clear hb); (try clear hb2); (try clear hk); (try clear hi); have hcz127_0 : w126.cell? ⟨gb210, 0, none⟩ = some (.bool t205) := (blk_cell BK210.out 0).trans rfl; have hcz127_1 : w126.cell? ⟨gb210, 1, none⟩ = some (.int .i64 t206) := (blk_cell BK210.out 1).trans rfl; have hcz127_2 : w126.cell? ⟨gb210, 2, none⟩ = some (.int .i64 t207) := (blk_cell BK210.out 2).trans rfl; have hcz127_3 : w126.cell? ⟨gb210, 3, none⟩ = some (.int .i64 t208) := (blk_cell BK210.out 3).trans rfl; have hfz127_0 := blk_frozen BK210.out 0; have hfz127_1 := blk_frozen BK210.out 1; have hfz127_2 := blk_frozen BK210.out 2; have hfz127_3 := blk_frozen BK210.out 3; have hcz128_0 : w126.cell? ⟨gb192, 0, none⟩ = some (.bool t188) := (blk_cell BK192.out 0).trans rfl; have hcz128_1 : w126.cell? ⟨gb192, 1, none⟩ = some (.int .i64 t189) := (blk_cell BK192.out 1).trans rfl; have hcz128_2 : w126.cell? ⟨gb192, 2, none⟩ = some (.int .i64 t190) := (blk_cell BK192.out 2).trans rfl; have hcz128_3 : w126.cell? ⟨gb192, 3, none⟩ = some (.int .i64 t191) := (blk_cell BK192.out 3).trans rfl; have hfz128_0 := blk_frozen BK192.out 0; have hfz128_1 := blk_frozen BK192.out 1; have hfz128_2 := blk_frozen BK192.out 2; have hfz128_3 := blk_frozen BK192.out 3))
                              go_meet
                              case rel => exact ⟨_, (t188), (by first | rfl | (simp; done) | (simp [*]; done)), H', ⟨by have := HJ2.out; first | omega | exact Nat.le_refl _⟩, ⟨by (with_reducible repeat (first | refine blk_drewN ?_ _ | refine blk_drew ?_ | refine blk_alloc ?_ _)); exact BK192.out⟩, ⟨by (with_reducible repeat (first | refine blk_drewN ?_ _ | refine blk_drew ?_ | refine blk_alloc ?_ _)); exact BK203.out⟩, ⟨by (with_reducible repeat (first | refine blk_drewN ?_ _ | refine blk_drew ?_ | refine blk_alloc ?_ _)); exact BK210.out⟩, ⟨by (with_reducible repeat (first | refine blk_drewN ?_ _ | refine blk_drew ?_ | refine blk_alloc ?_ _)); exact BK217.out⟩, ⟨by (with_reducible repeat (first | refine blk_drewN ?_ _ | refine blk_drew ?_ | refine blk_alloc ?_ _)); exact BK223.out⟩, ⟨by repeat (first | (with_reducible first | exact HB.out | apply below_alloc | apply pw_below_drewN | apply below_drew1 | refine below_set ?_ GE192.out | refine below_set ?_ GE203.out | refine below_set ?_ GE210.out | refine below_set ?_ GE217.out | refine below_set ?_ GE223.out) | exact HB.out)⟩⟩
                          · replace c94 := Bool.eq_false_iff.mpr c94
                            subst c94
                            have H1 : (laws_FnRto.j1 kj2 t193 t224 true t188 t189 t190 t191 t218 t219 t220 t221) = some r := by rw [if_neg (show ¬ (false = true) by decide)] at H; exact H
                            clear H
                            have H := H1
                            clear H1
                            have H' := Aside0.mk H
                            clear H
                            have hnb129 := NB203_192.out
                            have hnc129 := NB192_203.out
                            have hnb130 := NB203_210.out
                            have hnc130 := NB210_203.out
                            have hnb131 := NB203_217.out
                            have hnc131 := NB217_203.out
                            have hnb132 := NB203_223.out
                            have hnc132 := NB223_203.out
                            have hcz133_0 : w61.cell? ⟨gb203, 0, none⟩ = some (.bool t198) := (blk_cell BK203.out 0).trans rfl
                            have hcz133_1 : w61.cell? ⟨gb203, 1, none⟩ = some (.int .i64 t199) := (blk_cell BK203.out 1).trans rfl
                            have hcz133_2 : w61.cell? ⟨gb203, 2, none⟩ = some (.int .i64 t200) := (blk_cell BK203.out 2).trans rfl
                            have hcz133_3 : w61.cell? ⟨gb203, 3, none⟩ = some (.int .i64 t201) := (blk_cell BK203.out 3).trans rfl
                            have hfz133_0 := blk_frozen BK203.out 0
                            have hfz133_1 := blk_frozen BK203.out 1
                            have hfz133_2 := blk_frozen BK203.out 2
                            have hfz133_3 := blk_frozen BK203.out 3
                            have hnb134 := NB192_210.out
                            have hnc134 := NB210_192.out
                            have hnb135 := NB192_217.out
                            have hnc135 := NB217_192.out
                            have hnb136 := NB192_223.out
                            have hnc136 := NB223_192.out
                            have hcz137_0 : w61.cell? ⟨gb192, 0, none⟩ = some (.bool t188) := (blk_cell BK192.out 0).trans rfl
                            have hcz137_1 : w61.cell? ⟨gb192, 1, none⟩ = some (.int .i64 t189) := (blk_cell BK192.out 1).trans rfl
                            have hcz137_2 : w61.cell? ⟨gb192, 2, none⟩ = some (.int .i64 t190) := (blk_cell BK192.out 2).trans rfl
                            have hcz137_3 : w61.cell? ⟨gb192, 3, none⟩ = some (.int .i64 t191) := (blk_cell BK192.out 3).trans rfl
                            have hfz137_0 := blk_frozen BK192.out 0
                            have hfz137_1 := blk_frozen BK192.out 1
                            have hfz137_2 := blk_frozen BK192.out 2
                            have hfz137_3 := blk_frozen BK192.out 3
                            have hnb138 := NB210_217.out
                            have hnc138 := NB217_210.out
                            have hnb139 := NB210_223.out
                            have hnc139 := NB223_210.out
                            have hcz140_0 : w61.cell? ⟨gb210, 0, none⟩ = some (.bool t205) := (blk_cell BK210.out 0).trans rfl
                            have hcz140_1 : w61.cell? ⟨gb210, 1, none⟩ = some (.int .i64 t206) := (blk_cell BK210.out 1).trans rfl
                            have hcz140_2 : w61.cell? ⟨gb210, 2, none⟩ = some (.int .i64 t207) := (blk_cell BK210.out 2).trans rfl
                            have hcz140_3 : w61.cell? ⟨gb210, 3, none⟩ = some (.int .i64 t208) := (blk_cell BK210.out 3).trans rfl
                            have hfz140_0 := blk_frozen BK210.out 0
                            have hfz140_1 := blk_frozen BK210.out 1
                            have hfz140_2 := blk_frozen BK210.out 2
                            have hfz140_3 := blk_frozen BK210.out 3
                            have hnb141 := NB217_223.out
                            have hnc141 := NB223_217.out
                            have hcz142_0 : w61.cell? ⟨gb217, 0, none⟩ = some (.bool t212) := (blk_cell BK217.out 0).trans rfl
                            have hcz142_1 : w61.cell? ⟨gb217, 1, none⟩ = some (.int .i64 t213) := (blk_cell BK217.out 1).trans rfl
                            have hcz142_2 : w61.cell? ⟨gb217, 2, none⟩ = some (.int .i64 t214) := (blk_cell BK217.out 2).trans rfl
                            have hcz142_3 : w61.cell? ⟨gb217, 3, none⟩ = some (.int .i64 t215) := (blk_cell BK217.out 3).trans rfl
                            have hfz142_0 := blk_frozen BK217.out 0
                            have hfz142_1 := blk_frozen BK217.out 1
                            have hfz142_2 := blk_frozen BK217.out 2
                            have hfz142_3 := blk_frozen BK217.out 3
                            go_wp2_with (first | (go_at_call 11; (with_reducible refine (impl_TimingOK.calls t205 t206 t207 t208 false _ A93.out).mono ?_); rintro e w143 ⟨rfl, hb⟩; have n0_ := Aside0.mk (blk_below (g := gb192) (o := .cells #[.bool t188, .int .i64 t189, .int .i64 t190, .int .i64 t191] 25 (0, 0)) (by (with_reducible repeat (first | refine blk_drewN ?_ _ | refine blk_drew ?_ | refine blk_alloc ?_ _)); exact BK192.out) hb); have n1_ := Aside0.mk (blk_below (g := gb203) (o := .cells #[.bool t198, .int .i64 t199, .int .i64 t200, .int .i64 t201] 25 (0, 0)) (by (with_reducible repeat (first | refine blk_drewN ?_ _ | refine blk_drew ?_ | refine blk_alloc ?_ _)); exact BK203.out) hb); have n2_ := Aside0.mk (blk_below (g := gb210) (o := .cells #[.bool t205, .int .i64 t206, .int .i64 t207, .int .i64 t208] 25 (0, 0)) (by (with_reducible repeat (first | refine blk_drewN ?_ _ | refine blk_drew ?_ | refine blk_alloc ?_ _)); exact BK210.out) hb); have n3_ := Aside0.mk (blk_below (g := gb217) (o := .cells #[.bool t212, .int .i64 t213, .int .i64 t214, .int .i64 t215] 25 (0, 0)) (by (with_reducible repeat (first | refine blk_drewN ?_ _ | refine blk_drew ?_ | refine blk_alloc ?_ _)); exact BK217.out) hb); have n4_ := Aside0.mk (blk_below (g := gb223) (o := .cells #[.bool t218, .int .i64 t219, .int .i64 t220, .int .i64 t221] 25 (0, 0)) (by (with_reducible repeat (first | refine blk_drewN ?_ _ | refine blk_drew ?_ | refine blk_alloc ?_ _)); exact BK223.out) hb); have n5_ := Aside0.mk (below_step (by repeat (first | (with_reducible first | exact HB.out | apply below_alloc | apply pw_below_drewN | apply below_drew1 | refine below_set ?_ GE192.out | refine below_set ?_ GE203.out | refine below_set ?_ GE210.out | refine below_set ?_ GE217.out | refine below_set ?_ GE223.out) | exact HB.out)) hb); clear BK192; clear BK203; clear BK210; clear BK217; clear BK223; clear HB; have BK192 := n0_; have BK203 := n1_; have BK210 := n2_; have BK217 := n3_; have BK223 := n4_; have HB := n5_; clear n0_ n1_ n2_ n3_ n4_ n5_; (try clear hb); (try clear hb2); (try clear hk); (try clear hi)))
                            go_meet
                            case rel => exact ⟨_, (true), (by first | rfl | (simp; done) | (simp [*]; done)), H', ⟨by have := HJ2.out; first | omega | exact Nat.le_refl _⟩, ⟨by (with_reducible repeat (first | refine blk_drewN ?_ _ | refine blk_drew ?_ | refine blk_alloc ?_ _)); exact BK192.out⟩, ⟨by (with_reducible repeat (first | refine blk_drewN ?_ _ | refine blk_drew ?_ | refine blk_alloc ?_ _)); exact BK203.out⟩, ⟨by (with_reducible repeat (first | refine blk_drewN ?_ _ | refine blk_drew ?_ | refine blk_alloc ?_ _)); exact BK210.out⟩, ⟨by (with_reducible repeat (first | refine blk_drewN ?_ _ | refine blk_drew ?_ | refine blk_alloc ?_ _)); exact BK217.out⟩, ⟨by (with_reducible repeat (first | refine blk_drewN ?_ _ | refine blk_drew ?_ | refine blk_alloc ?_ _)); exact BK223.out⟩, ⟨by repeat (first | (with_reducible first | exact HB.out | apply below_alloc | apply pw_below_drewN | apply below_drew1 | refine below_set ?_ GE192.out | refine below_set ?_ GE203.out | refine below_set ?_ GE210.out | refine below_set ?_ GE217.out | refine below_set ?_ GE223.out) | exact HB.out)⟩⟩
                    · rw [if_neg c67] at H
                      have c67b0 : (t193 == t195) = false := beq_eq_false_iff_ne.mpr c67
                      have c67b1 : (t193 != t195) = true := bne_iff_ne.mpr c67
                      have H' := Aside0.mk H
                      clear H
                      go_wp2
                      go_meet
                      case rel => exact ⟨_, (true), (by first | rfl | (simp; done) | (simp [*]; done)), H', ⟨by have := HJ2.out; first | omega | exact Nat.le_refl _⟩, ⟨by (with_reducible repeat (first | refine blk_drewN ?_ _ | refine blk_drew ?_ | refine blk_alloc ?_ _)); exact BK192.out⟩, ⟨by (with_reducible repeat (first | refine blk_drewN ?_ _ | refine blk_drew ?_ | refine blk_alloc ?_ _)); exact BK203.out⟩, ⟨by (with_reducible repeat (first | refine blk_drewN ?_ _ | refine blk_drew ?_ | refine blk_alloc ?_ _)); exact BK210.out⟩, ⟨by (with_reducible repeat (first | refine blk_drewN ?_ _ | refine blk_drew ?_ | refine blk_alloc ?_ _)); exact BK217.out⟩, ⟨by (with_reducible repeat (first | refine blk_drewN ?_ _ | refine blk_drew ?_ | refine blk_alloc ?_ _)); exact BK223.out⟩, ⟨by repeat (first | (with_reducible first | exact HB.out | apply below_alloc | apply pw_below_drewN | apply below_drew1 | refine below_set ?_ GE192.out | refine below_set ?_ GE203.out | refine below_set ?_ GE210.out | refine below_set ?_ GE217.out | refine below_set ?_ GE223.out) | exact HB.out)⟩⟩
                  · rw [if_neg c66] at H
                    have c66b0 : (t225 == 0) = false := beq_eq_false_iff_ne.mpr c66
                    have c66b1 : (t225 != 0) = true := bne_iff_ne.mpr c66
                    have H' := Aside0.mk H
                    clear H
                    go_wp2
                    go_meet
                    case rel => exact ⟨_, (true), (by first | rfl | (simp; done) | (simp [*]; done)), H', ⟨by have := HJ2.out; first | omega | exact Nat.le_refl _⟩, ⟨by (with_reducible repeat (first | refine blk_drewN ?_ _ | refine blk_drew ?_ | refine blk_alloc ?_ _)); exact BK192.out⟩, ⟨by (with_reducible repeat (first | refine blk_drewN ?_ _ | refine blk_drew ?_ | refine blk_alloc ?_ _)); exact BK203.out⟩, ⟨by (with_reducible repeat (first | refine blk_drewN ?_ _ | refine blk_drew ?_ | refine blk_alloc ?_ _)); exact BK210.out⟩, ⟨by (with_reducible repeat (first | refine blk_drewN ?_ _ | refine blk_drew ?_ | refine blk_alloc ?_ _)); exact BK217.out⟩, ⟨by (with_reducible repeat (first | refine blk_drewN ?_ _ | refine blk_drew ?_ | refine blk_alloc ?_ _)); exact BK223.out⟩, ⟨by repeat (first | (with_reducible first | exact HB.out | apply below_alloc | apply pw_below_drewN | apply below_drew1 | refine below_set ?_ GE192.out | refine below_set ?_ GE203.out | refine below_set ?_ GE210.out | refine below_set ?_ GE217.out | refine below_set ?_ GE223.out) | exact HB.out)⟩⟩
                · rw [if_neg c65] at H
                  have c65b0 : (t222 == 0) = false := beq_eq_false_iff_ne.mpr c65
                  have c65b1 : (t222 != 0) = true := bne_iff_ne.mpr c65
                  have H' := Aside0.mk H
                  clear H
                  go_wp2
                  go_meet
                  case rel => exact ⟨_, (true), (by first | rfl | (simp; done) | (simp [*]; done)), H', ⟨by have := HJ2.out; first | omega | exact Nat.le_refl _⟩, ⟨by (with_reducible repeat (first | refine blk_drewN ?_ _ | refine blk_drew ?_ | refine blk_alloc ?_ _)); exact BK192.out⟩, ⟨by (with_reducible repeat (first | refine blk_drewN ?_ _ | refine blk_drew ?_ | refine blk_alloc ?_ _)); exact BK203.out⟩, ⟨by (with_reducible repeat (first | refine blk_drewN ?_ _ | refine blk_drew ?_ | refine blk_alloc ?_ _)); exact BK210.out⟩, ⟨by (with_reducible repeat (first | refine blk_drewN ?_ _ | refine blk_drew ?_ | refine blk_alloc ?_ _)); exact BK217.out⟩, ⟨by (with_reducible repeat (first | refine blk_drewN ?_ _ | refine blk_drew ?_ | refine blk_alloc ?_ _)); exact BK223.out⟩, ⟨by repeat (first | (with_reducible first | exact HB.out | apply below_alloc | apply pw_below_drewN | apply below_drew1 | refine below_set ?_ GE192.out | refine below_set ?_ GE203.out | refine below_set ?_ GE210.out | refine below_set ?_ GE217.out | refine below_set ?_ GE223.out) | exact HB.out)⟩⟩
              · rw [if_neg c64] at H
                have c64b0 : (t209 == 0) = false := beq_eq_false_iff_ne.mpr c64
                have c64b1 : (t209 != 0) = true := bne_iff_ne.mpr c64
                have H' := Aside0.mk H
                clear H
                go_wp2
                go_meet
                case rel => exact ⟨_, (true), (by first | rfl | (simp; done) | (simp [*]; done)), H', ⟨by have := HJ2.out; first | omega | exact Nat.le_refl _⟩, ⟨by (with_reducible repeat (first | refine blk_drewN ?_ _ | refine blk_drew ?_ | refine blk_alloc ?_ _)); exact BK192.out⟩, ⟨by (with_reducible repeat (first | refine blk_drewN ?_ _ | refine blk_drew ?_ | refine blk_alloc ?_ _)); exact BK203.out⟩, ⟨by (with_reducible repeat (first | refine blk_drewN ?_ _ | refine blk_drew ?_ | refine blk_alloc ?_ _)); exact BK210.out⟩, ⟨by (with_reducible repeat (first | refine blk_drewN ?_ _ | refine blk_drew ?_ | refine blk_alloc ?_ _)); exact BK217.out⟩, ⟨by (with_reducible repeat (first | refine blk_drewN ?_ _ | refine blk_drew ?_ | refine blk_alloc ?_ _)); exact BK223.out⟩, ⟨by repeat (first | (with_reducible first | exact HB.out | apply below_alloc | apply pw_below_drewN | apply below_drew1 | refine below_set ?_ GE192.out | refine below_set ?_ GE203.out | refine below_set ?_ GE210.out | refine below_set ?_ GE217.out | refine below_set ?_ GE223.out) | exact HB.out)⟩⟩
            · rw [if_neg c63] at H
              have c63b0 : (t202 == 0) = false := beq_eq_false_iff_ne.mpr c63
              have c63b1 : (t202 != 0) = true := bne_iff_ne.mpr c63
              have H' := Aside0.mk H
              clear H
              go_wp2
              go_meet
              case rel => exact ⟨_, (true), (by first | rfl | (simp; done) | (simp [*]; done)), H', ⟨by have := HJ2.out; first | omega | exact Nat.le_refl _⟩, ⟨by (with_reducible repeat (first | refine blk_drewN ?_ _ | refine blk_drew ?_ | refine blk_alloc ?_ _)); exact BK192.out⟩, ⟨by (with_reducible repeat (first | refine blk_drewN ?_ _ | refine blk_drew ?_ | refine blk_alloc ?_ _)); exact BK203.out⟩, ⟨by (with_reducible repeat (first | refine blk_drewN ?_ _ | refine blk_drew ?_ | refine blk_alloc ?_ _)); exact BK210.out⟩, ⟨by (with_reducible repeat (first | refine blk_drewN ?_ _ | refine blk_drew ?_ | refine blk_alloc ?_ _)); exact BK217.out⟩, ⟨by (with_reducible repeat (first | refine blk_drewN ?_ _ | refine blk_drew ?_ | refine blk_alloc ?_ _)); exact BK223.out⟩, ⟨by repeat (first | (with_reducible first | exact HB.out | apply below_alloc | apply pw_below_drewN | apply below_drew1 | refine below_set ?_ GE192.out | refine below_set ?_ GE203.out | refine below_set ?_ GE210.out | refine below_set ?_ GE217.out | refine below_set ?_ GE223.out) | exact HB.out)⟩⟩
          · rw [if_neg c62] at H
            have c62b0 : (t194 == 0) = false := beq_eq_false_iff_ne.mpr c62
            have c62b1 : (t194 != 0) = true := bne_iff_ne.mpr c62
            (first | rw [c62b0] | (simp only [i64_w, i32_w]; rw [c62b0]) | skip)
            have H' := Aside0.mk H
            clear H
            go_wp2
            go_meet
            case rel => exact ⟨_, (true), (by first | rfl | (simp; done) | (simp [*]; done)), H', ⟨by have := HJ2.out; first | omega | exact Nat.le_refl _⟩, ⟨by (with_reducible repeat (first | refine blk_drewN ?_ _ | refine blk_drew ?_ | refine blk_alloc ?_ _)); exact BK192.out⟩, ⟨by (with_reducible repeat (first | refine blk_drewN ?_ _ | refine blk_drew ?_ | refine blk_alloc ?_ _)); exact BK203.out⟩, ⟨by (with_reducible repeat (first | refine blk_drewN ?_ _ | refine blk_drew ?_ | refine blk_alloc ?_ _)); exact BK210.out⟩, ⟨by (with_reducible repeat (first | refine blk_drewN ?_ _ | refine blk_drew ?_ | refine blk_alloc ?_ _)); exact BK217.out⟩, ⟨by (with_reducible repeat (first | refine blk_drewN ?_ _ | refine blk_drew ?_ | refine blk_alloc ?_ _)); exact BK223.out⟩, ⟨by repeat (first | (with_reducible first | exact HB.out | apply below_alloc | apply pw_below_drewN | apply below_drew1 | refine below_set ?_ GE192.out | refine below_set ?_ GE203.out | refine below_set ?_ GE210.out | refine below_set ?_ GE217.out | refine below_set ?_ GE223.out) | exact HB.out)⟩⟩
        case rest =>
          clear HC17
          try clear c1
          try clear c2
          try clear p2
          try clear c5
          try clear c6
          try clear c7
          try clear c8
          try clear c9
          try clear c10
          try clear c11
          try clear c12
          try clear c13
          try clear c14
          try clear c15
          try clear c17
          try clear c20
          try clear c50
          try clear c51
          try clear c52
          try clear c56
          try clear c57
          try clear c58
          try clear c59
          try clear c62
          try clear c62b0
          try clear c62b1
          try clear c63
          try clear c63b0
          try clear c63b1
          try clear c64
          try clear c64b0
          try clear c64b1
          try clear c65
          try clear c65b0
          try clear c65b1
          try clear c66
          try clear c66b0
          try clear c66b1
          try clear c67
          try clear c67b0
          try clear c67b1
          try clear c68
          try clear c68b0
          try clear c69
          try clear c70
          try clear c71
          try clear c72
          try clear c74
          try clear c75
          try clear c76
          try clear c78
          try clear c78b0
          try clear c79
          try clear c80
          try clear c81
          try clear c82
          try clear c84
          try clear c85
          try clear c86
          try clear c88
          try clear c89
          try clear c91
          try clear c94
          try clear c95
          try clear c95b0
          try clear c95b1
          try clear c96
          try clear c97
          try clear c98
          try clear c99
          try clear c101
          try clear c102
          try clear c103
          try clear c105
          try clear c106
          try clear c108
          try clear c112
          try clear c113
          try clear c114
          try clear c115
          try clear c117
          try clear c118
          try clear c119
          try clear c121
          try clear c122
          try clear c124
          try clear c129
          try clear c130
          try clear c131
          try clear c132
          try clear c134
          try clear c135
          try clear c136
          try clear c138
          try clear c139
          try clear c141
          try clear hcz100_0
          try clear hcz100_1
          try clear hcz100_2
          try clear hcz100_3
          try clear hcz104_0
          try clear hcz104_1
          try clear hcz104_2
          try clear hcz104_3
          try clear hcz107_0
          try clear hcz107_1
          try clear hcz107_2
          try clear hcz107_3
          try clear hcz109_0
          try clear hcz109_1
          try clear hcz109_2
          try clear hcz109_3
          try clear hcz111_0
          try clear hcz111_1
          try clear hcz111_2
          try clear hcz111_3
          try clear hcz116_0
          try clear hcz116_1
          try clear hcz116_2
          try clear hcz116_3
          try clear hcz120_0
          try clear hcz120_1
          try clear hcz120_2
          try clear hcz120_3
          try clear hcz123_0
          try clear hcz123_1
          try clear hcz123_2
          try clear hcz123_3
          try clear hcz125_0
          try clear hcz125_1
          try clear hcz125_2
          try clear hcz125_3
          try clear hcz127_0
          try clear hcz127_1
          try clear hcz127_2
          try clear hcz127_3
          try clear hcz128_0
          try clear hcz128_1
          try clear hcz128_2
          try clear hcz128_3
          try clear hcz133_0
          try clear hcz133_1
          try clear hcz133_2
          try clear hcz133_3
          try clear hcz137_0
          try clear hcz137_1
          try clear hcz137_2
          try clear hcz137_3
          try clear hcz140_0
          try clear hcz140_1
          try clear hcz140_2
          try clear hcz140_3
          try clear hcz142_0
          try clear hcz142_1
          try clear hcz142_2
          try clear hcz142_3
          try clear hcz53_0
          try clear hcz53_1
          try clear hcz53_2
          try clear hcz53_3
          try clear hcz60_0
          try clear hcz60_1
          try clear hcz60_2
          try clear hcz60_3
          try clear hcz73_0
          try clear hcz73_1
          try clear hcz73_2
          try clear hcz73_3
          try clear hcz77_0
          try clear hcz77_1
          try clear hcz77_2
          try clear hcz77_3
          try clear hcz83_0
          try clear hcz83_1
          try clear hcz83_2
          try clear hcz83_3
          try clear hcz87_0
          try clear hcz87_1
          try clear hcz87_2
          try clear hcz87_3
          try clear hcz90_0
          try clear hcz90_1
          try clear hcz90_2
          try clear hcz90_3
          try clear hcz92_0
          try clear hcz92_1
          try clear hcz92_2
          try clear hcz92_3
          try clear hfz100_0
          try clear hfz100_1
          try clear hfz100_2
          try clear hfz100_3
          try clear hfz104_0
          try clear hfz104_1
          try clear hfz104_2
          try clear hfz104_3
          try clear hfz107_0
          try clear hfz107_1
          try clear hfz107_2
          try clear hfz107_3
          try clear hfz109_0
          try clear hfz109_1
          try clear hfz109_2
          try clear hfz109_3
          try clear hfz111_0
          try clear hfz111_1
          try clear hfz111_2
          try clear hfz111_3
          try clear hfz116_0
          try clear hfz116_1
          try clear hfz116_2
          try clear hfz116_3
          try clear hfz120_0
          try clear hfz120_1
          try clear hfz120_2
          try clear hfz120_3
          try clear hfz123_0
          try clear hfz123_1
          try clear hfz123_2
          try clear hfz123_3
          try clear hfz125_0
          try clear hfz125_1
          try clear hfz125_2
          try clear hfz125_3
          try clear hfz127_0
          try clear hfz127_1
          try clear hfz127_2
          try clear hfz127_3
          try clear hfz128_0
          try clear hfz128_1
          try clear hfz128_2
          try clear hfz128_3
          try clear hfz133_0
          try clear hfz133_1
          try clear hfz133_2
          try clear hfz133_3
          try clear hfz137_0
          try clear hfz137_1
          try clear hfz137_2
          try clear hfz137_3
          try clear hfz140_0
          try clear hfz140_1
          try clear hfz140_2
          try clear hfz140_3
          try clear hfz142_0
          try clear hfz142_1
          try clear hfz142_2
          try clear hfz142_3
          try clear hfz53_0
          try clear hfz53_1
          try clear hfz53_2
          try clear hfz53_3
          try clear hfz60_0
          try clear hfz60_1
          try clear hfz60_2
          try clear hfz60_3
          try clear hfz73_0
          try clear hfz73_1
          try clear hfz73_2
          try clear hfz73_3
          try clear hfz77_0
          try clear hfz77_1
          try clear hfz77_2
          try clear hfz77_3
          try clear hfz83_0
          try clear hfz83_1
          try clear hfz83_2
          try clear hfz83_3
          try clear hfz87_0
          try clear hfz87_1
          try clear hfz87_2
          try clear hfz87_3
          try clear hfz90_0
          try clear hfz90_1
          try clear hfz90_2
          try clear hfz90_3
          try clear hfz92_0
          try clear hfz92_1
          try clear hfz92_2
          try clear hfz92_3
          obtain ⟨kq, x117_16, rfl, HA, HJ16, BK192, BK203, BK210, BK217, BK223, HB⟩ := hcut
          cases kq with
          | zero => exact absurd HA.out (by simp [laws_FnRto.j1])
          | succ kj16 =>
            have H := HA.out
            clear HA
            simp only [laws_FnRto.j1] at H
            by_cases c144 : x117_16 = true
            · subst c144
              have H1 : (some false) = some r := by rw [if_pos rfl] at H; exact H
              clear H
              have H := H1
              clear H1
              obtain rfl := Option.some.inj H
              go_wp2
              go_ret
              exact ⟨by first | rfl | (simp [errW_none, errW_some] <;> rfl) | (simp [*, errW_none, errW_some] <;> rfl), by repeat (first | (with_reducible first | exact HB.out | apply below_alloc | apply pw_below_drewN | apply below_drew1 | refine below_set ?_ GE192.out | refine below_set ?_ GE203.out | refine below_set ?_ GE210.out | refine below_set ?_ GE217.out | refine below_set ?_ GE223.out) | exact HB.out)⟩
            · replace c144 := Bool.eq_false_iff.mpr c144
              subst c144
              have H1 : (if t193 < 200 then (some false) else (if t193 > 60000 then (some false) else (if t193 < (wrap64 (Int.tdiv t189 8)) then (if t193 < 60000 then (some false) else (if t221 = t191 then (some true) else (some (t224 == (mn 60000 (wrap64 (2 * t193))))))) else (if t221 = t191 then (some true) else (some (t224 == (mn 60000 (wrap64 (2 * t193))))))))) = some r := by rw [if_neg (show ¬ (false = true) by decide)] at H; exact H
              clear H
              have H := H1
              clear H1
              by_cases c145 : t193 < 200
              · rw [if_pos c145] at H
                have c145b0 : decide (t193 < 200) = true := decide_eq_true c145
                clear c145
                obtain rfl := Option.some.inj H
                go_wp2
                go_ret
                exact ⟨by first | rfl | (simp [errW_none, errW_some] <;> rfl) | (simp [*, errW_none, errW_some] <;> rfl), by repeat (first | (with_reducible first | exact HB.out | apply below_alloc | apply pw_below_drewN | apply below_drew1 | refine below_set ?_ GE192.out | refine below_set ?_ GE203.out | refine below_set ?_ GE210.out | refine below_set ?_ GE217.out | refine below_set ?_ GE223.out) | exact HB.out)⟩
              · rw [if_neg c145] at H
                have c145b0 : decide (t193 < 200) = false := decide_eq_false c145
                clear c145
                by_cases c146 : t193 > 60000
                · rw [if_pos c146] at H
                  have c146b0 : decide (60000 < t193) = true := decide_eq_true c146
                  clear c146
                  obtain rfl := Option.some.inj H
                  go_wp2
                  go_ret
                  exact ⟨by first | rfl | (simp [errW_none, errW_some] <;> rfl) | (simp [*, errW_none, errW_some] <;> rfl), by repeat (first | (with_reducible first | exact HB.out | apply below_alloc | apply pw_below_drewN | apply below_drew1 | refine below_set ?_ GE192.out | refine below_set ?_ GE203.out | refine below_set ?_ GE210.out | refine below_set ?_ GE217.out | refine below_set ?_ GE223.out) | exact HB.out)⟩
                · rw [if_neg c146] at H
                  have c146b0 : decide (60000 < t193) = false := decide_eq_false c146
                  clear c146
                  by_cases c147 : t193 < (wrap64 (Int.tdiv t189 8))
                  · rw [if_pos c147] at H
                    have c147b0 : decide (t193 < (wrap64 (Int.tdiv t189 8))) = true := decide_eq_true c147
                    clear c147
                    by_cases c148 : t193 < 60000
                    · rw [if_pos c148] at H
                      have c148b0 : decide (t193 < 60000) = true := decide_eq_true c148
                      clear c148
                      obtain rfl := Option.some.inj H
                      have hnb149 := NB192_203.out
                      have hnc149 := NB203_192.out
                      have hnb150 := NB192_210.out
                      have hnc150 := NB210_192.out
                      have hnb151 := NB192_217.out
                      have hnc151 := NB217_192.out
                      have hnb152 := NB192_223.out
                      have hnc152 := NB223_192.out
                      have hcz153_0 : wc.cell? ⟨gb192, 0, none⟩ = some (.bool t188) := (blk_cell BK192.out 0).trans rfl
                      have hcz153_1 : wc.cell? ⟨gb192, 1, none⟩ = some (.int .i64 t189) := (blk_cell BK192.out 1).trans rfl
                      have hcz153_2 : wc.cell? ⟨gb192, 2, none⟩ = some (.int .i64 t190) := (blk_cell BK192.out 2).trans rfl
                      have hcz153_3 : wc.cell? ⟨gb192, 3, none⟩ = some (.int .i64 t191) := (blk_cell BK192.out 3).trans rfl
                      have hfz153_0 := blk_frozen BK192.out 0
                      have hfz153_1 := blk_frozen BK192.out 1
                      have hfz153_2 := blk_frozen BK192.out 2
                      have hfz153_3 := blk_frozen BK192.out 3
                      go_wp2
                      go_ret
                      exact ⟨by first | rfl | (simp [errW_none, errW_some] <;> rfl) | (simp [*, errW_none, errW_some] <;> rfl), by repeat (first | (with_reducible first | exact HB.out | apply below_alloc | apply pw_below_drewN | apply below_drew1 | refine below_set ?_ GE192.out | refine below_set ?_ GE203.out | refine below_set ?_ GE210.out | refine below_set ?_ GE217.out | refine below_set ?_ GE223.out) | exact HB.out)⟩
                    · rw [if_neg c148] at H
                      have c148b0 : decide (t193 < 60000) = false := decide_eq_false c148
                      clear c148
                      by_cases c154 : t221 = t191
                      · rw [if_pos c154] at H
                        have c154b0 : (t221 == t191) = true := beq_iff_eq.mpr c154
                        have c154b1 : (t221 != t191) = false := bne_eq_false_iff_eq.mpr c154
                        clear c154
                        obtain rfl := Option.some.inj H
                        have hnb155 := NB192_203.out
                        have hnc155 := NB203_192.out
                        have hnb156 := NB192_210.out
                        have hnc156 := NB210_192.out
                        have hnb157 := NB192_217.out
                        have hnc157 := NB217_192.out
                        have hnb158 := NB192_223.out
                        have hnc158 := NB223_192.out
                        have hcz159_0 : wc.cell? ⟨gb192, 0, none⟩ = some (.bool t188) := (blk_cell BK192.out 0).trans rfl
                        have hcz159_1 : wc.cell? ⟨gb192, 1, none⟩ = some (.int .i64 t189) := (blk_cell BK192.out 1).trans rfl
                        have hcz159_2 : wc.cell? ⟨gb192, 2, none⟩ = some (.int .i64 t190) := (blk_cell BK192.out 2).trans rfl
                        have hcz159_3 : wc.cell? ⟨gb192, 3, none⟩ = some (.int .i64 t191) := (blk_cell BK192.out 3).trans rfl
                        have hfz159_0 := blk_frozen BK192.out 0
                        have hfz159_1 := blk_frozen BK192.out 1
                        have hfz159_2 := blk_frozen BK192.out 2
                        have hfz159_3 := blk_frozen BK192.out 3
                        have hnb160 := NB223_203.out
                        have hnc160 := NB203_223.out
                        have hnb161 := NB223_210.out
                        have hnc161 := NB210_223.out
                        have hnb162 := NB223_217.out
                        have hnc162 := NB217_223.out
                        have hcz163_0 : wc.cell? ⟨gb223, 0, none⟩ = some (.bool t218) := (blk_cell BK223.out 0).trans rfl
                        have hcz163_1 : wc.cell? ⟨gb223, 1, none⟩ = some (.int .i64 t219) := (blk_cell BK223.out 1).trans rfl
                        have hcz163_2 : wc.cell? ⟨gb223, 2, none⟩ = some (.int .i64 t220) := (blk_cell BK223.out 2).trans rfl
                        have hcz163_3 : wc.cell? ⟨gb223, 3, none⟩ = some (.int .i64 t221) := (blk_cell BK223.out 3).trans rfl
                        have hfz163_0 := blk_frozen BK223.out 0
                        have hfz163_1 := blk_frozen BK223.out 1
                        have hfz163_2 := blk_frozen BK223.out 2
                        have hfz163_3 := blk_frozen BK223.out 3
                        go_wp2
                        go_ret
                        exact ⟨by first | rfl | (simp [errW_none, errW_some] <;> rfl) | (simp [*, errW_none, errW_some] <;> rfl), by repeat (first | (with_reducible first | exact HB.out | apply below_alloc | apply pw_below_drewN | apply below_drew1 | refine below_set ?_ GE192.out | refine below_set ?_ GE203.out | refine below_set ?_ GE210.out | refine below_set ?_ GE217.out | refine below_set ?_ GE223.out) | exact HB.out)⟩
                      · rw [if_neg c154] at H
                        have c154b0 : (t221 == t191) = false := beq_eq_false_iff_ne.mpr c154
                        have c154b1 : (t221 != t191) = true := bne_iff_ne.mpr c154
                        obtain ⟨ji164, hji164⟩ : ∃ j_ : Int, (mn 60000 (wrap64 (2 * t193))) = j_ := ⟨_, rfl⟩
                        replace H : (some (t224 == (ji164))) = some r := by first | (rw [hji164] at H; exact H) | (simp only [hji164] at H ⊢; exact H)
                        have hji164_ : (if (wrap64 (2 * t193)) < 60000 then (wrap64 (2 * t193)) else 60000) = ji164 := hji164
                        obtain rfl := Option.some.inj H
                        have hnb165 := NB192_203.out
                        have hnc165 := NB203_192.out
                        have hnb166 := NB192_210.out
                        have hnc166 := NB210_192.out
                        have hnb167 := NB192_217.out
                        have hnc167 := NB217_192.out
                        have hnb168 := NB192_223.out
                        have hnc168 := NB223_192.out
                        have hcz169_0 : wc.cell? ⟨gb192, 0, none⟩ = some (.bool t188) := (blk_cell BK192.out 0).trans rfl
                        have hcz169_1 : wc.cell? ⟨gb192, 1, none⟩ = some (.int .i64 t189) := (blk_cell BK192.out 1).trans rfl
                        have hcz169_2 : wc.cell? ⟨gb192, 2, none⟩ = some (.int .i64 t190) := (blk_cell BK192.out 2).trans rfl
                        have hcz169_3 : wc.cell? ⟨gb192, 3, none⟩ = some (.int .i64 t191) := (blk_cell BK192.out 3).trans rfl
                        have hfz169_0 := blk_frozen BK192.out 0
                        have hfz169_1 := blk_frozen BK192.out 1
                        have hfz169_2 := blk_frozen BK192.out 2
                        have hfz169_3 := blk_frozen BK192.out 3
                        have hnb170 := NB223_203.out
                        have hnc170 := NB203_223.out
                        have hnb171 := NB223_210.out
                        have hnc171 := NB210_223.out
                        have hnb172 := NB223_217.out
                        have hnc172 := NB217_223.out
                        have hcz173_0 : wc.cell? ⟨gb223, 0, none⟩ = some (.bool t218) := (blk_cell BK223.out 0).trans rfl
                        have hcz173_1 : wc.cell? ⟨gb223, 1, none⟩ = some (.int .i64 t219) := (blk_cell BK223.out 1).trans rfl
                        have hcz173_2 : wc.cell? ⟨gb223, 2, none⟩ = some (.int .i64 t220) := (blk_cell BK223.out 2).trans rfl
                        have hcz173_3 : wc.cell? ⟨gb223, 3, none⟩ = some (.int .i64 t221) := (blk_cell BK223.out 3).trans rfl
                        have hfz173_0 := blk_frozen BK223.out 0
                        have hfz173_1 := blk_frozen BK223.out 1
                        have hfz173_2 := blk_frozen BK223.out 2
                        have hfz173_3 := blk_frozen BK223.out 3
                        go_wp2
                        go_ret
                        exact ⟨by first | rfl | (simp [errW_none, errW_some] <;> rfl) | (simp only [← hji164]; first | rfl | (simp [errW_none, errW_some] <;> rfl)) | (simp [*, errW_none, errW_some] <;> rfl), by repeat (first | (with_reducible first | exact HB.out | apply below_alloc | apply pw_below_drewN | apply below_drew1 | refine below_set ?_ GE192.out | refine below_set ?_ GE203.out | refine below_set ?_ GE210.out | refine below_set ?_ GE217.out | refine below_set ?_ GE223.out) | exact HB.out)⟩
                  · rw [if_neg c147] at H
                    have c147b0 : decide (t193 < (wrap64 (Int.tdiv t189 8))) = false := decide_eq_false c147
                    clear c147
                    by_cases c174 : t221 = t191
                    · rw [if_pos c174] at H
                      have c174b0 : (t221 == t191) = true := beq_iff_eq.mpr c174
                      have c174b1 : (t221 != t191) = false := bne_eq_false_iff_eq.mpr c174
                      clear c174
                      obtain rfl := Option.some.inj H
                      have hnb175 := NB192_203.out
                      have hnc175 := NB203_192.out
                      have hnb176 := NB192_210.out
                      have hnc176 := NB210_192.out
                      have hnb177 := NB192_217.out
                      have hnc177 := NB217_192.out
                      have hnb178 := NB192_223.out
                      have hnc178 := NB223_192.out
                      have hcz179_0 : wc.cell? ⟨gb192, 0, none⟩ = some (.bool t188) := (blk_cell BK192.out 0).trans rfl
                      have hcz179_1 : wc.cell? ⟨gb192, 1, none⟩ = some (.int .i64 t189) := (blk_cell BK192.out 1).trans rfl
                      have hcz179_2 : wc.cell? ⟨gb192, 2, none⟩ = some (.int .i64 t190) := (blk_cell BK192.out 2).trans rfl
                      have hcz179_3 : wc.cell? ⟨gb192, 3, none⟩ = some (.int .i64 t191) := (blk_cell BK192.out 3).trans rfl
                      have hfz179_0 := blk_frozen BK192.out 0
                      have hfz179_1 := blk_frozen BK192.out 1
                      have hfz179_2 := blk_frozen BK192.out 2
                      have hfz179_3 := blk_frozen BK192.out 3
                      have hnb180 := NB223_203.out
                      have hnc180 := NB203_223.out
                      have hnb181 := NB223_210.out
                      have hnc181 := NB210_223.out
                      have hnb182 := NB223_217.out
                      have hnc182 := NB217_223.out
                      have hcz183_0 : wc.cell? ⟨gb223, 0, none⟩ = some (.bool t218) := (blk_cell BK223.out 0).trans rfl
                      have hcz183_1 : wc.cell? ⟨gb223, 1, none⟩ = some (.int .i64 t219) := (blk_cell BK223.out 1).trans rfl
                      have hcz183_2 : wc.cell? ⟨gb223, 2, none⟩ = some (.int .i64 t220) := (blk_cell BK223.out 2).trans rfl
                      have hcz183_3 : wc.cell? ⟨gb223, 3, none⟩ = some (.int .i64 t221) := (blk_cell BK223.out 3).trans rfl
                      have hfz183_0 := blk_frozen BK223.out 0
                      have hfz183_1 := blk_frozen BK223.out 1
                      have hfz183_2 := blk_frozen BK223.out 2
                      have hfz183_3 := blk_frozen BK223.out 3
                      go_wp2
                      go_ret
                      exact ⟨by first | rfl | (simp [errW_none, errW_some] <;> rfl) | (simp [*, errW_none, errW_some] <;> rfl), by repeat (first | (with_reducible first | exact HB.out | apply below_alloc | apply pw_below_drewN | apply below_drew1 | refine below_set ?_ GE192.out | refine below_set ?_ GE203.out | refine below_set ?_ GE210.out | refine below_set ?_ GE217.out | refine below_set ?_ GE223.out) | exact HB.out)⟩
                    · rw [if_neg c174] at H
                      have c174b0 : (t221 == t191) = false := beq_eq_false_iff_ne.mpr c174
                      have c174b1 : (t221 != t191) = true := bne_iff_ne.mpr c174
                      obtain ⟨ji184, hji184⟩ : ∃ j_ : Int, (mn 60000 (wrap64 (2 * t193))) = j_ := ⟨_, rfl⟩
                      replace H : (some (t224 == (ji184))) = some r := by first | (rw [hji184] at H; exact H) | (simp only [hji184] at H ⊢; exact H)
                      have hji184_ : (if (wrap64 (2 * t193)) < 60000 then (wrap64 (2 * t193)) else 60000) = ji184 := hji184
                      obtain rfl := Option.some.inj H
                      have hnb185 := NB192_203.out
                      have hnc185 := NB203_192.out
                      have hnb186 := NB192_210.out
                      have hnc186 := NB210_192.out
                      have hnb187 := NB192_217.out
                      have hnc187 := NB217_192.out
                      have hnb188 := NB192_223.out
                      have hnc188 := NB223_192.out
                      have hcz189_0 : wc.cell? ⟨gb192, 0, none⟩ = some (.bool t188) := (blk_cell BK192.out 0).trans rfl
                      have hcz189_1 : wc.cell? ⟨gb192, 1, none⟩ = some (.int .i64 t189) := (blk_cell BK192.out 1).trans rfl
                      have hcz189_2 : wc.cell? ⟨gb192, 2, none⟩ = some (.int .i64 t190) := (blk_cell BK192.out 2).trans rfl
                      have hcz189_3 : wc.cell? ⟨gb192, 3, none⟩ = some (.int .i64 t191) := (blk_cell BK192.out 3).trans rfl
                      have hfz189_0 := blk_frozen BK192.out 0
                      have hfz189_1 := blk_frozen BK192.out 1
                      have hfz189_2 := blk_frozen BK192.out 2
                      have hfz189_3 := blk_frozen BK192.out 3
                      have hnb190 := NB223_203.out
                      have hnc190 := NB203_223.out
                      have hnb191 := NB223_210.out
                      have hnc191 := NB210_223.out
                      have hnb192 := NB223_217.out
                      have hnc192 := NB217_223.out
                      have hcz193_0 : wc.cell? ⟨gb223, 0, none⟩ = some (.bool t218) := (blk_cell BK223.out 0).trans rfl
                      have hcz193_1 : wc.cell? ⟨gb223, 1, none⟩ = some (.int .i64 t219) := (blk_cell BK223.out 1).trans rfl
                      have hcz193_2 : wc.cell? ⟨gb223, 2, none⟩ = some (.int .i64 t220) := (blk_cell BK223.out 2).trans rfl
                      have hcz193_3 : wc.cell? ⟨gb223, 3, none⟩ = some (.int .i64 t221) := (blk_cell BK223.out 3).trans rfl
                      have hfz193_0 := blk_frozen BK223.out 0
                      have hfz193_1 := blk_frozen BK223.out 1
                      have hfz193_2 := blk_frozen BK223.out 2
                      have hfz193_3 := blk_frozen BK223.out 3
                      go_wp2
                      go_ret
                      exact ⟨by first | rfl | (simp [errW_none, errW_some] <;> rfl) | (simp only [← hji184]; first | rfl | (simp [errW_none, errW_some] <;> rfl)) | (simp [*, errW_none, errW_some] <;> rfl), by repeat (first | (with_reducible first | exact HB.out | apply below_alloc | apply pw_below_drewN | apply below_drew1 | refine below_set ?_ GE192.out | refine below_set ?_ GE203.out | refine below_set ?_ GE210.out | refine below_set ?_ GE217.out | refine below_set ?_ GE223.out) | exact HB.out)⟩

/-- THE ONE PURE STATEMENT of laws_FnRto: yours. -/
def laws_FnRto.Pure : Prop := ∀ (l0 : List Int) (l1 : List Int), l0.length ≤ maxLen → l0.length * 1 ≤ 140737488351232 → (∀ x ∈ l0, (Lit.int .u8 x).wf = true) → l1.length ≤ maxLen → l1.length * 1 ≤ 140737488351232 → (∀ x ∈ l1, (Lit.int .u8 x).wf = true) → ∃ k, laws_FnRto.f k l0 l1 = some true
theorem laws_FnRto.walk (P : laws_FnRto.Pure) (a0 : Option Addr) (len0 cap0 : Nat) (z0 : List Int) (a1 : Option Addr) (len1 cap1 : Nat) (z1 : List Int) (w : World) (w0 : (a0 = none ∧ len0 = 0 ∧ cap0 = 0 ∧ z0 = []) ∨ ∃ x, a0 = some x ∧ len0 ≤ cap0 ∧ cap0 ≤ maxLen ∧ z0.length = cap0 ∧ (∀ i, i < z0.length → w.cell? (x.add i) = some (.int .u8 (z0.getD i 0))) ∧ ∀ n ∈ z0, (Lit.int .u8 n).wf = true) (y0 : len0 * 1 ≤ 140737488351232) (w1 : (a1 = none ∧ len1 = 0 ∧ cap1 = 0 ∧ z1 = []) ∨ ∃ x, a1 = some x ∧ len1 ≤ cap1 ∧ cap1 ≤ maxLen ∧ z1.length = cap1 ∧ (∀ i, i < z1.length → w.cell? (x.add i) = some (.int .u8 (z1.getD i 0))) ∧ ∀ n ∈ z1, (Lit.int .u8 n).wf = true) (y1 : len1 * 1 ≤ 140737488351232) :
    Calls Try.prog 8 #[.slice a0 len0 cap0, .slice a1 len1 cap1] w fun e w' => e = .returned (.bool true) ∧ Below w.heap.size w w' := by
  obtain ⟨l0, rfl, hr0, hm0, hw0, hc0⟩ := ReadsInt.ofRowC w0
  obtain ⟨l1, rfl, hr1, hm1, hw1, hc1⟩ := ReadsInt.ofRowC w1
  obtain ⟨k, h⟩ := P l0 l1 hm0 y0 hw0 hm1 y1 hw1
  refine (laws_FnRto.calls k _ _ l0 _ _ l1 true w (Kd.C_of_reads (d := (0 : Int)) (h1 := fun _ => rfl) hr0) hc0 (Kd.C_of_reads (d := (0 : Int)) (h1 := fun _ => rfl) hr1) hc1 h).mono ?_
  rintro e w' ⟨rfl, hd⟩
  exact ⟨rfl, hd⟩

end Go.Proofs.Ytjaheohpgnegoaa.PFnRto
