-- OWN TEXT of FnEnvelope: made by own_print.sh, finished by hand
import Derived.Test.YtfjpfjofogbpgaaGFnEnvelopex0
import Derived.Test.YtfjpfjofogbpgaaGFnEnvelopex1
import Derived.Test.YtfjpfjofogbpgaaGFnEnvelopex2
import Derived.Test.YtfjpfjofogbpgaaGFnEnvelopex3
import Derived.Test.YtfjpfjofogbpgaaGFnEnvelopex4
import Derived.Test.YtfjpfjofogbpgaaGFnEnvelopex5
namespace Go.Proofs.Ytfjpfjofogbpgaa.PFnEnvelope
open Go.RowKit Go.Proofs.YtfjpfjofogbpgaaW.PrintWords Go.Proofs.YtfjpfjofogbpgaaW.PrintLast Go.Proofs.YtfjpfjofogbpgaaW.PrintMore
attribute [local go_sem] max2_int min2_int max_two min_two max_three min_three max_four min_four   -- for this text's walks alone
set_option linter.unusedVariables false
set_option linter.unusedSimpArgs false

/-! ### laws_FnEnvelope: function 9 -/
mutual
def laws_FnEnvelope.j0 : Nat → List Int → List Int → Bool → Option (Bool)
  | 0, _, _, _ => none
  | k + 1, x0, x1, x24 => if x24 = true then (some true) else ((spec_BucketOf.f x0).bind fun bt293 => (if bt293.2.2.2 > 500000 then (laws_FnEnvelope.j1 k x1 bt293.1 bt293.2.1 bt293.2.2.1 0) else (laws_FnEnvelope.j1 k x1 bt293.1 bt293.2.1 bt293.2.2.1 bt293.2.2.2)))
def laws_FnEnvelope.j1 : Nat → List Int → Int → Int → Int → Int → Option (Bool)
  | 0, _, _, _, _, _ => none
  | k + 1, x1, x298000, x298001, x298002, x298003 => (spec_BucketActsOf.f k x1).bind fun t298 => ((impl_BucketRun.f k x298000 x298001 x298002 x298003 t298).bind fun bt301 => ((spec_BucketRun.f k x298000 x298001 x298002 x298003 t298).bind fun bt310 => (if bt301.2.2.2.2.2 = 0 then ((laws_sameInts.f k bt301.2.2.2.2.1 bt310.2.2.2.2.1).bind fun t319 => (if t319 = true then ((impl_BucketOK.f x298000 x298001 x298002 x298003).bind fun t320 => (laws_FnEnvelope.j2 k t298 bt301.2.2.2.2.1 (!t320) x298000 x298001 x298002 x298003)) else (laws_FnEnvelope.j2 k t298 bt301.2.2.2.2.1 true x298000 x298001 x298002 x298003))) else (laws_FnEnvelope.j2 k t298 bt301.2.2.2.2.1 true x298000 x298001 x298002 x298003))))
def laws_FnEnvelope.j2 : Nat → List (S47) → List Int → Bool → Int → Int → Int → Int → Option (Bool)
  | 0, _, _, _, _, _, _, _ => none
  | k + 1, x6, x8, x59, x298000, x298001, x298002, x298003 => if x59 = true then (some false) else (laws_FnEnvelope.l0 k x6 x8 0 x298000 x298001 x298002 x298003)
def laws_FnEnvelope.l0 : Nat → List (S47) → List Int → Int → Int → Int → Int → Int → Option (Bool)
  | 0, _, _, _, _, _, _, _ => none
  | k + 1, x6, x8, x13, x298000, x298001, x298002, x298003 => if x13 < (x6.length : Int) then (laws_FnEnvelope.l1 k x6 x8 x13 0 0 x13 x298000 x298001 x298002 x298003) else (some true)
def laws_FnEnvelope.l1 : Nat → List (S47) → List Int → Int → Int → Int → Int → Int → Int → Int → Int → Option (Bool)
  | 0, _, _, _, _, _, _, _, _, _, _ => none
  | k + 1, x6, x8, x13, x14, x15, x16, x298000, x298001, x298002, x298003 => if x16 < (x6.length : Int) then (if 0 ≤ x16 then (if x16 < (x8.length : Int) then (if (rd x8 x16) = 0 then (if ((rd_T47 x6 x16).f0) = 1 then (if (wrap64 (x14 + ((rd_T47 x6 x16).f1))) > (wrap64 (x298001 + (wrap64 (x298000 * x15)))) then (some false) else (laws_FnEnvelope.l1 k x6 x8 x13 (wrap64 (x14 + ((rd_T47 x6 x16).f1))) x15 (wrap64 (x16 + 1)) x298000 x298001 x298002 x298003)) else (if x14 > (wrap64 (x298001 + (wrap64 (x298000 * (wrap64 (x15 + ((rd_T47 x6 x16).f1))))))) then (some false) else (laws_FnEnvelope.l1 k x6 x8 x13 x14 (wrap64 (x15 + ((rd_T47 x6 x16).f1))) (wrap64 (x16 + 1)) x298000 x298001 x298002 x298003))) else (laws_FnEnvelope.l1 k x6 x8 x13 x14 x15 (wrap64 (x16 + 1)) x298000 x298001 x298002 x298003)) else (none)) else (none)) else (laws_FnEnvelope.l0 k x6 x8 (wrap64 (x13 + 1)) x298000 x298001 x298002 x298003)
end
def laws_FnEnvelope.f (k : Nat) (l0 : List Int) (l1 : List Int) : Option (Bool) := if (l0.length : Int) > 1048576 then (laws_FnEnvelope.j0 k l0 l1 true) else (laws_FnEnvelope.j0 k l0 l1 (decide ((l1.length : Int) > 1048576)))
theorem laws_FnEnvelope.mono_l : ∀ k, (∀ y0 y1 y2, LeO (laws_FnEnvelope.j0 k y0 y1 y2) (laws_FnEnvelope.j0 (k + 1) y0 y1 y2)) ∧ (∀ y0 y1 y2 y3 y4, LeO (laws_FnEnvelope.j1 k y0 y1 y2 y3 y4) (laws_FnEnvelope.j1 (k + 1) y0 y1 y2 y3 y4)) ∧ (∀ y0 y1 y2 y3 y4 y5 y6, LeO (laws_FnEnvelope.j2 k y0 y1 y2 y3 y4 y5 y6) (laws_FnEnvelope.j2 (k + 1) y0 y1 y2 y3 y4 y5 y6)) ∧ (∀ y0 y1 y2 y3 y4 y5 y6, LeO (laws_FnEnvelope.l0 k y0 y1 y2 y3 y4 y5 y6) (laws_FnEnvelope.l0 (k + 1) y0 y1 y2 y3 y4 y5 y6)) ∧ (∀ y0 y1 y2 y3 y4 y5 y6 y7 y8 y9, LeO (laws_FnEnvelope.l1 k y0 y1 y2 y3 y4 y5 y6 y7 y8 y9) (laws_FnEnvelope.l1 (k + 1) y0 y1 y2 y3 y4 y5 y6 y7 y8 y9))
  | 0 => ⟨fun _ _ _ r h => by simp [laws_FnEnvelope.j0] at h, fun _ _ _ _ _ r h => by simp [laws_FnEnvelope.j1] at h, fun _ _ _ _ _ _ _ r h => by simp [laws_FnEnvelope.j2] at h, fun _ _ _ _ _ _ _ r h => by simp [laws_FnEnvelope.l0] at h, fun _ _ _ _ _ _ _ _ _ _ r h => by simp [laws_FnEnvelope.l1] at h⟩
  | k + 1 => by
    obtain ⟨ih0, ih1, ih2, ih3, ih4⟩ := laws_FnEnvelope.mono_l k
    refine ⟨?_, ?_, ?_, ?_, ?_⟩
    · intro y0 y1 y2
      unfold laws_FnEnvelope.j0
      repeat' first
      | (with_reducible exact ih0 _ _ _)
      | (with_reducible exact ih1 _ _ _ _ _)
      | (with_reducible exact ih2 _ _ _ _ _ _ _)
      | (with_reducible exact ih3 _ _ _ _ _ _ _)
      | (with_reducible exact ih4 _ _ _ _ _ _ _ _ _ _)
      | (with_reducible exact impl_BucketRun.mono _ _ _ _ _ _)
      | (with_reducible exact laws_sameInts.mono _ _ _)
      | (with_reducible exact spec_BucketActsOf.mono _ _)
      | (with_reducible exact spec_BucketRun.mono _ _ _ _ _ _)
      | (with_reducible exact LeO.refl _)
      | (with_reducible exact LeO.none _)
      | (with_reducible refine LeO.ite ?_ ?_)
      | (with_reducible refine LeO.bind ?_ (fun _ => ?_))
      | exact ih0 _ _ _
      | exact ih1 _ _ _ _ _
      | exact ih2 _ _ _ _ _ _ _
      | exact ih3 _ _ _ _ _ _ _
      | exact ih4 _ _ _ _ _ _ _ _ _ _
      | exact impl_BucketRun.mono _ _ _ _ _ _
      | exact laws_sameInts.mono _ _ _
      | exact spec_BucketActsOf.mono _ _
      | exact spec_BucketRun.mono _ _ _ _ _ _
      | exact LeO.none _
      | refine LeO.ite ?_ ?_
      | refine LeO.bind ?_ (fun _ => ?_)
    · intro y0 y1 y2 y3 y4
      unfold laws_FnEnvelope.j1
      repeat' first
      | (with_reducible exact ih0 _ _ _)
      | (with_reducible exact ih1 _ _ _ _ _)
      | (with_reducible exact ih2 _ _ _ _ _ _ _)
      | (with_reducible exact ih3 _ _ _ _ _ _ _)
      | (with_reducible exact ih4 _ _ _ _ _ _ _ _ _ _)
      | (with_reducible exact impl_BucketRun.mono _ _ _ _ _ _)
      | (with_reducible exact laws_sameInts.mono _ _ _)
      | (with_reducible exact spec_BucketActsOf.mono _ _)
      | (with_reducible exact spec_BucketRun.mono _ _ _ _ _ _)
      | (with_reducible exact LeO.refl _)
      | (with_reducible exact LeO.none _)
      | (with_reducible refine LeO.ite ?_ ?_)
      | (with_reducible refine LeO.bind ?_ (fun _ => ?_))
      | exact ih0 _ _ _
      | exact ih1 _ _ _ _ _
      | exact ih2 _ _ _ _ _ _ _
      | exact ih3 _ _ _ _ _ _ _
      | exact ih4 _ _ _ _ _ _ _ _ _ _
      | exact impl_BucketRun.mono _ _ _ _ _ _
      | exact laws_sameInts.mono _ _ _
      | exact spec_BucketActsOf.mono _ _
      | exact spec_BucketRun.mono _ _ _ _ _ _
      | exact LeO.none _
      | refine LeO.ite ?_ ?_
      | refine LeO.bind ?_ (fun _ => ?_)
    · intro y0 y1 y2 y3 y4 y5 y6
      unfold laws_FnEnvelope.j2
      repeat' first
      | (with_reducible exact ih0 _ _ _)
      | (with_reducible exact ih1 _ _ _ _ _)
      | (with_reducible exact ih2 _ _ _ _ _ _ _)
      | (with_reducible exact ih3 _ _ _ _ _ _ _)
      | (with_reducible exact ih4 _ _ _ _ _ _ _ _ _ _)
      | (with_reducible exact impl_BucketRun.mono _ _ _ _ _ _)
      | (with_reducible exact laws_sameInts.mono _ _ _)
      | (with_reducible exact spec_BucketActsOf.mono _ _)
      | (with_reducible exact spec_BucketRun.mono _ _ _ _ _ _)
      | (with_reducible exact LeO.refl _)
      | (with_reducible exact LeO.none _)
      | (with_reducible refine LeO.ite ?_ ?_)
      | (with_reducible refine LeO.bind ?_ (fun _ => ?_))
      | exact ih0 _ _ _
      | exact ih1 _ _ _ _ _
      | exact ih2 _ _ _ _ _ _ _
      | exact ih3 _ _ _ _ _ _ _
      | exact ih4 _ _ _ _ _ _ _ _ _ _
      | exact impl_BucketRun.mono _ _ _ _ _ _
      | exact laws_sameInts.mono _ _ _
      | exact spec_BucketActsOf.mono _ _
      | exact spec_BucketRun.mono _ _ _ _ _ _
      | exact LeO.none _
      | refine LeO.ite ?_ ?_
      | refine LeO.bind ?_ (fun _ => ?_)
    · intro y0 y1 y2 y3 y4 y5 y6
      unfold laws_FnEnvelope.l0
      repeat' first
      | (with_reducible exact ih0 _ _ _)
      | (with_reducible exact ih1 _ _ _ _ _)
      | (with_reducible exact ih2 _ _ _ _ _ _ _)
      | (with_reducible exact ih3 _ _ _ _ _ _ _)
      | (with_reducible exact ih4 _ _ _ _ _ _ _ _ _ _)
      | (with_reducible exact impl_BucketRun.mono _ _ _ _ _ _)
      | (with_reducible exact laws_sameInts.mono _ _ _)
      | (with_reducible exact spec_BucketActsOf.mono _ _)
      | (with_reducible exact spec_BucketRun.mono _ _ _ _ _ _)
      | (with_reducible exact LeO.refl _)
      | (with_reducible exact LeO.none _)
      | (with_reducible refine LeO.ite ?_ ?_)
      | (with_reducible refine LeO.bind ?_ (fun _ => ?_))
      | exact ih0 _ _ _
      | exact ih1 _ _ _ _ _
      | exact ih2 _ _ _ _ _ _ _
      | exact ih3 _ _ _ _ _ _ _
      | exact ih4 _ _ _ _ _ _ _ _ _ _
      | exact impl_BucketRun.mono _ _ _ _ _ _
      | exact laws_sameInts.mono _ _ _
      | exact spec_BucketActsOf.mono _ _
      | exact spec_BucketRun.mono _ _ _ _ _ _
      | exact LeO.none _
      | refine LeO.ite ?_ ?_
      | refine LeO.bind ?_ (fun _ => ?_)
    · intro y0 y1 y2 y3 y4 y5 y6 y7 y8 y9
      unfold laws_FnEnvelope.l1
      repeat' first
      | (with_reducible exact ih0 _ _ _)
      | (with_reducible exact ih1 _ _ _ _ _)
      | (with_reducible exact ih2 _ _ _ _ _ _ _)
      | (with_reducible exact ih3 _ _ _ _ _ _ _)
      | (with_reducible exact ih4 _ _ _ _ _ _ _ _ _ _)
      | (with_reducible exact impl_BucketRun.mono _ _ _ _ _ _)
      | (with_reducible exact laws_sameInts.mono _ _ _)
      | (with_reducible exact spec_BucketActsOf.mono _ _)
      | (with_reducible exact spec_BucketRun.mono _ _ _ _ _ _)
      | (with_reducible exact LeO.refl _)
      | (with_reducible exact LeO.none _)
      | (with_reducible refine LeO.ite ?_ ?_)
      | (with_reducible refine LeO.bind ?_ (fun _ => ?_))
      | exact ih0 _ _ _
      | exact ih1 _ _ _ _ _
      | exact ih2 _ _ _ _ _ _ _
      | exact ih3 _ _ _ _ _ _ _
      | exact ih4 _ _ _ _ _ _ _ _ _ _
      | exact impl_BucketRun.mono _ _ _ _ _ _
      | exact laws_sameInts.mono _ _ _
      | exact spec_BucketActsOf.mono _ _
      | exact spec_BucketRun.mono _ _ _ _ _ _
      | exact LeO.none _
      | refine LeO.ite ?_ ?_
      | refine LeO.bind ?_ (fun _ => ?_)
theorem laws_FnEnvelope.mono : ∀ a0 a1 k, LeO (laws_FnEnvelope.f k a0 a1) (laws_FnEnvelope.f (k + 1) a0 a1) := by
  intro a0 a1 k
  obtain ⟨ih0, ih1, ih2, ih3, ih4⟩ := laws_FnEnvelope.mono_l k
  unfold laws_FnEnvelope.f
  repeat' first
      | (with_reducible exact ih0 _ _ _)
      | (with_reducible exact ih1 _ _ _ _ _)
      | (with_reducible exact ih2 _ _ _ _ _ _ _)
      | (with_reducible exact ih3 _ _ _ _ _ _ _)
      | (with_reducible exact ih4 _ _ _ _ _ _ _ _ _ _)
      | (with_reducible exact impl_BucketRun.mono _ _ _ _ _ _)
      | (with_reducible exact laws_sameInts.mono _ _ _)
      | (with_reducible exact spec_BucketActsOf.mono _ _)
      | (with_reducible exact spec_BucketRun.mono _ _ _ _ _ _)
      | (with_reducible exact LeO.refl _)
      | (with_reducible exact LeO.none _)
      | (with_reducible refine LeO.ite ?_ ?_)
      | (with_reducible refine LeO.bind ?_ (fun _ => ?_))
      | exact ih0 _ _ _
      | exact ih1 _ _ _ _ _
      | exact ih2 _ _ _ _ _ _ _
      | exact ih3 _ _ _ _ _ _ _
      | exact ih4 _ _ _ _ _ _ _ _ _ _
      | exact impl_BucketRun.mono _ _ _ _ _ _
      | exact laws_sameInts.mono _ _ _
      | exact spec_BucketActsOf.mono _ _
      | exact spec_BucketRun.mono _ _ _ _ _ _
      | exact LeO.none _
      | refine LeO.ite ?_ ?_
      | refine LeO.bind ?_ (fun _ => ?_)
set_option maxHeartbeats 8000000 in
set_option maxRecDepth 100000 in
theorem laws_FnEnvelope.calls (k : Nat) (A0 : Option Addr) (c0 : Nat) (l0 : List Int) (A1 : Option Addr) (c1 : Nat) (l1 : List Int) (r : Bool) (w : World) (hr0 : Kd.C (Kd.int .u8) w A0 l0.length l0) (hc0 : l0.length ≤ c0) (hr1 : Kd.C (Kd.int .u8) w A1 l1.length l1) (hc1 : l1.length ≤ c1) (h : laws_FnEnvelope.f k l0 l1 = some r) :
    Calls Try.prog 9 #[.slice A0 l0.length c0, .slice A1 l1.length c1] w fun e w' => e = .returned (.bool r) ∧ Below w.heap.size w w' := by
  have hu25 := Try.underlying25
  have HR0 := Aside0.mk hr0
  have HC0 := Aside0.mk hc0
  clear hr0 hc0
  have HR1 := Aside0.mk hr1
  have HC1 := Aside0.mk hc1
  clear hr1 hc1
  have HB := Aside0.mk (Below.refl w.heap.size w)
  have H : (if (l0.length : Int) > 1048576 then (laws_FnEnvelope.j0 k l0 l1 true) else (laws_FnEnvelope.j0 k l0 l1 (decide ((l1.length : Int) > 1048576)))) = some r := h
  clear h
  have HC3 := Aside0.mk H
  clear H
  go_enter Try.func9, Try.ntmps9
  go_upto_region 1 with (fail)
  go_cut [24] (fun v24 wc => ∃ (kq : Nat) (x24_2 : Bool), v24 = .bool x24_2 ∧ Aside0 (laws_FnEnvelope.j0 kq l0 l1 x24_2 = some r) ∧ Aside0 (kq ≤ k) ∧ Aside0 (Below w.heap.size w wc))
  case first =>
    have H := HC3.out
    clear HC3
    by_cases c4 : (l0.length : Int) > 1048576
    · rw [if_pos c4] at H
      have c4b0 : decide (1048576 < (l0.length : Int)) = true := decide_eq_true c4
      have c4b1 : decide (1048576 < l0.length) = true := decide_eq_true (by omega)
      clear c4
      (first | rw [c4b0] | (simp only [i64_w, i32_w]; rw [c4b0]) | skip)
      have H' := Aside0.mk H
      clear H
      go_wp2
      go_meet
      case rel => exact ⟨_, (true), (by first | rfl | (simp; done) | (simp [*]; done)), H', ⟨by first | omega | exact Nat.le_refl _⟩, ⟨by repeat (first | (with_reducible first | exact HB.out | apply below_alloc | apply pw_below_drewN | apply below_drew1) | exact HB.out)⟩⟩
    · rw [if_neg c4] at H
      have c4b0 : decide (1048576 < (l0.length : Int)) = false := decide_eq_false c4
      have c4b1 : decide (1048576 < l0.length) = false := decide_eq_false (by omega)
      clear c4
      (first | rw [c4b0] | (simp only [i64_w, i32_w]; rw [c4b0]) | skip)
      have H' := Aside0.mk H
      clear H
      go_wp2
      go_meet
      case rel => exact ⟨_, (decide ((l1.length : Int) > 1048576)), (by first | rfl | (simp; done) | (simp [*]; done)), H', ⟨by first | omega | exact Nat.le_refl _⟩, ⟨by repeat (first | (with_reducible first | exact HB.out | apply below_alloc | apply pw_below_drewN | apply below_drew1) | exact HB.out)⟩⟩
  case rest =>
    clear HC3
    try clear c1
    try clear p2
    try clear c4
    try clear c4b0
    try clear c4b1
    obtain ⟨kq, x24_2, rfl, HA, HJ2, HB⟩ := hcut
    cases kq with
    | zero => exact absurd HA.out (by simp [laws_FnEnvelope.j0])
    | succ kj2 =>
      have H := HA.out
      clear HA
      simp only [laws_FnEnvelope.j0] at H
      by_cases c5 : x24_2 = true
      · subst c5
        have H1 : (some true) = some r := by rw [if_pos rfl] at H; exact H
        clear H
        have H := H1
        clear H1
        obtain rfl := Option.some.inj H
        go_wp2
        go_ret
        exact ⟨by first | rfl | (simp [errW_none, errW_some] <;> rfl) | (simp [*, errW_none, errW_some] <;> rfl), by repeat (first | (with_reducible first | exact HB.out | apply below_alloc | apply pw_below_drewN | apply below_drew1) | exact HB.out)⟩
      · replace c5 := Bool.eq_false_iff.mpr c5
        subst c5
        have H1 : ((spec_BucketOf.f l0).bind fun bt293 => (if bt293.2.2.2 > 500000 then (laws_FnEnvelope.j1 kj2 l1 bt293.1 bt293.2.1 bt293.2.2.1 0) else (laws_FnEnvelope.j1 kj2 l1 bt293.1 bt293.2.1 bt293.2.2.1 bt293.2.2.2))) = some r := by rw [if_neg (show ¬ (false = true) by decide)] at H; exact H
        clear H
        have H := H1
        clear H1
        replace H := Option.bind_eq_some_iff.mp H
        obtain ⟨⟨t293, t294, t295, t296⟩, A60, H⟩ := H
        replace H : (if t296 > 500000 then (laws_FnEnvelope.j1 kj2 l1 t293 t294 t295 0) else (laws_FnEnvelope.j1 kj2 l1 t293 t294 t295 t296)) = some r := H
        have A6 := Aside0.mk A60
        clear A60
        have HC7 := Aside0.mk H
        clear H
        go_upto_if 29 with (first | ((with_reducible refine gate_callee (f := 23) rfl ?_); refine goesL_ (some 26) rfl rfl Try.func23 (by kernel_rfl) rfl #[.slice A0 l0.length c0] rfl (by (try simp only [List.map_toArray, List.map_cons, List.map_nil]); first | done | rfl | (simp only [List.length_drop, List.length_take]; rfl)) ?_; (with_reducible refine (spec_BucketOf.calls _ _ l0 t293 t294 t295 t296 _ ?side1 ?side2 A6.out).mono ?_); (case side1 => repeat (first | exact (Kd.C_below HR0.out HB.out) | (with_reducible refine Kd.C_alloc ?_ _) | (with_reducible refine Kd.C_drewN ?_ _) | (with_reducible refine Kd.C_drew ?_))); (case side2 => exact HC0.out); rintro e w8 ⟨rfl, hb⟩; refine ⟨_, rfl, ?_⟩; have n0_ := Aside0.mk (below_step (by repeat (first | (with_reducible first | exact HB.out | apply below_alloc | apply pw_below_drewN | apply below_drew1) | exact HB.out)) hb); clear HB; have HB := n0_; clear n0_; (try clear hb); (try clear hb2); (try clear hk); (try clear hi)) | ((with_reducible refine gate_dst (N := 5) rfl ?_); (try (refine gate_guard (by rfl) ?_; dsimp only)); refine box_event ?hg (N := 5) ?hd (cs := #[.int .i64 0, .int .i64 0, .int .i64 0, .int .i64 0]) (t := 25) ?hr ?_; (case hd => rfl); (case hg => rfl); (case hr => first | (go_simp; done) | (go_simp; rfl)); intro gb297 hg w9 hbox hb; have n0_ := Aside0.mk (below_step (by repeat (first | (with_reducible first | exact HB.out | apply below_alloc | apply pw_below_drewN | apply below_drew1) | exact HB.out)) hb); have n1_ := Aside0.mk (hbox); have n2_ := Aside0.mk ((by rw [hg]; exact (below_size (by repeat (first | (with_reducible first | exact HB.out | apply below_alloc | apply pw_below_drewN | apply below_drew1) | exact HB.out))) : w.heap.size ≤ gb297)); have n3_ := Aside0.mk ((by rw [hg]; exact (below_size (by repeat (first | (with_reducible first | exact HB.out | apply below_alloc | apply pw_below_drewN | apply below_drew1) | exact HB.out))) : w.heap.size ≤ gb297)); clear HB; have HB := n0_; have BK297 := n1_; have GW297 := n2_; have GE297 := n3_; clear n0_ n1_ n2_ n3_; clear hb hbox hg; have hcz10_0 : w9.cell? ⟨gb297, 0, none⟩ = some (.int .i64 0) := (blk_cell BK297.out 0).trans rfl; have hcz10_1 : w9.cell? ⟨gb297, 1, none⟩ = some (.int .i64 0) := (blk_cell BK297.out 1).trans rfl; have hcz10_2 : w9.cell? ⟨gb297, 2, none⟩ = some (.int .i64 0) := (blk_cell BK297.out 2).trans rfl; have hcz10_3 : w9.cell? ⟨gb297, 3, none⟩ = some (.int .i64 0) := (blk_cell BK297.out 3).trans rfl; have hfz10_0 := blk_frozen BK297.out 0; have hfz10_1 := blk_frozen BK297.out 1; have hfz10_2 := blk_frozen BK297.out 2; have hfz10_3 := blk_frozen BK297.out 3))
        (try simp only [Act.put, List.setIfInBounds_toArray, List.set_cons_zero, List.set_cons_succ])
        go_cut [] (fun wc => ∃ (kq : Nat) (x298003_6 : Int), Aside0 (laws_FnEnvelope.j1 kq l1 t293 t294 t295 x298003_6 = some r) ∧ Aside0 (kq ≤ kj2) ∧ Aside0 (wc.heap[gb297]? = some (.cells #[.int .i64 t293, .int .i64 t294, .int .i64 t295, .int .i64 x298003_6] 25 (0, 0))) ∧ Aside0 (Below w.heap.size w wc))
        case first =>
          have H := HC7.out
          clear HC7
          by_cases c11 : t296 > 500000
          · rw [if_pos c11] at H
            have c11b0 : decide (500000 < t296) = true := decide_eq_true c11
            clear c11
            (first | rw [c11b0] | (simp only [i64_w, i32_w]; rw [c11b0]) | skip)
            have H' := Aside0.mk H
            clear H
            have hcz12_0 : w9.cell? ⟨gb297, 0, none⟩ = some (.int .i64 0) := (blk_cell BK297.out 0).trans rfl
            have hcz12_1 : w9.cell? ⟨gb297, 1, none⟩ = some (.int .i64 0) := (blk_cell BK297.out 1).trans rfl
            have hcz12_2 : w9.cell? ⟨gb297, 2, none⟩ = some (.int .i64 0) := (blk_cell BK297.out 2).trans rfl
            have hcz12_3 : w9.cell? ⟨gb297, 3, none⟩ = some (.int .i64 0) := (blk_cell BK297.out 3).trans rfl
            have hfz12_0 := blk_frozen BK297.out 0
            have hfz12_1 := blk_frozen BK297.out 1
            have hfz12_2 := blk_frozen BK297.out 2
            have hfz12_3 := blk_frozen BK297.out 3
            go_wp2
            go_meet
            case rel => exact ⟨_, (0), H', ⟨by have := HJ2.out; first | omega | exact Nat.le_refl _⟩, ⟨by (with_reducible repeat (first | refine blk_drewN ?_ _ | refine blk_drew ?_ | refine blk_alloc ?_ _)); refine blk_put (cs := #[.int .i64 t293, .int .i64 t294, .int .i64 t295, .int .i64 t296]) ?_ 3 _ rfl; (with_reducible repeat (first | refine blk_drewN ?_ _ | refine blk_drew ?_ | refine blk_alloc ?_ _)); refine blk_put (cs := #[.int .i64 t293, .int .i64 t294, .int .i64 t295, .int .i64 0]) ?_ 3 _ rfl; (with_reducible repeat (first | refine blk_drewN ?_ _ | refine blk_drew ?_ | refine blk_alloc ?_ _)); refine blk_put (cs := #[.int .i64 t293, .int .i64 t294, .int .i64 0, .int .i64 0]) ?_ 2 _ rfl; (with_reducible repeat (first | refine blk_drewN ?_ _ | refine blk_drew ?_ | refine blk_alloc ?_ _)); refine blk_put (cs := #[.int .i64 t293, .int .i64 0, .int .i64 0, .int .i64 0]) ?_ 1 _ rfl; (with_reducible repeat (first | refine blk_drewN ?_ _ | refine blk_drew ?_ | refine blk_alloc ?_ _)); refine blk_put (cs := #[.int .i64 0, .int .i64 0, .int .i64 0, .int .i64 0]) ?_ 0 _ rfl; (with_reducible repeat (first | refine blk_drewN ?_ _ | refine blk_drew ?_ | refine blk_alloc ?_ _)); exact BK297.out⟩, ⟨by repeat (first | (with_reducible first | exact HB.out | apply below_alloc | apply pw_below_drewN | apply below_drew1 | refine below_set ?_ GE297.out) | exact HB.out)⟩⟩
          · rw [if_neg c11] at H
            have c11b0 : decide (500000 < t296) = false := decide_eq_false c11
            clear c11
            (first | rw [c11b0] | (simp only [i64_w, i32_w]; rw [c11b0]) | skip)
            have H' := Aside0.mk H
            clear H
            go_wp2
            go_meet
            case rel => exact ⟨_, (t296), H', ⟨by have := HJ2.out; first | omega | exact Nat.le_refl _⟩, ⟨by (with_reducible repeat (first | refine blk_drewN ?_ _ | refine blk_drew ?_ | refine blk_alloc ?_ _)); refine blk_put (cs := #[.int .i64 t293, .int .i64 t294, .int .i64 t295, .int .i64 0]) ?_ 3 _ rfl; (with_reducible repeat (first | refine blk_drewN ?_ _ | refine blk_drew ?_ | refine blk_alloc ?_ _)); refine blk_put (cs := #[.int .i64 t293, .int .i64 t294, .int .i64 0, .int .i64 0]) ?_ 2 _ rfl; (with_reducible repeat (first | refine blk_drewN ?_ _ | refine blk_drew ?_ | refine blk_alloc ?_ _)); refine blk_put (cs := #[.int .i64 t293, .int .i64 0, .int .i64 0, .int .i64 0]) ?_ 1 _ rfl; (with_reducible repeat (first | refine blk_drewN ?_ _ | refine blk_drew ?_ | refine blk_alloc ?_ _)); refine blk_put (cs := #[.int .i64 0, .int .i64 0, .int .i64 0, .int .i64 0]) ?_ 0 _ rfl; (with_reducible repeat (first | refine blk_drewN ?_ _ | refine blk_drew ?_ | refine blk_alloc ?_ _)); exact BK297.out⟩, ⟨by repeat (first | (with_reducible first | exact HB.out | apply below_alloc | apply pw_below_drewN | apply below_drew1 | refine below_set ?_ GE297.out) | exact HB.out)⟩⟩
        case rest =>
          clear HC7
          try clear c1
          try clear c2
          try clear p2
          try clear c4
          try clear c4b0
          try clear c4b1
          try clear c5
          try clear c9
          try clear c11
          try clear c11b0
          try clear hcz10_0
          try clear hcz10_1
          try clear hcz10_2
          try clear hcz10_3
          try clear hcz12_0
          try clear hcz12_1
          try clear hcz12_2
          try clear hcz12_3
          try clear hfz10_0
          try clear hfz10_1
          try clear hfz10_2
          try clear hfz10_3
          try clear hfz12_0
          try clear hfz12_1
          try clear hfz12_2
          try clear hfz12_3
          try clear p2
          obtain ⟨kq, x298003_6, HA, HJ6, BK297, HB⟩ := hcut
          cases kq with
          | zero => exact absurd HA.out (by simp [laws_FnEnvelope.j1])
          | succ kj6 =>
            have H := HA.out
            clear HA
            simp only [laws_FnEnvelope.j1] at H
            replace H := Option.bind_eq_some_iff.mp H
            obtain ⟨t298, A130, H⟩ := H
            replace H : ((impl_BucketRun.f kj6 t293 t294 t295 x298003_6 t298).bind fun bt301 => ((spec_BucketRun.f kj6 t293 t294 t295 x298003_6 t298).bind fun bt310 => (if bt301.2.2.2.2.2 = 0 then ((laws_sameInts.f kj6 bt301.2.2.2.2.1 bt310.2.2.2.2.1).bind fun t319 => (if t319 = true then ((impl_BucketOK.f t293 t294 t295 x298003_6).bind fun t320 => (laws_FnEnvelope.j2 kj6 t298 bt301.2.2.2.2.1 (!t320) t293 t294 t295 x298003_6)) else (laws_FnEnvelope.j2 kj6 t298 bt301.2.2.2.2.1 true t293 t294 t295 x298003_6))) else (laws_FnEnvelope.j2 kj6 t298 bt301.2.2.2.2.1 true t293 t294 t295 x298003_6)))) = some r := H
            have A13 := Aside0.mk A130
            clear A130
            replace H := Option.bind_eq_some_iff.mp H
            obtain ⟨⟨t301, t302, t303, t304, t305, t308⟩, A140, H⟩ := H
            replace H : ((spec_BucketRun.f kj6 t293 t294 t295 x298003_6 t298).bind fun bt310 => (if t308 = 0 then ((laws_sameInts.f kj6 t305 bt310.2.2.2.2.1).bind fun t319 => (if t319 = true then ((impl_BucketOK.f t293 t294 t295 x298003_6).bind fun t320 => (laws_FnEnvelope.j2 kj6 t298 t305 (!t320) t293 t294 t295 x298003_6)) else (laws_FnEnvelope.j2 kj6 t298 t305 true t293 t294 t295 x298003_6))) else (laws_FnEnvelope.j2 kj6 t298 t305 true t293 t294 t295 x298003_6))) = some r := H
            have A14 := Aside0.mk A140
            clear A140
            replace H := Option.bind_eq_some_iff.mp H
            obtain ⟨⟨t310, t311, t312, t313, t314, t317⟩, A150, H⟩ := H
            replace H : (if t308 = 0 then ((laws_sameInts.f kj6 t305 t314).bind fun t319 => (if t319 = true then ((impl_BucketOK.f t293 t294 t295 x298003_6).bind fun t320 => (laws_FnEnvelope.j2 kj6 t298 t305 (!t320) t293 t294 t295 x298003_6)) else (laws_FnEnvelope.j2 kj6 t298 t305 true t293 t294 t295 x298003_6))) else (laws_FnEnvelope.j2 kj6 t298 t305 true t293 t294 t295 x298003_6)) = some r := H
            have A15 := Aside0.mk A150
            clear A150
            have HC16 := Aside0.mk H
            clear H
            go_upto_region 9 with (first | ((with_reducible refine gate_callee (f := 25) rfl ?_); refine goesL_ (some 32) rfl rfl Try.func25 (by kernel_rfl) rfl #[.slice A1 l1.length c1] rfl (by (try simp only [List.map_toArray, List.map_cons, List.map_nil]); first | done | rfl | (simp only [List.length_drop, List.length_take]; rfl)) ?_; (with_reducible refine (spec_BucketActsOf.calls kj6 _ _ l1 t298 _ ?side1 ?side2 A13.out).mono ?_); (case side1 => repeat (first | exact (Kd.C_below HR1.out HB.out) | (with_reducible refine Kd.C_alloc ?_ _) | (with_reducible refine Kd.C_drewN ?_ _) | (with_reducible refine Kd.C_drew ?_))); (case side2 => exact HC1.out); rintro e w17 ⟨v299, rfl, ho0, hb⟩; refine ⟨_, rfl, ?_⟩; have n0_ := Aside0.mk (Kd.R_lower ho0 (below_size (by repeat (first | (with_reducible first | exact HB.out | apply below_alloc | apply pw_below_drewN | apply below_drew1 | refine below_set ?_ GE297.out) | exact HB.out)))); have n1_ := Aside0.mk (blk_below (g := gb297) (o := .cells #[.int .i64 t293, .int .i64 t294, .int .i64 t295, .int .i64 x298003_6] 25 (0, 0)) (by (with_reducible repeat (first | refine blk_drewN ?_ _ | refine blk_drew ?_ | refine blk_alloc ?_ _)); exact BK297.out) hb); have n2_ := Aside0.mk (below_step (by repeat (first | (with_reducible first | exact HB.out | apply below_alloc | apply pw_below_drewN | apply below_drew1 | refine below_set ?_ GE297.out) | exact HB.out)) hb); clear BK297; clear HB; have HO300 := n0_; have BK297 := n1_; have HB := n2_; clear n0_ n1_ n2_; (try clear hb); (try clear hb2); (try clear hk); (try clear hi); (try clear ho0); have hcz18_0 : w17.cell? ⟨gb297, 0, none⟩ = some (.int .i64 t293) := (blk_cell BK297.out 0).trans rfl; have hcz18_1 : w17.cell? ⟨gb297, 1, none⟩ = some (.int .i64 t294) := (blk_cell BK297.out 1).trans rfl; have hcz18_2 : w17.cell? ⟨gb297, 2, none⟩ = some (.int .i64 t295) := (blk_cell BK297.out 2).trans rfl; have hcz18_3 : w17.cell? ⟨gb297, 3, none⟩ = some (.int .i64 x298003_6) := (blk_cell BK297.out 3).trans rfl; have hfz18_0 := blk_frozen BK297.out 0; have hfz18_1 := blk_frozen BK297.out 1; have hfz18_2 := blk_frozen BK297.out 2; have hfz18_3 := blk_frozen BK297.out 3; obtain ⟨Ao19, co19, eo19⟩ := Kd.R_slice HO300.out; subst eo19) | ((with_reducible refine gate_callee (f := 26) rfl ?_); refine goesL_ (some 36) rfl rfl Try.func26 (by kernel_rfl) rfl #[.agg #[.int .i64 t293, .int .i64 t294, .int .i64 t295, .int .i64 x298003_6], .slice Ao19 t298.length co19] rfl (by (try simp only [List.map_toArray, List.map_cons, List.map_nil]); first | done | rfl | (simp only [List.length_drop, List.length_take]; rfl)) ?_; (with_reducible refine (impl_BucketRun.calls kj6 t293 t294 t295 x298003_6 _ _ t298 t301 t302 t303 t304 t305 t308 _ ?side1 ?side2 A14.out).mono ?_); (case side1 => repeat (first | exact (Kd.R_reads' HO300.out).2.2 | (with_reducible refine Kd.C_alloc ?_ _) | (with_reducible refine Kd.C_drewN ?_ _) | (with_reducible refine Kd.C_drew ?_))); (case side2 => exact (Kd.R_reads' HO300.out).2.1); rintro e w20 ⟨v306, rfl, ho0, hb⟩; refine ⟨_, rfl, ?_⟩; have n0_ := Aside0.mk (Kd.R_below (by (with_reducible repeat (first | apply Kd.R_alloc | apply Kd.R_drewN | apply Kd.R_drew)); exact HO300.out) hb); have n1_ := Aside0.mk (Kd.R_lower ho0 (below_size (by repeat (first | (with_reducible first | exact HB.out | apply below_alloc | apply pw_below_drewN | apply below_drew1 | refine below_set ?_ GE297.out) | exact HB.out)))); have n2_ := Aside0.mk (blk_below (g := gb297) (o := .cells #[.int .i64 t293, .int .i64 t294, .int .i64 t295, .int .i64 x298003_6] 25 (0, 0)) (by (with_reducible repeat (first | refine blk_drewN ?_ _ | refine blk_drew ?_ | refine blk_alloc ?_ _)); exact BK297.out) hb); have n3_ := Aside0.mk (below_step (by repeat (first | (with_reducible first | exact HB.out | apply below_alloc | apply pw_below_drewN | apply below_drew1 | refine below_set ?_ GE297.out) | exact HB.out)) hb); clear HO300; clear BK297; clear HB; have HO300 := n0_; have HO307 := n1_; have BK297 := n2_; have HB := n3_; clear n0_ n1_ n2_ n3_; (try clear hb); (try clear hb2); (try clear hk); (try clear hi); (try clear ho0)) | ((with_reducible refine gate_dst (N := 7) rfl ?_); (try (refine gate_guard (by rfl) ?_; dsimp only)); refine box_event ?hg (N := 7) ?hd (cs := #[.int .i64 0, .int .i64 0, .int .i64 0, .int .i64 0]) (t := 25) ?hr ?_; (case hd => rfl); (case hg => rfl); (case hr => first | (go_simp; done) | (go_simp; rfl)); intro gb309 hg w21 hbox hb; have n0_ := Aside0.mk (Kd.R_below (by (with_reducible repeat (first | apply Kd.R_alloc | apply Kd.R_drewN | apply Kd.R_drew)); exact HO300.out) hb); have n1_ := Aside0.mk (Kd.R_below (by (with_reducible repeat (first | apply Kd.R_alloc | apply Kd.R_drewN | apply Kd.R_drew)); exact HO307.out) hb); have n2_ := Aside0.mk (blk_below (g := gb297) (o := .cells #[.int .i64 t293, .int .i64 t294, .int .i64 t295, .int .i64 x298003_6] 25 (0, 0)) (by (with_reducible repeat (first | refine blk_drewN ?_ _ | refine blk_drew ?_ | refine blk_alloc ?_ _)); exact BK297.out) hb); have n3_ := Aside0.mk (below_step (by repeat (first | (with_reducible first | exact HB.out | apply below_alloc | apply pw_below_drewN | apply below_drew1 | refine below_set ?_ GE297.out) | exact HB.out)) hb); have n4_ := Aside0.mk (hbox); have n5_ := Aside0.mk ((by rw [hg]; exact (below_size (by repeat (first | (with_reducible first | exact HB.out | apply below_alloc | apply pw_below_drewN | apply below_drew1 | refine below_set ?_ GE297.out) | exact HB.out))) : w.heap.size ≤ gb309)); have n6_ := Aside0.mk ((by rw [hg]; exact (below_size (by repeat (first | (with_reducible first | exact HB.out | apply below_alloc | apply pw_below_drewN | apply below_drew1 | refine below_set ?_ GE297.out) | exact HB.out))) : w.heap.size ≤ gb309)); have n7_ := Aside0.mk ((by rw [hg]; exact Nat.ne_of_lt (blk_lt (g := gb297) (o := .cells #[.int .i64 t293, .int .i64 t294, .int .i64 t295, .int .i64 x298003_6] 25 (0, 0)) (by (with_reducible repeat (first | refine blk_drewN ?_ _ | refine blk_drew ?_ | refine blk_alloc ?_ _)); exact BK297.out)) : gb297 ≠ gb309)); have n8_ := Aside0.mk ((by rw [hg]; exact Nat.ne_of_gt (blk_lt (g := gb297) (o := .cells #[.int .i64 t293, .int .i64 t294, .int .i64 t295, .int .i64 x298003_6] 25 (0, 0)) (by (with_reducible repeat (first | refine blk_drewN ?_ _ | refine blk_drew ?_ | refine blk_alloc ?_ _)); exact BK297.out)) : gb309 ≠ gb297)); clear HO300; clear HO307; clear BK297; clear HB; have HO300 := n0_; have HO307 := n1_; have BK297 := n2_; have HB := n3_; have BK309 := n4_; have GW309 := n5_; have GE309 := n6_; have NB297_309 := n7_; have NB309_297 := n8_; clear n0_ n1_ n2_ n3_ n4_ n5_ n6_ n7_ n8_; clear hb hbox hg; have hnb22 := NB309_297.out; have hnc22 := NB297_309.out; have hcz23_0 : w21.cell? ⟨gb309, 0, none⟩ = some (.int .i64 0) := (blk_cell BK309.out 0).trans rfl; have hcz23_1 : w21.cell? ⟨gb309, 1, none⟩ = some (.int .i64 0) := (blk_cell BK309.out 1).trans rfl; have hcz23_2 : w21.cell? ⟨gb309, 2, none⟩ = some (.int .i64 0) := (blk_cell BK309.out 2).trans rfl; have hcz23_3 : w21.cell? ⟨gb309, 3, none⟩ = some (.int .i64 0) := (blk_cell BK309.out 3).trans rfl; have hfz23_0 := blk_frozen BK309.out 0; have hfz23_1 := blk_frozen BK309.out 1; have hfz23_2 := blk_frozen BK309.out 2; have hfz23_3 := blk_frozen BK309.out 3; have hcz24_0 : w21.cell? ⟨gb297, 0, none⟩ = some (.int .i64 t293) := (blk_cell BK297.out 0).trans rfl; have hcz24_1 : w21.cell? ⟨gb297, 1, none⟩ = some (.int .i64 t294) := (blk_cell BK297.out 1).trans rfl; have hcz24_2 : w21.cell? ⟨gb297, 2, none⟩ = some (.int .i64 t295) := (blk_cell BK297.out 2).trans rfl; have hcz24_3 : w21.cell? ⟨gb297, 3, none⟩ = some (.int .i64 x298003_6) := (blk_cell BK297.out 3).trans rfl; have hfz24_0 := blk_frozen BK297.out 0; have hfz24_1 := blk_frozen BK297.out 1; have hfz24_2 := blk_frozen BK297.out 2; have hfz24_3 := blk_frozen BK297.out 3) | ((with_reducible refine gate_callee (f := 27) rfl ?_); refine goesL_ (some 43) rfl rfl Try.func27 (by kernel_rfl) rfl #[.agg #[.int .i64 t293, .int .i64 t294, .int .i64 t295, .int .i64 x298003_6], .slice Ao19 t298.length co19] rfl (by (try simp only [List.map_toArray, List.map_cons, List.map_nil]); first | done | rfl | (simp only [List.length_drop, List.length_take]; rfl)) ?_; (with_reducible refine (spec_BucketRun.calls kj6 t293 t294 t295 x298003_6 _ _ t298 t310 t311 t312 t313 t314 t317 _ ?side1 ?side2 A15.out).mono ?_); (case side1 => refine (Kd.R_reads' (e := 47) (base := w.heap.size) (ok := fun k_ => True) (n := t298.length) (c := co19) ?_).2.2; exact (by (with_reducible repeat (first | apply Kd.R_alloc | apply Kd.R_drewN | apply Kd.R_drew)); exact (Kd.R_mono (Kd.R_far (p := ⟨gb309, 3, none⟩) (Kd.R_far (p := ⟨gb309, 2, none⟩) (Kd.R_far (p := ⟨gb309, 1, none⟩) (Kd.R_far (p := ⟨gb309, 0, none⟩) (Kd.R_types HO300.out BK309.out (by decide)) (fun _ hk => by first | exact hk.2 | exact trivial | exact hk.1.2 | exact ⟨hk.1.1, hk.1.2⟩ | exact hk.1 | exact hk | (simp_all; done)) (.int .i64 t301)) (fun _ hk => by first | exact hk.2 | exact trivial | exact hk.1.2 | exact ⟨hk.1.1, hk.1.2⟩ | exact hk.1 | exact hk | (simp_all; done)) (.int .i64 t302)) (fun _ hk => by first | exact hk.2 | exact trivial | exact hk.1.2 | exact ⟨hk.1.1, hk.1.2⟩ | exact hk.1 | exact hk | (simp_all; done)) (.int .i64 t303)) (fun _ hk => by first | exact hk.2 | exact trivial | exact hk.1.2 | exact ⟨hk.1.1, hk.1.2⟩ | exact hk.1 | exact hk | (simp_all; done)) (.int .i64 t304)) (fun _ h_ => h_.1)))); (case side2 => exact (Kd.R_reads' HO300.out).2.1); rintro e w25 ⟨v315, rfl, ho0, hb⟩; refine ⟨_, rfl, ?_⟩; have n0_ := Aside0.mk (Kd.R_below (by (with_reducible repeat (first | apply Kd.R_alloc | apply Kd.R_drewN | apply Kd.R_drew)); exact (Kd.R_mono (Kd.R_far (p := ⟨gb309, 3, none⟩) (Kd.R_far (p := ⟨gb309, 2, none⟩) (Kd.R_far (p := ⟨gb309, 1, none⟩) (Kd.R_far (p := ⟨gb309, 0, none⟩) (Kd.R_types HO300.out BK309.out (by decide)) (fun _ hk => by first | exact hk.2 | exact trivial | exact hk.1.2 | exact ⟨hk.1.1, hk.1.2⟩ | exact hk.1 | exact hk | (simp_all; done)) (.int .i64 t301)) (fun _ hk => by first | exact hk.2 | exact trivial | exact hk.1.2 | exact ⟨hk.1.1, hk.1.2⟩ | exact hk.1 | exact hk | (simp_all; done)) (.int .i64 t302)) (fun _ hk => by first | exact hk.2 | exact trivial | exact hk.1.2 | exact ⟨hk.1.1, hk.1.2⟩ | exact hk.1 | exact hk | (simp_all; done)) (.int .i64 t303)) (fun _ hk => by first | exact hk.2 | exact trivial | exact hk.1.2 | exact ⟨hk.1.1, hk.1.2⟩ | exact hk.1 | exact hk | (simp_all; done)) (.int .i64 t304)) (fun _ h_ => h_.1))) hb); have n1_ := Aside0.mk (Kd.R_elder' (by (with_reducible repeat (first | apply Kd.R_alloc | apply Kd.R_drewN | apply Kd.R_drew)); exact (Kd.R_mono (Kd.R_far (p := ⟨gb309, 3, none⟩) (Kd.R_far (p := ⟨gb309, 2, none⟩) (Kd.R_far (p := ⟨gb309, 1, none⟩) (Kd.R_far (p := ⟨gb309, 0, none⟩) (Kd.R_types HO307.out BK309.out (by decide)) (fun _ hk => by first | exact hk.2 | exact trivial | exact hk.1.2 | exact ⟨hk.1.1, hk.1.2⟩ | exact hk.1 | exact hk | (simp_all; done)) (.int .i64 t301)) (fun _ hk => by first | exact hk.2 | exact trivial | exact hk.1.2 | exact ⟨hk.1.1, hk.1.2⟩ | exact hk.1 | exact hk | (simp_all; done)) (.int .i64 t302)) (fun _ hk => by first | exact hk.2 | exact trivial | exact hk.1.2 | exact ⟨hk.1.1, hk.1.2⟩ | exact hk.1 | exact hk | (simp_all; done)) (.int .i64 t303)) (fun _ hk => by first | exact hk.2 | exact trivial | exact hk.1.2 | exact ⟨hk.1.1, hk.1.2⟩ | exact hk.1 | exact hk | (simp_all; done)) (.int .i64 t304)) (fun _ h_ => h_.1))) (Kd.R_base ho0) hb); have n2_ := Aside0.mk (Kd.R_lower (Kd.R_new' ho0 (Kd.R_lt (by (with_reducible repeat (first | apply Kd.R_alloc | apply Kd.R_drewN | apply Kd.R_drew)); exact (Kd.R_mono (Kd.R_far (p := ⟨gb309, 3, none⟩) (Kd.R_far (p := ⟨gb309, 2, none⟩) (Kd.R_far (p := ⟨gb309, 1, none⟩) (Kd.R_far (p := ⟨gb309, 0, none⟩) (Kd.R_types HO307.out BK309.out (by decide)) (fun _ hk => by first | exact hk.2 | exact trivial | exact hk.1.2 | exact ⟨hk.1.1, hk.1.2⟩ | exact hk.1 | exact hk | (simp_all; done)) (.int .i64 t301)) (fun _ hk => by first | exact hk.2 | exact trivial | exact hk.1.2 | exact ⟨hk.1.1, hk.1.2⟩ | exact hk.1 | exact hk | (simp_all; done)) (.int .i64 t302)) (fun _ hk => by first | exact hk.2 | exact trivial | exact hk.1.2 | exact ⟨hk.1.1, hk.1.2⟩ | exact hk.1 | exact hk | (simp_all; done)) (.int .i64 t303)) (fun _ hk => by first | exact hk.2 | exact trivial | exact hk.1.2 | exact ⟨hk.1.1, hk.1.2⟩ | exact hk.1 | exact hk | (simp_all; done)) (.int .i64 t304)) (fun _ h_ => h_.1))))) (below_size (by repeat (first | (with_reducible first | exact HB.out | apply below_alloc | apply pw_below_drewN | apply below_drew1 | refine below_set ?_ GE297.out | refine below_set ?_ GE309.out) | exact HB.out)))); have n3_ := Aside0.mk (blk_below (g := gb297) (o := .cells #[.int .i64 t293, .int .i64 t294, .int .i64 t295, .int .i64 x298003_6] 25 (0, 0)) (by (with_reducible repeat (first | refine blk_drewN ?_ _ | refine blk_drew ?_ | refine blk_alloc ?_ _)); refine blk_far ?_ NB297_309.out _; (with_reducible repeat (first | refine blk_drewN ?_ _ | refine blk_drew ?_ | refine blk_alloc ?_ _)); refine blk_far ?_ NB297_309.out _; (with_reducible repeat (first | refine blk_drewN ?_ _ | refine blk_drew ?_ | refine blk_alloc ?_ _)); refine blk_far ?_ NB297_309.out _; (with_reducible repeat (first | refine blk_drewN ?_ _ | refine blk_drew ?_ | refine blk_alloc ?_ _)); refine blk_far ?_ NB297_309.out _; (with_reducible repeat (first | refine blk_drewN ?_ _ | refine blk_drew ?_ | refine blk_alloc ?_ _)); exact BK297.out) hb); have n4_ := Aside0.mk (blk_below (g := gb309) (o := .cells #[.int .i64 t301, .int .i64 t302, .int .i64 t303, .int .i64 t304] 25 (0, 0)) (by (with_reducible repeat (first | refine blk_drewN ?_ _ | refine blk_drew ?_ | refine blk_alloc ?_ _)); refine blk_put (cs := #[.int .i64 t301, .int .i64 t302, .int .i64 t303, .int .i64 0]) ?_ 3 _ rfl; (with_reducible repeat (first | refine blk_drewN ?_ _ | refine blk_drew ?_ | refine blk_alloc ?_ _)); refine blk_put (cs := #[.int .i64 t301, .int .i64 t302, .int .i64 0, .int .i64 0]) ?_ 2 _ rfl; (with_reducible repeat (first | refine blk_drewN ?_ _ | refine blk_drew ?_ | refine blk_alloc ?_ _)); refine blk_put (cs := #[.int .i64 t301, .int .i64 0, .int .i64 0, .int .i64 0]) ?_ 1 _ rfl; (with_reducible repeat (first | refine blk_drewN ?_ _ | refine blk_drew ?_ | refine blk_alloc ?_ _)); refine blk_put (cs := #[.int .i64 0, .int .i64 0, .int .i64 0, .int .i64 0]) ?_ 0 _ rfl; (with_reducible repeat (first | refine blk_drewN ?_ _ | refine blk_drew ?_ | refine blk_alloc ?_ _)); exact BK309.out) hb); have n5_ := Aside0.mk (below_step (by repeat (first | (with_reducible first | exact HB.out | apply below_alloc | apply pw_below_drewN | apply below_drew1 | refine below_set ?_ GE297.out | refine below_set ?_ GE309.out) | exact HB.out)) hb); clear HO300; clear HO307; clear BK297; clear BK309; clear HB; have HO300 := n0_; have HO307 := n1_; have HO316 := n2_; have BK297 := n3_; have BK309 := n4_; have HB := n5_; clear n0_ n1_ n2_ n3_ n4_ n5_; (try clear hb); (try clear hb2); (try clear hk); (try clear hi); (try clear ho0)) | ((with_reducible refine gate_dst (N := 10) rfl ?_); (try (refine gate_guard (by rfl) ?_; dsimp only)); refine box_event ?hg (N := 10) ?hd (cs := #[.int .i64 0, .int .i64 0, .int .i64 0, .int .i64 0]) (t := 25) ?hr ?_; (case hd => rfl); (case hg => rfl); (case hr => first | (go_simp; done) | (go_simp; rfl)); intro gb318 hg w26 hbox hb; have n0_ := Aside0.mk (Kd.R_below (by (with_reducible repeat (first | apply Kd.R_alloc | apply Kd.R_drewN | apply Kd.R_drew)); exact HO300.out) hb); have n1_ := Aside0.mk (Kd.R_below (by (with_reducible repeat (first | apply Kd.R_alloc | apply Kd.R_drewN | apply Kd.R_drew)); exact HO307.out) hb); have n2_ := Aside0.mk (Kd.R_below (by (with_reducible repeat (first | apply Kd.R_alloc | apply Kd.R_drewN | apply Kd.R_drew)); exact HO316.out) hb); have n3_ := Aside0.mk (blk_below (g := gb297) (o := .cells #[.int .i64 t293, .int .i64 t294, .int .i64 t295, .int .i64 x298003_6] 25 (0, 0)) (by (with_reducible repeat (first | refine blk_drewN ?_ _ | refine blk_drew ?_ | refine blk_alloc ?_ _)); exact BK297.out) hb); have n4_ := Aside0.mk (blk_below (g := gb309) (o := .cells #[.int .i64 t301, .int .i64 t302, .int .i64 t303, .int .i64 t304] 25 (0, 0)) (by (with_reducible repeat (first | refine blk_drewN ?_ _ | refine blk_drew ?_ | refine blk_alloc ?_ _)); exact BK309.out) hb); have n5_ := Aside0.mk (below_step (by repeat (first | (with_reducible first | exact HB.out | apply below_alloc | apply pw_below_drewN | apply below_drew1 | refine below_set ?_ GE297.out | refine below_set ?_ GE309.out) | exact HB.out)) hb); have n6_ := Aside0.mk (hbox); have n7_ := Aside0.mk ((by rw [hg]; exact (below_size (by repeat (first | (with_reducible first | exact HB.out | apply below_alloc | apply pw_below_drewN | apply below_drew1 | refine below_set ?_ GE297.out | refine below_set ?_ GE309.out) | exact HB.out))) : w.heap.size ≤ gb318)); have n8_ := Aside0.mk ((by rw [hg]; exact (below_size (by repeat (first | (with_reducible first | exact HB.out | apply below_alloc | apply pw_below_drewN | apply below_drew1 | refine below_set ?_ GE297.out | refine below_set ?_ GE309.out) | exact HB.out))) : w.heap.size ≤ gb318)); have n9_ := Aside0.mk ((by rw [hg]; exact Nat.ne_of_lt (blk_lt (g := gb297) (o := .cells #[.int .i64 t293, .int .i64 t294, .int .i64 t295, .int .i64 x298003_6] 25 (0, 0)) (by (with_reducible repeat (first | refine blk_drewN ?_ _ | refine blk_drew ?_ | refine blk_alloc ?_ _)); exact BK297.out)) : gb297 ≠ gb318)); have n10_ := Aside0.mk ((by rw [hg]; exact Nat.ne_of_gt (blk_lt (g := gb297) (o := .cells #[.int .i64 t293, .int .i64 t294, .int .i64 t295, .int .i64 x298003_6] 25 (0, 0)) (by (with_reducible repeat (first | refine blk_drewN ?_ _ | refine blk_drew ?_ | refine blk_alloc ?_ _)); exact BK297.out)) : gb318 ≠ gb297)); have n11_ := Aside0.mk ((by rw [hg]; exact Nat.ne_of_lt (blk_lt (g := gb309) (o := .cells #[.int .i64 t301, .int .i64 t302, .int .i64 t303, .int .i64 t304] 25 (0, 0)) (by (with_reducible repeat (first | refine blk_drewN ?_ _ | refine blk_drew ?_ | refine blk_alloc ?_ _)); exact BK309.out)) : gb309 ≠ gb318)); have n12_ := Aside0.mk ((by rw [hg]; exact Nat.ne_of_gt (blk_lt (g := gb309) (o := .cells #[.int .i64 t301, .int .i64 t302, .int .i64 t303, .int .i64 t304] 25 (0, 0)) (by (with_reducible repeat (first | refine blk_drewN ?_ _ | refine blk_drew ?_ | refine blk_alloc ?_ _)); exact BK309.out)) : gb318 ≠ gb309)); clear HO300; clear HO307; clear HO316; clear BK297; clear BK309; clear HB; have HO300 := n0_; have HO307 := n1_; have HO316 := n2_; have BK297 := n3_; have BK309 := n4_; have HB := n5_; have BK318 := n6_; have GW318 := n7_; have GE318 := n8_; have NB297_318 := n9_; have NB318_297 := n10_; have NB309_318 := n11_; have NB318_309 := n12_; clear n0_ n1_ n2_ n3_ n4_ n5_ n6_ n7_ n8_ n9_ n10_ n11_ n12_; clear hb hbox hg; have hnb27 := NB318_297.out; have hnc27 := NB297_318.out; have hnb28 := NB318_309.out; have hnc28 := NB309_318.out; have hcz29_0 : w26.cell? ⟨gb318, 0, none⟩ = some (.int .i64 0) := (blk_cell BK318.out 0).trans rfl; have hcz29_1 : w26.cell? ⟨gb318, 1, none⟩ = some (.int .i64 0) := (blk_cell BK318.out 1).trans rfl; have hcz29_2 : w26.cell? ⟨gb318, 2, none⟩ = some (.int .i64 0) := (blk_cell BK318.out 2).trans rfl; have hcz29_3 : w26.cell? ⟨gb318, 3, none⟩ = some (.int .i64 0) := (blk_cell BK318.out 3).trans rfl; have hfz29_0 := blk_frozen BK318.out 0; have hfz29_1 := blk_frozen BK318.out 1; have hfz29_2 := blk_frozen BK318.out 2; have hfz29_3 := blk_frozen BK318.out 3))
            (try simp only [Act.put, List.setIfInBounds_toArray, List.set_cons_zero, List.set_cons_succ])
            go_cut [59] (fun v59 wc => ∃ (kq : Nat) (x59_15 : Bool), v59 = .bool x59_15 ∧ Aside0 (laws_FnEnvelope.j2 kq t298 t305 x59_15 t293 t294 t295 x298003_6 = some r) ∧ Aside0 (kq ≤ kj6) ∧ Aside0 (Kd.R k47 47 wc w.heap.size (fun _ => True) (.slice Ao19 t298.length co19) t298) ∧ Aside0 (Kd.R (Kd.int .i64) 3 wc w.heap.size (fun _ => True) v306 t305) ∧ Aside0 (wc.heap[gb297]? = some (.cells #[.int .i64 t293, .int .i64 t294, .int .i64 t295, .int .i64 x298003_6] 25 (0, 0))) ∧ Aside0 (wc.heap[gb309]? = some (.cells #[.int .i64 t301, .int .i64 t302, .int .i64 t303, .int .i64 t304] 25 (0, 0))) ∧ Aside0 (wc.heap[gb318]? = some (.cells #[.int .i64 t310, .int .i64 t311, .int .i64 t312, .int .i64 t313] 25 (0, 0))) ∧ Aside0 (Below w.heap.size w wc))
            case first =>
              have H := HC16.out
              clear HC16
              by_cases c30 : t308 = 0
              · rw [if_pos c30] at H
                have c30b0 : (t308 == 0) = true := beq_iff_eq.mpr c30
                have c30b1 : (t308 != 0) = false := bne_eq_false_iff_eq.mpr c30
                clear c30
                (first | rw [c30b0] | (simp only [i64_w, i32_w]; rw [c30b0]) | skip)
                replace H := Option.bind_eq_some_iff.mp H
                obtain ⟨t319, A310, H⟩ := H
                replace H : (if t319 = true then ((impl_BucketOK.f t293 t294 t295 x298003_6).bind fun t320 => (laws_FnEnvelope.j2 kj6 t298 t305 (!t320) t293 t294 t295 x298003_6)) else (laws_FnEnvelope.j2 kj6 t298 t305 true t293 t294 t295 x298003_6)) = some r := H
                have A31 := Aside0.mk A310
                clear A310
                by_cases c32 : t319 = true
                · subst c32
                  have H1 : ((impl_BucketOK.f t293 t294 t295 x298003_6).bind fun t320 => (laws_FnEnvelope.j2 kj6 t298 t305 (!t320) t293 t294 t295 x298003_6)) = some r := by rw [if_pos rfl] at H; exact H
                  clear H
                  have H := H1
                  clear H1
                  replace H := Option.bind_eq_some_iff.mp H
                  obtain ⟨t320, A330, H⟩ := H
                  replace H : (laws_FnEnvelope.j2 kj6 t298 t305 (!t320) t293 t294 t295 x298003_6) = some r := H
                  have A33 := Aside0.mk A330
                  clear A330
                  have H' := Aside0.mk H
                  clear H
                  obtain ⟨Ao34, co34, eo34⟩ := Kd.R_slice HO307.out
                  subst eo34
                  obtain ⟨Ao35, co35, eo35⟩ := Kd.R_slice HO316.out
                  subst eo35
                  go_wp2_with (first | (go_at_call 28; (with_reducible refine (laws_sameInts.calls kj6 _ _ t305 _ _ t314 true _ ?side1 ?side2 ?side3 ?side4 A31.out).mono ?_); (case side1 => refine (Kd.R_reads' (e := 3) (base := w.heap.size) (ok := fun k_ => (True ∧ some k_ ≠ (.slice Ao35 t314.length co35 : Value).ownBlock)) (n := t305.length) (c := co34) ?_).2.2; exact (by (with_reducible repeat (first | apply Kd.R_alloc | apply Kd.R_drewN | apply Kd.R_drew)); exact (Kd.R_mono (Kd.R_far (p := ⟨gb318, 3, none⟩) (Kd.R_far (p := ⟨gb318, 2, none⟩) (Kd.R_far (p := ⟨gb318, 1, none⟩) (Kd.R_far (p := ⟨gb318, 0, none⟩) (Kd.R_types HO307.out BK318.out (by decide)) (fun _ hk => by first | exact hk.2 | exact trivial | exact hk.1.2 | exact ⟨hk.1.1, hk.1.2⟩ | exact hk.1 | exact hk | (simp_all; done)) (.int .i64 t310)) (fun _ hk => by first | exact hk.2 | exact trivial | exact hk.1.2 | exact ⟨hk.1.1, hk.1.2⟩ | exact hk.1 | exact hk | (simp_all; done)) (.int .i64 t311)) (fun _ hk => by first | exact hk.2 | exact trivial | exact hk.1.2 | exact ⟨hk.1.1, hk.1.2⟩ | exact hk.1 | exact hk | (simp_all; done)) (.int .i64 t312)) (fun _ hk => by first | exact hk.2 | exact trivial | exact hk.1.2 | exact ⟨hk.1.1, hk.1.2⟩ | exact hk.1 | exact hk | (simp_all; done)) (.int .i64 t313)) (fun _ h_ => h_.1)))); (case side2 => exact (Kd.R_reads' HO307.out).2.1); (case side3 => refine (Kd.R_reads' (e := 3) (base := w.heap.size) (ok := fun k_ => (True ∧ some k_ ≠ (.slice Ao34 t305.length co34 : Value).ownBlock)) (n := t314.length) (c := co35) ?_).2.2; exact (by (with_reducible repeat (first | apply Kd.R_alloc | apply Kd.R_drewN | apply Kd.R_drew)); exact (Kd.R_mono (Kd.R_far (p := ⟨gb318, 3, none⟩) (Kd.R_far (p := ⟨gb318, 2, none⟩) (Kd.R_far (p := ⟨gb318, 1, none⟩) (Kd.R_far (p := ⟨gb318, 0, none⟩) (Kd.R_types HO316.out BK318.out (by decide)) (fun _ hk => by first | exact hk.2 | exact trivial | exact hk.1.2 | exact ⟨hk.1.1, hk.1.2⟩ | exact hk.1 | exact hk | (simp_all; done)) (.int .i64 t310)) (fun _ hk => by first | exact hk.2 | exact trivial | exact hk.1.2 | exact ⟨hk.1.1, hk.1.2⟩ | exact hk.1 | exact hk | (simp_all; done)) (.int .i64 t311)) (fun _ hk => by first | exact hk.2 | exact trivial | exact hk.1.2 | exact ⟨hk.1.1, hk.1.2⟩ | exact hk.1 | exact hk | (simp_all; done)) (.int .i64 t312)) (fun _ hk => by first | exact hk.2 | exact trivial | exact hk.1.2 | exact ⟨hk.1.1, hk.1.2⟩ | exact hk.1 | exact hk | (simp_all; done)) (.int .i64 t313)) (fun _ h_ => h_.1)))); (case side4 => exact (Kd.R_reads' HO316.out).2.1); rintro e w' ⟨rfl, ⟨nd, rfl⟩⟩; have hnb36 := NB297_309.out; have hnc36 := NB309_297.out; have hnb37 := NB297_318.out; have hnc37 := NB318_297.out; have hcz38_0 : w26.cell? ⟨gb297, 0, none⟩ = some (.int .i64 t293) := (blk_cell BK297.out 0).trans rfl; have hcz38_1 : w26.cell? ⟨gb297, 1, none⟩ = some (.int .i64 t294) := (blk_cell BK297.out 1).trans rfl; have hcz38_2 : w26.cell? ⟨gb297, 2, none⟩ = some (.int .i64 t295) := (blk_cell BK297.out 2).trans rfl; have hcz38_3 : w26.cell? ⟨gb297, 3, none⟩ = some (.int .i64 x298003_6) := (blk_cell BK297.out 3).trans rfl; have hfz38_0 := blk_frozen BK297.out 0; have hfz38_1 := blk_frozen BK297.out 1; have hfz38_2 := blk_frozen BK297.out 2; have hfz38_3 := blk_frozen BK297.out 3) | (go_at_call 13; (with_reducible refine (impl_BucketOK.calls t293 t294 t295 x298003_6 t320 _ A33.out).mono ?_); rintro e w39 ⟨rfl, hb⟩; have n0_ := Aside0.mk (Kd.R_below (by (with_reducible repeat (first | apply Kd.R_alloc | apply Kd.R_drewN | apply Kd.R_drew)); exact (Kd.R_mono (Kd.R_far (p := ⟨gb318, 3, none⟩) (Kd.R_far (p := ⟨gb318, 2, none⟩) (Kd.R_far (p := ⟨gb318, 1, none⟩) (Kd.R_far (p := ⟨gb318, 0, none⟩) (Kd.R_types HO300.out BK318.out (by decide)) (fun _ hk => by first | exact hk.2 | exact trivial | exact hk.1.2 | exact ⟨hk.1.1, hk.1.2⟩ | exact hk.1 | exact hk | (simp_all; done)) (.int .i64 t310)) (fun _ hk => by first | exact hk.2 | exact trivial | exact hk.1.2 | exact ⟨hk.1.1, hk.1.2⟩ | exact hk.1 | exact hk | (simp_all; done)) (.int .i64 t311)) (fun _ hk => by first | exact hk.2 | exact trivial | exact hk.1.2 | exact ⟨hk.1.1, hk.1.2⟩ | exact hk.1 | exact hk | (simp_all; done)) (.int .i64 t312)) (fun _ hk => by first | exact hk.2 | exact trivial | exact hk.1.2 | exact ⟨hk.1.1, hk.1.2⟩ | exact hk.1 | exact hk | (simp_all; done)) (.int .i64 t313)) (fun _ h_ => h_.1))) hb); have n1_ := Aside0.mk (Kd.R_below (by (with_reducible repeat (first | apply Kd.R_alloc | apply Kd.R_drewN | apply Kd.R_drew)); exact (Kd.R_mono (Kd.R_far (p := ⟨gb318, 3, none⟩) (Kd.R_far (p := ⟨gb318, 2, none⟩) (Kd.R_far (p := ⟨gb318, 1, none⟩) (Kd.R_far (p := ⟨gb318, 0, none⟩) (Kd.R_types HO307.out BK318.out (by decide)) (fun _ hk => by first | exact hk.2 | exact trivial | exact hk.1.2 | exact ⟨hk.1.1, hk.1.2⟩ | exact hk.1 | exact hk | (simp_all; done)) (.int .i64 t310)) (fun _ hk => by first | exact hk.2 | exact trivial | exact hk.1.2 | exact ⟨hk.1.1, hk.1.2⟩ | exact hk.1 | exact hk | (simp_all; done)) (.int .i64 t311)) (fun _ hk => by first | exact hk.2 | exact trivial | exact hk.1.2 | exact ⟨hk.1.1, hk.1.2⟩ | exact hk.1 | exact hk | (simp_all; done)) (.int .i64 t312)) (fun _ hk => by first | exact hk.2 | exact trivial | exact hk.1.2 | exact ⟨hk.1.1, hk.1.2⟩ | exact hk.1 | exact hk | (simp_all; done)) (.int .i64 t313)) (fun _ h_ => h_.1))) hb); have n2_ := Aside0.mk (Kd.R_below (by (with_reducible repeat (first | apply Kd.R_alloc | apply Kd.R_drewN | apply Kd.R_drew)); exact (Kd.R_mono (Kd.R_far (p := ⟨gb318, 3, none⟩) (Kd.R_far (p := ⟨gb318, 2, none⟩) (Kd.R_far (p := ⟨gb318, 1, none⟩) (Kd.R_far (p := ⟨gb318, 0, none⟩) (Kd.R_types HO316.out BK318.out (by decide)) (fun _ hk => by first | exact hk.2 | exact trivial | exact hk.1.2 | exact ⟨hk.1.1, hk.1.2⟩ | exact hk.1 | exact hk | (simp_all; done)) (.int .i64 t310)) (fun _ hk => by first | exact hk.2 | exact trivial | exact hk.1.2 | exact ⟨hk.1.1, hk.1.2⟩ | exact hk.1 | exact hk | (simp_all; done)) (.int .i64 t311)) (fun _ hk => by first | exact hk.2 | exact trivial | exact hk.1.2 | exact ⟨hk.1.1, hk.1.2⟩ | exact hk.1 | exact hk | (simp_all; done)) (.int .i64 t312)) (fun _ hk => by first | exact hk.2 | exact trivial | exact hk.1.2 | exact ⟨hk.1.1, hk.1.2⟩ | exact hk.1 | exact hk | (simp_all; done)) (.int .i64 t313)) (fun _ h_ => h_.1))) hb); have n3_ := Aside0.mk (blk_below (g := gb297) (o := .cells #[.int .i64 t293, .int .i64 t294, .int .i64 t295, .int .i64 x298003_6] 25 (0, 0)) (by (with_reducible repeat (first | refine blk_drewN ?_ _ | refine blk_drew ?_ | refine blk_alloc ?_ _)); refine blk_far ?_ NB297_318.out _; (with_reducible repeat (first | refine blk_drewN ?_ _ | refine blk_drew ?_ | refine blk_alloc ?_ _)); refine blk_far ?_ NB297_318.out _; (with_reducible repeat (first | refine blk_drewN ?_ _ | refine blk_drew ?_ | refine blk_alloc ?_ _)); refine blk_far ?_ NB297_318.out _; (with_reducible repeat (first | refine blk_drewN ?_ _ | refine blk_drew ?_ | refine blk_alloc ?_ _)); refine blk_far ?_ NB297_318.out _; (with_reducible repeat (first | refine blk_drewN ?_ _ | refine blk_drew ?_ | refine blk_alloc ?_ _)); exact BK297.out) hb); have n4_ := Aside0.mk (blk_below (g := gb309) (o := .cells #[.int .i64 t301, .int .i64 t302, .int .i64 t303, .int .i64 t304] 25 (0, 0)) (by (with_reducible repeat (first | refine blk_drewN ?_ _ | refine blk_drew ?_ | refine blk_alloc ?_ _)); refine blk_far ?_ NB309_318.out _; (with_reducible repeat (first | refine blk_drewN ?_ _ | refine blk_drew ?_ | refine blk_alloc ?_ _)); refine blk_far ?_ NB309_318.out _; (with_reducible repeat (first | refine blk_drewN ?_ _ | refine blk_drew ?_ | refine blk_alloc ?_ _)); refine blk_far ?_ NB309_318.out _; (with_reducible repeat (first | refine blk_drewN ?_ _ | refine blk_drew ?_ | refine blk_alloc ?_ _)); refine blk_far ?_ NB309_318.out _; (with_reducible repeat (first | refine blk_drewN ?_ _ | refine blk_drew ?_ | refine blk_alloc ?_ _)); exact BK309.out) hb); have n5_ := Aside0.mk (blk_below (g := gb318) (o := .cells #[.int .i64 t310, .int .i64 t311, .int .i64 t312, .int .i64 t313] 25 (0, 0)) (by (with_reducible repeat (first | refine blk_drewN ?_ _ | refine blk_drew ?_ | refine blk_alloc ?_ _)); refine blk_put (cs := #[.int .i64 t310, .int .i64 t311, .int .i64 t312, .int .i64 0]) ?_ 3 _ rfl; (with_reducible repeat (first | refine blk_drewN ?_ _ | refine blk_drew ?_ | refine blk_alloc ?_ _)); refine blk_put (cs := #[.int .i64 t310, .int .i64 t311, .int .i64 0, .int .i64 0]) ?_ 2 _ rfl; (with_reducible repeat (first | refine blk_drewN ?_ _ | refine blk_drew ?_ | refine blk_alloc ?_ _)); refine blk_put (cs := #[.int .i64 t310, .int .i64 0, .int .i64 0, .int .i64 0]) ?_ 1 _ rfl; (with_reducible repeat (first | refine blk_drewN ?_ _ | refine blk_drew ?_ | refine blk_alloc ?_ _)); refine blk_put (cs := #[.int .i64 0, .int .i64 0, .int .i64 0, .int .i64 0]) ?_ 0 _ rfl; (with_reducible repeat (first | refine blk_drewN ?_ _ | refine blk_drew ?_ | refine blk_alloc ?_ _)); exact BK318.out) hb); have n6_ := Aside0.mk (below_step (by repeat (first | (with_reducible first | exact HB.out | apply below_alloc | apply pw_below_drewN | apply below_drew1 | refine below_set ?_ GE297.out | refine below_set ?_ GE309.out | refine below_set ?_ GE318.out) | exact HB.out)) hb); clear HO300; clear HO307; clear HO316; clear BK297; clear BK309; clear BK318; clear HB; have HO300 := n0_; have HO307 := n1_; have HO316 := n2_; have BK297 := n3_; have BK309 := n4_; have BK318 := n5_; have HB := n6_; clear n0_ n1_ n2_ n3_ n4_ n5_ n6_; (try clear hb); (try clear hb2); (try clear hk); (try clear hi)))
                  go_meet
                  case rel => exact ⟨_, (!t320), (by first | rfl | (simp; done) | (simp [*]; done)), H', ⟨by have := HJ2.out; have := HJ6.out; first | omega | exact Nat.le_refl _⟩, ⟨by (with_reducible repeat (first | apply Kd.R_alloc | apply Kd.R_drewN | apply Kd.R_drew)); exact HO300.out⟩, ⟨by (with_reducible repeat (first | apply Kd.R_alloc | apply Kd.R_drewN | apply Kd.R_drew)); exact Kd.R_mono HO307.out (fun _ hk => trivial)⟩, ⟨by (with_reducible repeat (first | refine blk_drewN ?_ _ | refine blk_drew ?_ | refine blk_alloc ?_ _)); exact BK297.out⟩, ⟨by (with_reducible repeat (first | refine blk_drewN ?_ _ | refine blk_drew ?_ | refine blk_alloc ?_ _)); exact BK309.out⟩, ⟨by (with_reducible repeat (first | refine blk_drewN ?_ _ | refine blk_drew ?_ | refine blk_alloc ?_ _)); exact BK318.out⟩, ⟨by repeat (first | (with_reducible first | exact HB.out | apply below_alloc | apply pw_below_drewN | apply below_drew1 | refine below_set ?_ GE297.out | refine below_set ?_ GE309.out | refine below_set ?_ GE318.out) | exact HB.out)⟩⟩
                · replace c32 := Bool.eq_false_iff.mpr c32
                  subst c32
                  have H1 : (laws_FnEnvelope.j2 kj6 t298 t305 true t293 t294 t295 x298003_6) = some r := by rw [if_neg (show ¬ (false = true) by decide)] at H; exact H
                  clear H
                  have H := H1
                  clear H1
                  have H' := Aside0.mk H
                  clear H
                  obtain ⟨Ao40, co40, eo40⟩ := Kd.R_slice HO307.out
                  subst eo40
                  obtain ⟨Ao41, co41, eo41⟩ := Kd.R_slice HO316.out
                  subst eo41
                  go_wp2_with (first | (go_at_call 28; (with_reducible refine (laws_sameInts.calls kj6 _ _ t305 _ _ t314 false _ ?side1 ?side2 ?side3 ?side4 A31.out).mono ?_); (case side1 => refine (Kd.R_reads' (e := 3) (base := w.heap.size) (ok := fun k_ => (True ∧ some k_ ≠ (.slice Ao41 t314.length co41 : Value).ownBlock)) (n := t305.length) (c := co40) ?_).2.2; exact (by (with_reducible repeat (first | apply Kd.R_alloc | apply Kd.R_drewN | apply Kd.R_drew)); exact (Kd.R_mono (Kd.R_far (p := ⟨gb318, 3, none⟩) (Kd.R_far (p := ⟨gb318, 2, none⟩) (Kd.R_far (p := ⟨gb318, 1, none⟩) (Kd.R_far (p := ⟨gb318, 0, none⟩) (Kd.R_types HO307.out BK318.out (by decide)) (fun _ hk => by first | exact hk.2 | exact trivial | exact hk.1.2 | exact ⟨hk.1.1, hk.1.2⟩ | exact hk.1 | exact hk | (simp_all; done)) (.int .i64 t310)) (fun _ hk => by first | exact hk.2 | exact trivial | exact hk.1.2 | exact ⟨hk.1.1, hk.1.2⟩ | exact hk.1 | exact hk | (simp_all; done)) (.int .i64 t311)) (fun _ hk => by first | exact hk.2 | exact trivial | exact hk.1.2 | exact ⟨hk.1.1, hk.1.2⟩ | exact hk.1 | exact hk | (simp_all; done)) (.int .i64 t312)) (fun _ hk => by first | exact hk.2 | exact trivial | exact hk.1.2 | exact ⟨hk.1.1, hk.1.2⟩ | exact hk.1 | exact hk | (simp_all; done)) (.int .i64 t313)) (fun _ h_ => h_.1)))); (case side2 => exact (Kd.R_reads' HO307.out).2.1); (case side3 => refine (Kd.R_reads' (e := 3) (base := w.heap.size) (ok := fun k_ => (True ∧ some k_ ≠ (.slice Ao40 t305.length co40 : Value).ownBlock)) (n := t314.length) (c := co41) ?_).2.2; exact (by (with_reducible repeat (first | apply Kd.R_alloc | apply Kd.R_drewN | apply Kd.R_drew)); exact (Kd.R_mono (Kd.R_far (p := ⟨gb318, 3, none⟩) (Kd.R_far (p := ⟨gb318, 2, none⟩) (Kd.R_far (p := ⟨gb318, 1, none⟩) (Kd.R_far (p := ⟨gb318, 0, none⟩) (Kd.R_types HO316.out BK318.out (by decide)) (fun _ hk => by first | exact hk.2 | exact trivial | exact hk.1.2 | exact ⟨hk.1.1, hk.1.2⟩ | exact hk.1 | exact hk | (simp_all; done)) (.int .i64 t310)) (fun _ hk => by first | exact hk.2 | exact trivial | exact hk.1.2 | exact ⟨hk.1.1, hk.1.2⟩ | exact hk.1 | exact hk | (simp_all; done)) (.int .i64 t311)) (fun _ hk => by first | exact hk.2 | exact trivial | exact hk.1.2 | exact ⟨hk.1.1, hk.1.2⟩ | exact hk.1 | exact hk | (simp_all; done)) (.int .i64 t312)) (fun _ hk => by first | exact hk.2 | exact trivial | exact hk.1.2 | exact ⟨hk.1.1, hk.1.2⟩ | exact hk.1 | exact hk | (simp_all; done)) (.int .i64 t313)) (fun _ h_ => h_.1)))); (case side4 => exact (Kd.R_reads' HO316.out).2.1); rintro e w' ⟨rfl, ⟨nd, rfl⟩⟩))
                  go_meet
                  case rel => exact ⟨_, (true), (by first | rfl | (simp; done) | (simp [*]; done)), H', ⟨by have := HJ2.out; have := HJ6.out; first | omega | exact Nat.le_refl _⟩, ⟨by (with_reducible repeat (first | apply Kd.R_alloc | apply Kd.R_drewN | apply Kd.R_drew)); exact Kd.R_mono (Kd.R_far (p := ⟨gb318, 3, none⟩) (Kd.R_far (p := ⟨gb318, 2, none⟩) (Kd.R_far (p := ⟨gb318, 1, none⟩) (Kd.R_far (p := ⟨gb318, 0, none⟩) (Kd.R_types HO300.out BK318.out (by decide)) (fun _ hk => by first | exact hk.2 | exact trivial | exact hk.1.2 | exact ⟨hk.1.1, hk.1.2⟩ | exact hk.1 | exact hk | (simp_all; done)) (.int .i64 t310)) (fun _ hk => by first | exact hk.2 | exact trivial | exact hk.1.2 | exact ⟨hk.1.1, hk.1.2⟩ | exact hk.1 | exact hk | (simp_all; done)) (.int .i64 t311)) (fun _ hk => by first | exact hk.2 | exact trivial | exact hk.1.2 | exact ⟨hk.1.1, hk.1.2⟩ | exact hk.1 | exact hk | (simp_all; done)) (.int .i64 t312)) (fun _ hk => by first | exact hk.2 | exact trivial | exact hk.1.2 | exact ⟨hk.1.1, hk.1.2⟩ | exact hk.1 | exact hk | (simp_all; done)) (.int .i64 t313)) (fun _ hk => trivial)⟩, ⟨by (with_reducible repeat (first | apply Kd.R_alloc | apply Kd.R_drewN | apply Kd.R_drew)); exact Kd.R_mono (Kd.R_far (p := ⟨gb318, 3, none⟩) (Kd.R_far (p := ⟨gb318, 2, none⟩) (Kd.R_far (p := ⟨gb318, 1, none⟩) (Kd.R_far (p := ⟨gb318, 0, none⟩) (Kd.R_types HO307.out BK318.out (by decide)) (fun _ hk => by first | exact hk.2 | exact trivial | exact hk.1.2 | exact ⟨hk.1.1, hk.1.2⟩ | exact hk.1 | exact hk | (simp_all; done)) (.int .i64 t310)) (fun _ hk => by first | exact hk.2 | exact trivial | exact hk.1.2 | exact ⟨hk.1.1, hk.1.2⟩ | exact hk.1 | exact hk | (simp_all; done)) (.int .i64 t311)) (fun _ hk => by first | exact hk.2 | exact trivial | exact hk.1.2 | exact ⟨hk.1.1, hk.1.2⟩ | exact hk.1 | exact hk | (simp_all; done)) (.int .i64 t312)) (fun _ hk => by first | exact hk.2 | exact trivial | exact hk.1.2 | exact ⟨hk.1.1, hk.1.2⟩ | exact hk.1 | exact hk | (simp_all; done)) (.int .i64 t313)) (fun _ hk => trivial)⟩, ⟨by (with_reducible repeat (first | refine blk_drewN ?_ _ | refine blk_drew ?_ | refine blk_alloc ?_ _)); refine blk_far ?_ NB297_318.out _; (with_reducible repeat (first | refine blk_drewN ?_ _ | refine blk_drew ?_ | refine blk_alloc ?_ _)); refine blk_far ?_ NB297_318.out _; (with_reducible repeat (first | refine blk_drewN ?_ _ | refine blk_drew ?_ | refine blk_alloc ?_ _)); refine blk_far ?_ NB297_318.out _; (with_reducible repeat (first | refine blk_drewN ?_ _ | refine blk_drew ?_ | refine blk_alloc ?_ _)); refine blk_far ?_ NB297_318.out _; (with_reducible repeat (first | refine blk_drewN ?_ _ | refine blk_drew ?_ | refine blk_alloc ?_ _)); exact BK297.out⟩, ⟨by (with_reducible repeat (first | refine blk_drewN ?_ _ | refine blk_drew ?_ | refine blk_alloc ?_ _)); refine blk_far ?_ NB309_318.out _; (with_reducible repeat (first | refine blk_drewN ?_ _ | refine blk_drew ?_ | refine blk_alloc ?_ _)); refine blk_far ?_ NB309_318.out _; (with_reducible repeat (first | refine blk_drewN ?_ _ | refine blk_drew ?_ | refine blk_alloc ?_ _)); refine blk_far ?_ NB309_318.out _; (with_reducible repeat (first | refine blk_drewN ?_ _ | refine blk_drew ?_ | refine blk_alloc ?_ _)); refine blk_far ?_ NB309_318.out _; (with_reducible repeat (first | refine blk_drewN ?_ _ | refine blk_drew ?_ | refine blk_alloc ?_ _)); exact BK309.out⟩, ⟨by (with_reducible repeat (first | refine blk_drewN ?_ _ | refine blk_drew ?_ | refine blk_alloc ?_ _)); refine blk_put (cs := #[.int .i64 t310, .int .i64 t311, .int .i64 t312, .int .i64 0]) ?_ 3 _ rfl; (with_reducible repeat (first | refine blk_drewN ?_ _ | refine blk_drew ?_ | refine blk_alloc ?_ _)); refine blk_put (cs := #[.int .i64 t310, .int .i64 t311, .int .i64 0, .int .i64 0]) ?_ 2 _ rfl; (with_reducible repeat (first | refine blk_drewN ?_ _ | refine blk_drew ?_ | refine blk_alloc ?_ _)); refine blk_put (cs := #[.int .i64 t310, .int .i64 0, .int .i64 0, .int .i64 0]) ?_ 1 _ rfl; (with_reducible repeat (first | refine blk_drewN ?_ _ | refine blk_drew ?_ | refine blk_alloc ?_ _)); refine blk_put (cs := #[.int .i64 0, .int .i64 0, .int .i64 0, .int .i64 0]) ?_ 0 _ rfl; (with_reducible repeat (first | refine blk_drewN ?_ _ | refine blk_drew ?_ | refine blk_alloc ?_ _)); exact BK318.out⟩, ⟨by repeat (first | (with_reducible first | exact HB.out | apply below_alloc | apply pw_below_drewN | apply below_drew1 | refine below_set ?_ GE297.out | refine below_set ?_ GE309.out | refine below_set ?_ GE318.out) | exact HB.out)⟩⟩
              · rw [if_neg c30] at H
                have c30b0 : (t308 == 0) = false := beq_eq_false_iff_ne.mpr c30
                have c30b1 : (t308 != 0) = true := bne_iff_ne.mpr c30
                (first | rw [c30b0] | (simp only [i64_w, i32_w]; rw [c30b0]) | skip)
                have H' := Aside0.mk H
                clear H
                go_wp2
                go_meet
                case rel => exact ⟨_, (true), (by first | rfl | (simp; done) | (simp [*]; done)), H', ⟨by have := HJ2.out; have := HJ6.out; first | omega | exact Nat.le_refl _⟩, ⟨by (with_reducible repeat (first | apply Kd.R_alloc | apply Kd.R_drewN | apply Kd.R_drew)); exact Kd.R_mono (Kd.R_far (p := ⟨gb318, 3, none⟩) (Kd.R_far (p := ⟨gb318, 2, none⟩) (Kd.R_far (p := ⟨gb318, 1, none⟩) (Kd.R_far (p := ⟨gb318, 0, none⟩) (Kd.R_types HO300.out BK318.out (by decide)) (fun _ hk => by first | exact hk.2 | exact trivial | exact hk.1.2 | exact ⟨hk.1.1, hk.1.2⟩ | exact hk.1 | exact hk | (simp_all; done)) (.int .i64 t310)) (fun _ hk => by first | exact hk.2 | exact trivial | exact hk.1.2 | exact ⟨hk.1.1, hk.1.2⟩ | exact hk.1 | exact hk | (simp_all; done)) (.int .i64 t311)) (fun _ hk => by first | exact hk.2 | exact trivial | exact hk.1.2 | exact ⟨hk.1.1, hk.1.2⟩ | exact hk.1 | exact hk | (simp_all; done)) (.int .i64 t312)) (fun _ hk => by first | exact hk.2 | exact trivial | exact hk.1.2 | exact ⟨hk.1.1, hk.1.2⟩ | exact hk.1 | exact hk | (simp_all; done)) (.int .i64 t313)) (fun _ hk => trivial)⟩, ⟨by (with_reducible repeat (first | apply Kd.R_alloc | apply Kd.R_drewN | apply Kd.R_drew)); exact Kd.R_mono (Kd.R_far (p := ⟨gb318, 3, none⟩) (Kd.R_far (p := ⟨gb318, 2, none⟩) (Kd.R_far (p := ⟨gb318, 1, none⟩) (Kd.R_far (p := ⟨gb318, 0, none⟩) (Kd.R_types HO307.out BK318.out (by decide)) (fun _ hk => by first | exact hk.2 | exact trivial | exact hk.1.2 | exact ⟨hk.1.1, hk.1.2⟩ | exact hk.1 | exact hk | (simp_all; done)) (.int .i64 t310)) (fun _ hk => by first | exact hk.2 | exact trivial | exact hk.1.2 | exact ⟨hk.1.1, hk.1.2⟩ | exact hk.1 | exact hk | (simp_all; done)) (.int .i64 t311)) (fun _ hk => by first | exact hk.2 | exact trivial | exact hk.1.2 | exact ⟨hk.1.1, hk.1.2⟩ | exact hk.1 | exact hk | (simp_all; done)) (.int .i64 t312)) (fun _ hk => by first | exact hk.2 | exact trivial | exact hk.1.2 | exact ⟨hk.1.1, hk.1.2⟩ | exact hk.1 | exact hk | (simp_all; done)) (.int .i64 t313)) (fun _ hk => trivial)⟩, ⟨by (with_reducible repeat (first | refine blk_drewN ?_ _ | refine blk_drew ?_ | refine blk_alloc ?_ _)); refine blk_far ?_ NB297_318.out _; (with_reducible repeat (first | refine blk_drewN ?_ _ | refine blk_drew ?_ | refine blk_alloc ?_ _)); refine blk_far ?_ NB297_318.out _; (with_reducible repeat (first | refine blk_drewN ?_ _ | refine blk_drew ?_ | refine blk_alloc ?_ _)); refine blk_far ?_ NB297_318.out _; (with_reducible repeat (first | refine blk_drewN ?_ _ | refine blk_drew ?_ | refine blk_alloc ?_ _)); refine blk_far ?_ NB297_318.out _; (with_reducible repeat (first | refine blk_drewN ?_ _ | refine blk_drew ?_ | refine blk_alloc ?_ _)); exact BK297.out⟩, ⟨by (with_reducible repeat (first | refine blk_drewN ?_ _ | refine blk_drew ?_ | refine blk_alloc ?_ _)); refine blk_far ?_ NB309_318.out _; (with_reducible repeat (first | refine blk_drewN ?_ _ | refine blk_drew ?_ | refine blk_alloc ?_ _)); refine blk_far ?_ NB309_318.out _; (with_reducible repeat (first | refine blk_drewN ?_ _ | refine blk_drew ?_ | refine blk_alloc ?_ _)); refine blk_far ?_ NB309_318.out _; (with_reducible repeat (first | refine blk_drewN ?_ _ | refine blk_drew ?_ | refine blk_alloc ?_ _)); refine blk_far ?_ NB309_318.out _; (with_reducible repeat (first | refine blk_drewN ?_ _ | refine blk_drew ?_ | refine blk_alloc ?_ _)); exact BK309.out⟩, ⟨by (with_reducible repeat (first | refine blk_drewN ?_ _ | refine blk_drew ?_ | refine blk_alloc ?_ _)); refine blk_put (cs := #[.int .i64 t310, .int .i64 t311, .int .i64 t312, .int .i64 0]) ?_ 3 _ rfl; (with_reducible repeat (first | refine blk_drewN ?_ _ | refine blk_drew ?_ | refine blk_alloc ?_ _)); refine blk_put (cs := #[.int .i64 t310, .int .i64 t311, .int .i64 0, .int .i64 0]) ?_ 2 _ rfl; (with_reducible repeat (first | refine blk_drewN ?_ _ | refine blk_drew ?_ | refine blk_alloc ?_ _)); refine blk_put (cs := #[.int .i64 t310, .int .i64 0, .int .i64 0, .int .i64 0]) ?_ 1 _ rfl; (with_reducible repeat (first | refine blk_drewN ?_ _ | refine blk_drew ?_ | refine blk_alloc ?_ _)); refine blk_put (cs := #[.int .i64 0, .int .i64 0, .int .i64 0, .int .i64 0]) ?_ 0 _ rfl; (with_reducible repeat (first | refine blk_drewN ?_ _ | refine blk_drew ?_ | refine blk_alloc ?_ _)); exact BK318.out⟩, ⟨by repeat (first | (with_reducible first | exact HB.out | apply below_alloc | apply pw_below_drewN | apply below_drew1 | refine below_set ?_ GE297.out | refine below_set ?_ GE309.out | refine below_set ?_ GE318.out) | exact HB.out)⟩⟩
            case rest =>
              clear HC16
              try clear c1
              try clear c2
              try clear p2
              try clear c3
              try clear c4
              try clear c4b0
              try clear c4b1
              try clear c5
              try clear c9
              try clear c11
              try clear c11b0
              try clear c22
              try clear c23
              try clear c25
              try clear c26
              try clear c27
              try clear c28
              try clear c30
              try clear c30b0
              try clear c30b1
              try clear c32
              try clear c36
              try clear c37
              try clear hcz10_0
              try clear hcz10_1
              try clear hcz10_2
              try clear hcz10_3
              try clear hcz12_0
              try clear hcz12_1
              try clear hcz12_2
              try clear hcz12_3
              try clear hcz18_0
              try clear hcz18_1
              try clear hcz18_2
              try clear hcz18_3
              try clear hcz23_0
              try clear hcz23_1
              try clear hcz23_2
              try clear hcz23_3
              try clear hcz24_0
              try clear hcz24_1
              try clear hcz24_2
              try clear hcz24_3
              try clear hcz29_0
              try clear hcz29_1
              try clear hcz29_2
              try clear hcz29_3
              try clear hcz38_0
              try clear hcz38_1
              try clear hcz38_2
              try clear hcz38_3
              try clear hfz10_0
              try clear hfz10_1
              try clear hfz10_2
              try clear hfz10_3
              try clear hfz12_0
              try clear hfz12_1
              try clear hfz12_2
              try clear hfz12_3
              try clear hfz18_0
              try clear hfz18_1
              try clear hfz18_2
              try clear hfz18_3
              try clear hfz23_0
              try clear hfz23_1
              try clear hfz23_2
              try clear hfz23_3
              try clear hfz24_0
              try clear hfz24_1
              try clear hfz24_2
              try clear hfz24_3
              try clear hfz29_0
              try clear hfz29_1
              try clear hfz29_2
              try clear hfz29_3
              try clear hfz38_0
              try clear hfz38_1
              try clear hfz38_2
              try clear hfz38_3
              try clear p2
              obtain ⟨kq, x59_15, rfl, HA, HJ15, HO_6, HO_8, BK297, BK309, BK318, HB⟩ := hcut
              cases kq with
              | zero => exact absurd HA.out (by simp [laws_FnEnvelope.j2])
              | succ kj15 =>
                have H := HA.out
                clear HA
                simp only [laws_FnEnvelope.j2] at H
                by_cases c42 : x59_15 = true
                · subst c42
                  have H1 : (some false) = some r := by rw [if_pos rfl] at H; exact H
                  clear H
                  have H := H1
                  clear H1
                  obtain rfl := Option.some.inj H
                  go_wp2
                  go_ret
                  exact ⟨by first | rfl | (simp [errW_none, errW_some] <;> rfl) | (simp [*, errW_none, errW_some] <;> rfl), by repeat (first | (with_reducible first | exact HB.out | apply below_alloc | apply pw_below_drewN | apply below_drew1 | refine below_set ?_ GE297.out | refine below_set ?_ GE309.out | refine below_set ?_ GE318.out) | exact HB.out)⟩
                · replace c42 := Bool.eq_false_iff.mpr c42
                  subst c42
                  have H1 : (laws_FnEnvelope.l0 kj15 t298 t305 0 t293 t294 t295 x298003_6) = some r := by rw [if_neg (show ¬ (false = true) by decide)] at H; exact H
                  clear H
                  have H := H1
                  clear H1
                  have H' := Aside0.mk H
                  clear H
                  go_wp2
                  go_loopg [13] kj15 (fun kq v13 w' => ∃ (x13_4 : Int), v13 = .int .i64 x13_4 ∧ Aside0 (laws_FnEnvelope.l0 kq t298 t305 x13_4 t293 t294 t295 x298003_6 = some r) ∧ Aside0 (kq ≤ kj15) ∧ Aside0 (Kd.R k47 47 w' w.heap.size (fun _ => True) (.slice Ao19 t298.length co19) t298) ∧ Aside0 (Kd.R (Kd.int .i64) 3 w' w.heap.size (fun _ => True) v306 t305) ∧ Aside0 (w'.heap[gb297]? = some (.cells #[.int .i64 t293, .int .i64 t294, .int .i64 t295, .int .i64 x298003_6] 25 (0, 0))) ∧ Aside0 (w'.heap[gb309]? = some (.cells #[.int .i64 t301, .int .i64 t302, .int .i64 t303, .int .i64 t304] 25 (0, 0))) ∧ Aside0 (w'.heap[gb318]? = some (.cells #[.int .i64 t310, .int .i64 t311, .int .i64 t312, .int .i64 t313] 25 (0, 0))) ∧ Aside0 (Below w.heap.size w w'))
                  case atStart => exact ⟨(0), (by first | rfl | (simp; done) | (simp [*]; done)), H', ⟨Nat.le_refl _⟩, ⟨by (with_reducible repeat (first | apply Kd.R_alloc | apply Kd.R_drewN | apply Kd.R_drew)); exact HO_6.out⟩, ⟨by (with_reducible repeat (first | apply Kd.R_alloc | apply Kd.R_drewN | apply Kd.R_drew)); exact HO_8.out⟩, ⟨by (with_reducible repeat (first | refine blk_drewN ?_ _ | refine blk_drew ?_ | refine blk_alloc ?_ _)); exact BK297.out⟩, ⟨by (with_reducible repeat (first | refine blk_drewN ?_ _ | refine blk_drew ?_ | refine blk_alloc ?_ _)); exact BK309.out⟩, ⟨by (with_reducible repeat (first | refine blk_drewN ?_ _ | refine blk_drew ?_ | refine blk_alloc ?_ _)); exact BK318.out⟩, ⟨by repeat (first | (with_reducible first | exact HB.out | apply below_alloc | apply pw_below_drewN | apply below_drew1 | refine below_set ?_ GE297.out | refine below_set ?_ GE309.out | refine below_set ?_ GE318.out) | exact HB.out)⟩⟩
                  case round =>
                    clear H'
                    try clear c1
                    try clear c2
                    try clear p2
                    try clear c3
                    try clear c4
                    try clear c4b0
                    try clear c4b1
                    try clear c5
                    try clear c9
                    try clear c11
                    try clear c11b0
                    try clear c22
                    try clear c23
                    try clear c25
                    try clear c26
                    try clear c27
                    try clear c28
                    try clear c30
                    try clear c30b0
                    try clear c30b1
                    try clear c32
                    try clear c36
                    try clear c37
                    try clear c42
                    try clear hcz10_0
                    try clear hcz10_1
                    try clear hcz10_2
                    try clear hcz10_3
                    try clear hcz12_0
                    try clear hcz12_1
                    try clear hcz12_2
                    try clear hcz12_3
                    try clear hcz18_0
                    try clear hcz18_1
                    try clear hcz18_2
                    try clear hcz18_3
                    try clear hcz23_0
                    try clear hcz23_1
                    try clear hcz23_2
                    try clear hcz23_3
                    try clear hcz24_0
                    try clear hcz24_1
                    try clear hcz24_2
                    try clear hcz24_3
                    try clear hcz29_0
                    try clear hcz29_1
                    try clear hcz29_2
                    try clear hcz29_3
                    try clear hcz38_0
                    try clear hcz38_1
                    try clear hcz38_2
                    try clear hcz38_3
                    try clear hfz10_0
                    try clear hfz10_1
                    try clear hfz10_2
                    try clear hfz10_3
                    try clear hfz12_0
                    try clear hfz12_1
                    try clear hfz12_2
                    try clear hfz12_3
                    try clear hfz18_0
                    try clear hfz18_1
                    try clear hfz18_2
                    try clear hfz18_3
                    try clear hfz23_0
                    try clear hfz23_1
                    try clear hfz23_2
                    try clear hfz23_3
                    try clear hfz24_0
                    try clear hfz24_1
                    try clear hfz24_2
                    try clear hfz24_3
                    try clear hfz29_0
                    try clear hfz29_1
                    try clear hfz29_2
                    try clear hfz29_3
                    try clear hfz38_0
                    try clear hfz38_1
                    try clear hfz38_2
                    try clear hfz38_3
                    try clear p2
                    obtain ⟨x13_4, rfl, HA, HK4, HO_6, HO_8, BK297, BK309, BK318, HB⟩ := hrel
                    cases gk with
                    | zero => exact absurd HA.out (by simp [laws_FnEnvelope.l0])
                    | succ k4 =>
                      have H := HA.out
                      clear HA
                      simp only [laws_FnEnvelope.l0] at H
                      by_cases c43 : x13_4 < (t298.length : Int)
                      · rw [if_pos c43] at H
                        have c43b0 : decide (x13_4 < (t298.length : Int)) = true := decide_eq_true c43
                        clear c43
                        have H' := Aside0.mk H
                        clear H
                        go_wp2
                        go_loopg [14, 15, 16] k4 (fun kq v14 v15 v16 w' => ∃ (x14_5 : Int) (x15_5 : Int) (x16_5 : Int), v14 = .int .i64 x14_5 ∧ v15 = .int .i64 x15_5 ∧ v16 = .int .i64 x16_5 ∧ Aside0 (laws_FnEnvelope.l1 kq t298 t305 x13_4 x14_5 x15_5 x16_5 t293 t294 t295 x298003_6 = some r) ∧ Aside0 (kq ≤ k4) ∧ Aside0 (Kd.R k47 47 w' w.heap.size (fun _ => True) (.slice Ao19 t298.length co19) t298) ∧ Aside0 (Kd.R (Kd.int .i64) 3 w' w.heap.size (fun _ => True) v306 t305) ∧ Aside0 (w'.heap[gb297]? = some (.cells #[.int .i64 t293, .int .i64 t294, .int .i64 t295, .int .i64 x298003_6] 25 (0, 0))) ∧ Aside0 (w'.heap[gb309]? = some (.cells #[.int .i64 t301, .int .i64 t302, .int .i64 t303, .int .i64 t304] 25 (0, 0))) ∧ Aside0 (w'.heap[gb318]? = some (.cells #[.int .i64 t310, .int .i64 t311, .int .i64 t312, .int .i64 t313] 25 (0, 0))) ∧ Aside0 (Below w.heap.size w w'))
                        case atStart => exact ⟨(0), (0), (x13_4), (by first | rfl | (simp; done) | (simp [*]; done)), (by first | rfl | (simp; done) | (simp [*]; done)), (by first | rfl | (simp; done) | (simp [*]; done)), H', ⟨Nat.le_refl _⟩, ⟨by (with_reducible repeat (first | apply Kd.R_alloc | apply Kd.R_drewN | apply Kd.R_drew)); exact HO_6.out⟩, ⟨by (with_reducible repeat (first | apply Kd.R_alloc | apply Kd.R_drewN | apply Kd.R_drew)); exact HO_8.out⟩, ⟨by (with_reducible repeat (first | refine blk_drewN ?_ _ | refine blk_drew ?_ | refine blk_alloc ?_ _)); exact BK297.out⟩, ⟨by (with_reducible repeat (first | refine blk_drewN ?_ _ | refine blk_drew ?_ | refine blk_alloc ?_ _)); exact BK309.out⟩, ⟨by (with_reducible repeat (first | refine blk_drewN ?_ _ | refine blk_drew ?_ | refine blk_alloc ?_ _)); exact BK318.out⟩, ⟨by repeat (first | (with_reducible first | exact HB.out | apply below_alloc | apply pw_below_drewN | apply below_drew1 | refine below_set ?_ GE297.out | refine below_set ?_ GE309.out | refine below_set ?_ GE318.out) | exact HB.out)⟩⟩
                        case round =>
                          clear H'
                          try clear c1
                          try clear c2
                          try clear p2
                          try clear c3
                          try clear c4
                          try clear c4b0
                          try clear c4b1
                          try clear c5
                          try clear c9
                          try clear c11
                          try clear c11b0
                          try clear c22
                          try clear c23
                          try clear c25
                          try clear c26
                          try clear c27
                          try clear c28
                          try clear c30
                          try clear c30b0
                          try clear c30b1
                          try clear c32
                          try clear c36
                          try clear c37
                          try clear c42
                          try clear c43
                          try clear c43b0
                          try clear hcz10_0
                          try clear hcz10_1
                          try clear hcz10_2
                          try clear hcz10_3
                          try clear hcz12_0
                          try clear hcz12_1
                          try clear hcz12_2
                          try clear hcz12_3
                          try clear hcz18_0
                          try clear hcz18_1
                          try clear hcz18_2
                          try clear hcz18_3
                          try clear hcz23_0
                          try clear hcz23_1
                          try clear hcz23_2
                          try clear hcz23_3
                          try clear hcz24_0
                          try clear hcz24_1
                          try clear hcz24_2
                          try clear hcz24_3
                          try clear hcz29_0
                          try clear hcz29_1
                          try clear hcz29_2
                          try clear hcz29_3
                          try clear hcz38_0
                          try clear hcz38_1
                          try clear hcz38_2
                          try clear hcz38_3
                          try clear hfz10_0
                          try clear hfz10_1
                          try clear hfz10_2
                          try clear hfz10_3
                          try clear hfz12_0
                          try clear hfz12_1
                          try clear hfz12_2
                          try clear hfz12_3
                          try clear hfz18_0
                          try clear hfz18_1
                          try clear hfz18_2
                          try clear hfz18_3
                          try clear hfz23_0
                          try clear hfz23_1
                          try clear hfz23_2
                          try clear hfz23_3
                          try clear hfz24_0
                          try clear hfz24_1
                          try clear hfz24_2
                          try clear hfz24_3
                          try clear hfz29_0
                          try clear hfz29_1
                          try clear hfz29_2
                          try clear hfz29_3
                          try clear hfz38_0
                          try clear hfz38_1
                          try clear hfz38_2
                          try clear hfz38_3
                          try clear p2
                          obtain ⟨x14_5, x15_5, x16_5, rfl, rfl, rfl, HA, HK5, HO_6, HO_8, BK297, BK309, BK318, HB⟩ := hrel
                          cases gk with
                          | zero => exact absurd HA.out (by simp [laws_FnEnvelope.l1])
                          | succ k5 =>
                            have H := HA.out
                            clear HA
                            simp only [laws_FnEnvelope.l1] at H
                            by_cases c44 : x16_5 < (t298.length : Int)
                            · rw [if_pos c44] at H
                              have c44b0 : decide (x16_5 < (t298.length : Int)) = true := decide_eq_true c44
                              clear c44
                              by_cases c45 : 0 ≤ x16_5
                              · rw [if_pos c45] at H
                                have c45b0 : decide (0 ≤ x16_5) = true := decide_eq_true c45
                                clear c45
                                by_cases c46 : x16_5 < (t305.length : Int)
                                · rw [if_pos c46] at H
                                  have c46b0 : decide (x16_5 < (t305.length : Int)) = true := decide_eq_true c46
                                  clear c46
                                  by_cases c47 : (rd t305 x16_5) = 0
                                  · rw [if_pos c47] at H
                                    have c47b0 : ((rd t305 x16_5) == 0) = true := beq_iff_eq.mpr c47
                                    have c47b1 : ((rd t305 x16_5) != 0) = false := bne_eq_false_iff_eq.mpr c47
                                    clear c47
                                    by_cases c48 : ((rd_T47 t298 x16_5).f0) = 1
                                    · rw [if_pos c48] at H
                                      have c48b0 : (((rd_T47 t298 x16_5).f0) == 1) = true := beq_iff_eq.mpr c48
                                      have c48b1 : (((rd_T47 t298 x16_5).f0) != 1) = false := bne_eq_false_iff_eq.mpr c48
                                      clear c48
                                      by_cases c49 : (wrap64 (x14_5 + ((rd_T47 t298 x16_5).f1))) > (wrap64 (t294 + (wrap64 (t293 * x15_5))))
                                      · rw [if_pos c49] at H
                                        have c49b0 : decide ((wrap64 (t294 + (wrap64 (t293 * x15_5)))) < (wrap64 (x14_5 + ((rd_T47 t298 x16_5).f1)))) = true := decide_eq_true c49
                                        clear c49
                                        obtain rfl := Option.some.inj H
                                        obtain ⟨Ao50, co50, eo50⟩ := Kd.R_slice HO_8.out
                                        subst eo50
                                        have p321 : 0 ≤ (x16_5 : Int) := of_decide_eq_true (by first | (with_reducible assumption) | assumption)
                                        have q321 : x16_5 < (t305.length : Int) := of_decide_eq_true (by first | (with_reducible assumption) | assumption)
                                        obtain ⟨ad321, e321, hx321_0⟩ := Kd.at_int (Kd.R_reads' HO_8.out).2.2 x16_5 p321 q321
                                        cases e321
                                        replace p321 := eq_true p321
                                        replace q321 := eq_true q321
                                        have p322 : 0 ≤ (x16_5 : Int) := of_decide_eq_true (by first | (with_reducible assumption) | assumption)
                                        have q322 : x16_5 < (t298.length : Int) := of_decide_eq_true (by first | (with_reducible assumption) | assumption)
                                        obtain ⟨ad322, e322, hx322_0, hx322_1⟩ := at_T47 (Kd.R_reads' HO_6.out).2.2 x16_5 p322 q322
                                        cases e322
                                        replace p322 := eq_true p322
                                        replace q322 := eq_true q322
                                        have p323 : 0 ≤ (x16_5 : Int) := of_decide_eq_true (by first | (with_reducible assumption) | assumption)
                                        have q323 : x16_5 < (t298.length : Int) := of_decide_eq_true (by first | (with_reducible assumption) | assumption)
                                        obtain ⟨ad323, e323, hx323_0, hx323_1⟩ := at_T47 (Kd.R_reads' HO_6.out).2.2 x16_5 p323 q323
                                        obtain rfl : ad322 = ad323 := (by injection e323)
                                        replace p323 := eq_true p323
                                        replace q323 := eq_true q323
                                        have hnb51 := NB297_309.out
                                        have hnc51 := NB309_297.out
                                        have hnb52 := NB297_318.out
                                        have hnc52 := NB318_297.out
                                        have hcz53_0 : wr.cell? ⟨gb297, 0, none⟩ = some (.int .i64 t293) := (blk_cell BK297.out 0).trans rfl
                                        have hcz53_1 : wr.cell? ⟨gb297, 1, none⟩ = some (.int .i64 t294) := (blk_cell BK297.out 1).trans rfl
                                        have hcz53_2 : wr.cell? ⟨gb297, 2, none⟩ = some (.int .i64 t295) := (blk_cell BK297.out 2).trans rfl
                                        have hcz53_3 : wr.cell? ⟨gb297, 3, none⟩ = some (.int .i64 x298003_6) := (blk_cell BK297.out 3).trans rfl
                                        have hfz53_0 := blk_frozen BK297.out 0
                                        have hfz53_1 := blk_frozen BK297.out 1
                                        have hfz53_2 := blk_frozen BK297.out 2
                                        have hfz53_3 := blk_frozen BK297.out 3
                                        go_wp2
                                        go_ret
                                        exact ⟨by first | rfl | (simp [errW_none, errW_some] <;> rfl) | (simp [*, errW_none, errW_some] <;> rfl), by repeat (first | (with_reducible first | exact HB.out | apply below_alloc | apply pw_below_drewN | apply below_drew1 | refine below_set ?_ GE297.out | refine below_set ?_ GE309.out | refine below_set ?_ GE318.out) | exact HB.out)⟩
                                      · rw [if_neg c49] at H
                                        have c49b0 : decide ((wrap64 (t294 + (wrap64 (t293 * x15_5)))) < (wrap64 (x14_5 + ((rd_T47 t298 x16_5).f1)))) = false := decide_eq_false c49
                                        clear c49
                                        have H' := Aside0.mk H
                                        clear H
                                        obtain ⟨Ao54, co54, eo54⟩ := Kd.R_slice HO_8.out
                                        subst eo54
                                        have p321 : 0 ≤ (x16_5 : Int) := of_decide_eq_true (by first | (with_reducible assumption) | assumption)
                                        have q321 : x16_5 < (t305.length : Int) := of_decide_eq_true (by first | (with_reducible assumption) | assumption)
                                        obtain ⟨ad321, e321, hx321_0⟩ := Kd.at_int (Kd.R_reads' HO_8.out).2.2 x16_5 p321 q321
                                        cases e321
                                        replace p321 := eq_true p321
                                        replace q321 := eq_true q321
                                        have p322 : 0 ≤ (x16_5 : Int) := of_decide_eq_true (by first | (with_reducible assumption) | assumption)
                                        have q322 : x16_5 < (t298.length : Int) := of_decide_eq_true (by first | (with_reducible assumption) | assumption)
                                        obtain ⟨ad322, e322, hx322_0, hx322_1⟩ := at_T47 (Kd.R_reads' HO_6.out).2.2 x16_5 p322 q322
                                        cases e322
                                        replace p322 := eq_true p322
                                        replace q322 := eq_true q322
                                        have p323 : 0 ≤ (x16_5 : Int) := of_decide_eq_true (by first | (with_reducible assumption) | assumption)
                                        have q323 : x16_5 < (t298.length : Int) := of_decide_eq_true (by first | (with_reducible assumption) | assumption)
                                        obtain ⟨ad323, e323, hx323_0, hx323_1⟩ := at_T47 (Kd.R_reads' HO_6.out).2.2 x16_5 p323 q323
                                        obtain rfl : ad322 = ad323 := (by injection e323)
                                        replace p323 := eq_true p323
                                        replace q323 := eq_true q323
                                        have hnb55 := NB297_309.out
                                        have hnc55 := NB309_297.out
                                        have hnb56 := NB297_318.out
                                        have hnc56 := NB318_297.out
                                        have hcz57_0 : wr.cell? ⟨gb297, 0, none⟩ = some (.int .i64 t293) := (blk_cell BK297.out 0).trans rfl
                                        have hcz57_1 : wr.cell? ⟨gb297, 1, none⟩ = some (.int .i64 t294) := (blk_cell BK297.out 1).trans rfl
                                        have hcz57_2 : wr.cell? ⟨gb297, 2, none⟩ = some (.int .i64 t295) := (blk_cell BK297.out 2).trans rfl
                                        have hcz57_3 : wr.cell? ⟨gb297, 3, none⟩ = some (.int .i64 x298003_6) := (blk_cell BK297.out 3).trans rfl
                                        have hfz57_0 := blk_frozen BK297.out 0
                                        have hfz57_1 := blk_frozen BK297.out 1
                                        have hfz57_2 := blk_frozen BK297.out 2
                                        have hfz57_3 := blk_frozen BK297.out 3
                                        go_wp2
                                        go_roundg k5
                                        case measure => have := HJ2.out; have := HJ6.out; have := HJ15.out; have := HK4.out; have := HK5.out; omega
                                        case rel => exact ⟨(wrap64 (x14_5 + ((rd_T47 t298 x16_5).f1))), (x15_5), (wrap64 (x16_5 + 1)), (by first | rfl | (simp; done) | (simp [*]; done)), (by first | rfl | (simp; done) | (simp [*]; done)), (by first | rfl | (simp; done) | (simp [*]; done)), H', ⟨by have := HJ2.out; have := HJ6.out; have := HJ15.out; have := HK4.out; have := HK5.out; omega⟩, ⟨by (with_reducible repeat (first | apply Kd.R_alloc | apply Kd.R_drewN | apply Kd.R_drew)); exact HO_6.out⟩, ⟨by (with_reducible repeat (first | apply Kd.R_alloc | apply Kd.R_drewN | apply Kd.R_drew)); exact HO_8.out⟩, ⟨by (with_reducible repeat (first | refine blk_drewN ?_ _ | refine blk_drew ?_ | refine blk_alloc ?_ _)); exact BK297.out⟩, ⟨by (with_reducible repeat (first | refine blk_drewN ?_ _ | refine blk_drew ?_ | refine blk_alloc ?_ _)); exact BK309.out⟩, ⟨by (with_reducible repeat (first | refine blk_drewN ?_ _ | refine blk_drew ?_ | refine blk_alloc ?_ _)); exact BK318.out⟩, ⟨by repeat (first | (with_reducible first | exact HB.out | apply below_alloc | apply pw_below_drewN | apply below_drew1 | refine below_set ?_ GE297.out | refine below_set ?_ GE309.out | refine below_set ?_ GE318.out) | exact HB.out)⟩⟩
                                    · rw [if_neg c48] at H
                                      have c48b0 : (((rd_T47 t298 x16_5).f0) == 1) = false := beq_eq_false_iff_ne.mpr c48
                                      have c48b1 : (((rd_T47 t298 x16_5).f0) != 1) = true := bne_iff_ne.mpr c48
                                      by_cases c58 : x14_5 > (wrap64 (t294 + (wrap64 (t293 * (wrap64 (x15_5 + ((rd_T47 t298 x16_5).f1)))))))
                                      · rw [if_pos c58] at H
                                        have c58b0 : decide ((wrap64 (t294 + (wrap64 (t293 * (wrap64 (x15_5 + ((rd_T47 t298 x16_5).f1))))))) < x14_5) = true := decide_eq_true c58
                                        clear c58
                                        obtain rfl := Option.some.inj H
                                        obtain ⟨Ao59, co59, eo59⟩ := Kd.R_slice HO_8.out
                                        subst eo59
                                        have p321 : 0 ≤ (x16_5 : Int) := of_decide_eq_true (by first | (with_reducible assumption) | assumption)
                                        have q321 : x16_5 < (t305.length : Int) := of_decide_eq_true (by first | (with_reducible assumption) | assumption)
                                        obtain ⟨ad321, e321, hx321_0⟩ := Kd.at_int (Kd.R_reads' HO_8.out).2.2 x16_5 p321 q321
                                        cases e321
                                        replace p321 := eq_true p321
                                        replace q321 := eq_true q321
                                        have p322 : 0 ≤ (x16_5 : Int) := of_decide_eq_true (by first | (with_reducible assumption) | assumption)
                                        have q322 : x16_5 < (t298.length : Int) := of_decide_eq_true (by first | (with_reducible assumption) | assumption)
                                        obtain ⟨ad322, e322, hx322_0, hx322_1⟩ := at_T47 (Kd.R_reads' HO_6.out).2.2 x16_5 p322 q322
                                        cases e322
                                        replace p322 := eq_true p322
                                        replace q322 := eq_true q322
                                        have p324 : 0 ≤ (x16_5 : Int) := of_decide_eq_true (by first | (with_reducible assumption) | assumption)
                                        have q324 : x16_5 < (t298.length : Int) := of_decide_eq_true (by first | (with_reducible assumption) | assumption)
                                        obtain ⟨ad324, e324, hx324_0, hx324_1⟩ := at_T47 (Kd.R_reads' HO_6.out).2.2 x16_5 p324 q324
                                        obtain rfl : ad322 = ad324 := (by injection e324)
                                        replace p324 := eq_true p324
                                        replace q324 := eq_true q324
                                        have hnb60 := NB297_309.out
                                        have hnc60 := NB309_297.out
                                        have hnb61 := NB297_318.out
                                        have hnc61 := NB318_297.out
                                        have hcz62_0 : wr.cell? ⟨gb297, 0, none⟩ = some (.int .i64 t293) := (blk_cell BK297.out 0).trans rfl
                                        have hcz62_1 : wr.cell? ⟨gb297, 1, none⟩ = some (.int .i64 t294) := (blk_cell BK297.out 1).trans rfl
                                        have hcz62_2 : wr.cell? ⟨gb297, 2, none⟩ = some (.int .i64 t295) := (blk_cell BK297.out 2).trans rfl
                                        have hcz62_3 : wr.cell? ⟨gb297, 3, none⟩ = some (.int .i64 x298003_6) := (blk_cell BK297.out 3).trans rfl
                                        have hfz62_0 := blk_frozen BK297.out 0
                                        have hfz62_1 := blk_frozen BK297.out 1
                                        have hfz62_2 := blk_frozen BK297.out 2
                                        have hfz62_3 := blk_frozen BK297.out 3
                                        go_wp2
                                        go_ret
                                        exact ⟨by first | rfl | (simp [errW_none, errW_some] <;> rfl) | (simp [*, errW_none, errW_some] <;> rfl), by repeat (first | (with_reducible first | exact HB.out | apply below_alloc | apply pw_below_drewN | apply below_drew1 | refine below_set ?_ GE297.out | refine below_set ?_ GE309.out | refine below_set ?_ GE318.out) | exact HB.out)⟩
                                      · rw [if_neg c58] at H
                                        have c58b0 : decide ((wrap64 (t294 + (wrap64 (t293 * (wrap64 (x15_5 + ((rd_T47 t298 x16_5).f1))))))) < x14_5) = false := decide_eq_false c58
                                        clear c58
                                        have H' := Aside0.mk H
                                        clear H
                                        obtain ⟨Ao63, co63, eo63⟩ := Kd.R_slice HO_8.out
                                        subst eo63
                                        have p321 : 0 ≤ (x16_5 : Int) := of_decide_eq_true (by first | (with_reducible assumption) | assumption)
                                        have q321 : x16_5 < (t305.length : Int) := of_decide_eq_true (by first | (with_reducible assumption) | assumption)
                                        obtain ⟨ad321, e321, hx321_0⟩ := Kd.at_int (Kd.R_reads' HO_8.out).2.2 x16_5 p321 q321
                                        cases e321
                                        replace p321 := eq_true p321
                                        replace q321 := eq_true q321
                                        have p322 : 0 ≤ (x16_5 : Int) := of_decide_eq_true (by first | (with_reducible assumption) | assumption)
                                        have q322 : x16_5 < (t298.length : Int) := of_decide_eq_true (by first | (with_reducible assumption) | assumption)
                                        obtain ⟨ad322, e322, hx322_0, hx322_1⟩ := at_T47 (Kd.R_reads' HO_6.out).2.2 x16_5 p322 q322
                                        cases e322
                                        replace p322 := eq_true p322
                                        replace q322 := eq_true q322
                                        have p324 : 0 ≤ (x16_5 : Int) := of_decide_eq_true (by first | (with_reducible assumption) | assumption)
                                        have q324 : x16_5 < (t298.length : Int) := of_decide_eq_true (by first | (with_reducible assumption) | assumption)
                                        obtain ⟨ad324, e324, hx324_0, hx324_1⟩ := at_T47 (Kd.R_reads' HO_6.out).2.2 x16_5 p324 q324
                                        obtain rfl : ad322 = ad324 := (by injection e324)
                                        replace p324 := eq_true p324
                                        replace q324 := eq_true q324
                                        have hnb64 := NB297_309.out
                                        have hnc64 := NB309_297.out
                                        have hnb65 := NB297_318.out
                                        have hnc65 := NB318_297.out
                                        have hcz66_0 : wr.cell? ⟨gb297, 0, none⟩ = some (.int .i64 t293) := (blk_cell BK297.out 0).trans rfl
                                        have hcz66_1 : wr.cell? ⟨gb297, 1, none⟩ = some (.int .i64 t294) := (blk_cell BK297.out 1).trans rfl
                                        have hcz66_2 : wr.cell? ⟨gb297, 2, none⟩ = some (.int .i64 t295) := (blk_cell BK297.out 2).trans rfl
                                        have hcz66_3 : wr.cell? ⟨gb297, 3, none⟩ = some (.int .i64 x298003_6) := (blk_cell BK297.out 3).trans rfl
                                        have hfz66_0 := blk_frozen BK297.out 0
                                        have hfz66_1 := blk_frozen BK297.out 1
                                        have hfz66_2 := blk_frozen BK297.out 2
                                        have hfz66_3 := blk_frozen BK297.out 3
                                        go_wp2
                                        go_roundg k5
                                        case measure => have := HJ2.out; have := HJ6.out; have := HJ15.out; have := HK4.out; have := HK5.out; omega
                                        case rel => exact ⟨(x14_5), (wrap64 (x15_5 + ((rd_T47 t298 x16_5).f1))), (wrap64 (x16_5 + 1)), (by first | rfl | (simp; done) | (simp [*]; done)), (by first | rfl | (simp; done) | (simp [*]; done)), (by first | rfl | (simp; done) | (simp [*]; done)), H', ⟨by have := HJ2.out; have := HJ6.out; have := HJ15.out; have := HK4.out; have := HK5.out; omega⟩, ⟨by (with_reducible repeat (first | apply Kd.R_alloc | apply Kd.R_drewN | apply Kd.R_drew)); exact HO_6.out⟩, ⟨by (with_reducible repeat (first | apply Kd.R_alloc | apply Kd.R_drewN | apply Kd.R_drew)); exact HO_8.out⟩, ⟨by (with_reducible repeat (first | refine blk_drewN ?_ _ | refine blk_drew ?_ | refine blk_alloc ?_ _)); exact BK297.out⟩, ⟨by (with_reducible repeat (first | refine blk_drewN ?_ _ | refine blk_drew ?_ | refine blk_alloc ?_ _)); exact BK309.out⟩, ⟨by (with_reducible repeat (first | refine blk_drewN ?_ _ | refine blk_drew ?_ | refine blk_alloc ?_ _)); exact BK318.out⟩, ⟨by repeat (first | (with_reducible first | exact HB.out | apply below_alloc | apply pw_below_drewN | apply below_drew1 | refine below_set ?_ GE297.out | refine below_set ?_ GE309.out | refine below_set ?_ GE318.out) | exact HB.out)⟩⟩
                                  · rw [if_neg c47] at H
                                    have c47b0 : ((rd t305 x16_5) == 0) = false := beq_eq_false_iff_ne.mpr c47
                                    have c47b1 : ((rd t305 x16_5) != 0) = true := bne_iff_ne.mpr c47
                                    have H' := Aside0.mk H
                                    clear H
                                    obtain ⟨Ao67, co67, eo67⟩ := Kd.R_slice HO_8.out
                                    subst eo67
                                    have p321 : 0 ≤ (x16_5 : Int) := of_decide_eq_true (by first | (with_reducible assumption) | assumption)
                                    have q321 : x16_5 < (t305.length : Int) := of_decide_eq_true (by first | (with_reducible assumption) | assumption)
                                    obtain ⟨ad321, e321, hx321_0⟩ := Kd.at_int (Kd.R_reads' HO_8.out).2.2 x16_5 p321 q321
                                    cases e321
                                    replace p321 := eq_true p321
                                    replace q321 := eq_true q321
                                    go_wp2
                                    go_roundg k5
                                    case measure => have := HJ2.out; have := HJ6.out; have := HJ15.out; have := HK4.out; have := HK5.out; omega
                                    case rel => exact ⟨(x14_5), (x15_5), (wrap64 (x16_5 + 1)), (by first | rfl | (simp; done) | (simp [*]; done)), (by first | rfl | (simp; done) | (simp [*]; done)), (by first | rfl | (simp; done) | (simp [*]; done)), H', ⟨by have := HJ2.out; have := HJ6.out; have := HJ15.out; have := HK4.out; have := HK5.out; omega⟩, ⟨by (with_reducible repeat (first | apply Kd.R_alloc | apply Kd.R_drewN | apply Kd.R_drew)); exact HO_6.out⟩, ⟨by (with_reducible repeat (first | apply Kd.R_alloc | apply Kd.R_drewN | apply Kd.R_drew)); exact HO_8.out⟩, ⟨by (with_reducible repeat (first | refine blk_drewN ?_ _ | refine blk_drew ?_ | refine blk_alloc ?_ _)); exact BK297.out⟩, ⟨by (with_reducible repeat (first | refine blk_drewN ?_ _ | refine blk_drew ?_ | refine blk_alloc ?_ _)); exact BK309.out⟩, ⟨by (with_reducible repeat (first | refine blk_drewN ?_ _ | refine blk_drew ?_ | refine blk_alloc ?_ _)); exact BK318.out⟩, ⟨by repeat (first | (with_reducible first | exact HB.out | apply below_alloc | apply pw_below_drewN | apply below_drew1 | refine below_set ?_ GE297.out | refine below_set ?_ GE309.out | refine below_set ?_ GE318.out) | exact HB.out)⟩⟩
                                · rw [if_neg c46] at H
                                  exact absurd H (by simp)
                              · rw [if_neg c45] at H
                                exact absurd H (by simp)
                            · rw [if_neg c44] at H
                              have c44b0 : decide (x16_5 < (t298.length : Int)) = false := decide_eq_false c44
                              clear c44
                              have H' := Aside0.mk H
                              clear H
                              go_wp2
                              go_roundg k5
                              case measure => have := HJ2.out; have := HJ6.out; have := HJ15.out; have := HK4.out; have := HK5.out; omega
                              case rel => exact ⟨(wrap64 (x13_4 + 1)), (by first | rfl | (simp; done) | (simp [*]; done)), H', ⟨by have := HJ2.out; have := HJ6.out; have := HJ15.out; have := HK4.out; have := HK5.out; omega⟩, ⟨by (with_reducible repeat (first | apply Kd.R_alloc | apply Kd.R_drewN | apply Kd.R_drew)); exact HO_6.out⟩, ⟨by (with_reducible repeat (first | apply Kd.R_alloc | apply Kd.R_drewN | apply Kd.R_drew)); exact HO_8.out⟩, ⟨by (with_reducible repeat (first | refine blk_drewN ?_ _ | refine blk_drew ?_ | refine blk_alloc ?_ _)); exact BK297.out⟩, ⟨by (with_reducible repeat (first | refine blk_drewN ?_ _ | refine blk_drew ?_ | refine blk_alloc ?_ _)); exact BK309.out⟩, ⟨by (with_reducible repeat (first | refine blk_drewN ?_ _ | refine blk_drew ?_ | refine blk_alloc ?_ _)); exact BK318.out⟩, ⟨by repeat (first | (with_reducible first | exact HB.out | apply below_alloc | apply pw_below_drewN | apply below_drew1 | refine below_set ?_ GE297.out | refine below_set ?_ GE309.out | refine below_set ?_ GE318.out) | exact HB.out)⟩⟩
                      · rw [if_neg c43] at H
                        have c43b0 : decide (x13_4 < (t298.length : Int)) = false := decide_eq_false c43
                        clear c43
                        obtain rfl := Option.some.inj H
                        go_wp2
                        go_ret
                        exact ⟨by first | rfl | (simp [errW_none, errW_some] <;> rfl) | (simp [*, errW_none, errW_some] <;> rfl), by repeat (first | (with_reducible first | exact HB.out | apply below_alloc | apply pw_below_drewN | apply below_drew1 | refine below_set ?_ GE297.out | refine below_set ?_ GE309.out | refine below_set ?_ GE318.out) | exact HB.out)⟩

/-- THE ONE PURE STATEMENT of laws_FnEnvelope: yours. -/
def laws_FnEnvelope.Pure : Prop := ∀ (l0 : List Int) (l1 : List Int), l0.length ≤ maxLen → l0.length * 1 ≤ 140737488351232 → (∀ x ∈ l0, (Lit.int .u8 x).wf = true) → l1.length ≤ maxLen → l1.length * 1 ≤ 140737488351232 → (∀ x ∈ l1, (Lit.int .u8 x).wf = true) → ∃ k, laws_FnEnvelope.f k l0 l1 = some true
theorem laws_FnEnvelope.walk (P : laws_FnEnvelope.Pure) (a0 : Option Addr) (len0 cap0 : Nat) (z0 : List Int) (a1 : Option Addr) (len1 cap1 : Nat) (z1 : List Int) (w : World) (w0 : (a0 = none ∧ len0 = 0 ∧ cap0 = 0 ∧ z0 = []) ∨ ∃ x, a0 = some x ∧ len0 ≤ cap0 ∧ cap0 ≤ maxLen ∧ z0.length = cap0 ∧ (∀ i, i < z0.length → w.cell? (x.add i) = some (.int .u8 (z0.getD i 0))) ∧ ∀ n ∈ z0, (Lit.int .u8 n).wf = true) (y0 : len0 * 1 ≤ 140737488351232) (w1 : (a1 = none ∧ len1 = 0 ∧ cap1 = 0 ∧ z1 = []) ∨ ∃ x, a1 = some x ∧ len1 ≤ cap1 ∧ cap1 ≤ maxLen ∧ z1.length = cap1 ∧ (∀ i, i < z1.length → w.cell? (x.add i) = some (.int .u8 (z1.getD i 0))) ∧ ∀ n ∈ z1, (Lit.int .u8 n).wf = true) (y1 : len1 * 1 ≤ 140737488351232) :
    Calls Try.prog 9 #[.slice a0 len0 cap0, .slice a1 len1 cap1] w fun e w' => e = .returned (.bool true) ∧ Below w.heap.size w w' := by
  obtain ⟨l0, rfl, hr0, hm0, hw0, hc0⟩ := ReadsInt.ofRowC w0
  obtain ⟨l1, rfl, hr1, hm1, hw1, hc1⟩ := ReadsInt.ofRowC w1
  obtain ⟨k, h⟩ := P l0 l1 hm0 y0 hw0 hm1 y1 hw1
  refine (laws_FnEnvelope.calls k _ _ l0 _ _ l1 true w (Kd.C_of_reads (d := (0 : Int)) (h1 := fun _ => rfl) hr0) hc0 (Kd.C_of_reads (d := (0 : Int)) (h1 := fun _ => rfl) hr1) hc1 h).mono ?_
  rintro e w' ⟨rfl, hd⟩
  exact ⟨rfl, hd⟩

end Go.Proofs.Ytfjpfjofogbpgaa.PFnEnvelope
