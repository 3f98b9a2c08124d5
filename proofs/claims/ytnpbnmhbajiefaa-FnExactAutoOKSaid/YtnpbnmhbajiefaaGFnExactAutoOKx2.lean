-- OWN TEXT of FnExactAutoOK: made by own_print.sh, finished by hand
import Derived.Test.YtnpbnmhbajiefaaGFnExactAutoOKx0
import Derived.Test.YtnpbnmhbajiefaaGFnExactAutoOKx1
namespace Go.Proofs.Ytnpbnmhbajiefaa.PFnExactAutoOK
open Go.RowKit Go.Proofs.YtnpbnmhbajiefaaW.PrintWords Go.Proofs.YtnpbnmhbajiefaaW.PrintLast Go.Proofs.YtnpbnmhbajiefaaW.PrintMore
attribute [local go_sem] max2_int min2_int max_two min_two max_three min_three max_four min_four   -- for this text's walks alone
set_option linter.unusedVariables false
set_option linter.unusedSimpArgs false

/-! ### spec_AutoOK: function 15 -/
mutual
def spec_AutoOK.j0 : Nat → Bool → ByteArray → List (S39) → List ByteArray → Option (Bool)
  | 0, _, _, _, _ => none
  | k + 1, x21, x111000, x111001, x111002 => if x21 = true then (some false) else (spec_AutoOK.l0 k 0 x111000 x111001 x111002)
def spec_AutoOK.l0 : Nat → Int → ByteArray → List (S39) → List ByteArray → Option (Bool)
  | 0, _, _, _, _ => none
  | k + 1, x3, x111000, x111001, x111002 => if x3 < (x111002.length : Int) then (if 0 ≤ x3 then (if ((rdOf ByteArray.empty x111002 x3).size : Int) = 16 then (if x3 ≤ (x111002.length : Int) then ((spec_l14Text.f k (x111002.take (x3 : Int).toNat) (rdOf ByteArray.empty x111002 x3)).bind fun t114 => (if t114 = true then (some false) else (spec_AutoOK.l0 k (wrap64 (x3 + 1)) x111000 x111001 x111002))) else (none)) else (some false)) else (none)) else (spec_AutoOK.l1 k 0 x111000 x111001 x111002)
def spec_AutoOK.l1 : Nat → Int → ByteArray → List (S39) → List ByteArray → Option (Bool)
  | 0, _, _, _, _ => none
  | k + 1, x4, x111000, x111001, x111002 => if x4 < (x111001.length : Int) then (if 0 ≤ x4 then (if (((rd_T39 x111001 x4).f0).size : Int) = 16 then ((spec_l14Find.f k x111001 ((rd_T39 x111001 x4).f0)).bind fun t117 => (if t117 = x4 then ((spec_l14Text.f k x111002 ((rd_T39 x111001 x4).f0)).bind fun t118 => (if t118 = true then (spec_AutoOK.j3 k x4 true x111000 x111001 x111002 ((rd_T39 x111001 x4).f0) ((rd_T39 x111001 x4).f1) ((rd_T39 x111001 x4).f2) ((rd_T39 x111001 x4).f3) ((rd_T39 x111001 x4).f4)) else ((spec_l01In.f ((rd_T39 x111001 x4).f1) 1 3).bind fun t119 => (if t119 = true then ((spec_l01In.f ((rd_T39 x111001 x4).f3) 1 100000).bind fun t120 => (if t120 = true then ((spec_l01In.f ((rd_T39 x111001 x4).f4) 0 ((rd_T39 x111001 x4).f3)).bind fun t121 => (spec_AutoOK.j3 k x4 (!t121) x111000 x111001 x111002 ((rd_T39 x111001 x4).f0) ((rd_T39 x111001 x4).f1) ((rd_T39 x111001 x4).f2) ((rd_T39 x111001 x4).f3) ((rd_T39 x111001 x4).f4))) else (spec_AutoOK.j3 k x4 true x111000 x111001 x111002 ((rd_T39 x111001 x4).f0) ((rd_T39 x111001 x4).f1) ((rd_T39 x111001 x4).f2) ((rd_T39 x111001 x4).f3) ((rd_T39 x111001 x4).f4)))) else (spec_AutoOK.j3 k x4 true x111000 x111001 x111002 ((rd_T39 x111001 x4).f0) ((rd_T39 x111001 x4).f1) ((rd_T39 x111001 x4).f2) ((rd_T39 x111001 x4).f3) ((rd_T39 x111001 x4).f4)))))) else (spec_AutoOK.j3 k x4 true x111000 x111001 x111002 ((rd_T39 x111001 x4).f0) ((rd_T39 x111001 x4).f1) ((rd_T39 x111001 x4).f2) ((rd_T39 x111001 x4).f3) ((rd_T39 x111001 x4).f4)))) else (spec_AutoOK.j3 k x4 true x111000 x111001 x111002 ((rd_T39 x111001 x4).f0) ((rd_T39 x111001 x4).f1) ((rd_T39 x111001 x4).f2) ((rd_T39 x111001 x4).f3) ((rd_T39 x111001 x4).f4))) else (none)) else (some true)
def spec_AutoOK.j3 : Nat → Int → Bool → ByteArray → List (S39) → List ByteArray → ByteArray → Int → Int → Int → Int → Option (Bool)
  | 0, _, _, _, _, _, _, _, _, _, _ => none
  | k + 1, x4, x99, x111000, x111001, x111002, x117000, x117001, x117002, x117003, x117004 => if x99 = true then (some false) else ((spec_l01In.f x117002 1 3).bind fun t122 => (if ((x117001 == 1) != t122) = true then (some false) else (if x117001 = 1 then (spec_AutoOK.l1 k (wrap64 (x4 + 1)) x111000 x111001 x111002) else (if x117002 = 0 then (if ((x117001 == 3) != (x117004 == 0)) = true then (some false) else (spec_AutoOK.l1 k (wrap64 (x4 + 1)) x111000 x111001 x111002)) else (some false)))))
end
def spec_AutoOK.f (k : Nat) (a0_0 : ByteArray) (l0_1 : List (S39)) (l0_2 : List ByteArray) : Option (Bool) := if (a0_0.size : Int) = 6 then (if (l0_1.length : Int) > 6 then (spec_AutoOK.j0 k true a0_0 l0_1 l0_2) else (spec_AutoOK.j0 k (decide ((l0_2.length : Int) > 6)) a0_0 l0_1 l0_2)) else (spec_AutoOK.j0 k true a0_0 l0_1 l0_2)
theorem spec_AutoOK.mono_l : ∀ k, (∀ y0 y1 y2 y3, LeO (spec_AutoOK.j0 k y0 y1 y2 y3) (spec_AutoOK.j0 (k + 1) y0 y1 y2 y3)) ∧ (∀ y0 y1 y2 y3, LeO (spec_AutoOK.l0 k y0 y1 y2 y3) (spec_AutoOK.l0 (k + 1) y0 y1 y2 y3)) ∧ (∀ y0 y1 y2 y3, LeO (spec_AutoOK.l1 k y0 y1 y2 y3) (spec_AutoOK.l1 (k + 1) y0 y1 y2 y3)) ∧ (∀ y0 y1 y2 y3 y4 y5 y6 y7 y8 y9, LeO (spec_AutoOK.j3 k y0 y1 y2 y3 y4 y5 y6 y7 y8 y9) (spec_AutoOK.j3 (k + 1) y0 y1 y2 y3 y4 y5 y6 y7 y8 y9))
  | 0 => ⟨fun _ _ _ _ r h => by simp [spec_AutoOK.j0] at h, fun _ _ _ _ r h => by simp [spec_AutoOK.l0] at h, fun _ _ _ _ r h => by simp [spec_AutoOK.l1] at h, fun _ _ _ _ _ _ _ _ _ _ r h => by simp [spec_AutoOK.j3] at h⟩
  | k + 1 => by
    obtain ⟨ih0, ih1, ih2, ih3⟩ := spec_AutoOK.mono_l k
    refine ⟨?_, ?_, ?_, ?_⟩
    · intro y0 y1 y2 y3
      unfold spec_AutoOK.j0
      repeat' first
      | (with_reducible exact ih0 _ _ _ _)
      | (with_reducible exact ih1 _ _ _ _)
      | (with_reducible exact ih2 _ _ _ _)
      | (with_reducible exact ih3 _ _ _ _ _ _ _ _ _ _)
      | (with_reducible exact spec_l14Find.mono _ _ _)
      | (with_reducible exact spec_l14Text.mono _ _ _)
      | (with_reducible exact LeO.refl _)
      | (with_reducible exact LeO.none _)
      | (with_reducible refine LeO.ite ?_ ?_)
      | (with_reducible refine LeO.bind ?_ (fun _ => ?_))
      | exact ih0 _ _ _ _
      | exact ih1 _ _ _ _
      | exact ih2 _ _ _ _
      | exact ih3 _ _ _ _ _ _ _ _ _ _
      | exact spec_l14Find.mono _ _ _
      | exact spec_l14Text.mono _ _ _
      | exact LeO.none _
      | refine LeO.ite ?_ ?_
      | refine LeO.bind ?_ (fun _ => ?_)
    · intro y0 y1 y2 y3
      unfold spec_AutoOK.l0
      repeat' first
      | (with_reducible exact ih0 _ _ _ _)
      | (with_reducible exact ih1 _ _ _ _)
      | (with_reducible exact ih2 _ _ _ _)
      | (with_reducible exact ih3 _ _ _ _ _ _ _ _ _ _)
      | (with_reducible exact spec_l14Find.mono _ _ _)
      | (with_reducible exact spec_l14Text.mono _ _ _)
      | (with_reducible exact LeO.refl _)
      | (with_reducible exact LeO.none _)
      | (with_reducible refine LeO.ite ?_ ?_)
      | (with_reducible refine LeO.bind ?_ (fun _ => ?_))
      | exact ih0 _ _ _ _
      | exact ih1 _ _ _ _
      | exact ih2 _ _ _ _
      | exact ih3 _ _ _ _ _ _ _ _ _ _
      | exact spec_l14Find.mono _ _ _
      | exact spec_l14Text.mono _ _ _
      | exact LeO.none _
      | refine LeO.ite ?_ ?_
      | refine LeO.bind ?_ (fun _ => ?_)
    · intro y0 y1 y2 y3
      unfold spec_AutoOK.l1
      repeat' first
      | (with_reducible exact ih0 _ _ _ _)
      | (with_reducible exact ih1 _ _ _ _)
      | (with_reducible exact ih2 _ _ _ _)
      | (with_reducible exact ih3 _ _ _ _ _ _ _ _ _ _)
      | (with_reducible exact spec_l14Find.mono _ _ _)
      | (with_reducible exact spec_l14Text.mono _ _ _)
      | (with_reducible exact LeO.refl _)
      | (with_reducible exact LeO.none _)
      | (with_reducible refine LeO.ite ?_ ?_)
      | (with_reducible refine LeO.bind ?_ (fun _ => ?_))
      | exact ih0 _ _ _ _
      | exact ih1 _ _ _ _
      | exact ih2 _ _ _ _
      | exact ih3 _ _ _ _ _ _ _ _ _ _
      | exact spec_l14Find.mono _ _ _
      | exact spec_l14Text.mono _ _ _
      | exact LeO.none _
      | refine LeO.ite ?_ ?_
      | refine LeO.bind ?_ (fun _ => ?_)
    · intro y0 y1 y2 y3 y4 y5 y6 y7 y8 y9
      unfold spec_AutoOK.j3
      repeat' first
      | (with_reducible exact ih0 _ _ _ _)
      | (with_reducible exact ih1 _ _ _ _)
      | (with_reducible exact ih2 _ _ _ _)
      | (with_reducible exact ih3 _ _ _ _ _ _ _ _ _ _)
      | (with_reducible exact spec_l14Find.mono _ _ _)
      | (with_reducible exact spec_l14Text.mono _ _ _)
      | (with_reducible exact LeO.refl _)
      | (with_reducible exact LeO.none _)
      | (with_reducible refine LeO.ite ?_ ?_)
      | (with_reducible refine LeO.bind ?_ (fun _ => ?_))
      | exact ih0 _ _ _ _
      | exact ih1 _ _ _ _
      | exact ih2 _ _ _ _
      | exact ih3 _ _ _ _ _ _ _ _ _ _
      | exact spec_l14Find.mono _ _ _
      | exact spec_l14Text.mono _ _ _
      | exact LeO.none _
      | refine LeO.ite ?_ ?_
      | refine LeO.bind ?_ (fun _ => ?_)
theorem spec_AutoOK.mono : ∀ a0 a1 a2 k, LeO (spec_AutoOK.f k a0 a1 a2) (spec_AutoOK.f (k + 1) a0 a1 a2) := by
  intro a0 a1 a2 k
  obtain ⟨ih0, ih1, ih2, ih3⟩ := spec_AutoOK.mono_l k
  unfold spec_AutoOK.f
  repeat' first
      | (with_reducible exact ih0 _ _ _ _)
      | (with_reducible exact ih1 _ _ _ _)
      | (with_reducible exact ih2 _ _ _ _)
      | (with_reducible exact ih3 _ _ _ _ _ _ _ _ _ _)
      | (with_reducible exact spec_l14Find.mono _ _ _)
      | (with_reducible exact spec_l14Text.mono _ _ _)
      | (with_reducible exact LeO.refl _)
      | (with_reducible exact LeO.none _)
      | (with_reducible refine LeO.ite ?_ ?_)
      | (with_reducible refine LeO.bind ?_ (fun _ => ?_))
      | exact ih0 _ _ _ _
      | exact ih1 _ _ _ _
      | exact ih2 _ _ _ _
      | exact ih3 _ _ _ _ _ _ _ _ _ _
      | exact spec_l14Find.mono _ _ _
      | exact spec_l14Text.mono _ _ _
      | exact LeO.none _
      | refine LeO.ite ?_ ?_
      | refine LeO.bind ?_ (fun _ => ?_)
set_option maxHeartbeats 8000000 in
set_option maxRecDepth 100000 in
theorem spec_AutoOK.calls (k : Nat) (a0_0 : ByteArray) (A0_1 : Option Addr) (c0_1 : Nat) (l0_1 : List (S39)) (A0_2 : Option Addr) (c0_2 : Nat) (l0_2 : List ByteArray) (r : Bool) (w : World) (hr0_1 : Kd.C k39 w A0_1 l0_1.length l0_1) (hc0_1 : l0_1.length ≤ c0_1) (hr0_2 : Kd.C Kd.string w A0_2 l0_2.length l0_2) (hc0_2 : l0_2.length ≤ c0_2) (h : spec_AutoOK.f k a0_0 l0_1 l0_2 = some r) :
    Calls Try.prog 15 #[.agg #[.string a0_0, .slice A0_1 l0_1.length c0_1, .slice A0_2 l0_2.length c0_2]] w fun e w' => e = .returned (.bool r) ∧ Below w.heap.size w w' := by
  have hu27 := Try.underlying27
  have hu39 := Try.underlying39
  have HR0_1 := Aside0.mk hr0_1
  have HC0_1 := Aside0.mk hc0_1
  clear hr0_1 hc0_1
  have HR0_2 := Aside0.mk hr0_2
  have HC0_2 := Aside0.mk hc0_2
  clear hr0_2 hc0_2
  have HB := Aside0.mk (Below.refl w.heap.size w)
  have H : (if (a0_0.size : Int) = 6 then (if (l0_1.length : Int) > 6 then (spec_AutoOK.j0 k true a0_0 l0_1 l0_2) else (spec_AutoOK.j0 k (decide ((l0_2.length : Int) > 6)) a0_0 l0_1 l0_2)) else (spec_AutoOK.j0 k true a0_0 l0_1 l0_2)) = some r := h
  clear h
  have HC2 := Aside0.mk H
  clear H
  go_enter Try.func15, Try.ntmps15
  go_upto_region 1 with (first | ((with_reducible refine gate_dst (N := 1) rfl ?_); (try (refine gate_guard (by rfl) ?_; dsimp only)); refine box_event ?hg (N := 1) ?hd (cs := #[.string a0_0, .slice A0_1 l0_1.length c0_1, .slice A0_2 l0_2.length c0_2]) (t := 27) ?hr ?_; (case hd => rfl); (case hg => rfl); (case hr => first | (go_simp; done) | (go_simp; rfl)); intro gb110 hg w3 hbox hb; have n0_ := Aside0.mk (below_step (by repeat (first | (with_reducible first | exact HB.out | apply below_alloc | apply pw_below_drewN | apply below_drew1) | exact HB.out)) hb); have n1_ := Aside0.mk (hbox); have n2_ := Aside0.mk ((by rw [hg]; exact (below_size (by repeat (first | (with_reducible first | exact HB.out | apply below_alloc | apply pw_below_drewN | apply below_drew1) | exact HB.out))) : w.heap.size ≤ gb110)); have n3_ := Aside0.mk ((by rw [hg]; exact (below_size (by repeat (first | (with_reducible first | exact HB.out | apply below_alloc | apply pw_below_drewN | apply below_drew1) | exact HB.out))) : w.heap.size ≤ gb110)); clear HB; have HB := n0_; have BK110 := n1_; have GW110 := n2_; have GE110 := n3_; clear n0_ n1_ n2_ n3_; clear hb hbox hg))
  repeat (go_quiet (first | ((with_reducible refine gate_dst (N := 1) rfl ?_); (try (refine gate_guard (by rfl) ?_; dsimp only)); refine box_event ?hg (N := 1) ?hd (cs := #[.string a0_0, .slice A0_1 l0_1.length c0_1, .slice A0_2 l0_2.length c0_2]) (t := 27) ?hr ?_; (case hd => rfl); (case hg => rfl); (case hr => first | (go_simp; done) | (go_simp; rfl)); intro gb110 hg w3 hbox hb; have n0_ := Aside0.mk (below_step (by repeat (first | (with_reducible first | exact HB.out | apply below_alloc | apply pw_below_drewN | apply below_drew1) | exact HB.out)) hb); have n1_ := Aside0.mk (hbox); have n2_ := Aside0.mk ((by rw [hg]; exact (below_size (by repeat (first | (with_reducible first | exact HB.out | apply below_alloc | apply pw_below_drewN | apply below_drew1) | exact HB.out))) : w.heap.size ≤ gb110)); have n3_ := Aside0.mk ((by rw [hg]; exact (below_size (by repeat (first | (with_reducible first | exact HB.out | apply below_alloc | apply pw_below_drewN | apply below_drew1) | exact HB.out))) : w.heap.size ≤ gb110)); clear HB; have HB := n0_; have BK110 := n1_; have GW110 := n2_; have GE110 := n3_; clear n0_ n1_ n2_ n3_; clear hb hbox hg)); go_upto_region 1 with (first | ((with_reducible refine gate_dst (N := 1) rfl ?_); (try (refine gate_guard (by rfl) ?_; dsimp only)); refine box_event ?hg (N := 1) ?hd (cs := #[.string a0_0, .slice A0_1 l0_1.length c0_1, .slice A0_2 l0_2.length c0_2]) (t := 27) ?hr ?_; (case hd => rfl); (case hg => rfl); (case hr => first | (go_simp; done) | (go_simp; rfl)); intro gb110 hg w3 hbox hb; have n0_ := Aside0.mk (below_step (by repeat (first | (with_reducible first | exact HB.out | apply below_alloc | apply pw_below_drewN | apply below_drew1) | exact HB.out)) hb); have n1_ := Aside0.mk (hbox); have n2_ := Aside0.mk ((by rw [hg]; exact (below_size (by repeat (first | (with_reducible first | exact HB.out | apply below_alloc | apply pw_below_drewN | apply below_drew1) | exact HB.out))) : w.heap.size ≤ gb110)); have n3_ := Aside0.mk ((by rw [hg]; exact (below_size (by repeat (first | (with_reducible first | exact HB.out | apply below_alloc | apply pw_below_drewN | apply below_drew1) | exact HB.out))) : w.heap.size ≤ gb110)); clear HB; have HB := n0_; have BK110 := n1_; have GW110 := n2_; have GE110 := n3_; clear n0_ n1_ n2_ n3_; clear hb hbox hg)))
  (try simp only [Act.put, List.setIfInBounds_toArray, List.set_cons_zero, List.set_cons_succ])
  go_cut [21] (fun v21 wc => ∃ (kq : Nat) (x21_1 : Bool), v21 = .bool x21_1 ∧ Aside0 (spec_AutoOK.j0 kq x21_1 a0_0 l0_1 l0_2 = some r) ∧ Aside0 (kq ≤ k) ∧ Aside0 (wc.heap[gb110]? = some (.cells #[.string a0_0, (.slice A0_1 l0_1.length c0_1), (.slice A0_2 l0_2.length c0_2)] 27 (0, 0))) ∧ Aside0 (Below w.heap.size w wc))
  case first =>
    have H := HC2.out
    clear HC2
    by_cases c4 : (a0_0.size : Int) = 6
    · rw [if_pos c4] at H
      have c4b0 : ((a0_0.size : Int) == 6) = true := beq_iff_eq.mpr c4
      have c4b1 : ((a0_0.size : Int) != 6) = false := bne_eq_false_iff_eq.mpr c4
      clear c4
      (first | rw [c4b0] | (simp only [i64_w, i32_w]; rw [c4b0]) | skip)
      by_cases c5 : (l0_1.length : Int) > 6
      · rw [if_pos c5] at H
        have c5b0 : decide (6 < (l0_1.length : Int)) = true := decide_eq_true c5
        have c5b1 : decide (6 < l0_1.length) = true := decide_eq_true (by omega)
        clear c5
        have H' := Aside0.mk H
        clear H
        have hcz6_0 : w3.cell? ⟨gb110, 0, none⟩ = some (.string a0_0) := (blk_cell BK110.out 0).trans rfl
        have hcz6_1 : w3.cell? ⟨gb110, 1, none⟩ = some (.slice A0_1 l0_1.length c0_1) := (blk_cell BK110.out 1).trans rfl
        have hcz6_2 : w3.cell? ⟨gb110, 2, none⟩ = some (.slice A0_2 l0_2.length c0_2) := (blk_cell BK110.out 2).trans rfl
        have hfz6_0 := blk_frozen BK110.out 0
        have hfz6_1 := blk_frozen BK110.out 1
        have hfz6_2 := blk_frozen BK110.out 2
        go_wp2
        repeat (go_quiet (fail); try go_wp2)
        go_meet
        case rel => exact ⟨_, (true), (by first | rfl | (simp; done) | (simp [*]; done)), H', ⟨by first | omega | exact Nat.le_refl _⟩, ⟨by (with_reducible repeat (first | refine blk_drewN ?_ _ | refine blk_drew ?_ | refine blk_alloc ?_ _)); exact BK110.out⟩, ⟨by repeat (first | (with_reducible first | exact HB.out | apply below_alloc | apply pw_below_drewN | apply below_drew1 | refine below_set ?_ GE110.out) | exact HB.out)⟩⟩
      · rw [if_neg c5] at H
        have c5b0 : decide (6 < (l0_1.length : Int)) = false := decide_eq_false c5
        have c5b1 : decide (6 < l0_1.length) = false := decide_eq_false (by omega)
        clear c5
        have H' := Aside0.mk H
        clear H
        have hcz7_0 : w3.cell? ⟨gb110, 0, none⟩ = some (.string a0_0) := (blk_cell BK110.out 0).trans rfl
        have hcz7_1 : w3.cell? ⟨gb110, 1, none⟩ = some (.slice A0_1 l0_1.length c0_1) := (blk_cell BK110.out 1).trans rfl
        have hcz7_2 : w3.cell? ⟨gb110, 2, none⟩ = some (.slice A0_2 l0_2.length c0_2) := (blk_cell BK110.out 2).trans rfl
        have hfz7_0 := blk_frozen BK110.out 0
        have hfz7_1 := blk_frozen BK110.out 1
        have hfz7_2 := blk_frozen BK110.out 2
        go_wp2
        repeat (go_quiet (fail); try go_wp2)
        go_meet
        case rel => exact ⟨_, (decide ((l0_2.length : Int) > 6)), (by first | rfl | (simp; done) | (simp [*]; done)), H', ⟨by first | omega | exact Nat.le_refl _⟩, ⟨by (with_reducible repeat (first | refine blk_drewN ?_ _ | refine blk_drew ?_ | refine blk_alloc ?_ _)); exact BK110.out⟩, ⟨by repeat (first | (with_reducible first | exact HB.out | apply below_alloc | apply pw_below_drewN | apply below_drew1 | refine below_set ?_ GE110.out) | exact HB.out)⟩⟩
    · rw [if_neg c4] at H
      have c4b0 : ((a0_0.size : Int) == 6) = false := beq_eq_false_iff_ne.mpr c4
      have c4b1 : ((a0_0.size : Int) != 6) = true := bne_iff_ne.mpr c4
      (first | rw [c4b0] | (simp only [i64_w, i32_w]; rw [c4b0]) | skip)
      have H' := Aside0.mk H
      clear H
      have hcz8_0 : w3.cell? ⟨gb110, 0, none⟩ = some (.string a0_0) := (blk_cell BK110.out 0).trans rfl
      have hcz8_1 : w3.cell? ⟨gb110, 1, none⟩ = some (.slice A0_1 l0_1.length c0_1) := (blk_cell BK110.out 1).trans rfl
      have hcz8_2 : w3.cell? ⟨gb110, 2, none⟩ = some (.slice A0_2 l0_2.length c0_2) := (blk_cell BK110.out 2).trans rfl
      have hfz8_0 := blk_frozen BK110.out 0
      have hfz8_1 := blk_frozen BK110.out 1
      have hfz8_2 := blk_frozen BK110.out 2
      go_wp2
      repeat (go_quiet (fail); try go_wp2)
      go_meet
      case rel => exact ⟨_, (true), (by first | rfl | (simp; done) | (simp [*]; done)), H', ⟨by first | omega | exact Nat.le_refl _⟩, ⟨by (with_reducible repeat (first | refine blk_drewN ?_ _ | refine blk_drew ?_ | refine blk_alloc ?_ _)); exact BK110.out⟩, ⟨by repeat (first | (with_reducible first | exact HB.out | apply below_alloc | apply pw_below_drewN | apply below_drew1 | refine below_set ?_ GE110.out) | exact HB.out)⟩⟩
  case rest =>
    clear HC2
    try clear c1
    try clear p2
    try clear c4
    try clear c4b0
    try clear c4b1
    try clear c5
    try clear c5b0
    try clear c5b1
    try clear hcz6_0
    try clear hcz6_1
    try clear hcz6_2
    try clear hcz7_0
    try clear hcz7_1
    try clear hcz7_2
    try clear hcz8_0
    try clear hcz8_1
    try clear hcz8_2
    try clear hfz6_0
    try clear hfz6_1
    try clear hfz6_2
    try clear hfz7_0
    try clear hfz7_1
    try clear hfz7_2
    try clear hfz8_0
    try clear hfz8_1
    try clear hfz8_2
    obtain ⟨kq, x21_1, rfl, HA, HJ1, BK110, HB⟩ := hcut
    cases kq with
    | zero => exact absurd HA.out (by simp [spec_AutoOK.j0])
    | succ kj1 =>
      have H := HA.out
      clear HA
      simp only [spec_AutoOK.j0] at H
      by_cases c9 : x21_1 = true
      · subst c9
        have H1 : (some false) = some r := by rw [if_pos rfl] at H; exact H
        clear H
        have H := H1
        clear H1
        obtain rfl := Option.some.inj H
        go_wp2
        repeat (go_quiet (fail); try go_wp2)
        go_ret
        exact ⟨by first | rfl | (simp [errW_none, errW_some] <;> rfl) | (simp [*, errW_none, errW_some] <;> rfl), by repeat (first | (with_reducible first | exact HB.out | apply below_alloc | apply pw_below_drewN | apply below_drew1 | refine below_set ?_ GE110.out) | exact HB.out)⟩
      · replace c9 := Bool.eq_false_iff.mpr c9
        subst c9
        have H1 : (spec_AutoOK.l0 kj1 0 a0_0 l0_1 l0_2) = some r := by rw [if_neg (show ¬ (false = true) by decide)] at H; exact H
        clear H
        have H := H1
        clear H1
        have H' := Aside0.mk H
        clear H
        go_wp2
        repeat (go_quiet (fail); try go_wp2)
        go_loopg [3] kj1 (fun kq v3 w' => ∃ (x3_2 : Int), v3 = .int .i64 x3_2 ∧ Aside0 (spec_AutoOK.l0 kq x3_2 a0_0 l0_1 l0_2 = some r) ∧ Aside0 (kq ≤ kj1) ∧ Aside0 (w'.heap[gb110]? = some (.cells #[.string a0_0, (.slice A0_1 l0_1.length c0_1), (.slice A0_2 l0_2.length c0_2)] 27 (0, 0))) ∧ Aside0 (Below w.heap.size w w'))
        case atStart => exact ⟨(0), (by first | rfl | (simp; done) | (simp [*]; done)), H', ⟨Nat.le_refl _⟩, ⟨by (with_reducible repeat (first | refine blk_drewN ?_ _ | refine blk_drew ?_ | refine blk_alloc ?_ _)); exact BK110.out⟩, ⟨by repeat (first | (with_reducible first | exact HB.out | apply below_alloc | apply pw_below_drewN | apply below_drew1 | refine below_set ?_ GE110.out) | exact HB.out)⟩⟩
        case round =>
          clear H'
          try clear c1
          try clear p2
          try clear c4
          try clear c4b0
          try clear c4b1
          try clear c5
          try clear c5b0
          try clear c5b1
          try clear c9
          try clear hcz6_0
          try clear hcz6_1
          try clear hcz6_2
          try clear hcz7_0
          try clear hcz7_1
          try clear hcz7_2
          try clear hcz8_0
          try clear hcz8_1
          try clear hcz8_2
          try clear hfz6_0
          try clear hfz6_1
          try clear hfz6_2
          try clear hfz7_0
          try clear hfz7_1
          try clear hfz7_2
          try clear hfz8_0
          try clear hfz8_1
          try clear hfz8_2
          try clear p2
          obtain ⟨x3_2, rfl, HA, HK2, BK110, HB⟩ := hrel
          cases gk with
          | zero => exact absurd HA.out (by simp [spec_AutoOK.l0])
          | succ k2 =>
            have H := HA.out
            clear HA
            simp only [spec_AutoOK.l0] at H
            by_cases c10 : x3_2 < (l0_2.length : Int)
            · rw [if_pos c10] at H
              have c10b0 : decide (x3_2 < (l0_2.length : Int)) = true := decide_eq_true c10
              clear c10
              by_cases c11 : 0 ≤ x3_2
              · rw [if_pos c11] at H
                have c11b0 : decide (0 ≤ x3_2) = true := decide_eq_true c11
                clear c11
                by_cases c12 : ((rdOf ByteArray.empty l0_2 x3_2).size : Int) = 16
                · rw [if_pos c12] at H
                  have c12b0 : (((rdOf ByteArray.empty l0_2 x3_2).size : Int) == 16) = true := beq_iff_eq.mpr c12
                  have c12b1 : (((rdOf ByteArray.empty l0_2 x3_2).size : Int) != 16) = false := bne_eq_false_iff_eq.mpr c12
                  clear c12
                  have c13b0 := eq_true (of_decide_eq_true (by first | (with_reducible assumption) | assumption) : 0 ≤ x3_2)
                  by_cases c14 : x3_2 ≤ (l0_2.length : Int)
                  · rw [if_pos c14] at H
                    have c14b0 := eq_true c14
                    have c14b1 : decide (x3_2 ≤ (l0_2.length : Int)) = true := decide_eq_true c14
                    clear c14
                    replace H := Option.bind_eq_some_iff.mp H
                    obtain ⟨t114, A150, H⟩ := H
                    replace H : (if t114 = true then (some false) else (spec_AutoOK.l0 k2 (wrap64 (x3_2 + 1)) a0_0 l0_1 l0_2)) = some r := H
                    have A15 := Aside0.mk A150
                    clear A150
                    by_cases c16 : t114 = true
                    · subst c16
                      have H1 : (some false) = some r := by rw [if_pos rfl] at H; exact H
                      clear H
                      have H := H1
                      clear H1
                      obtain rfl := Option.some.inj H
                      have hcz17_0 : wr.cell? ⟨gb110, 0, none⟩ = some (.string a0_0) := (blk_cell BK110.out 0).trans rfl
                      have hcz17_1 : wr.cell? ⟨gb110, 1, none⟩ = some (.slice A0_1 l0_1.length c0_1) := (blk_cell BK110.out 1).trans rfl
                      have hcz17_2 : wr.cell? ⟨gb110, 2, none⟩ = some (.slice A0_2 l0_2.length c0_2) := (blk_cell BK110.out 2).trans rfl
                      have hfz17_0 := blk_frozen BK110.out 0
                      have hfz17_1 := blk_frozen BK110.out 1
                      have hfz17_2 := blk_frozen BK110.out 2
                      have p111 : 0 ≤ (x3_2 : Int) := of_decide_eq_true (by first | (with_reducible assumption) | assumption)
                      have q111 : x3_2 < (l0_2.length : Int) := of_decide_eq_true (by first | (with_reducible assumption) | assumption)
                      obtain ⟨ad111, e111, hx111_0⟩ := Kd.at_string HR0_2.out x3_2 p111 q111
                      cases e111
                      replace hx111_0 := (HB.out.cell (World.block_lt_of_cell? w _ hx111_0)).trans hx111_0
                      replace p111 := eq_true p111
                      replace q111 := eq_true q111
                      obtain ⟨i018, hi018, _, hsz18, _⟩ := info_parts info9
                      obtain ⟨hcut18, hA18, hC18⟩ := print_take_of (P := Try.prog) Value.string (⟨#[]⟩ : ByteArray) 25 9 .i64 Try.underlying25 hi018 hsz18 (some ad111) c0_2 l0_2 x3_2 (of_decide_eq_true (by first | (with_reducible assumption) | assumption)) (of_decide_eq_true (by first | (with_reducible assumption) | assumption)) HC0_2.out
                      have HR112 := Aside0.mk (Kd.C_of_reads (h1 := fun _ => rfl) (hA18 _ (Kd.reads_of_C HR0_2.out)))
                      have HC112 := Aside0.mk hC18
                      clear hA18 hC18 hi018 hsz18
                      have p113 : 0 ≤ (x3_2 : Int) := of_decide_eq_true (by first | (with_reducible assumption) | assumption)
                      have q113 : x3_2 < (l0_2.length : Int) := of_decide_eq_true (by first | (with_reducible assumption) | assumption)
                      obtain ⟨ad113, e113, hx113_0⟩ := Kd.at_string HR0_2.out x3_2 p113 q113
                      obtain rfl : ad111 = ad113 := (by injection e113)
                      replace hx113_0 := (HB.out.cell (World.block_lt_of_cell? w _ hx113_0)).trans hx113_0
                      replace p113 := eq_true p113
                      replace q113 := eq_true q113
                      have hlen_ : (l0_2.take (x3_2 : Int).toNat).length = (x3_2 : Int).toNat := by have := of_eq_true q111; have := of_eq_true p111; simp only [List.length_take]; omega
                      have HQ_ := fun n => spec_l14Text.calls k2 _ _ (l0_2.take (x3_2 : Int).toNat) (rdOf ByteArray.empty l0_2 x3_2) true (wr.drewN n) (Kd.C_drewN (Kd.C_below HR112.out HB.out) n) HC112.out A15.out
                      simp only [hlen_] at HQ_
                      go_wp2
                      go_quiet (first | (go_at_call 35; refine (HQ_ _).mono ?_; rintro e w' ⟨rfl, ⟨nd, rfl⟩⟩; (try first | exact ⟨rfl, _, World.drewN_drewN _ _ _⟩ | exact ⟨rfl, _, Eq.trans (World.drewN_drewN _ _ _) (congrArg (World.drewN _) (Nat.add_assoc _ _ _))⟩)))
                      try go_wp2
                      go_ret
                      exact ⟨by first | rfl | (simp [errW_none, errW_some] <;> rfl) | (simp [*, errW_none, errW_some] <;> rfl), by repeat (first | (with_reducible first | exact HB.out | apply below_alloc | apply pw_below_drewN | apply below_drew1 | refine below_set ?_ GE110.out) | exact HB.out)⟩
                    · replace c16 := Bool.eq_false_iff.mpr c16
                      subst c16
                      have H1 : (spec_AutoOK.l0 k2 (wrap64 (x3_2 + 1)) a0_0 l0_1 l0_2) = some r := by rw [if_neg (show ¬ (false = true) by decide)] at H; exact H
                      clear H
                      have H := H1
                      clear H1
                      have H' := Aside0.mk H
                      clear H
                      have hcz19_0 : wr.cell? ⟨gb110, 0, none⟩ = some (.string a0_0) := (blk_cell BK110.out 0).trans rfl
                      have hcz19_1 : wr.cell? ⟨gb110, 1, none⟩ = some (.slice A0_1 l0_1.length c0_1) := (blk_cell BK110.out 1).trans rfl
                      have hcz19_2 : wr.cell? ⟨gb110, 2, none⟩ = some (.slice A0_2 l0_2.length c0_2) := (blk_cell BK110.out 2).trans rfl
                      have hfz19_0 := blk_frozen BK110.out 0
                      have hfz19_1 := blk_frozen BK110.out 1
                      have hfz19_2 := blk_frozen BK110.out 2
                      have p111 : 0 ≤ (x3_2 : Int) := of_decide_eq_true (by first | (with_reducible assumption) | assumption)
                      have q111 : x3_2 < (l0_2.length : Int) := of_decide_eq_true (by first | (with_reducible assumption) | assumption)
                      obtain ⟨ad111, e111, hx111_0⟩ := Kd.at_string HR0_2.out x3_2 p111 q111
                      cases e111
                      replace hx111_0 := (HB.out.cell (World.block_lt_of_cell? w _ hx111_0)).trans hx111_0
                      replace p111 := eq_true p111
                      replace q111 := eq_true q111
                      obtain ⟨i020, hi020, _, hsz20, _⟩ := info_parts info9
                      obtain ⟨hcut20, hA20, hC20⟩ := print_take_of (P := Try.prog) Value.string (⟨#[]⟩ : ByteArray) 25 9 .i64 Try.underlying25 hi020 hsz20 (some ad111) c0_2 l0_2 x3_2 (of_decide_eq_true (by first | (with_reducible assumption) | assumption)) (of_decide_eq_true (by first | (with_reducible assumption) | assumption)) HC0_2.out
                      have HR112 := Aside0.mk (Kd.C_of_reads (h1 := fun _ => rfl) (hA20 _ (Kd.reads_of_C HR0_2.out)))
                      have HC112 := Aside0.mk hC20
                      clear hA20 hC20 hi020 hsz20
                      have p113 : 0 ≤ (x3_2 : Int) := of_decide_eq_true (by first | (with_reducible assumption) | assumption)
                      have q113 : x3_2 < (l0_2.length : Int) := of_decide_eq_true (by first | (with_reducible assumption) | assumption)
                      obtain ⟨ad113, e113, hx113_0⟩ := Kd.at_string HR0_2.out x3_2 p113 q113
                      obtain rfl : ad111 = ad113 := (by injection e113)
                      replace hx113_0 := (HB.out.cell (World.block_lt_of_cell? w _ hx113_0)).trans hx113_0
                      replace p113 := eq_true p113
                      replace q113 := eq_true q113
                      have hlen_ : (l0_2.take (x3_2 : Int).toNat).length = (x3_2 : Int).toNat := by have := of_eq_true q111; have := of_eq_true p111; simp only [List.length_take]; omega
                      have HQ_ := fun n => spec_l14Text.calls k2 _ _ (l0_2.take (x3_2 : Int).toNat) (rdOf ByteArray.empty l0_2 x3_2) false (wr.drewN n) (Kd.C_drewN (Kd.C_below HR112.out HB.out) n) HC112.out A15.out
                      simp only [hlen_] at HQ_
                      go_wp2
                      go_quiet (first | (go_at_call 35; refine (HQ_ _).mono ?_; rintro e w' ⟨rfl, ⟨nd, rfl⟩⟩; (try first | exact ⟨rfl, _, World.drewN_drewN _ _ _⟩ | exact ⟨rfl, _, Eq.trans (World.drewN_drewN _ _ _) (congrArg (World.drewN _) (Nat.add_assoc _ _ _))⟩)))
                      try go_wp2
                      go_roundg k2
                      case measure => have := HJ1.out; have := HK2.out; omega
                      case rel => exact ⟨(wrap64 (x3_2 + 1)), (by first | rfl | (simp; done) | (simp [*]; done)), H', ⟨by have := HJ1.out; have := HK2.out; omega⟩, ⟨by (with_reducible repeat (first | refine blk_drewN ?_ _ | refine blk_drew ?_ | refine blk_alloc ?_ _)); exact BK110.out⟩, ⟨by repeat (first | (with_reducible first | exact HB.out | apply below_alloc | apply pw_below_drewN | apply below_drew1 | refine below_set ?_ GE110.out) | exact HB.out)⟩⟩
                  · rw [if_neg c14] at H
                    exact absurd H (by simp)
                · rw [if_neg c12] at H
                  have c12b0 : (((rdOf ByteArray.empty l0_2 x3_2).size : Int) == 16) = false := beq_eq_false_iff_ne.mpr c12
                  have c12b1 : (((rdOf ByteArray.empty l0_2 x3_2).size : Int) != 16) = true := bne_iff_ne.mpr c12
                  obtain rfl := Option.some.inj H
                  have hcz21_0 : wr.cell? ⟨gb110, 0, none⟩ = some (.string a0_0) := (blk_cell BK110.out 0).trans rfl
                  have hcz21_1 : wr.cell? ⟨gb110, 1, none⟩ = some (.slice A0_1 l0_1.length c0_1) := (blk_cell BK110.out 1).trans rfl
                  have hcz21_2 : wr.cell? ⟨gb110, 2, none⟩ = some (.slice A0_2 l0_2.length c0_2) := (blk_cell BK110.out 2).trans rfl
                  have hfz21_0 := blk_frozen BK110.out 0
                  have hfz21_1 := blk_frozen BK110.out 1
                  have hfz21_2 := blk_frozen BK110.out 2
                  have p111 : 0 ≤ (x3_2 : Int) := of_decide_eq_true (by first | (with_reducible assumption) | assumption)
                  have q111 : x3_2 < (l0_2.length : Int) := of_decide_eq_true (by first | (with_reducible assumption) | assumption)
                  obtain ⟨ad111, e111, hx111_0⟩ := Kd.at_string HR0_2.out x3_2 p111 q111
                  cases e111
                  replace hx111_0 := (HB.out.cell (World.block_lt_of_cell? w _ hx111_0)).trans hx111_0
                  replace p111 := eq_true p111
                  replace q111 := eq_true q111
                  go_wp2
                  repeat (go_quiet (fail); try go_wp2)
                  go_ret
                  exact ⟨by first | rfl | (simp [errW_none, errW_some] <;> rfl) | (simp [*, errW_none, errW_some] <;> rfl), by repeat (first | (with_reducible first | exact HB.out | apply below_alloc | apply pw_below_drewN | apply below_drew1 | refine below_set ?_ GE110.out) | exact HB.out)⟩
              · rw [if_neg c11] at H
                exact absurd H (by simp)
            · rw [if_neg c10] at H
              have c10b0 : decide (x3_2 < (l0_2.length : Int)) = false := decide_eq_false c10
              clear c10
              have H' := Aside0.mk H
              clear H
              have hcz22_0 : wr.cell? ⟨gb110, 0, none⟩ = some (.string a0_0) := (blk_cell BK110.out 0).trans rfl
              have hcz22_1 : wr.cell? ⟨gb110, 1, none⟩ = some (.slice A0_1 l0_1.length c0_1) := (blk_cell BK110.out 1).trans rfl
              have hcz22_2 : wr.cell? ⟨gb110, 2, none⟩ = some (.slice A0_2 l0_2.length c0_2) := (blk_cell BK110.out 2).trans rfl
              have hfz22_0 := blk_frozen BK110.out 0
              have hfz22_1 := blk_frozen BK110.out 1
              have hfz22_2 := blk_frozen BK110.out 2
              go_wp2
              repeat (go_quiet (fail); try go_wp2)
              go_loopg [4] k2 (fun kq v4 w' => ∃ (x4_3 : Int), v4 = .int .i64 x4_3 ∧ Aside0 (spec_AutoOK.l1 kq x4_3 a0_0 l0_1 l0_2 = some r) ∧ Aside0 (kq ≤ k2) ∧ Aside0 (w'.heap[gb110]? = some (.cells #[.string a0_0, (.slice A0_1 l0_1.length c0_1), (.slice A0_2 l0_2.length c0_2)] 27 (0, 0))) ∧ Aside0 (Below w.heap.size w w'))
              case atStart => exact ⟨(0), (by first | rfl | (simp; done) | (simp [*]; done)), H', ⟨Nat.le_refl _⟩, ⟨by (with_reducible repeat (first | refine blk_drewN ?_ _ | refine blk_drew ?_ | refine blk_alloc ?_ _)); exact BK110.out⟩, ⟨by repeat (first | (with_reducible first | exact HB.out | apply below_alloc | apply pw_below_drewN | apply below_drew1 | refine below_set ?_ GE110.out) | exact HB.out)⟩⟩
              case round =>
                clear H'
                try clear c1
                try clear p1
                try clear q1
                try clear hx1
                try clear p2
                try clear c4
                try clear c4b0
                try clear c4b1
                try clear c5
                try clear c5b0
                try clear c5b1
                try clear p6
                try clear c9
                try clear c10
                try clear c10b0
                try clear c11
                try clear c11b0
                try clear p11
                try clear q11
                try clear hx11
                try clear c12
                try clear c12b0
                try clear c12b1
                try clear c13
                try clear c13b0
                try clear c14
                try clear c14b0
                try clear c14b1
                try clear c15
                try clear c16
                try clear hcz17_0
                try clear hcz17_1
                try clear hcz17_2
                try clear hcz19_0
                try clear hcz19_1
                try clear hcz19_2
                try clear hcz21_0
                try clear hcz21_1
                try clear hcz21_2
                try clear hcz22_0
                try clear hcz22_1
                try clear hcz22_2
                try clear hcz6_0
                try clear hcz6_1
                try clear hcz6_2
                try clear hcz7_0
                try clear hcz7_1
                try clear hcz7_2
                try clear hcz8_0
                try clear hcz8_1
                try clear hcz8_2
                try clear hfz17_0
                try clear hfz17_1
                try clear hfz17_2
                try clear hfz19_0
                try clear hfz19_1
                try clear hfz19_2
                try clear hfz21_0
                try clear hfz21_1
                try clear hfz21_2
                try clear hfz22_0
                try clear hfz22_1
                try clear hfz22_2
                try clear hfz6_0
                try clear hfz6_1
                try clear hfz6_2
                try clear hfz7_0
                try clear hfz7_1
                try clear hfz7_2
                try clear hfz8_0
                try clear hfz8_1
                try clear hfz8_2
                try clear hx111_0
                try clear hx113_0
                try clear p111
                try clear p113
                try clear p2
                try clear q111
                try clear q113
                obtain ⟨x4_3, rfl, HA, HK3, BK110, HB⟩ := hrel
                cases gk with
                | zero => exact absurd HA.out (by simp [spec_AutoOK.l1])
                | succ k3 =>
                  have H := HA.out
                  clear HA
                  simp only [spec_AutoOK.l1] at H
                  by_cases c23 : x4_3 < (l0_1.length : Int)
                  · rw [if_pos c23] at H
                    have c23b0 : decide (x4_3 < (l0_1.length : Int)) = true := decide_eq_true c23
                    clear c23
                    by_cases c24 : 0 ≤ x4_3
                    · rw [if_pos c24] at H
                      have c24b0 : decide (0 ≤ x4_3) = true := decide_eq_true c24
                      clear c24
                      have HC25 := Aside0.mk H
                      clear H
                      have hcz26_0 : wr.cell? ⟨gb110, 0, none⟩ = some (.string a0_0) := (blk_cell BK110.out 0).trans rfl
                      have hcz26_1 : wr.cell? ⟨gb110, 1, none⟩ = some (.slice A0_1 l0_1.length c0_1) := (blk_cell BK110.out 1).trans rfl
                      have hcz26_2 : wr.cell? ⟨gb110, 2, none⟩ = some (.slice A0_2 l0_2.length c0_2) := (blk_cell BK110.out 2).trans rfl
                      have hfz26_0 := blk_frozen BK110.out 0
                      have hfz26_1 := blk_frozen BK110.out 1
                      have hfz26_2 := blk_frozen BK110.out 2
                      have p115 : 0 ≤ (x4_3 : Int) := of_decide_eq_true (by first | (with_reducible assumption) | assumption)
                      have q115 : x4_3 < (l0_1.length : Int) := of_decide_eq_true (by first | (with_reducible assumption) | assumption)
                      obtain ⟨ad115, e115, hx115_0, hx115_1, hx115_2, hx115_3, hx115_4⟩ := at_T39 HR0_1.out x4_3 p115 q115
                      cases e115
                      replace hx115_0 := (HB.out.cell (World.block_lt_of_cell? w _ hx115_0)).trans hx115_0
                      replace hx115_1 := (HB.out.cell (World.block_lt_of_cell? w _ hx115_1)).trans hx115_1
                      replace hx115_2 := (HB.out.cell (World.block_lt_of_cell? w _ hx115_2)).trans hx115_2
                      replace hx115_3 := (HB.out.cell (World.block_lt_of_cell? w _ hx115_3)).trans hx115_3
                      replace hx115_4 := (HB.out.cell (World.block_lt_of_cell? w _ hx115_4)).trans hx115_4
                      replace p115 := eq_true p115
                      replace q115 := eq_true q115
                      go_upto_region 12 with (first | ((with_reducible refine gate_dst (N := 5) rfl ?_); (try (refine gate_guard (by rfl) ?_; dsimp only)); refine box_event ?hg (N := 5) ?hd (cs := #[.string (⟨#[]⟩ : ByteArray), .int .i64 0, .int .i64 0, .int .i64 0, .int .i64 0]) (t := 39) ?hr ?_; (case hd => rfl); (case hg => rfl); (case hr => first | (go_simp; done) | (go_simp; rfl)); intro gb116 hg w27 hbox hb; have n0_ := Aside0.mk (blk_below (g := gb110) (o := .cells #[.string a0_0, .slice (some ad115) l0_1.length c0_1, .slice A0_2 l0_2.length c0_2] 27 (0, 0)) (by (with_reducible repeat (first | refine blk_drewN ?_ _ | refine blk_drew ?_ | refine blk_alloc ?_ _)); exact BK110.out) hb); have n1_ := Aside0.mk (below_step (by repeat (first | (with_reducible first | exact HB.out | apply below_alloc | apply pw_below_drewN | apply below_drew1 | refine below_set ?_ GE110.out) | exact HB.out)) hb); have n2_ := Aside0.mk (hbox); have n3_ := Aside0.mk ((by rw [hg]; exact (below_size (by repeat (first | (with_reducible first | exact HB.out | apply below_alloc | apply pw_below_drewN | apply below_drew1 | refine below_set ?_ GE110.out) | exact HB.out))) : w.heap.size ≤ gb116)); have n4_ := Aside0.mk ((by rw [hg]; exact (below_size (by repeat (first | (with_reducible first | exact HB.out | apply below_alloc | apply pw_below_drewN | apply below_drew1 | refine below_set ?_ GE110.out) | exact HB.out))) : w.heap.size ≤ gb116)); have n5_ := Aside0.mk ((by rw [hg]; exact Nat.ne_of_lt (blk_lt (g := gb110) (o := .cells #[.string a0_0, .slice (some ad115) l0_1.length c0_1, .slice A0_2 l0_2.length c0_2] 27 (0, 0)) (by (with_reducible repeat (first | refine blk_drewN ?_ _ | refine blk_drew ?_ | refine blk_alloc ?_ _)); exact BK110.out)) : gb110 ≠ gb116)); have n6_ := Aside0.mk ((by rw [hg]; exact Nat.ne_of_gt (blk_lt (g := gb110) (o := .cells #[.string a0_0, .slice (some ad115) l0_1.length c0_1, .slice A0_2 l0_2.length c0_2] 27 (0, 0)) (by (with_reducible repeat (first | refine blk_drewN ?_ _ | refine blk_drew ?_ | refine blk_alloc ?_ _)); exact BK110.out)) : gb116 ≠ gb110)); clear BK110; clear HB; have BK110 := n0_; have HB := n1_; have BK116 := n2_; have GW116 := n3_; have GE116 := n4_; have NB110_116 := n5_; have NB116_110 := n6_; clear n0_ n1_ n2_ n3_ n4_ n5_ n6_; clear hb hbox hg; have hnb28 := NB116_110.out; have hnc28 := NB110_116.out; have hcz29_0 : w27.cell? ⟨gb116, 0, none⟩ = some (.string (⟨#[]⟩ : ByteArray)) := (blk_cell BK116.out 0).trans rfl; have hcz29_1 : w27.cell? ⟨gb116, 1, none⟩ = some (.int .i64 0) := (blk_cell BK116.out 1).trans rfl; have hcz29_2 : w27.cell? ⟨gb116, 2, none⟩ = some (.int .i64 0) := (blk_cell BK116.out 2).trans rfl; have hcz29_3 : w27.cell? ⟨gb116, 3, none⟩ = some (.int .i64 0) := (blk_cell BK116.out 3).trans rfl; have hcz29_4 : w27.cell? ⟨gb116, 4, none⟩ = some (.int .i64 0) := (blk_cell BK116.out 4).trans rfl; have hfz29_0 := blk_frozen BK116.out 0; have hfz29_1 := blk_frozen BK116.out 1; have hfz29_2 := blk_frozen BK116.out 2; have hfz29_3 := blk_frozen BK116.out 3; have hfz29_4 := blk_frozen BK116.out 4))
                      repeat (go_quiet (first | ((with_reducible refine gate_dst (N := 5) rfl ?_); (try (refine gate_guard (by rfl) ?_; dsimp only)); refine box_event ?hg (N := 5) ?hd (cs := #[.string (⟨#[]⟩ : ByteArray), .int .i64 0, .int .i64 0, .int .i64 0, .int .i64 0]) (t := 39) ?hr ?_; (case hd => rfl); (case hg => rfl); (case hr => first | (go_simp; done) | (go_simp; rfl)); intro gb116 hg w27 hbox hb; have n0_ := Aside0.mk (blk_below (g := gb110) (o := .cells #[.string a0_0, .slice (some ad115) l0_1.length c0_1, .slice A0_2 l0_2.length c0_2] 27 (0, 0)) (by (with_reducible repeat (first | refine blk_drewN ?_ _ | refine blk_drew ?_ | refine blk_alloc ?_ _)); exact BK110.out) hb); have n1_ := Aside0.mk (below_step (by repeat (first | (with_reducible first | exact HB.out | apply below_alloc | apply pw_below_drewN | apply below_drew1 | refine below_set ?_ GE110.out) | exact HB.out)) hb); have n2_ := Aside0.mk (hbox); have n3_ := Aside0.mk ((by rw [hg]; exact (below_size (by repeat (first | (with_reducible first | exact HB.out | apply below_alloc | apply pw_below_drewN | apply below_drew1 | refine below_set ?_ GE110.out) | exact HB.out))) : w.heap.size ≤ gb116)); have n4_ := Aside0.mk ((by rw [hg]; exact (below_size (by repeat (first | (with_reducible first | exact HB.out | apply below_alloc | apply pw_below_drewN | apply below_drew1 | refine below_set ?_ GE110.out) | exact HB.out))) : w.heap.size ≤ gb116)); have n5_ := Aside0.mk ((by rw [hg]; exact Nat.ne_of_lt (blk_lt (g := gb110) (o := .cells #[.string a0_0, .slice (some ad115) l0_1.length c0_1, .slice A0_2 l0_2.length c0_2] 27 (0, 0)) (by (with_reducible repeat (first | refine blk_drewN ?_ _ | refine blk_drew ?_ | refine blk_alloc ?_ _)); exact BK110.out)) : gb110 ≠ gb116)); have n6_ := Aside0.mk ((by rw [hg]; exact Nat.ne_of_gt (blk_lt (g := gb110) (o := .cells #[.string a0_0, .slice (some ad115) l0_1.length c0_1, .slice A0_2 l0_2.length c0_2] 27 (0, 0)) (by (with_reducible repeat (first | refine blk_drewN ?_ _ | refine blk_drew ?_ | refine blk_alloc ?_ _)); exact BK110.out)) : gb116 ≠ gb110)); clear BK110; clear HB; have BK110 := n0_; have HB := n1_; have BK116 := n2_; have GW116 := n3_; have GE116 := n4_; have NB110_116 := n5_; have NB116_110 := n6_; clear n0_ n1_ n2_ n3_ n4_ n5_ n6_; clear hb hbox hg; have hnb28 := NB116_110.out; have hnc28 := NB110_116.out; have hcz29_0 : w27.cell? ⟨gb116, 0, none⟩ = some (.string (⟨#[]⟩ : ByteArray)) := (blk_cell BK116.out 0).trans rfl; have hcz29_1 : w27.cell? ⟨gb116, 1, none⟩ = some (.int .i64 0) := (blk_cell BK116.out 1).trans rfl; have hcz29_2 : w27.cell? ⟨gb116, 2, none⟩ = some (.int .i64 0) := (blk_cell BK116.out 2).trans rfl; have hcz29_3 : w27.cell? ⟨gb116, 3, none⟩ = some (.int .i64 0) := (blk_cell BK116.out 3).trans rfl; have hcz29_4 : w27.cell? ⟨gb116, 4, none⟩ = some (.int .i64 0) := (blk_cell BK116.out 4).trans rfl; have hfz29_0 := blk_frozen BK116.out 0; have hfz29_1 := blk_frozen BK116.out 1; have hfz29_2 := blk_frozen BK116.out 2; have hfz29_3 := blk_frozen BK116.out 3; have hfz29_4 := blk_frozen BK116.out 4)); go_upto_region 12 with (first | ((with_reducible refine gate_dst (N := 5) rfl ?_); (try (refine gate_guard (by rfl) ?_; dsimp only)); refine box_event ?hg (N := 5) ?hd (cs := #[.string (⟨#[]⟩ : ByteArray), .int .i64 0, .int .i64 0, .int .i64 0, .int .i64 0]) (t := 39) ?hr ?_; (case hd => rfl); (case hg => rfl); (case hr => first | (go_simp; done) | (go_simp; rfl)); intro gb116 hg w27 hbox hb; have n0_ := Aside0.mk (blk_below (g := gb110) (o := .cells #[.string a0_0, .slice (some ad115) l0_1.length c0_1, .slice A0_2 l0_2.length c0_2] 27 (0, 0)) (by (with_reducible repeat (first | refine blk_drewN ?_ _ | refine blk_drew ?_ | refine blk_alloc ?_ _)); exact BK110.out) hb); have n1_ := Aside0.mk (below_step (by repeat (first | (with_reducible first | exact HB.out | apply below_alloc | apply pw_below_drewN | apply below_drew1 | refine below_set ?_ GE110.out) | exact HB.out)) hb); have n2_ := Aside0.mk (hbox); have n3_ := Aside0.mk ((by rw [hg]; exact (below_size (by repeat (first | (with_reducible first | exact HB.out | apply below_alloc | apply pw_below_drewN | apply below_drew1 | refine below_set ?_ GE110.out) | exact HB.out))) : w.heap.size ≤ gb116)); have n4_ := Aside0.mk ((by rw [hg]; exact (below_size (by repeat (first | (with_reducible first | exact HB.out | apply below_alloc | apply pw_below_drewN | apply below_drew1 | refine below_set ?_ GE110.out) | exact HB.out))) : w.heap.size ≤ gb116)); have n5_ := Aside0.mk ((by rw [hg]; exact Nat.ne_of_lt (blk_lt (g := gb110) (o := .cells #[.string a0_0, .slice (some ad115) l0_1.length c0_1, .slice A0_2 l0_2.length c0_2] 27 (0, 0)) (by (with_reducible repeat (first | refine blk_drewN ?_ _ | refine blk_drew ?_ | refine blk_alloc ?_ _)); exact BK110.out)) : gb110 ≠ gb116)); have n6_ := Aside0.mk ((by rw [hg]; exact Nat.ne_of_gt (blk_lt (g := gb110) (o := .cells #[.string a0_0, .slice (some ad115) l0_1.length c0_1, .slice A0_2 l0_2.length c0_2] 27 (0, 0)) (by (with_reducible repeat (first | refine blk_drewN ?_ _ | refine blk_drew ?_ | refine blk_alloc ?_ _)); exact BK110.out)) : gb116 ≠ gb110)); clear BK110; clear HB; have BK110 := n0_; have HB := n1_; have BK116 := n2_; have GW116 := n3_; have GE116 := n4_; have NB110_116 := n5_; have NB116_110 := n6_; clear n0_ n1_ n2_ n3_ n4_ n5_ n6_; clear hb hbox hg; have hnb28 := NB116_110.out; have hnc28 := NB110_116.out; have hcz29_0 : w27.cell? ⟨gb116, 0, none⟩ = some (.string (⟨#[]⟩ : ByteArray)) := (blk_cell BK116.out 0).trans rfl; have hcz29_1 : w27.cell? ⟨gb116, 1, none⟩ = some (.int .i64 0) := (blk_cell BK116.out 1).trans rfl; have hcz29_2 : w27.cell? ⟨gb116, 2, none⟩ = some (.int .i64 0) := (blk_cell BK116.out 2).trans rfl; have hcz29_3 : w27.cell? ⟨gb116, 3, none⟩ = some (.int .i64 0) := (blk_cell BK116.out 3).trans rfl; have hcz29_4 : w27.cell? ⟨gb116, 4, none⟩ = some (.int .i64 0) := (blk_cell BK116.out 4).trans rfl; have hfz29_0 := blk_frozen BK116.out 0; have hfz29_1 := blk_frozen BK116.out 1; have hfz29_2 := blk_frozen BK116.out 2; have hfz29_3 := blk_frozen BK116.out 3; have hfz29_4 := blk_frozen BK116.out 4)))
                      (try simp only [Act.put, List.setIfInBounds_toArray, List.set_cons_zero, List.set_cons_succ])
                      go_cut [99] (fun v99 wc => ∃ (kq : Nat) (x99_24 : Bool), v99 = .bool x99_24 ∧ Aside0 (spec_AutoOK.j3 kq x4_3 x99_24 a0_0 l0_1 l0_2 ((rd_T39 l0_1 x4_3).f0) ((rd_T39 l0_1 x4_3).f1) ((rd_T39 l0_1 x4_3).f2) ((rd_T39 l0_1 x4_3).f3) ((rd_T39 l0_1 x4_3).f4) = some r) ∧ Aside0 (kq ≤ k3) ∧ Aside0 (wc.heap[gb110]? = some (.cells #[.string a0_0, (.slice (some ad115) l0_1.length c0_1), (.slice A0_2 l0_2.length c0_2)] 27 (0, 0))) ∧ Aside0 (wc.heap[gb116]? = some (.cells #[.string ((rd_T39 l0_1 x4_3).f0), .int .i64 ((rd_T39 l0_1 x4_3).f1), .int .i64 ((rd_T39 l0_1 x4_3).f2), .int .i64 ((rd_T39 l0_1 x4_3).f3), .int .i64 ((rd_T39 l0_1 x4_3).f4)] 39 (0, 0))) ∧ Aside0 (Below w.heap.size w wc))
                      case first =>
                        have H := HC25.out
                        clear HC25
                        by_cases c30 : (((rd_T39 l0_1 x4_3).f0).size : Int) = 16
                        · rw [if_pos c30] at H
                          have c30b0 : ((((rd_T39 l0_1 x4_3).f0).size : Int) == 16) = true := beq_iff_eq.mpr c30
                          have c30b1 : ((((rd_T39 l0_1 x4_3).f0).size : Int) != 16) = false := bne_eq_false_iff_eq.mpr c30
                          clear c30
                          (first | rw [c30b0] | (simp only [i64_w, i32_w]; rw [c30b0]) | skip)
                          replace H := Option.bind_eq_some_iff.mp H
                          obtain ⟨t117, A310, H⟩ := H
                          replace H : (if t117 = x4_3 then ((spec_l14Text.f k3 l0_2 ((rd_T39 l0_1 x4_3).f0)).bind fun t118 => (if t118 = true then (spec_AutoOK.j3 k3 x4_3 true a0_0 l0_1 l0_2 ((rd_T39 l0_1 x4_3).f0) ((rd_T39 l0_1 x4_3).f1) ((rd_T39 l0_1 x4_3).f2) ((rd_T39 l0_1 x4_3).f3) ((rd_T39 l0_1 x4_3).f4)) else ((spec_l01In.f ((rd_T39 l0_1 x4_3).f1) 1 3).bind fun t119 => (if t119 = true then ((spec_l01In.f ((rd_T39 l0_1 x4_3).f3) 1 100000).bind fun t120 => (if t120 = true then ((spec_l01In.f ((rd_T39 l0_1 x4_3).f4) 0 ((rd_T39 l0_1 x4_3).f3)).bind fun t121 => (spec_AutoOK.j3 k3 x4_3 (!t121) a0_0 l0_1 l0_2 ((rd_T39 l0_1 x4_3).f0) ((rd_T39 l0_1 x4_3).f1) ((rd_T39 l0_1 x4_3).f2) ((rd_T39 l0_1 x4_3).f3) ((rd_T39 l0_1 x4_3).f4))) else (spec_AutoOK.j3 k3 x4_3 true a0_0 l0_1 l0_2 ((rd_T39 l0_1 x4_3).f0) ((rd_T39 l0_1 x4_3).f1) ((rd_T39 l0_1 x4_3).f2) ((rd_T39 l0_1 x4_3).f3) ((rd_T39 l0_1 x4_3).f4)))) else (spec_AutoOK.j3 k3 x4_3 true a0_0 l0_1 l0_2 ((rd_T39 l0_1 x4_3).f0) ((rd_T39 l0_1 x4_3).f1) ((rd_T39 l0_1 x4_3).f2) ((rd_T39 l0_1 x4_3).f3) ((rd_T39 l0_1 x4_3).f4)))))) else (spec_AutoOK.j3 k3 x4_3 true a0_0 l0_1 l0_2 ((rd_T39 l0_1 x4_3).f0) ((rd_T39 l0_1 x4_3).f1) ((rd_T39 l0_1 x4_3).f2) ((rd_T39 l0_1 x4_3).f3) ((rd_T39 l0_1 x4_3).f4))) = some r := H
                          have A31 := Aside0.mk A310
                          clear A310
                          by_cases c32 : t117 = x4_3
                          · rw [if_pos c32] at H
                            have c32b0 : (t117 == x4_3) = true := beq_iff_eq.mpr c32
                            have c32b1 : (t117 != x4_3) = false := bne_eq_false_iff_eq.mpr c32
                            clear c32
                            replace H := Option.bind_eq_some_iff.mp H
                            obtain ⟨t118, A330, H⟩ := H
                            replace H : (if t118 = true then (spec_AutoOK.j3 k3 x4_3 true a0_0 l0_1 l0_2 ((rd_T39 l0_1 x4_3).f0) ((rd_T39 l0_1 x4_3).f1) ((rd_T39 l0_1 x4_3).f2) ((rd_T39 l0_1 x4_3).f3) ((rd_T39 l0_1 x4_3).f4)) else ((spec_l01In.f ((rd_T39 l0_1 x4_3).f1) 1 3).bind fun t119 => (if t119 = true then ((spec_l01In.f ((rd_T39 l0_1 x4_3).f3) 1 100000).bind fun t120 => (if t120 = true then ((spec_l01In.f ((rd_T39 l0_1 x4_3).f4) 0 ((rd_T39 l0_1 x4_3).f3)).bind fun t121 => (spec_AutoOK.j3 k3 x4_3 (!t121) a0_0 l0_1 l0_2 ((rd_T39 l0_1 x4_3).f0) ((rd_T39 l0_1 x4_3).f1) ((rd_T39 l0_1 x4_3).f2) ((rd_T39 l0_1 x4_3).f3) ((rd_T39 l0_1 x4_3).f4))) else (spec_AutoOK.j3 k3 x4_3 true a0_0 l0_1 l0_2 ((rd_T39 l0_1 x4_3).f0) ((rd_T39 l0_1 x4_3).f1) ((rd_T39 l0_1 x4_3).f2) ((rd_T39 l0_1 x4_3).f3) ((rd_T39 l0_1 x4_3).f4)))) else (spec_AutoOK.j3 k3 x4_3 true a0_0 l0_1 l0_2 ((rd_T39 l0_1 x4_3).f0) ((rd_T39 l0_1 x4_3).f1) ((rd_T39 l0_1 x4_3).f2) ((rd_T39 l0_1 x4_3).f3) ((rd_T39 l0_1 x4_3).f4))))) = some r := H
                            have A33 := Aside0.mk A330
                            clear A330
                            by_cases c34 : t118 = true
                            · subst c34
                              have H1 : (spec_AutoOK.j3 k3 x4_3 true a0_0 l0_1 l0_2 ((rd_T39 l0_1 x4_3).f0) ((rd_T39 l0_1 x4_3).f1) ((rd_T39 l0_1 x4_3).f2) ((rd_T39 l0_1 x4_3).f3) ((rd_T39 l0_1 x4_3).f4)) = some r := by rw [if_pos rfl] at H; exact H
                              clear H
                              have H := H1
                              clear H1
                              have H' := Aside0.mk H
                              clear H
                              have hnb35 := NB116_110.out
                              have hnc35 := NB110_116.out
                              have hcz36_0 : w27.cell? ⟨gb116, 0, none⟩ = some (.string (⟨#[]⟩ : ByteArray)) := (blk_cell BK116.out 0).trans rfl
                              have hcz36_1 : w27.cell? ⟨gb116, 1, none⟩ = some (.int .i64 0) := (blk_cell BK116.out 1).trans rfl
                              have hcz36_2 : w27.cell? ⟨gb116, 2, none⟩ = some (.int .i64 0) := (blk_cell BK116.out 2).trans rfl
                              have hcz36_3 : w27.cell? ⟨gb116, 3, none⟩ = some (.int .i64 0) := (blk_cell BK116.out 3).trans rfl
                              have hcz36_4 : w27.cell? ⟨gb116, 4, none⟩ = some (.int .i64 0) := (blk_cell BK116.out 4).trans rfl
                              have hfz36_0 := blk_frozen BK116.out 0
                              have hfz36_1 := blk_frozen BK116.out 1
                              have hfz36_2 := blk_frozen BK116.out 2
                              have hfz36_3 := blk_frozen BK116.out 3
                              have hfz36_4 := blk_frozen BK116.out 4
                              have hcz37_0 : w27.cell? ⟨gb110, 0, none⟩ = some (.string a0_0) := (blk_cell BK110.out 0).trans rfl
                              have hcz37_1 : w27.cell? ⟨gb110, 1, none⟩ = some (.slice (some ad115) l0_1.length c0_1) := (blk_cell BK110.out 1).trans rfl
                              have hcz37_2 : w27.cell? ⟨gb110, 2, none⟩ = some (.slice A0_2 l0_2.length c0_2) := (blk_cell BK110.out 2).trans rfl
                              have hfz37_0 := blk_frozen BK110.out 0
                              have hfz37_1 := blk_frozen BK110.out 1
                              have hfz37_2 := blk_frozen BK110.out 2
                              go_wp2_with (first | (go_at_call 36; (with_reducible refine (spec_l14Find.calls k3 _ _ l0_1 ((rd_T39 l0_1 x4_3).f0) t117 _ ?side1 ?side2 A31.out).mono ?_); (case side1 => exact Kd.C_below HR0_1.out (by repeat (first | (with_reducible first | exact HB.out | apply below_alloc | apply pw_below_drewN | apply below_drew1 | refine below_set ?_ GE110.out | refine below_set ?_ GE116.out) | exact HB.out))); (case side2 => exact HC0_1.out); rintro e w' ⟨rfl, ⟨nd, rfl⟩⟩; (try first | exact ⟨rfl, _, World.drewN_drewN _ _ _⟩ | exact ⟨rfl, _, Eq.trans (World.drewN_drewN _ _ _) (congrArg (World.drewN _) (Nat.add_assoc _ _ _))⟩)) | (go_at_call 35; (with_reducible refine (spec_l14Text.calls k3 _ _ l0_2 ((rd_T39 l0_1 x4_3).f0) true _ ?side1 ?side2 A33.out).mono ?_); (case side1 => exact Kd.C_below HR0_2.out (by repeat (first | (with_reducible first | exact HB.out | apply below_alloc | apply pw_below_drewN | apply below_drew1 | refine below_set ?_ GE110.out | refine below_set ?_ GE116.out) | exact HB.out))); (case side2 => exact HC0_2.out); rintro e w' ⟨rfl, ⟨nd, rfl⟩⟩; (try first | exact ⟨rfl, _, World.drewN_drewN _ _ _⟩ | exact ⟨rfl, _, Eq.trans (World.drewN_drewN _ _ _) (congrArg (World.drewN _) (Nat.add_assoc _ _ _))⟩)))
                              repeat (go_quiet (first | (go_at_call 36; (with_reducible refine (spec_l14Find.calls k3 _ _ l0_1 ((rd_T39 l0_1 x4_3).f0) t117 _ ?side1 ?side2 A31.out).mono ?_); (case side1 => exact Kd.C_below HR0_1.out (by repeat (first | (with_reducible first | exact HB.out | apply below_alloc | apply pw_below_drewN | apply below_drew1 | refine below_set ?_ GE110.out | refine below_set ?_ GE116.out) | exact HB.out))); (case side2 => exact HC0_1.out); rintro e w' ⟨rfl, ⟨nd, rfl⟩⟩; (try first | exact ⟨rfl, _, World.drewN_drewN _ _ _⟩ | exact ⟨rfl, _, Eq.trans (World.drewN_drewN _ _ _) (congrArg (World.drewN _) (Nat.add_assoc _ _ _))⟩)) | (go_at_call 35; (with_reducible refine (spec_l14Text.calls k3 _ _ l0_2 ((rd_T39 l0_1 x4_3).f0) true _ ?side1 ?side2 A33.out).mono ?_); (case side1 => exact Kd.C_below HR0_2.out (by repeat (first | (with_reducible first | exact HB.out | apply below_alloc | apply pw_below_drewN | apply below_drew1 | refine below_set ?_ GE110.out | refine below_set ?_ GE116.out) | exact HB.out))); (case side2 => exact HC0_2.out); rintro e w' ⟨rfl, ⟨nd, rfl⟩⟩; (try first | exact ⟨rfl, _, World.drewN_drewN _ _ _⟩ | exact ⟨rfl, _, Eq.trans (World.drewN_drewN _ _ _) (congrArg (World.drewN _) (Nat.add_assoc _ _ _))⟩))); try go_wp2_with (first | (go_at_call 36; (with_reducible refine (spec_l14Find.calls k3 _ _ l0_1 ((rd_T39 l0_1 x4_3).f0) t117 _ ?side1 ?side2 A31.out).mono ?_); (case side1 => exact Kd.C_below HR0_1.out (by repeat (first | (with_reducible first | exact HB.out | apply below_alloc | apply pw_below_drewN | apply below_drew1 | refine below_set ?_ GE110.out | refine below_set ?_ GE116.out) | exact HB.out))); (case side2 => exact HC0_1.out); rintro e w' ⟨rfl, ⟨nd, rfl⟩⟩; (try first | exact ⟨rfl, _, World.drewN_drewN _ _ _⟩ | exact ⟨rfl, _, Eq.trans (World.drewN_drewN _ _ _) (congrArg (World.drewN _) (Nat.add_assoc _ _ _))⟩)) | (go_at_call 35; (with_reducible refine (spec_l14Text.calls k3 _ _ l0_2 ((rd_T39 l0_1 x4_3).f0) true _ ?side1 ?side2 A33.out).mono ?_); (case side1 => exact Kd.C_below HR0_2.out (by repeat (first | (with_reducible first | exact HB.out | apply below_alloc | apply pw_below_drewN | apply below_drew1 | refine below_set ?_ GE110.out | refine below_set ?_ GE116.out) | exact HB.out))); (case side2 => exact HC0_2.out); rintro e w' ⟨rfl, ⟨nd, rfl⟩⟩; (try first | exact ⟨rfl, _, World.drewN_drewN _ _ _⟩ | exact ⟨rfl, _, Eq.trans (World.drewN_drewN _ _ _) (congrArg (World.drewN _) (Nat.add_assoc _ _ _))⟩))))
                              go_meet
                              case rel => exact ⟨_, (true), (by first | rfl | (simp; done) | (simp [*]; done)), H', ⟨by have := HJ1.out; have := HK2.out; have := HK3.out; first | omega | exact Nat.le_refl _⟩, ⟨by (with_reducible repeat (first | refine blk_drewN ?_ _ | refine blk_drew ?_ | refine blk_alloc ?_ _)); refine blk_far ?_ NB110_116.out _; (with_reducible repeat (first | refine blk_drewN ?_ _ | refine blk_drew ?_ | refine blk_alloc ?_ _)); refine blk_far ?_ NB110_116.out _; (with_reducible repeat (first | refine blk_drewN ?_ _ | refine blk_drew ?_ | refine blk_alloc ?_ _)); refine blk_far ?_ NB110_116.out _; (with_reducible repeat (first | refine blk_drewN ?_ _ | refine blk_drew ?_ | refine blk_alloc ?_ _)); refine blk_far ?_ NB110_116.out _; (with_reducible repeat (first | refine blk_drewN ?_ _ | refine blk_drew ?_ | refine blk_alloc ?_ _)); refine blk_far ?_ NB110_116.out _; (with_reducible repeat (first | refine blk_drewN ?_ _ | refine blk_drew ?_ | refine blk_alloc ?_ _)); exact BK110.out⟩, ⟨by (with_reducible repeat (first | refine blk_drewN ?_ _ | refine blk_drew ?_ | refine blk_alloc ?_ _)); refine blk_put (cs := #[.string ((rd_T39 l0_1 x4_3).f0), .int .i64 ((rd_T39 l0_1 x4_3).f1), .int .i64 ((rd_T39 l0_1 x4_3).f2), .int .i64 ((rd_T39 l0_1 x4_3).f3), .int .i64 0]) ?_ 4 _ rfl; (with_reducible repeat (first | refine blk_drewN ?_ _ | refine blk_drew ?_ | refine blk_alloc ?_ _)); refine blk_put (cs := #[.string ((rd_T39 l0_1 x4_3).f0), .int .i64 ((rd_T39 l0_1 x4_3).f1), .int .i64 ((rd_T39 l0_1 x4_3).f2), .int .i64 0, .int .i64 0]) ?_ 3 _ rfl; (with_reducible repeat (first | refine blk_drewN ?_ _ | refine blk_drew ?_ | refine blk_alloc ?_ _)); refine blk_put (cs := #[.string ((rd_T39 l0_1 x4_3).f0), .int .i64 ((rd_T39 l0_1 x4_3).f1), .int .i64 0, .int .i64 0, .int .i64 0]) ?_ 2 _ rfl; (with_reducible repeat (first | refine blk_drewN ?_ _ | refine blk_drew ?_ | refine blk_alloc ?_ _)); refine blk_put (cs := #[.string ((rd_T39 l0_1 x4_3).f0), .int .i64 0, .int .i64 0, .int .i64 0, .int .i64 0]) ?_ 1 _ rfl; (with_reducible repeat (first | refine blk_drewN ?_ _ | refine blk_drew ?_ | refine blk_alloc ?_ _)); refine blk_put (cs := #[.string (⟨#[]⟩ : ByteArray), .int .i64 0, .int .i64 0, .int .i64 0, .int .i64 0]) ?_ 0 _ rfl; (with_reducible repeat (first | refine blk_drewN ?_ _ | refine blk_drew ?_ | refine blk_alloc ?_ _)); exact BK116.out⟩, ⟨by repeat (first | (with_reducible first | exact HB.out | apply below_alloc | apply pw_below_drewN | apply below_drew1 | refine below_set ?_ GE110.out | refine below_set ?_ GE116.out) | exact HB.out)⟩⟩
                            · replace c34 := Bool.eq_false_iff.mpr c34
                              subst c34
                              have H1 : ((spec_l01In.f ((rd_T39 l0_1 x4_3).f1) 1 3).bind fun t119 => (if t119 = true then ((spec_l01In.f ((rd_T39 l0_1 x4_3).f3) 1 100000).bind fun t120 => (if t120 = true then ((spec_l01In.f ((rd_T39 l0_1 x4_3).f4) 0 ((rd_T39 l0_1 x4_3).f3)).bind fun t121 => (spec_AutoOK.j3 k3 x4_3 (!t121) a0_0 l0_1 l0_2 ((rd_T39 l0_1 x4_3).f0) ((rd_T39 l0_1 x4_3).f1) ((rd_T39 l0_1 x4_3).f2) ((rd_T39 l0_1 x4_3).f3) ((rd_T39 l0_1 x4_3).f4))) else (spec_AutoOK.j3 k3 x4_3 true a0_0 l0_1 l0_2 ((rd_T39 l0_1 x4_3).f0) ((rd_T39 l0_1 x4_3).f1) ((rd_T39 l0_1 x4_3).f2) ((rd_T39 l0_1 x4_3).f3) ((rd_T39 l0_1 x4_3).f4)))) else (spec_AutoOK.j3 k3 x4_3 true a0_0 l0_1 l0_2 ((rd_T39 l0_1 x4_3).f0) ((rd_T39 l0_1 x4_3).f1) ((rd_T39 l0_1 x4_3).f2) ((rd_T39 l0_1 x4_3).f3) ((rd_T39 l0_1 x4_3).f4)))) = some r := by rw [if_neg (show ¬ (false = true) by decide)] at H; exact H
                              clear H
                              have H := H1
                              clear H1
                              replace H := Option.bind_eq_some_iff.mp H
                              obtain ⟨t119, A380, H⟩ := H
                              replace H : (if t119 = true then ((spec_l01In.f ((rd_T39 l0_1 x4_3).f3) 1 100000).bind fun t120 => (if t120 = true then ((spec_l01In.f ((rd_T39 l0_1 x4_3).f4) 0 ((rd_T39 l0_1 x4_3).f3)).bind fun t121 => (spec_AutoOK.j3 k3 x4_3 (!t121) a0_0 l0_1 l0_2 ((rd_T39 l0_1 x4_3).f0) ((rd_T39 l0_1 x4_3).f1) ((rd_T39 l0_1 x4_3).f2) ((rd_T39 l0_1 x4_3).f3) ((rd_T39 l0_1 x4_3).f4))) else (spec_AutoOK.j3 k3 x4_3 true a0_0 l0_1 l0_2 ((rd_T39 l0_1 x4_3).f0) ((rd_T39 l0_1 x4_3).f1) ((rd_T39 l0_1 x4_3).f2) ((rd_T39 l0_1 x4_3).f3) ((rd_T39 l0_1 x4_3).f4)))) else (spec_AutoOK.j3 k3 x4_3 true a0_0 l0_1 l0_2 ((rd_T39 l0_1 x4_3).f0) ((rd_T39 l0_1 x4_3).f1) ((rd_T39 l0_1 x4_3).f2) ((rd_T39 l0_1 x4_3).f3) ((rd_T39 l0_1 x4_3).f4))) = some r := H
                              have A38 := Aside0.mk A380
                              clear A380
                              by_cases c39 : t119 = true
                              · subst c39
                                have H1 : ((spec_l01In.f ((rd_T39 l0_1 x4_3).f3) 1 100000).bind fun t120 => (if t120 = true then ((spec_l01In.f ((rd_T39 l0_1 x4_3).f4) 0 ((rd_T39 l0_1 x4_3).f3)).bind fun t121 => (spec_AutoOK.j3 k3 x4_3 (!t121) a0_0 l0_1 l0_2 ((rd_T39 l0_1 x4_3).f0) ((rd_T39 l0_1 x4_3).f1) ((rd_T39 l0_1 x4_3).f2) ((rd_T39 l0_1 x4_3).f3) ((rd_T39 l0_1 x4_3).f4))) else (spec_AutoOK.j3 k3 x4_3 true a0_0 l0_1 l0_2 ((rd_T39 l0_1 x4_3).f0) ((rd_T39 l0_1 x4_3).f1) ((rd_T39 l0_1 x4_3).f2) ((rd_T39 l0_1 x4_3).f3) ((rd_T39 l0_1 x4_3).f4)))) = some r := by rw [if_pos rfl] at H; exact H
                                clear H
                                have H := H1
                                clear H1
                                replace H := Option.bind_eq_some_iff.mp H
                                obtain ⟨t120, A400, H⟩ := H
                                replace H : (if t120 = true then ((spec_l01In.f ((rd_T39 l0_1 x4_3).f4) 0 ((rd_T39 l0_1 x4_3).f3)).bind fun t121 => (spec_AutoOK.j3 k3 x4_3 (!t121) a0_0 l0_1 l0_2 ((rd_T39 l0_1 x4_3).f0) ((rd_T39 l0_1 x4_3).f1) ((rd_T39 l0_1 x4_3).f2) ((rd_T39 l0_1 x4_3).f3) ((rd_T39 l0_1 x4_3).f4))) else (spec_AutoOK.j3 k3 x4_3 true a0_0 l0_1 l0_2 ((rd_T39 l0_1 x4_3).f0) ((rd_T39 l0_1 x4_3).f1) ((rd_T39 l0_1 x4_3).f2) ((rd_T39 l0_1 x4_3).f3) ((rd_T39 l0_1 x4_3).f4))) = some r := H
                                have A40 := Aside0.mk A400
                                clear A400
                                by_cases c41 : t120 = true
                                · subst c41
                                  have H1 : ((spec_l01In.f ((rd_T39 l0_1 x4_3).f4) 0 ((rd_T39 l0_1 x4_3).f3)).bind fun t121 => (spec_AutoOK.j3 k3 x4_3 (!t121) a0_0 l0_1 l0_2 ((rd_T39 l0_1 x4_3).f0) ((rd_T39 l0_1 x4_3).f1) ((rd_T39 l0_1 x4_3).f2) ((rd_T39 l0_1 x4_3).f3) ((rd_T39 l0_1 x4_3).f4))) = some r := by rw [if_pos rfl] at H; exact H
                                  clear H
                                  have H := H1
                                  clear H1
                                  replace H := Option.bind_eq_some_iff.mp H
                                  obtain ⟨t121, A420, H⟩ := H
                                  replace H : (spec_AutoOK.j3 k3 x4_3 (!t121) a0_0 l0_1 l0_2 ((rd_T39 l0_1 x4_3).f0) ((rd_T39 l0_1 x4_3).f1) ((rd_T39 l0_1 x4_3).f2) ((rd_T39 l0_1 x4_3).f3) ((rd_T39 l0_1 x4_3).f4)) = some r := H
                                  have A42 := Aside0.mk A420
                                  clear A420
                                  have H' := Aside0.mk H
                                  clear H
                                  have hnb43 := NB116_110.out
                                  have hnc43 := NB110_116.out
                                  have hcz44_0 : w27.cell? ⟨gb116, 0, none⟩ = some (.string (⟨#[]⟩ : ByteArray)) := (blk_cell BK116.out 0).trans rfl
                                  have hcz44_1 : w27.cell? ⟨gb116, 1, none⟩ = some (.int .i64 0) := (blk_cell BK116.out 1).trans rfl
                                  have hcz44_2 : w27.cell? ⟨gb116, 2, none⟩ = some (.int .i64 0) := (blk_cell BK116.out 2).trans rfl
                                  have hcz44_3 : w27.cell? ⟨gb116, 3, none⟩ = some (.int .i64 0) := (blk_cell BK116.out 3).trans rfl
                                  have hcz44_4 : w27.cell? ⟨gb116, 4, none⟩ = some (.int .i64 0) := (blk_cell BK116.out 4).trans rfl
                                  have hfz44_0 := blk_frozen BK116.out 0
                                  have hfz44_1 := blk_frozen BK116.out 1
                                  have hfz44_2 := blk_frozen BK116.out 2
                                  have hfz44_3 := blk_frozen BK116.out 3
                                  have hfz44_4 := blk_frozen BK116.out 4
                                  have hcz45_0 : w27.cell? ⟨gb110, 0, none⟩ = some (.string a0_0) := (blk_cell BK110.out 0).trans rfl
                                  have hcz45_1 : w27.cell? ⟨gb110, 1, none⟩ = some (.slice (some ad115) l0_1.length c0_1) := (blk_cell BK110.out 1).trans rfl
                                  have hcz45_2 : w27.cell? ⟨gb110, 2, none⟩ = some (.slice A0_2 l0_2.length c0_2) := (blk_cell BK110.out 2).trans rfl
                                  have hfz45_0 := blk_frozen BK110.out 0
                                  have hfz45_1 := blk_frozen BK110.out 1
                                  have hfz45_2 := blk_frozen BK110.out 2
                                  go_wp2_with (first | (go_at_call 36; (with_reducible refine (spec_l14Find.calls k3 _ _ l0_1 ((rd_T39 l0_1 x4_3).f0) t117 _ ?side1 ?side2 A31.out).mono ?_); (case side1 => exact Kd.C_below HR0_1.out (by repeat (first | (with_reducible first | exact HB.out | apply below_alloc | apply pw_below_drewN | apply below_drew1 | refine below_set ?_ GE110.out | refine below_set ?_ GE116.out) | exact HB.out))); (case side2 => exact HC0_1.out); rintro e w' ⟨rfl, ⟨nd, rfl⟩⟩; (try first | exact ⟨rfl, _, World.drewN_drewN _ _ _⟩ | exact ⟨rfl, _, Eq.trans (World.drewN_drewN _ _ _) (congrArg (World.drewN _) (Nat.add_assoc _ _ _))⟩)) | (go_at_call 35; (with_reducible refine (spec_l14Text.calls k3 _ _ l0_2 ((rd_T39 l0_1 x4_3).f0) false _ ?side1 ?side2 A33.out).mono ?_); (case side1 => exact Kd.C_below HR0_2.out (by repeat (first | (with_reducible first | exact HB.out | apply below_alloc | apply pw_below_drewN | apply below_drew1 | refine below_set ?_ GE110.out | refine below_set ?_ GE116.out) | exact HB.out))); (case side2 => exact HC0_2.out); rintro e w' ⟨rfl, ⟨nd, rfl⟩⟩; (try first | exact ⟨rfl, _, World.drewN_drewN _ _ _⟩ | exact ⟨rfl, _, Eq.trans (World.drewN_drewN _ _ _) (congrArg (World.drewN _) (Nat.add_assoc _ _ _))⟩)) | (go_at_call 37; (with_reducible refine (spec_l01In.calls ((rd_T39 l0_1 x4_3).f1) 1 3 true _ A38.out).mono ?_); rintro e w' ⟨rfl, ⟨nd, rfl⟩⟩; (try first | exact ⟨rfl, _, World.drewN_drewN _ _ _⟩ | exact ⟨rfl, _, Eq.trans (World.drewN_drewN _ _ _) (congrArg (World.drewN _) (Nat.add_assoc _ _ _))⟩)) | (go_at_call 37; (with_reducible refine (spec_l01In.calls ((rd_T39 l0_1 x4_3).f3) 1 100000 true _ A40.out).mono ?_); rintro e w' ⟨rfl, ⟨nd, rfl⟩⟩; (try first | exact ⟨rfl, _, World.drewN_drewN _ _ _⟩ | exact ⟨rfl, _, Eq.trans (World.drewN_drewN _ _ _) (congrArg (World.drewN _) (Nat.add_assoc _ _ _))⟩)) | (go_at_call 37; (with_reducible refine (spec_l01In.calls ((rd_T39 l0_1 x4_3).f4) 0 ((rd_T39 l0_1 x4_3).f3) t121 _ A42.out).mono ?_); rintro e w' ⟨rfl, ⟨nd, rfl⟩⟩; (try first | exact ⟨rfl, _, World.drewN_drewN _ _ _⟩ | exact ⟨rfl, _, Eq.trans (World.drewN_drewN _ _ _) (congrArg (World.drewN _) (Nat.add_assoc _ _ _))⟩)))
                                  repeat (go_quiet (first | (go_at_call 36; (with_reducible refine (spec_l14Find.calls k3 _ _ l0_1 ((rd_T39 l0_1 x4_3).f0) t117 _ ?side1 ?side2 A31.out).mono ?_); (case side1 => exact Kd.C_below HR0_1.out (by repeat (first | (with_reducible first | exact HB.out | apply below_alloc | apply pw_below_drewN | apply below_drew1 | refine below_set ?_ GE110.out | refine below_set ?_ GE116.out) | exact HB.out))); (case side2 => exact HC0_1.out); rintro e w' ⟨rfl, ⟨nd, rfl⟩⟩; (try first | exact ⟨rfl, _, World.drewN_drewN _ _ _⟩ | exact ⟨rfl, _, Eq.trans (World.drewN_drewN _ _ _) (congrArg (World.drewN _) (Nat.add_assoc _ _ _))⟩)) | (go_at_call 35; (with_reducible refine (spec_l14Text.calls k3 _ _ l0_2 ((rd_T39 l0_1 x4_3).f0) false _ ?side1 ?side2 A33.out).mono ?_); (case side1 => exact Kd.C_below HR0_2.out (by repeat (first | (with_reducible first | exact HB.out | apply below_alloc | apply pw_below_drewN | apply below_drew1 | refine below_set ?_ GE110.out | refine below_set ?_ GE116.out) | exact HB.out))); (case side2 => exact HC0_2.out); rintro e w' ⟨rfl, ⟨nd, rfl⟩⟩; (try first | exact ⟨rfl, _, World.drewN_drewN _ _ _⟩ | exact ⟨rfl, _, Eq.trans (World.drewN_drewN _ _ _) (congrArg (World.drewN _) (Nat.add_assoc _ _ _))⟩)) | (go_at_call 37; (with_reducible refine (spec_l01In.calls ((rd_T39 l0_1 x4_3).f1) 1 3 true _ A38.out).mono ?_); rintro e w' ⟨rfl, ⟨nd, rfl⟩⟩; (try first | exact ⟨rfl, _, World.drewN_drewN _ _ _⟩ | exact ⟨rfl, _, Eq.trans (World.drewN_drewN _ _ _) (congrArg (World.drewN _) (Nat.add_assoc _ _ _))⟩)) | (go_at_call 37; (with_reducible refine (spec_l01In.calls ((rd_T39 l0_1 x4_3).f3) 1 100000 true _ A40.out).mono ?_); rintro e w' ⟨rfl, ⟨nd, rfl⟩⟩; (try first | exact ⟨rfl, _, World.drewN_drewN _ _ _⟩ | exact ⟨rfl, _, Eq.trans (World.drewN_drewN _ _ _) (congrArg (World.drewN _) (Nat.add_assoc _ _ _))⟩)) | (go_at_call 37; (with_reducible refine (spec_l01In.calls ((rd_T39 l0_1 x4_3).f4) 0 ((rd_T39 l0_1 x4_3).f3) t121 _ A42.out).mono ?_); rintro e w' ⟨rfl, ⟨nd, rfl⟩⟩; (try first | exact ⟨rfl, _, World.drewN_drewN _ _ _⟩ | exact ⟨rfl, _, Eq.trans (World.drewN_drewN _ _ _) (congrArg (World.drewN _) (Nat.add_assoc _ _ _))⟩))); try go_wp2_with (first | (go_at_call 36; (with_reducible refine (spec_l14Find.calls k3 _ _ l0_1 ((rd_T39 l0_1 x4_3).f0) t117 _ ?side1 ?side2 A31.out).mono ?_); (case side1 => exact Kd.C_below HR0_1.out (by repeat (first | (with_reducible first | exact HB.out | apply below_alloc | apply pw_below_drewN | apply below_drew1 | refine below_set ?_ GE110.out | refine below_set ?_ GE116.out) | exact HB.out))); (case side2 => exact HC0_1.out); rintro e w' ⟨rfl, ⟨nd, rfl⟩⟩; (try first | exact ⟨rfl, _, World.drewN_drewN _ _ _⟩ | exact ⟨rfl, _, Eq.trans (World.drewN_drewN _ _ _) (congrArg (World.drewN _) (Nat.add_assoc _ _ _))⟩)) | (go_at_call 35; (with_reducible refine (spec_l14Text.calls k3 _ _ l0_2 ((rd_T39 l0_1 x4_3).f0) false _ ?side1 ?side2 A33.out).mono ?_); (case side1 => exact Kd.C_below HR0_2.out (by repeat (first | (with_reducible first | exact HB.out | apply below_alloc | apply pw_below_drewN | apply below_drew1 | refine below_set ?_ GE110.out | refine below_set ?_ GE116.out) | exact HB.out))); (case side2 => exact HC0_2.out); rintro e w' ⟨rfl, ⟨nd, rfl⟩⟩; (try first | exact ⟨rfl, _, World.drewN_drewN _ _ _⟩ | exact ⟨rfl, _, Eq.trans (World.drewN_drewN _ _ _) (congrArg (World.drewN _) (Nat.add_assoc _ _ _))⟩)) | (go_at_call 37; (with_reducible refine (spec_l01In.calls ((rd_T39 l0_1 x4_3).f1) 1 3 true _ A38.out).mono ?_); rintro e w' ⟨rfl, ⟨nd, rfl⟩⟩; (try first | exact ⟨rfl, _, World.drewN_drewN _ _ _⟩ | exact ⟨rfl, _, Eq.trans (World.drewN_drewN _ _ _) (congrArg (World.drewN _) (Nat.add_assoc _ _ _))⟩)) | (go_at_call 37; (with_reducible refine (spec_l01In.calls ((rd_T39 l0_1 x4_3).f3) 1 100000 true _ A40.out).mono ?_); rintro e w' ⟨rfl, ⟨nd, rfl⟩⟩; (try first | exact ⟨rfl, _, World.drewN_drewN _ _ _⟩ | exact ⟨rfl, _, Eq.trans (World.drewN_drewN _ _ _) (congrArg (World.drewN _) (Nat.add_assoc _ _ _))⟩)) | (go_at_call 37; (with_reducible refine (spec_l01In.calls ((rd_T39 l0_1 x4_3).f4) 0 ((rd_T39 l0_1 x4_3).f3) t121 _ A42.out).mono ?_); rintro e w' ⟨rfl, ⟨nd, rfl⟩⟩; (try first | exact ⟨rfl, _, World.drewN_drewN _ _ _⟩ | exact ⟨rfl, _, Eq.trans (World.drewN_drewN _ _ _) (congrArg (World.drewN _) (Nat.add_assoc _ _ _))⟩))))
                                  go_meet
                                  case rel => exact ⟨_, (!t121), (by first | rfl | (simp; done) | (simp [*]; done)), H', ⟨by have := HJ1.out; have := HK2.out; have := HK3.out; first | omega | exact Nat.le_refl _⟩, ⟨by (with_reducible repeat (first | refine blk_drewN ?_ _ | refine blk_drew ?_ | refine blk_alloc ?_ _)); refine blk_far ?_ NB110_116.out _; (with_reducible repeat (first | refine blk_drewN ?_ _ | refine blk_drew ?_ | refine blk_alloc ?_ _)); refine blk_far ?_ NB110_116.out _; (with_reducible repeat (first | refine blk_drewN ?_ _ | refine blk_drew ?_ | refine blk_alloc ?_ _)); refine blk_far ?_ NB110_116.out _; (with_reducible repeat (first | refine blk_drewN ?_ _ | refine blk_drew ?_ | refine blk_alloc ?_ _)); refine blk_far ?_ NB110_116.out _; (with_reducible repeat (first | refine blk_drewN ?_ _ | refine blk_drew ?_ | refine blk_alloc ?_ _)); refine blk_far ?_ NB110_116.out _; (with_reducible repeat (first | refine blk_drewN ?_ _ | refine blk_drew ?_ | refine blk_alloc ?_ _)); exact BK110.out⟩, ⟨by (with_reducible repeat (first | refine blk_drewN ?_ _ | refine blk_drew ?_ | refine blk_alloc ?_ _)); refine blk_put (cs := #[.string ((rd_T39 l0_1 x4_3).f0), .int .i64 ((rd_T39 l0_1 x4_3).f1), .int .i64 ((rd_T39 l0_1 x4_3).f2), .int .i64 ((rd_T39 l0_1 x4_3).f3), .int .i64 0]) ?_ 4 _ rfl; (with_reducible repeat (first | refine blk_drewN ?_ _ | refine blk_drew ?_ | refine blk_alloc ?_ _)); refine blk_put (cs := #[.string ((rd_T39 l0_1 x4_3).f0), .int .i64 ((rd_T39 l0_1 x4_3).f1), .int .i64 ((rd_T39 l0_1 x4_3).f2), .int .i64 0, .int .i64 0]) ?_ 3 _ rfl; (with_reducible repeat (first | refine blk_drewN ?_ _ | refine blk_drew ?_ | refine blk_alloc ?_ _)); refine blk_put (cs := #[.string ((rd_T39 l0_1 x4_3).f0), .int .i64 ((rd_T39 l0_1 x4_3).f1), .int .i64 0, .int .i64 0, .int .i64 0]) ?_ 2 _ rfl; (with_reducible repeat (first | refine blk_drewN ?_ _ | refine blk_drew ?_ | refine blk_alloc ?_ _)); refine blk_put (cs := #[.string ((rd_T39 l0_1 x4_3).f0), .int .i64 0, .int .i64 0, .int .i64 0, .int .i64 0]) ?_ 1 _ rfl; (with_reducible repeat (first | refine blk_drewN ?_ _ | refine blk_drew ?_ | refine blk_alloc ?_ _)); refine blk_put (cs := #[.string (⟨#[]⟩ : ByteArray), .int .i64 0, .int .i64 0, .int .i64 0, .int .i64 0]) ?_ 0 _ rfl; (with_reducible repeat (first | refine blk_drewN ?_ _ | refine blk_drew ?_ | refine blk_alloc ?_ _)); exact BK116.out⟩, ⟨by repeat (first | (with_reducible first | exact HB.out | apply below_alloc | apply pw_below_drewN | apply below_drew1 | refine below_set ?_ GE110.out | refine below_set ?_ GE116.out) | exact HB.out)⟩⟩
                                · replace c41 := Bool.eq_false_iff.mpr c41
                                  subst c41
                                  have H1 : (spec_AutoOK.j3 k3 x4_3 true a0_0 l0_1 l0_2 ((rd_T39 l0_1 x4_3).f0) ((rd_T39 l0_1 x4_3).f1) ((rd_T39 l0_1 x4_3).f2) ((rd_T39 l0_1 x4_3).f3) ((rd_T39 l0_1 x4_3).f4)) = some r := by rw [if_neg (show ¬ (false = true) by decide)] at H; exact H
                                  clear H
                                  have H := H1
                                  clear H1
                                  have H' := Aside0.mk H
                                  clear H
                                  have hnb46 := NB116_110.out
                                  have hnc46 := NB110_116.out
                                  have hcz47_0 : w27.cell? ⟨gb116, 0, none⟩ = some (.string (⟨#[]⟩ : ByteArray)) := (blk_cell BK116.out 0).trans rfl
                                  have hcz47_1 : w27.cell? ⟨gb116, 1, none⟩ = some (.int .i64 0) := (blk_cell BK116.out 1).trans rfl
                                  have hcz47_2 : w27.cell? ⟨gb116, 2, none⟩ = some (.int .i64 0) := (blk_cell BK116.out 2).trans rfl
                                  have hcz47_3 : w27.cell? ⟨gb116, 3, none⟩ = some (.int .i64 0) := (blk_cell BK116.out 3).trans rfl
                                  have hcz47_4 : w27.cell? ⟨gb116, 4, none⟩ = some (.int .i64 0) := (blk_cell BK116.out 4).trans rfl
                                  have hfz47_0 := blk_frozen BK116.out 0
                                  have hfz47_1 := blk_frozen BK116.out 1
                                  have hfz47_2 := blk_frozen BK116.out 2
                                  have hfz47_3 := blk_frozen BK116.out 3
                                  have hfz47_4 := blk_frozen BK116.out 4
                                  have hcz48_0 : w27.cell? ⟨gb110, 0, none⟩ = some (.string a0_0) := (blk_cell BK110.out 0).trans rfl
                                  have hcz48_1 : w27.cell? ⟨gb110, 1, none⟩ = some (.slice (some ad115) l0_1.length c0_1) := (blk_cell BK110.out 1).trans rfl
                                  have hcz48_2 : w27.cell? ⟨gb110, 2, none⟩ = some (.slice A0_2 l0_2.length c0_2) := (blk_cell BK110.out 2).trans rfl
                                  have hfz48_0 := blk_frozen BK110.out 0
                                  have hfz48_1 := blk_frozen BK110.out 1
                                  have hfz48_2 := blk_frozen BK110.out 2
                                  go_wp2_with (first | (go_at_call 36; (with_reducible refine (spec_l14Find.calls k3 _ _ l0_1 ((rd_T39 l0_1 x4_3).f0) t117 _ ?side1 ?side2 A31.out).mono ?_); (case side1 => exact Kd.C_below HR0_1.out (by repeat (first | (with_reducible first | exact HB.out | apply below_alloc | apply pw_below_drewN | apply below_drew1 | refine below_set ?_ GE110.out | refine below_set ?_ GE116.out) | exact HB.out))); (case side2 => exact HC0_1.out); rintro e w' ⟨rfl, ⟨nd, rfl⟩⟩; (try first | exact ⟨rfl, _, World.drewN_drewN _ _ _⟩ | exact ⟨rfl, _, Eq.trans (World.drewN_drewN _ _ _) (congrArg (World.drewN _) (Nat.add_assoc _ _ _))⟩)) | (go_at_call 35; (with_reducible refine (spec_l14Text.calls k3 _ _ l0_2 ((rd_T39 l0_1 x4_3).f0) false _ ?side1 ?side2 A33.out).mono ?_); (case side1 => exact Kd.C_below HR0_2.out (by repeat (first | (with_reducible first | exact HB.out | apply below_alloc | apply pw_below_drewN | apply below_drew1 | refine below_set ?_ GE110.out | refine below_set ?_ GE116.out) | exact HB.out))); (case side2 => exact HC0_2.out); rintro e w' ⟨rfl, ⟨nd, rfl⟩⟩; (try first | exact ⟨rfl, _, World.drewN_drewN _ _ _⟩ | exact ⟨rfl, _, Eq.trans (World.drewN_drewN _ _ _) (congrArg (World.drewN _) (Nat.add_assoc _ _ _))⟩)) | (go_at_call 37; (with_reducible refine (spec_l01In.calls ((rd_T39 l0_1 x4_3).f1) 1 3 true _ A38.out).mono ?_); rintro e w' ⟨rfl, ⟨nd, rfl⟩⟩; (try first | exact ⟨rfl, _, World.drewN_drewN _ _ _⟩ | exact ⟨rfl, _, Eq.trans (World.drewN_drewN _ _ _) (congrArg (World.drewN _) (Nat.add_assoc _ _ _))⟩)) | (go_at_call 37; (with_reducible refine (spec_l01In.calls ((rd_T39 l0_1 x4_3).f3) 1 100000 false _ A40.out).mono ?_); rintro e w' ⟨rfl, ⟨nd, rfl⟩⟩; (try first | exact ⟨rfl, _, World.drewN_drewN _ _ _⟩ | exact ⟨rfl, _, Eq.trans (World.drewN_drewN _ _ _) (congrArg (World.drewN _) (Nat.add_assoc _ _ _))⟩)))
                                  repeat (go_quiet (first | (go_at_call 36; (with_reducible refine (spec_l14Find.calls k3 _ _ l0_1 ((rd_T39 l0_1 x4_3).f0) t117 _ ?side1 ?side2 A31.out).mono ?_); (case side1 => exact Kd.C_below HR0_1.out (by repeat (first | (with_reducible first | exact HB.out | apply below_alloc | apply pw_below_drewN | apply below_drew1 | refine below_set ?_ GE110.out | refine below_set ?_ GE116.out) | exact HB.out))); (case side2 => exact HC0_1.out); rintro e w' ⟨rfl, ⟨nd, rfl⟩⟩; (try first | exact ⟨rfl, _, World.drewN_drewN _ _ _⟩ | exact ⟨rfl, _, Eq.trans (World.drewN_drewN _ _ _) (congrArg (World.drewN _) (Nat.add_assoc _ _ _))⟩)) | (go_at_call 35; (with_reducible refine (spec_l14Text.calls k3 _ _ l0_2 ((rd_T39 l0_1 x4_3).f0) false _ ?side1 ?side2 A33.out).mono ?_); (case side1 => exact Kd.C_below HR0_2.out (by repeat (first | (with_reducible first | exact HB.out | apply below_alloc | apply pw_below_drewN | apply below_drew1 | refine below_set ?_ GE110.out | refine below_set ?_ GE116.out) | exact HB.out))); (case side2 => exact HC0_2.out); rintro e w' ⟨rfl, ⟨nd, rfl⟩⟩; (try first | exact ⟨rfl, _, World.drewN_drewN _ _ _⟩ | exact ⟨rfl, _, Eq.trans (World.drewN_drewN _ _ _) (congrArg (World.drewN _) (Nat.add_assoc _ _ _))⟩)) | (go_at_call 37; (with_reducible refine (spec_l01In.calls ((rd_T39 l0_1 x4_3).f1) 1 3 true _ A38.out).mono ?_); rintro e w' ⟨rfl, ⟨nd, rfl⟩⟩; (try first | exact ⟨rfl, _, World.drewN_drewN _ _ _⟩ | exact ⟨rfl, _, Eq.trans (World.drewN_drewN _ _ _) (congrArg (World.drewN _) (Nat.add_assoc _ _ _))⟩)) | (go_at_call 37; (with_reducible refine (spec_l01In.calls ((rd_T39 l0_1 x4_3).f3) 1 100000 false _ A40.out).mono ?_); rintro e w' ⟨rfl, ⟨nd, rfl⟩⟩; (try first | exact ⟨rfl, _, World.drewN_drewN _ _ _⟩ | exact ⟨rfl, _, Eq.trans (World.drewN_drewN _ _ _) (congrArg (World.drewN _) (Nat.add_assoc _ _ _))⟩))); try go_wp2_with (first | (go_at_call 36; (with_reducible refine (spec_l14Find.calls k3 _ _ l0_1 ((rd_T39 l0_1 x4_3).f0) t117 _ ?side1 ?side2 A31.out).mono ?_); (case side1 => exact Kd.C_below HR0_1.out (by repeat (first | (with_reducible first | exact HB.out | apply below_alloc | apply pw_below_drewN | apply below_drew1 | refine below_set ?_ GE110.out | refine below_set ?_ GE116.out) | exact HB.out))); (case side2 => exact HC0_1.out); rintro e w' ⟨rfl, ⟨nd, rfl⟩⟩; (try first | exact ⟨rfl, _, World.drewN_drewN _ _ _⟩ | exact ⟨rfl, _, Eq.trans (World.drewN_drewN _ _ _) (congrArg (World.drewN _) (Nat.add_assoc _ _ _))⟩)) | (go_at_call 35; (with_reducible refine (spec_l14Text.calls k3 _ _ l0_2 ((rd_T39 l0_1 x4_3).f0) false _ ?side1 ?side2 A33.out).mono ?_); (case side1 => exact Kd.C_below HR0_2.out (by repeat (first | (with_reducible first | exact HB.out | apply below_alloc | apply pw_below_drewN | apply below_drew1 | refine below_set ?_ GE110.out | refine below_set ?_ GE116.out) | exact HB.out))); (case side2 => exact HC0_2.out); rintro e w' ⟨rfl, ⟨nd, rfl⟩⟩; (try first | exact ⟨rfl, _, World.drewN_drewN _ _ _⟩ | exact ⟨rfl, _, Eq.trans (World.drewN_drewN _ _ _) (congrArg (World.drewN _) (Nat.add_assoc _ _ _))⟩)) | (go_at_call 37; (with_reducible refine (spec_l01In.calls ((rd_T39 l0_1 x4_3).f1) 1 3 true _ A38.out).mono ?_); rintro e w' ⟨rfl, ⟨nd, rfl⟩⟩; (try first | exact ⟨rfl, _, World.drewN_drewN _ _ _⟩ | exact ⟨rfl, _, Eq.trans (World.drewN_drewN _ _ _) (congrArg (World.drewN _) (Nat.add_assoc _ _ _))⟩)) | (go_at_call 37; (with_reducible refine (spec_l01In.calls ((rd_T39 l0_1 x4_3).f3) 1 100000 false _ A40.out).mono ?_); rintro e w' ⟨rfl, ⟨nd, rfl⟩⟩; (try first | exact ⟨rfl, _, World.drewN_drewN _ _ _⟩ | exact ⟨rfl, _, Eq.trans (World.drewN_drewN _ _ _) (congrArg (World.drewN _) (Nat.add_assoc _ _ _))⟩))))
                                  go_meet
                                  case rel => exact ⟨_, (true), (by first | rfl | (simp; done) | (simp [*]; done)), H', ⟨by have := HJ1.out; have := HK2.out; have := HK3.out; first | omega | exact Nat.le_refl _⟩, ⟨by (with_reducible repeat (first | refine blk_drewN ?_ _ | refine blk_drew ?_ | refine blk_alloc ?_ _)); refine blk_far ?_ NB110_116.out _; (with_reducible repeat (first | refine blk_drewN ?_ _ | refine blk_drew ?_ | refine blk_alloc ?_ _)); refine blk_far ?_ NB110_116.out _; (with_reducible repeat (first | refine blk_drewN ?_ _ | refine blk_drew ?_ | refine blk_alloc ?_ _)); refine blk_far ?_ NB110_116.out _; (with_reducible repeat (first | refine blk_drewN ?_ _ | refine blk_drew ?_ | refine blk_alloc ?_ _)); refine blk_far ?_ NB110_116.out _; (with_reducible repeat (first | refine blk_drewN ?_ _ | refine blk_drew ?_ | refine blk_alloc ?_ _)); refine blk_far ?_ NB110_116.out _; (with_reducible repeat (first | refine blk_drewN ?_ _ | refine blk_drew ?_ | refine blk_alloc ?_ _)); exact BK110.out⟩, ⟨by (with_reducible repeat (first | refine blk_drewN ?_ _ | refine blk_drew ?_ | refine blk_alloc ?_ _)); refine blk_put (cs := #[.string ((rd_T39 l0_1 x4_3).f0), .int .i64 ((rd_T39 l0_1 x4_3).f1), .int .i64 ((rd_T39 l0_1 x4_3).f2), .int .i64 ((rd_T39 l0_1 x4_3).f3), .int .i64 0]) ?_ 4 _ rfl; (with_reducible repeat (first | refine blk_drewN ?_ _ | refine blk_drew ?_ | refine blk_alloc ?_ _)); refine blk_put (cs := #[.string ((rd_T39 l0_1 x4_3).f0), .int .i64 ((rd_T39 l0_1 x4_3).f1), .int .i64 ((rd_T39 l0_1 x4_3).f2), .int .i64 0, .int .i64 0]) ?_ 3 _ rfl; (with_reducible repeat (first | refine blk_drewN ?_ _ | refine blk_drew ?_ | refine blk_alloc ?_ _)); refine blk_put (cs := #[.string ((rd_T39 l0_1 x4_3).f0), .int .i64 ((rd_T39 l0_1 x4_3).f1), .int .i64 0, .int .i64 0, .int .i64 0]) ?_ 2 _ rfl; (with_reducible repeat (first | refine blk_drewN ?_ _ | refine blk_drew ?_ | refine blk_alloc ?_ _)); refine blk_put (cs := #[.string ((rd_T39 l0_1 x4_3).f0), .int .i64 0, .int .i64 0, .int .i64 0, .int .i64 0]) ?_ 1 _ rfl; (with_reducible repeat (first | refine blk_drewN ?_ _ | refine blk_drew ?_ | refine blk_alloc ?_ _)); refine blk_put (cs := #[.string (⟨#[]⟩ : ByteArray), .int .i64 0, .int .i64 0, .int .i64 0, .int .i64 0]) ?_ 0 _ rfl; (with_reducible repeat (first | refine blk_drewN ?_ _ | refine blk_drew ?_ | refine blk_alloc ?_ _)); exact BK116.out⟩, ⟨by repeat (first | (with_reducible first | exact HB.out | apply below_alloc | apply pw_below_drewN | apply below_drew1 | refine below_set ?_ GE110.out | refine below_set ?_ GE116.out) | exact HB.out)⟩⟩
                              · replace c39 := Bool.eq_false_iff.mpr c39
                                subst c39
                                have H1 : (spec_AutoOK.j3 k3 x4_3 true a0_0 l0_1 l0_2 ((rd_T39 l0_1 x4_3).f0) ((rd_T39 l0_1 x4_3).f1) ((rd_T39 l0_1 x4_3).f2) ((rd_T39 l0_1 x4_3).f3) ((rd_T39 l0_1 x4_3).f4)) = some r := by rw [if_neg (show ¬ (false = true) by decide)] at H; exact H
                                clear H
                                have H := H1
                                clear H1
                                have H' := Aside0.mk H
                                clear H
                                have hnb49 := NB116_110.out
                                have hnc49 := NB110_116.out
                                have hcz50_0 : w27.cell? ⟨gb116, 0, none⟩ = some (.string (⟨#[]⟩ : ByteArray)) := (blk_cell BK116.out 0).trans rfl
                                have hcz50_1 : w27.cell? ⟨gb116, 1, none⟩ = some (.int .i64 0) := (blk_cell BK116.out 1).trans rfl
                                have hcz50_2 : w27.cell? ⟨gb116, 2, none⟩ = some (.int .i64 0) := (blk_cell BK116.out 2).trans rfl
                                have hcz50_3 : w27.cell? ⟨gb116, 3, none⟩ = some (.int .i64 0) := (blk_cell BK116.out 3).trans rfl
                                have hcz50_4 : w27.cell? ⟨gb116, 4, none⟩ = some (.int .i64 0) := (blk_cell BK116.out 4).trans rfl
                                have hfz50_0 := blk_frozen BK116.out 0
                                have hfz50_1 := blk_frozen BK116.out 1
                                have hfz50_2 := blk_frozen BK116.out 2
                                have hfz50_3 := blk_frozen BK116.out 3
                                have hfz50_4 := blk_frozen BK116.out 4
                                have hcz51_0 : w27.cell? ⟨gb110, 0, none⟩ = some (.string a0_0) := (blk_cell BK110.out 0).trans rfl
                                have hcz51_1 : w27.cell? ⟨gb110, 1, none⟩ = some (.slice (some ad115) l0_1.length c0_1) := (blk_cell BK110.out 1).trans rfl
                                have hcz51_2 : w27.cell? ⟨gb110, 2, none⟩ = some (.slice A0_2 l0_2.length c0_2) := (blk_cell BK110.out 2).trans rfl
                                have hfz51_0 := blk_frozen BK110.out 0
                                have hfz51_1 := blk_frozen BK110.out 1
                                have hfz51_2 := blk_frozen BK110.out 2
                                go_wp2_with (first | (go_at_call 36; (with_reducible refine (spec_l14Find.calls k3 _ _ l0_1 ((rd_T39 l0_1 x4_3).f0) t117 _ ?side1 ?side2 A31.out).mono ?_); (case side1 => exact Kd.C_below HR0_1.out (by repeat (first | (with_reducible first | exact HB.out | apply below_alloc | apply pw_below_drewN | apply below_drew1 | refine below_set ?_ GE110.out | refine below_set ?_ GE116.out) | exact HB.out))); (case side2 => exact HC0_1.out); rintro e w' ⟨rfl, ⟨nd, rfl⟩⟩; (try first | exact ⟨rfl, _, World.drewN_drewN _ _ _⟩ | exact ⟨rfl, _, Eq.trans (World.drewN_drewN _ _ _) (congrArg (World.drewN _) (Nat.add_assoc _ _ _))⟩)) | (go_at_call 35; (with_reducible refine (spec_l14Text.calls k3 _ _ l0_2 ((rd_T39 l0_1 x4_3).f0) false _ ?side1 ?side2 A33.out).mono ?_); (case side1 => exact Kd.C_below HR0_2.out (by repeat (first | (with_reducible first | exact HB.out | apply below_alloc | apply pw_below_drewN | apply below_drew1 | refine below_set ?_ GE110.out | refine below_set ?_ GE116.out) | exact HB.out))); (case side2 => exact HC0_2.out); rintro e w' ⟨rfl, ⟨nd, rfl⟩⟩; (try first | exact ⟨rfl, _, World.drewN_drewN _ _ _⟩ | exact ⟨rfl, _, Eq.trans (World.drewN_drewN _ _ _) (congrArg (World.drewN _) (Nat.add_assoc _ _ _))⟩)) | (go_at_call 37; (with_reducible refine (spec_l01In.calls ((rd_T39 l0_1 x4_3).f1) 1 3 false _ A38.out).mono ?_); rintro e w' ⟨rfl, ⟨nd, rfl⟩⟩; (try first | exact ⟨rfl, _, World.drewN_drewN _ _ _⟩ | exact ⟨rfl, _, Eq.trans (World.drewN_drewN _ _ _) (congrArg (World.drewN _) (Nat.add_assoc _ _ _))⟩)))
                                repeat (go_quiet (first | (go_at_call 36; (with_reducible refine (spec_l14Find.calls k3 _ _ l0_1 ((rd_T39 l0_1 x4_3).f0) t117 _ ?side1 ?side2 A31.out).mono ?_); (case side1 => exact Kd.C_below HR0_1.out (by repeat (first | (with_reducible first | exact HB.out | apply below_alloc | apply pw_below_drewN | apply below_drew1 | refine below_set ?_ GE110.out | refine below_set ?_ GE116.out) | exact HB.out))); (case side2 => exact HC0_1.out); rintro e w' ⟨rfl, ⟨nd, rfl⟩⟩; (try first | exact ⟨rfl, _, World.drewN_drewN _ _ _⟩ | exact ⟨rfl, _, Eq.trans (World.drewN_drewN _ _ _) (congrArg (World.drewN _) (Nat.add_assoc _ _ _))⟩)) | (go_at_call 35; (with_reducible refine (spec_l14Text.calls k3 _ _ l0_2 ((rd_T39 l0_1 x4_3).f0) false _ ?side1 ?side2 A33.out).mono ?_); (case side1 => exact Kd.C_below HR0_2.out (by repeat (first | (with_reducible first | exact HB.out | apply below_alloc | apply pw_below_drewN | apply below_drew1 | refine below_set ?_ GE110.out | refine below_set ?_ GE116.out) | exact HB.out))); (case side2 => exact HC0_2.out); rintro e w' ⟨rfl, ⟨nd, rfl⟩⟩; (try first | exact ⟨rfl, _, World.drewN_drewN _ _ _⟩ | exact ⟨rfl, _, Eq.trans (World.drewN_drewN _ _ _) (congrArg (World.drewN _) (Nat.add_assoc _ _ _))⟩)) | (go_at_call 37; (with_reducible refine (spec_l01In.calls ((rd_T39 l0_1 x4_3).f1) 1 3 false _ A38.out).mono ?_); rintro e w' ⟨rfl, ⟨nd, rfl⟩⟩; (try first | exact ⟨rfl, _, World.drewN_drewN _ _ _⟩ | exact ⟨rfl, _, Eq.trans (World.drewN_drewN _ _ _) (congrArg (World.drewN _) (Nat.add_assoc _ _ _))⟩))); try go_wp2_with (first | (go_at_call 36; (with_reducible refine (spec_l14Find.calls k3 _ _ l0_1 ((rd_T39 l0_1 x4_3).f0) t117 _ ?side1 ?side2 A31.out).mono ?_); (case side1 => exact Kd.C_below HR0_1.out (by repeat (first | (with_reducible first | exact HB.out | apply below_alloc | apply pw_below_drewN | apply below_drew1 | refine below_set ?_ GE110.out | refine below_set ?_ GE116.out) | exact HB.out))); (case side2 => exact HC0_1.out); rintro e w' ⟨rfl, ⟨nd, rfl⟩⟩; (try first | exact ⟨rfl, _, World.drewN_drewN _ _ _⟩ | exact ⟨rfl, _, Eq.trans (World.drewN_drewN _ _ _) (congrArg (World.drewN _) (Nat.add_assoc _ _ _))⟩)) | (go_at_call 35; (with_reducible refine (spec_l14Text.calls k3 _ _ l0_2 ((rd_T39 l0_1 x4_3).f0) false _ ?side1 ?side2 A33.out).mono ?_); (case side1 => exact Kd.C_below HR0_2.out (by repeat (first | (with_reducible first | exact HB.out | apply below_alloc | apply pw_below_drewN | apply below_drew1 | refine below_set ?_ GE110.out | refine below_set ?_ GE116.out) | exact HB.out))); (case side2 => exact HC0_2.out); rintro e w' ⟨rfl, ⟨nd, rfl⟩⟩; (try first | exact ⟨rfl, _, World.drewN_drewN _ _ _⟩ | exact ⟨rfl, _, Eq.trans (World.drewN_drewN _ _ _) (congrArg (World.drewN _) (Nat.add_assoc _ _ _))⟩)) | (go_at_call 37; (with_reducible refine (spec_l01In.calls ((rd_T39 l0_1 x4_3).f1) 1 3 false _ A38.out).mono ?_); rintro e w' ⟨rfl, ⟨nd, rfl⟩⟩; (try first | exact ⟨rfl, _, World.drewN_drewN _ _ _⟩ | exact ⟨rfl, _, Eq.trans (World.drewN_drewN _ _ _) (congrArg (World.drewN _) (Nat.add_assoc _ _ _))⟩))))
                                go_meet
                                case rel => exact ⟨_, (true), (by first | rfl | (simp; done) | (simp [*]; done)), H', ⟨by have := HJ1.out; have := HK2.out; have := HK3.out; first | omega | exact Nat.le_refl _⟩, ⟨by (with_reducible repeat (first | refine blk_drewN ?_ _ | refine blk_drew ?_ | refine blk_alloc ?_ _)); refine blk_far ?_ NB110_116.out _; (with_reducible repeat (first | refine blk_drewN ?_ _ | refine blk_drew ?_ | refine blk_alloc ?_ _)); refine blk_far ?_ NB110_116.out _; (with_reducible repeat (first | refine blk_drewN ?_ _ | refine blk_drew ?_ | refine blk_alloc ?_ _)); refine blk_far ?_ NB110_116.out _; (with_reducible repeat (first | refine blk_drewN ?_ _ | refine blk_drew ?_ | refine blk_alloc ?_ _)); refine blk_far ?_ NB110_116.out _; (with_reducible repeat (first | refine blk_drewN ?_ _ | refine blk_drew ?_ | refine blk_alloc ?_ _)); refine blk_far ?_ NB110_116.out _; (with_reducible repeat (first | refine blk_drewN ?_ _ | refine blk_drew ?_ | refine blk_alloc ?_ _)); exact BK110.out⟩, ⟨by (with_reducible repeat (first | refine blk_drewN ?_ _ | refine blk_drew ?_ | refine blk_alloc ?_ _)); refine blk_put (cs := #[.string ((rd_T39 l0_1 x4_3).f0), .int .i64 ((rd_T39 l0_1 x4_3).f1), .int .i64 ((rd_T39 l0_1 x4_3).f2), .int .i64 ((rd_T39 l0_1 x4_3).f3), .int .i64 0]) ?_ 4 _ rfl; (with_reducible repeat (first | refine blk_drewN ?_ _ | refine blk_drew ?_ | refine blk_alloc ?_ _)); refine blk_put (cs := #[.string ((rd_T39 l0_1 x4_3).f0), .int .i64 ((rd_T39 l0_1 x4_3).f1), .int .i64 ((rd_T39 l0_1 x4_3).f2), .int .i64 0, .int .i64 0]) ?_ 3 _ rfl; (with_reducible repeat (first | refine blk_drewN ?_ _ | refine blk_drew ?_ | refine blk_alloc ?_ _)); refine blk_put (cs := #[.string ((rd_T39 l0_1 x4_3).f0), .int .i64 ((rd_T39 l0_1 x4_3).f1), .int .i64 0, .int .i64 0, .int .i64 0]) ?_ 2 _ rfl; (with_reducible repeat (first | refine blk_drewN ?_ _ | refine blk_drew ?_ | refine blk_alloc ?_ _)); refine blk_put (cs := #[.string ((rd_T39 l0_1 x4_3).f0), .int .i64 0, .int .i64 0, .int .i64 0, .int .i64 0]) ?_ 1 _ rfl; (with_reducible repeat (first | refine blk_drewN ?_ _ | refine blk_drew ?_ | refine blk_alloc ?_ _)); refine blk_put (cs := #[.string (⟨#[]⟩ : ByteArray), .int .i64 0, .int .i64 0, .int .i64 0, .int .i64 0]) ?_ 0 _ rfl; (with_reducible repeat (first | refine blk_drewN ?_ _ | refine blk_drew ?_ | refine blk_alloc ?_ _)); exact BK116.out⟩, ⟨by repeat (first | (with_reducible first | exact HB.out | apply below_alloc | apply pw_below_drewN | apply below_drew1 | refine below_set ?_ GE110.out | refine below_set ?_ GE116.out) | exact HB.out)⟩⟩
                          · rw [if_neg c32] at H
                            have c32b0 : (t117 == x4_3) = false := beq_eq_false_iff_ne.mpr c32
                            have c32b1 : (t117 != x4_3) = true := bne_iff_ne.mpr c32
                            have H' := Aside0.mk H
                            clear H
                            have hnb52 := NB116_110.out
                            have hnc52 := NB110_116.out
                            have hcz53_0 : w27.cell? ⟨gb116, 0, none⟩ = some (.string (⟨#[]⟩ : ByteArray)) := (blk_cell BK116.out 0).trans rfl
                            have hcz53_1 : w27.cell? ⟨gb116, 1, none⟩ = some (.int .i64 0) := (blk_cell BK116.out 1).trans rfl
                            have hcz53_2 : w27.cell? ⟨gb116, 2, none⟩ = some (.int .i64 0) := (blk_cell BK116.out 2).trans rfl
                            have hcz53_3 : w27.cell? ⟨gb116, 3, none⟩ = some (.int .i64 0) := (blk_cell BK116.out 3).trans rfl
                            have hcz53_4 : w27.cell? ⟨gb116, 4, none⟩ = some (.int .i64 0) := (blk_cell BK116.out 4).trans rfl
                            have hfz53_0 := blk_frozen BK116.out 0
                            have hfz53_1 := blk_frozen BK116.out 1
                            have hfz53_2 := blk_frozen BK116.out 2
                            have hfz53_3 := blk_frozen BK116.out 3
                            have hfz53_4 := blk_frozen BK116.out 4
                            have hcz54_0 : w27.cell? ⟨gb110, 0, none⟩ = some (.string a0_0) := (blk_cell BK110.out 0).trans rfl
                            have hcz54_1 : w27.cell? ⟨gb110, 1, none⟩ = some (.slice (some ad115) l0_1.length c0_1) := (blk_cell BK110.out 1).trans rfl
                            have hcz54_2 : w27.cell? ⟨gb110, 2, none⟩ = some (.slice A0_2 l0_2.length c0_2) := (blk_cell BK110.out 2).trans rfl
                            have hfz54_0 := blk_frozen BK110.out 0
                            have hfz54_1 := blk_frozen BK110.out 1
                            have hfz54_2 := blk_frozen BK110.out 2
                            go_wp2_with (first | (go_at_call 36; (with_reducible refine (spec_l14Find.calls k3 _ _ l0_1 ((rd_T39 l0_1 x4_3).f0) t117 _ ?side1 ?side2 A31.out).mono ?_); (case side1 => exact Kd.C_below HR0_1.out (by repeat (first | (with_reducible first | exact HB.out | apply below_alloc | apply pw_below_drewN | apply below_drew1 | refine below_set ?_ GE110.out | refine below_set ?_ GE116.out) | exact HB.out))); (case side2 => exact HC0_1.out); rintro e w' ⟨rfl, ⟨nd, rfl⟩⟩; (try first | exact ⟨rfl, _, World.drewN_drewN _ _ _⟩ | exact ⟨rfl, _, Eq.trans (World.drewN_drewN _ _ _) (congrArg (World.drewN _) (Nat.add_assoc _ _ _))⟩)))
                            repeat (go_quiet (first | (go_at_call 36; (with_reducible refine (spec_l14Find.calls k3 _ _ l0_1 ((rd_T39 l0_1 x4_3).f0) t117 _ ?side1 ?side2 A31.out).mono ?_); (case side1 => exact Kd.C_below HR0_1.out (by repeat (first | (with_reducible first | exact HB.out | apply below_alloc | apply pw_below_drewN | apply below_drew1 | refine below_set ?_ GE110.out | refine below_set ?_ GE116.out) | exact HB.out))); (case side2 => exact HC0_1.out); rintro e w' ⟨rfl, ⟨nd, rfl⟩⟩; (try first | exact ⟨rfl, _, World.drewN_drewN _ _ _⟩ | exact ⟨rfl, _, Eq.trans (World.drewN_drewN _ _ _) (congrArg (World.drewN _) (Nat.add_assoc _ _ _))⟩))); try go_wp2_with (first | (go_at_call 36; (with_reducible refine (spec_l14Find.calls k3 _ _ l0_1 ((rd_T39 l0_1 x4_3).f0) t117 _ ?side1 ?side2 A31.out).mono ?_); (case side1 => exact Kd.C_below HR0_1.out (by repeat (first | (with_reducible first | exact HB.out | apply below_alloc | apply pw_below_drewN | apply below_drew1 | refine below_set ?_ GE110.out | refine below_set ?_ GE116.out) | exact HB.out))); (case side2 => exact HC0_1.out); rintro e w' ⟨rfl, ⟨nd, rfl⟩⟩; (try first | exact ⟨rfl, _, World.drewN_drewN _ _ _⟩ | exact ⟨rfl, _, Eq.trans (World.drewN_drewN _ _ _) (congrArg (World.drewN _) (Nat.add_assoc _ _ _))⟩))))
                            go_meet
                            case rel => exact ⟨_, (true), (by first | rfl | (simp; done) | (simp [*]; done)), H', ⟨by have := HJ1.out; have := HK2.out; have := HK3.out; first | omega | exact Nat.le_refl _⟩, ⟨by (with_reducible repeat (first | refine blk_drewN ?_ _ | refine blk_drew ?_ | refine blk_alloc ?_ _)); refine blk_far ?_ NB110_116.out _; (with_reducible repeat (first | refine blk_drewN ?_ _ | refine blk_drew ?_ | refine blk_alloc ?_ _)); refine blk_far ?_ NB110_116.out _; (with_reducible repeat (first | refine blk_drewN ?_ _ | refine blk_drew ?_ | refine blk_alloc ?_ _)); refine blk_far ?_ NB110_116.out _; (with_reducible repeat (first | refine blk_drewN ?_ _ | refine blk_drew ?_ | refine blk_alloc ?_ _)); refine blk_far ?_ NB110_116.out _; (with_reducible repeat (first | refine blk_drewN ?_ _ | refine blk_drew ?_ | refine blk_alloc ?_ _)); refine blk_far ?_ NB110_116.out _; (with_reducible repeat (first | refine blk_drewN ?_ _ | refine blk_drew ?_ | refine blk_alloc ?_ _)); exact BK110.out⟩, ⟨by (with_reducible repeat (first | refine blk_drewN ?_ _ | refine blk_drew ?_ | refine blk_alloc ?_ _)); refine blk_put (cs := #[.string ((rd_T39 l0_1 x4_3).f0), .int .i64 ((rd_T39 l0_1 x4_3).f1), .int .i64 ((rd_T39 l0_1 x4_3).f2), .int .i64 ((rd_T39 l0_1 x4_3).f3), .int .i64 0]) ?_ 4 _ rfl; (with_reducible repeat (first | refine blk_drewN ?_ _ | refine blk_drew ?_ | refine blk_alloc ?_ _)); refine blk_put (cs := #[.string ((rd_T39 l0_1 x4_3).f0), .int .i64 ((rd_T39 l0_1 x4_3).f1), .int .i64 ((rd_T39 l0_1 x4_3).f2), .int .i64 0, .int .i64 0]) ?_ 3 _ rfl; (with_reducible repeat (first | refine blk_drewN ?_ _ | refine blk_drew ?_ | refine blk_alloc ?_ _)); refine blk_put (cs := #[.string ((rd_T39 l0_1 x4_3).f0), .int .i64 ((rd_T39 l0_1 x4_3).f1), .int .i64 0, .int .i64 0, .int .i64 0]) ?_ 2 _ rfl; (with_reducible repeat (first | refine blk_drewN ?_ _ | refine blk_drew ?_ | refine blk_alloc ?_ _)); refine blk_put (cs := #[.string ((rd_T39 l0_1 x4_3).f0), .int .i64 0, .int .i64 0, .int .i64 0, .int .i64 0]) ?_ 1 _ rfl; (with_reducible repeat (first | refine blk_drewN ?_ _ | refine blk_drew ?_ | refine blk_alloc ?_ _)); refine blk_put (cs := #[.string (⟨#[]⟩ : ByteArray), .int .i64 0, .int .i64 0, .int .i64 0, .int .i64 0]) ?_ 0 _ rfl; (with_reducible repeat (first | refine blk_drewN ?_ _ | refine blk_drew ?_ | refine blk_alloc ?_ _)); exact BK116.out⟩, ⟨by repeat (first | (with_reducible first | exact HB.out | apply below_alloc | apply pw_below_drewN | apply below_drew1 | refine below_set ?_ GE110.out | refine below_set ?_ GE116.out) | exact HB.out)⟩⟩
                        · rw [if_neg c30] at H
                          have c30b0 : ((((rd_T39 l0_1 x4_3).f0).size : Int) == 16) = false := beq_eq_false_iff_ne.mpr c30
                          have c30b1 : ((((rd_T39 l0_1 x4_3).f0).size : Int) != 16) = true := bne_iff_ne.mpr c30
                          (first | rw [c30b0] | (simp only [i64_w, i32_w]; rw [c30b0]) | skip)
                          have H' := Aside0.mk H
                          clear H
                          have hnb55 := NB116_110.out
                          have hnc55 := NB110_116.out
                          have hcz56_0 : w27.cell? ⟨gb116, 0, none⟩ = some (.string (⟨#[]⟩ : ByteArray)) := (blk_cell BK116.out 0).trans rfl
                          have hcz56_1 : w27.cell? ⟨gb116, 1, none⟩ = some (.int .i64 0) := (blk_cell BK116.out 1).trans rfl
                          have hcz56_2 : w27.cell? ⟨gb116, 2, none⟩ = some (.int .i64 0) := (blk_cell BK116.out 2).trans rfl
                          have hcz56_3 : w27.cell? ⟨gb116, 3, none⟩ = some (.int .i64 0) := (blk_cell BK116.out 3).trans rfl
                          have hcz56_4 : w27.cell? ⟨gb116, 4, none⟩ = some (.int .i64 0) := (blk_cell BK116.out 4).trans rfl
                          have hfz56_0 := blk_frozen BK116.out 0
                          have hfz56_1 := blk_frozen BK116.out 1
                          have hfz56_2 := blk_frozen BK116.out 2
                          have hfz56_3 := blk_frozen BK116.out 3
                          have hfz56_4 := blk_frozen BK116.out 4
                          go_wp2
                          repeat (go_quiet (fail); try go_wp2)
                          go_meet
                          case rel => exact ⟨_, (true), (by first | rfl | (simp; done) | (simp [*]; done)), H', ⟨by have := HJ1.out; have := HK2.out; have := HK3.out; first | omega | exact Nat.le_refl _⟩, ⟨by (with_reducible repeat (first | refine blk_drewN ?_ _ | refine blk_drew ?_ | refine blk_alloc ?_ _)); refine blk_far ?_ NB110_116.out _; (with_reducible repeat (first | refine blk_drewN ?_ _ | refine blk_drew ?_ | refine blk_alloc ?_ _)); refine blk_far ?_ NB110_116.out _; (with_reducible repeat (first | refine blk_drewN ?_ _ | refine blk_drew ?_ | refine blk_alloc ?_ _)); refine blk_far ?_ NB110_116.out _; (with_reducible repeat (first | refine blk_drewN ?_ _ | refine blk_drew ?_ | refine blk_alloc ?_ _)); refine blk_far ?_ NB110_116.out _; (with_reducible repeat (first | refine blk_drewN ?_ _ | refine blk_drew ?_ | refine blk_alloc ?_ _)); refine blk_far ?_ NB110_116.out _; (with_reducible repeat (first | refine blk_drewN ?_ _ | refine blk_drew ?_ | refine blk_alloc ?_ _)); exact BK110.out⟩, ⟨by (with_reducible repeat (first | refine blk_drewN ?_ _ | refine blk_drew ?_ | refine blk_alloc ?_ _)); refine blk_put (cs := #[.string ((rd_T39 l0_1 x4_3).f0), .int .i64 ((rd_T39 l0_1 x4_3).f1), .int .i64 ((rd_T39 l0_1 x4_3).f2), .int .i64 ((rd_T39 l0_1 x4_3).f3), .int .i64 0]) ?_ 4 _ rfl; (with_reducible repeat (first | refine blk_drewN ?_ _ | refine blk_drew ?_ | refine blk_alloc ?_ _)); refine blk_put (cs := #[.string ((rd_T39 l0_1 x4_3).f0), .int .i64 ((rd_T39 l0_1 x4_3).f1), .int .i64 ((rd_T39 l0_1 x4_3).f2), .int .i64 0, .int .i64 0]) ?_ 3 _ rfl; (with_reducible repeat (first | refine blk_drewN ?_ _ | refine blk_drew ?_ | refine blk_alloc ?_ _)); refine blk_put (cs := #[.string ((rd_T39 l0_1 x4_3).f0), .int .i64 ((rd_T39 l0_1 x4_3).f1), .int .i64 0, .int .i64 0, .int .i64 0]) ?_ 2 _ rfl; (with_reducible repeat (first | refine blk_drewN ?_ _ | refine blk_drew ?_ | refine blk_alloc ?_ _)); refine blk_put (cs := #[.string ((rd_T39 l0_1 x4_3).f0), .int .i64 0, .int .i64 0, .int .i64 0, .int .i64 0]) ?_ 1 _ rfl; (with_reducible repeat (first | refine blk_drewN ?_ _ | refine blk_drew ?_ | refine blk_alloc ?_ _)); refine blk_put (cs := #[.string (⟨#[]⟩ : ByteArray), .int .i64 0, .int .i64 0, .int .i64 0, .int .i64 0]) ?_ 0 _ rfl; (with_reducible repeat (first | refine blk_drewN ?_ _ | refine blk_drew ?_ | refine blk_alloc ?_ _)); exact BK116.out⟩, ⟨by repeat (first | (with_reducible first | exact HB.out | apply below_alloc | apply pw_below_drewN | apply below_drew1 | refine below_set ?_ GE110.out | refine below_set ?_ GE116.out) | exact HB.out)⟩⟩
                      case rest =>
                        clear HC25
                        try clear c1
                        try clear p1
                        try clear q1
                        try clear hx1
                        try clear c2
                        try clear p2
                        try clear c3
                        try clear c4
                        try clear c4b0
                        try clear c4b1
                        try clear c5
                        try clear c5b0
                        try clear c5b1
                        try clear p6
                        try clear c9
                        try clear c10
                        try clear c10b0
                        try clear c11
                        try clear c11b0
                        try clear p11
                        try clear q11
                        try clear hx11
                        try clear c12
                        try clear c12b0
                        try clear c12b1
                        try clear c13
                        try clear c13b0
                        try clear c14
                        try clear c14b0
                        try clear c14b1
                        try clear c15
                        try clear c16
                        try clear c23
                        try clear c23b0
                        try clear c24
                        try clear c24b0
                        try clear c28
                        try clear c30
                        try clear c30b0
                        try clear c30b1
                        try clear c32
                        try clear c32b0
                        try clear c32b1
                        try clear c34
                        try clear c35
                        try clear c39
                        try clear c41
                        try clear c43
                        try clear c46
                        try clear c49
                        try clear c52
                        try clear c55
                        try clear hcz17_0
                        try clear hcz17_1
                        try clear hcz17_2
                        try clear hcz19_0
                        try clear hcz19_1
                        try clear hcz19_2
                        try clear hcz21_0
                        try clear hcz21_1
                        try clear hcz21_2
                        try clear hcz22_0
                        try clear hcz22_1
                        try clear hcz22_2
                        try clear hcz26_0
                        try clear hcz26_1
                        try clear hcz26_2
                        try clear hcz29_0
                        try clear hcz29_1
                        try clear hcz29_2
                        try clear hcz29_3
                        try clear hcz29_4
                        try clear hcz36_0
                        try clear hcz36_1
                        try clear hcz36_2
                        try clear hcz36_3
                        try clear hcz36_4
                        try clear hcz37_0
                        try clear hcz37_1
                        try clear hcz37_2
                        try clear hcz44_0
                        try clear hcz44_1
                        try clear hcz44_2
                        try clear hcz44_3
                        try clear hcz44_4
                        try clear hcz45_0
                        try clear hcz45_1
                        try clear hcz45_2
                        try clear hcz47_0
                        try clear hcz47_1
                        try clear hcz47_2
                        try clear hcz47_3
                        try clear hcz47_4
                        try clear hcz48_0
                        try clear hcz48_1
                        try clear hcz48_2
                        try clear hcz50_0
                        try clear hcz50_1
                        try clear hcz50_2
                        try clear hcz50_3
                        try clear hcz50_4
                        try clear hcz51_0
                        try clear hcz51_1
                        try clear hcz51_2
                        try clear hcz53_0
                        try clear hcz53_1
                        try clear hcz53_2
                        try clear hcz53_3
                        try clear hcz53_4
                        try clear hcz54_0
                        try clear hcz54_1
                        try clear hcz54_2
                        try clear hcz56_0
                        try clear hcz56_1
                        try clear hcz56_2
                        try clear hcz56_3
                        try clear hcz56_4
                        try clear hcz6_0
                        try clear hcz6_1
                        try clear hcz6_2
                        try clear hcz7_0
                        try clear hcz7_1
                        try clear hcz7_2
                        try clear hcz8_0
                        try clear hcz8_1
                        try clear hcz8_2
                        try clear hfz17_0
                        try clear hfz17_1
                        try clear hfz17_2
                        try clear hfz19_0
                        try clear hfz19_1
                        try clear hfz19_2
                        try clear hfz21_0
                        try clear hfz21_1
                        try clear hfz21_2
                        try clear hfz22_0
                        try clear hfz22_1
                        try clear hfz22_2
                        try clear hfz26_0
                        try clear hfz26_1
                        try clear hfz26_2
                        try clear hfz29_0
                        try clear hfz29_1
                        try clear hfz29_2
                        try clear hfz29_3
                        try clear hfz29_4
                        try clear hfz36_0
                        try clear hfz36_1
                        try clear hfz36_2
                        try clear hfz36_3
                        try clear hfz36_4
                        try clear hfz37_0
                        try clear hfz37_1
                        try clear hfz37_2
                        try clear hfz44_0
                        try clear hfz44_1
                        try clear hfz44_2
                        try clear hfz44_3
                        try clear hfz44_4
                        try clear hfz45_0
                        try clear hfz45_1
                        try clear hfz45_2
                        try clear hfz47_0
                        try clear hfz47_1
                        try clear hfz47_2
                        try clear hfz47_3
                        try clear hfz47_4
                        try clear hfz48_0
                        try clear hfz48_1
                        try clear hfz48_2
                        try clear hfz50_0
                        try clear hfz50_1
                        try clear hfz50_2
                        try clear hfz50_3
                        try clear hfz50_4
                        try clear hfz51_0
                        try clear hfz51_1
                        try clear hfz51_2
                        try clear hfz53_0
                        try clear hfz53_1
                        try clear hfz53_2
                        try clear hfz53_3
                        try clear hfz53_4
                        try clear hfz54_0
                        try clear hfz54_1
                        try clear hfz54_2
                        try clear hfz56_0
                        try clear hfz56_1
                        try clear hfz56_2
                        try clear hfz56_3
                        try clear hfz56_4
                        try clear hfz6_0
                        try clear hfz6_1
                        try clear hfz6_2
                        try clear hfz7_0
                        try clear hfz7_1
                        try clear hfz7_2
                        try clear hfz8_0
                        try clear hfz8_1
                        try clear hfz8_2
                        try clear hx111_0
                        try clear hx113_0
                        try clear hx115_0
                        try clear hx115_1
                        try clear hx115_2
                        try clear hx115_3
                        try clear hx115_4
                        try clear p1
                        try clear p11
                        try clear p111
                        try clear p113
                        try clear p115
                        try clear p2
                        try clear p6
                        try clear q1
                        try clear q11
                        try clear q111
                        try clear q113
                        try clear q115
                        obtain ⟨kq, x99_24, rfl, HA, HJ24, BK110, BK116, HB⟩ := hcut
                        cases kq with
                        | zero => exact absurd HA.out (by simp [spec_AutoOK.j3])
                        | succ kj24 =>
                          have H := HA.out
                          clear HA
                          simp only [spec_AutoOK.j3] at H
                          by_cases c57 : x99_24 = true
                          · subst c57
                            have H1 : (some false) = some r := by rw [if_pos rfl] at H; exact H
                            clear H
                            have H := H1
                            clear H1
                            obtain rfl := Option.some.inj H
                            go_wp2
                            repeat (go_quiet (fail); try go_wp2)
                            go_ret
                            exact ⟨by first | rfl | (simp [errW_none, errW_some] <;> rfl) | (simp [*, errW_none, errW_some] <;> rfl), by repeat (first | (with_reducible first | exact HB.out | apply below_alloc | apply pw_below_drewN | apply below_drew1 | refine below_set ?_ GE110.out | refine below_set ?_ GE116.out) | exact HB.out)⟩
                          · replace c57 := Bool.eq_false_iff.mpr c57
                            subst c57
                            have H1 : ((spec_l01In.f ((rd_T39 l0_1 x4_3).f2) 1 3).bind fun t122 => (if ((((rd_T39 l0_1 x4_3).f1) == 1) != t122) = true then (some false) else (if ((rd_T39 l0_1 x4_3).f1) = 1 then (spec_AutoOK.l1 kj24 (wrap64 (x4_3 + 1)) a0_0 l0_1 l0_2) else (if ((rd_T39 l0_1 x4_3).f2) = 0 then (if ((((rd_T39 l0_1 x4_3).f1) == 3) != (((rd_T39 l0_1 x4_3).f4) == 0)) = true then (some false) else (spec_AutoOK.l1 kj24 (wrap64 (x4_3 + 1)) a0_0 l0_1 l0_2)) else (some false))))) = some r := by rw [if_neg (show ¬ (false = true) by decide)] at H; exact H
                            clear H
                            have H := H1
                            clear H1
                            replace H := Option.bind_eq_some_iff.mp H
                            obtain ⟨t122, A580, H⟩ := H
                            replace H : (if ((((rd_T39 l0_1 x4_3).f1) == 1) != t122) = true then (some false) else (if ((rd_T39 l0_1 x4_3).f1) = 1 then (spec_AutoOK.l1 kj24 (wrap64 (x4_3 + 1)) a0_0 l0_1 l0_2) else (if ((rd_T39 l0_1 x4_3).f2) = 0 then (if ((((rd_T39 l0_1 x4_3).f1) == 3) != (((rd_T39 l0_1 x4_3).f4) == 0)) = true then (some false) else (spec_AutoOK.l1 kj24 (wrap64 (x4_3 + 1)) a0_0 l0_1 l0_2)) else (some false)))) = some r := H
                            have A58 := Aside0.mk A580
                            clear A580
                            by_cases c59 : ((((rd_T39 l0_1 x4_3).f1) == 1) != t122) = true
                            · rw [if_pos c59] at H
                              have c59b0 : ((((rd_T39 l0_1 x4_3).f1) == 1) != t122) = true := c59
                              (try (have c59b1 : decide ((((rd_T39 l0_1 x4_3).f1) == 1) = t122) = false := by simpa using c59))
                              (try (have c59b2 : ((((rd_T39 l0_1 x4_3).f1) == 1) == t122) = false := by simpa using c59))
                              (try (have c59b3 : ¬ ((((rd_T39 l0_1 x4_3).f1) == 1) = t122) := by simpa using c59))
                              clear c59
                              obtain rfl := Option.some.inj H
                              have hnb60 := NB116_110.out
                              have hnc60 := NB110_116.out
                              have hcz61_0 : wc.cell? ⟨gb116, 0, none⟩ = some (.string ((rd_T39 l0_1 x4_3).f0)) := (blk_cell BK116.out 0).trans rfl
                              have hcz61_1 : wc.cell? ⟨gb116, 1, none⟩ = some (.int .i64 ((rd_T39 l0_1 x4_3).f1)) := (blk_cell BK116.out 1).trans rfl
                              have hcz61_2 : wc.cell? ⟨gb116, 2, none⟩ = some (.int .i64 ((rd_T39 l0_1 x4_3).f2)) := (blk_cell BK116.out 2).trans rfl
                              have hcz61_3 : wc.cell? ⟨gb116, 3, none⟩ = some (.int .i64 ((rd_T39 l0_1 x4_3).f3)) := (blk_cell BK116.out 3).trans rfl
                              have hcz61_4 : wc.cell? ⟨gb116, 4, none⟩ = some (.int .i64 ((rd_T39 l0_1 x4_3).f4)) := (blk_cell BK116.out 4).trans rfl
                              have hfz61_0 := blk_frozen BK116.out 0
                              have hfz61_1 := blk_frozen BK116.out 1
                              have hfz61_2 := blk_frozen BK116.out 2
                              have hfz61_3 := blk_frozen BK116.out 3
                              have hfz61_4 := blk_frozen BK116.out 4
                              go_wp2_with (first | (go_at_call 37; (with_reducible refine (spec_l01In.calls ((rd_T39 l0_1 x4_3).f2) 1 3 t122 _ A58.out).mono ?_); rintro e w' ⟨rfl, ⟨nd, rfl⟩⟩; (try first | exact ⟨rfl, _, World.drewN_drewN _ _ _⟩ | exact ⟨rfl, _, Eq.trans (World.drewN_drewN _ _ _) (congrArg (World.drewN _) (Nat.add_assoc _ _ _))⟩)))
                              repeat (go_quiet (first | (go_at_call 37; (with_reducible refine (spec_l01In.calls ((rd_T39 l0_1 x4_3).f2) 1 3 t122 _ A58.out).mono ?_); rintro e w' ⟨rfl, ⟨nd, rfl⟩⟩; (try first | exact ⟨rfl, _, World.drewN_drewN _ _ _⟩ | exact ⟨rfl, _, Eq.trans (World.drewN_drewN _ _ _) (congrArg (World.drewN _) (Nat.add_assoc _ _ _))⟩))); try go_wp2_with (first | (go_at_call 37; (with_reducible refine (spec_l01In.calls ((rd_T39 l0_1 x4_3).f2) 1 3 t122 _ A58.out).mono ?_); rintro e w' ⟨rfl, ⟨nd, rfl⟩⟩; (try first | exact ⟨rfl, _, World.drewN_drewN _ _ _⟩ | exact ⟨rfl, _, Eq.trans (World.drewN_drewN _ _ _) (congrArg (World.drewN _) (Nat.add_assoc _ _ _))⟩))))
                              go_ret
                              exact ⟨by first | rfl | (simp [errW_none, errW_some] <;> rfl) | (simp [*, errW_none, errW_some] <;> rfl), by repeat (first | (with_reducible first | exact HB.out | apply below_alloc | apply pw_below_drewN | apply below_drew1 | refine below_set ?_ GE110.out | refine below_set ?_ GE116.out) | exact HB.out)⟩
                            · rw [if_neg c59] at H
                              have c59b0 : ((((rd_T39 l0_1 x4_3).f1) == 1) != t122) = false := by simpa using c59
                              (try (have c59b1 : decide ((((rd_T39 l0_1 x4_3).f1) == 1) = t122) = true := by simpa using c59))
                              (try (have c59b2 : ((((rd_T39 l0_1 x4_3).f1) == 1) == t122) = true := by simpa using c59))
                              clear c59
                              by_cases c62 : ((rd_T39 l0_1 x4_3).f1) = 1
                              · rw [if_pos c62] at H
                                have c62b0 : (((rd_T39 l0_1 x4_3).f1) == 1) = true := beq_iff_eq.mpr c62
                                have c62t : t122 = true := by have hz_ := c59b0; rw [c62b0] at hz_; revert hz_; cases t122 <;> simp
                                have c62b1 : (((rd_T39 l0_1 x4_3).f1) != 1) = false := bne_eq_false_iff_eq.mpr c62
                                clear c62
                                have H' := Aside0.mk H
                                clear H
                                have hnb63 := NB116_110.out
                                have hnc63 := NB110_116.out
                                have hcz64_0 : wc.cell? ⟨gb116, 0, none⟩ = some (.string ((rd_T39 l0_1 x4_3).f0)) := (blk_cell BK116.out 0).trans rfl
                                have hcz64_1 : wc.cell? ⟨gb116, 1, none⟩ = some (.int .i64 ((rd_T39 l0_1 x4_3).f1)) := (blk_cell BK116.out 1).trans rfl
                                have hcz64_2 : wc.cell? ⟨gb116, 2, none⟩ = some (.int .i64 ((rd_T39 l0_1 x4_3).f2)) := (blk_cell BK116.out 2).trans rfl
                                have hcz64_3 : wc.cell? ⟨gb116, 3, none⟩ = some (.int .i64 ((rd_T39 l0_1 x4_3).f3)) := (blk_cell BK116.out 3).trans rfl
                                have hcz64_4 : wc.cell? ⟨gb116, 4, none⟩ = some (.int .i64 ((rd_T39 l0_1 x4_3).f4)) := (blk_cell BK116.out 4).trans rfl
                                have hfz64_0 := blk_frozen BK116.out 0
                                have hfz64_1 := blk_frozen BK116.out 1
                                have hfz64_2 := blk_frozen BK116.out 2
                                have hfz64_3 := blk_frozen BK116.out 3
                                have hfz64_4 := blk_frozen BK116.out 4
                                go_wp2_with (first | (go_at_call 37; (with_reducible refine (spec_l01In.calls ((rd_T39 l0_1 x4_3).f2) 1 3 t122 _ A58.out).mono ?_); rintro e w' ⟨rfl, ⟨nd, rfl⟩⟩; (try first | exact ⟨rfl, _, World.drewN_drewN _ _ _⟩ | exact ⟨rfl, _, Eq.trans (World.drewN_drewN _ _ _) (congrArg (World.drewN _) (Nat.add_assoc _ _ _))⟩)))
                                repeat (go_quiet (first | (go_at_call 37; (with_reducible refine (spec_l01In.calls ((rd_T39 l0_1 x4_3).f2) 1 3 t122 _ A58.out).mono ?_); rintro e w' ⟨rfl, ⟨nd, rfl⟩⟩; (try first | exact ⟨rfl, _, World.drewN_drewN _ _ _⟩ | exact ⟨rfl, _, Eq.trans (World.drewN_drewN _ _ _) (congrArg (World.drewN _) (Nat.add_assoc _ _ _))⟩))); try go_wp2_with (first | (go_at_call 37; (with_reducible refine (spec_l01In.calls ((rd_T39 l0_1 x4_3).f2) 1 3 t122 _ A58.out).mono ?_); rintro e w' ⟨rfl, ⟨nd, rfl⟩⟩; (try first | exact ⟨rfl, _, World.drewN_drewN _ _ _⟩ | exact ⟨rfl, _, Eq.trans (World.drewN_drewN _ _ _) (congrArg (World.drewN _) (Nat.add_assoc _ _ _))⟩))))
                                go_roundg kj24
                                case measure => have := HJ1.out; have := HK2.out; have := HK3.out; have := HJ24.out; omega
                                case rel => exact ⟨(wrap64 (x4_3 + 1)), (by first | rfl | (simp; done) | (simp [*]; done)), H', ⟨by have := HJ1.out; have := HK2.out; have := HK3.out; have := HJ24.out; omega⟩, ⟨by (with_reducible repeat (first | refine blk_drewN ?_ _ | refine blk_drew ?_ | refine blk_alloc ?_ _)); exact BK110.out⟩, ⟨by repeat (first | (with_reducible first | exact HB.out | apply below_alloc | apply pw_below_drewN | apply below_drew1 | refine below_set ?_ GE110.out | refine below_set ?_ GE116.out) | exact HB.out)⟩⟩
                              · rw [if_neg c62] at H
                                have c62b0 : (((rd_T39 l0_1 x4_3).f1) == 1) = false := beq_eq_false_iff_ne.mpr c62
                                have c62t : t122 = false := by have hz_ := c59b0; rw [c62b0] at hz_; revert hz_; cases t122 <;> simp
                                have c62b1 : (((rd_T39 l0_1 x4_3).f1) != 1) = true := bne_iff_ne.mpr c62
                                by_cases c65 : ((rd_T39 l0_1 x4_3).f2) = 0
                                · rw [if_pos c65] at H
                                  have c65b0 : (((rd_T39 l0_1 x4_3).f2) == 0) = true := beq_iff_eq.mpr c65
                                  have c65b1 : (((rd_T39 l0_1 x4_3).f2) != 0) = false := bne_eq_false_iff_eq.mpr c65
                                  clear c65
                                  by_cases c66 : ((((rd_T39 l0_1 x4_3).f1) == 3) != (((rd_T39 l0_1 x4_3).f4) == 0)) = true
                                  · rw [if_pos c66] at H
                                    have c66b0 : ((((rd_T39 l0_1 x4_3).f1) == 3) != (((rd_T39 l0_1 x4_3).f4) == 0)) = true := c66
                                    (try (have c66b1 : decide ((((rd_T39 l0_1 x4_3).f1) == 3) = (((rd_T39 l0_1 x4_3).f4) == 0)) = false := by simpa using c66))
                                    (try (have c66b2 : ((((rd_T39 l0_1 x4_3).f1) == 3) == (((rd_T39 l0_1 x4_3).f4) == 0)) = false := by simpa using c66))
                                    (try (have c66b3 : ¬ ((((rd_T39 l0_1 x4_3).f1) == 3) = (((rd_T39 l0_1 x4_3).f4) == 0)) := by simpa using c66))
                                    clear c66
                                    obtain rfl := Option.some.inj H
                                    have hnb67 := NB116_110.out
                                    have hnc67 := NB110_116.out
                                    have hcz68_0 : wc.cell? ⟨gb116, 0, none⟩ = some (.string ((rd_T39 l0_1 x4_3).f0)) := (blk_cell BK116.out 0).trans rfl
                                    have hcz68_1 : wc.cell? ⟨gb116, 1, none⟩ = some (.int .i64 ((rd_T39 l0_1 x4_3).f1)) := (blk_cell BK116.out 1).trans rfl
                                    have hcz68_2 : wc.cell? ⟨gb116, 2, none⟩ = some (.int .i64 ((rd_T39 l0_1 x4_3).f2)) := (blk_cell BK116.out 2).trans rfl
                                    have hcz68_3 : wc.cell? ⟨gb116, 3, none⟩ = some (.int .i64 ((rd_T39 l0_1 x4_3).f3)) := (blk_cell BK116.out 3).trans rfl
                                    have hcz68_4 : wc.cell? ⟨gb116, 4, none⟩ = some (.int .i64 ((rd_T39 l0_1 x4_3).f4)) := (blk_cell BK116.out 4).trans rfl
                                    have hfz68_0 := blk_frozen BK116.out 0
                                    have hfz68_1 := blk_frozen BK116.out 1
                                    have hfz68_2 := blk_frozen BK116.out 2
                                    have hfz68_3 := blk_frozen BK116.out 3
                                    have hfz68_4 := blk_frozen BK116.out 4
                                    go_wp2_with (first | (go_at_call 37; (with_reducible refine (spec_l01In.calls ((rd_T39 l0_1 x4_3).f2) 1 3 t122 _ A58.out).mono ?_); rintro e w' ⟨rfl, ⟨nd, rfl⟩⟩; (try first | exact ⟨rfl, _, World.drewN_drewN _ _ _⟩ | exact ⟨rfl, _, Eq.trans (World.drewN_drewN _ _ _) (congrArg (World.drewN _) (Nat.add_assoc _ _ _))⟩)))
                                    repeat (go_quiet (first | (go_at_call 37; (with_reducible refine (spec_l01In.calls ((rd_T39 l0_1 x4_3).f2) 1 3 t122 _ A58.out).mono ?_); rintro e w' ⟨rfl, ⟨nd, rfl⟩⟩; (try first | exact ⟨rfl, _, World.drewN_drewN _ _ _⟩ | exact ⟨rfl, _, Eq.trans (World.drewN_drewN _ _ _) (congrArg (World.drewN _) (Nat.add_assoc _ _ _))⟩))); try go_wp2_with (first | (go_at_call 37; (with_reducible refine (spec_l01In.calls ((rd_T39 l0_1 x4_3).f2) 1 3 t122 _ A58.out).mono ?_); rintro e w' ⟨rfl, ⟨nd, rfl⟩⟩; (try first | exact ⟨rfl, _, World.drewN_drewN _ _ _⟩ | exact ⟨rfl, _, Eq.trans (World.drewN_drewN _ _ _) (congrArg (World.drewN _) (Nat.add_assoc _ _ _))⟩))))
                                    go_ret
                                    exact ⟨by first | rfl | (simp [errW_none, errW_some] <;> rfl) | (simp [*, errW_none, errW_some] <;> rfl), by repeat (first | (with_reducible first | exact HB.out | apply below_alloc | apply pw_below_drewN | apply below_drew1 | refine below_set ?_ GE110.out | refine below_set ?_ GE116.out) | exact HB.out)⟩
                                  · rw [if_neg c66] at H
                                    have c66b0 : ((((rd_T39 l0_1 x4_3).f1) == 3) != (((rd_T39 l0_1 x4_3).f4) == 0)) = false := by simpa using c66
                                    (try (have c66b1 : decide ((((rd_T39 l0_1 x4_3).f1) == 3) = (((rd_T39 l0_1 x4_3).f4) == 0)) = true := by simpa using c66))
                                    (try (have c66b2 : ((((rd_T39 l0_1 x4_3).f1) == 3) == (((rd_T39 l0_1 x4_3).f4) == 0)) = true := by simpa using c66))
                                    clear c66
                                    have H' := Aside0.mk H
                                    clear H
                                    have hnb69 := NB116_110.out
                                    have hnc69 := NB110_116.out
                                    have hcz70_0 : wc.cell? ⟨gb116, 0, none⟩ = some (.string ((rd_T39 l0_1 x4_3).f0)) := (blk_cell BK116.out 0).trans rfl
                                    have hcz70_1 : wc.cell? ⟨gb116, 1, none⟩ = some (.int .i64 ((rd_T39 l0_1 x4_3).f1)) := (blk_cell BK116.out 1).trans rfl
                                    have hcz70_2 : wc.cell? ⟨gb116, 2, none⟩ = some (.int .i64 ((rd_T39 l0_1 x4_3).f2)) := (blk_cell BK116.out 2).trans rfl
                                    have hcz70_3 : wc.cell? ⟨gb116, 3, none⟩ = some (.int .i64 ((rd_T39 l0_1 x4_3).f3)) := (blk_cell BK116.out 3).trans rfl
                                    have hcz70_4 : wc.cell? ⟨gb116, 4, none⟩ = some (.int .i64 ((rd_T39 l0_1 x4_3).f4)) := (blk_cell BK116.out 4).trans rfl
                                    have hfz70_0 := blk_frozen BK116.out 0
                                    have hfz70_1 := blk_frozen BK116.out 1
                                    have hfz70_2 := blk_frozen BK116.out 2
                                    have hfz70_3 := blk_frozen BK116.out 3
                                    have hfz70_4 := blk_frozen BK116.out 4
                                    go_wp2_with (first | (go_at_call 37; (with_reducible refine (spec_l01In.calls ((rd_T39 l0_1 x4_3).f2) 1 3 t122 _ A58.out).mono ?_); rintro e w' ⟨rfl, ⟨nd, rfl⟩⟩; (try first | exact ⟨rfl, _, World.drewN_drewN _ _ _⟩ | exact ⟨rfl, _, Eq.trans (World.drewN_drewN _ _ _) (congrArg (World.drewN _) (Nat.add_assoc _ _ _))⟩)))
                                    repeat (go_quiet (first | (go_at_call 37; (with_reducible refine (spec_l01In.calls ((rd_T39 l0_1 x4_3).f2) 1 3 t122 _ A58.out).mono ?_); rintro e w' ⟨rfl, ⟨nd, rfl⟩⟩; (try first | exact ⟨rfl, _, World.drewN_drewN _ _ _⟩ | exact ⟨rfl, _, Eq.trans (World.drewN_drewN _ _ _) (congrArg (World.drewN _) (Nat.add_assoc _ _ _))⟩))); try go_wp2_with (first | (go_at_call 37; (with_reducible refine (spec_l01In.calls ((rd_T39 l0_1 x4_3).f2) 1 3 t122 _ A58.out).mono ?_); rintro e w' ⟨rfl, ⟨nd, rfl⟩⟩; (try first | exact ⟨rfl, _, World.drewN_drewN _ _ _⟩ | exact ⟨rfl, _, Eq.trans (World.drewN_drewN _ _ _) (congrArg (World.drewN _) (Nat.add_assoc _ _ _))⟩))))
                                    go_roundg kj24
                                    case measure => have := HJ1.out; have := HK2.out; have := HK3.out; have := HJ24.out; omega
                                    case rel => exact ⟨(wrap64 (x4_3 + 1)), (by first | rfl | (simp; done) | (simp [*]; done)), H', ⟨by have := HJ1.out; have := HK2.out; have := HK3.out; have := HJ24.out; omega⟩, ⟨by (with_reducible repeat (first | refine blk_drewN ?_ _ | refine blk_drew ?_ | refine blk_alloc ?_ _)); exact BK110.out⟩, ⟨by repeat (first | (with_reducible first | exact HB.out | apply below_alloc | apply pw_below_drewN | apply below_drew1 | refine below_set ?_ GE110.out | refine below_set ?_ GE116.out) | exact HB.out)⟩⟩
                                · rw [if_neg c65] at H
                                  have c65b0 : (((rd_T39 l0_1 x4_3).f2) == 0) = false := beq_eq_false_iff_ne.mpr c65
                                  have c65b1 : (((rd_T39 l0_1 x4_3).f2) != 0) = true := bne_iff_ne.mpr c65
                                  obtain rfl := Option.some.inj H
                                  have hnb71 := NB116_110.out
                                  have hnc71 := NB110_116.out
                                  have hcz72_0 : wc.cell? ⟨gb116, 0, none⟩ = some (.string ((rd_T39 l0_1 x4_3).f0)) := (blk_cell BK116.out 0).trans rfl
                                  have hcz72_1 : wc.cell? ⟨gb116, 1, none⟩ = some (.int .i64 ((rd_T39 l0_1 x4_3).f1)) := (blk_cell BK116.out 1).trans rfl
                                  have hcz72_2 : wc.cell? ⟨gb116, 2, none⟩ = some (.int .i64 ((rd_T39 l0_1 x4_3).f2)) := (blk_cell BK116.out 2).trans rfl
                                  have hcz72_3 : wc.cell? ⟨gb116, 3, none⟩ = some (.int .i64 ((rd_T39 l0_1 x4_3).f3)) := (blk_cell BK116.out 3).trans rfl
                                  have hcz72_4 : wc.cell? ⟨gb116, 4, none⟩ = some (.int .i64 ((rd_T39 l0_1 x4_3).f4)) := (blk_cell BK116.out 4).trans rfl
                                  have hfz72_0 := blk_frozen BK116.out 0
                                  have hfz72_1 := blk_frozen BK116.out 1
                                  have hfz72_2 := blk_frozen BK116.out 2
                                  have hfz72_3 := blk_frozen BK116.out 3
                                  have hfz72_4 := blk_frozen BK116.out 4
                                  go_wp2_with (first | (go_at_call 37; (with_reducible refine (spec_l01In.calls ((rd_T39 l0_1 x4_3).f2) 1 3 t122 _ A58.out).mono ?_); rintro e w' ⟨rfl, ⟨nd, rfl⟩⟩; (try first | exact ⟨rfl, _, World.drewN_drewN _ _ _⟩ | exact ⟨rfl, _, Eq.trans (World.drewN_drewN _ _ _) (congrArg (World.drewN _) (Nat.add_assoc _ _ _))⟩)))
                                  repeat (go_quiet (first | (go_at_call 37; (with_reducible refine (spec_l01In.calls ((rd_T39 l0_1 x4_3).f2) 1 3 t122 _ A58.out).mono ?_); rintro e w' ⟨rfl, ⟨nd, rfl⟩⟩; (try first | exact ⟨rfl, _, World.drewN_drewN _ _ _⟩ | exact ⟨rfl, _, Eq.trans (World.drewN_drewN _ _ _) (congrArg (World.drewN _) (Nat.add_assoc _ _ _))⟩))); try go_wp2_with (first | (go_at_call 37; (with_reducible refine (spec_l01In.calls ((rd_T39 l0_1 x4_3).f2) 1 3 t122 _ A58.out).mono ?_); rintro e w' ⟨rfl, ⟨nd, rfl⟩⟩; (try first | exact ⟨rfl, _, World.drewN_drewN _ _ _⟩ | exact ⟨rfl, _, Eq.trans (World.drewN_drewN _ _ _) (congrArg (World.drewN _) (Nat.add_assoc _ _ _))⟩))))
                                  go_ret
                                  exact ⟨by first | rfl | (simp [errW_none, errW_some] <;> rfl) | (simp [*, errW_none, errW_some] <;> rfl), by repeat (first | (with_reducible first | exact HB.out | apply below_alloc | apply pw_below_drewN | apply below_drew1 | refine below_set ?_ GE110.out | refine below_set ?_ GE116.out) | exact HB.out)⟩
                    · rw [if_neg c24] at H
                      exact absurd H (by simp)
                  · rw [if_neg c23] at H
                    have c23b0 : decide (x4_3 < (l0_1.length : Int)) = false := decide_eq_false c23
                    clear c23
                    obtain rfl := Option.some.inj H
                    have hcz73_0 : wr.cell? ⟨gb110, 0, none⟩ = some (.string a0_0) := (blk_cell BK110.out 0).trans rfl
                    have hcz73_1 : wr.cell? ⟨gb110, 1, none⟩ = some (.slice A0_1 l0_1.length c0_1) := (blk_cell BK110.out 1).trans rfl
                    have hcz73_2 : wr.cell? ⟨gb110, 2, none⟩ = some (.slice A0_2 l0_2.length c0_2) := (blk_cell BK110.out 2).trans rfl
                    have hfz73_0 := blk_frozen BK110.out 0
                    have hfz73_1 := blk_frozen BK110.out 1
                    have hfz73_2 := blk_frozen BK110.out 2
                    go_wp2
                    repeat (go_quiet (fail); try go_wp2)
                    go_ret
                    exact ⟨by first | rfl | (simp [errW_none, errW_some] <;> rfl) | (simp [*, errW_none, errW_some] <;> rfl), by repeat (first | (with_reducible first | exact HB.out | apply below_alloc | apply pw_below_drewN | apply below_drew1 | refine below_set ?_ GE110.out) | exact HB.out)⟩

end Go.Proofs.Ytnpbnmhbajiefaa.PFnExactAutoOK
