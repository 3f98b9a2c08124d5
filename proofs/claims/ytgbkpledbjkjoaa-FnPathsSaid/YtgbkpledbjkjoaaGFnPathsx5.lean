-- OWN TEXT of FnPaths: made by own_print.sh, finished by hand
import Derived.Test.YtgbkpledbjkjoaaGFnPathsx0
import Derived.Test.YtgbkpledbjkjoaaGFnPathsx4
namespace Go.Proofs.Ytgbkpledbjkjoaa.PFnPaths
open Go.RowKit Go.Proofs.YtgbkpledbjkjoaaW.PrintWords Go.Proofs.YtgbkpledbjkjoaaW.PrintLast Go.Proofs.YtgbkpledbjkjoaaW.PrintMore
attribute [local go_sem] max2_int min2_int max_two min_two max_three min_three max_four min_four   -- for this text's walks alone
set_option linter.unusedVariables false
set_option linter.unusedSimpArgs false

/-! ### spec_l15Learn: function 46 -/
mutual
def spec_l15Learn.j0 : Nat → ByteArray → Int → Int → List (S43) → Int → Option ((List (S43)))
  | 0, _, _, _, _, _ => none
  | k + 1, x1, x2, x3, x9, x10 => (spec_l15Least.f x1).bind fun t221 => (if (mn x10 (mx x2 t221)) = 1500 then (some x9) else (if (x9.length : Int) = 8 then (spec_l15Learn.l0 k x9 0 1 x1 (mn x10 (mx x2 t221)) (wrap64 (x3 + 600))) else (if x9.length < 4398046511104 then (some (x9 ++ [(⟨x1, mn x10 (mx x2 t221), wrap64 (x3 + 600)⟩ : S43)])) else (none))))
def spec_l15Learn.l0 : Nat → List (S43) → Int → Int → ByteArray → Int → Int → Option ((List (S43)))
  | 0, _, _, _, _, _, _ => none
  | k + 1, x9, x13, x14, x223000, x223001, x223002 => if x14 < (x9.length : Int) then (if 0 ≤ x14 then (if 0 ≤ x13 then (if x13 < (x9.length : Int) then (if ((rd_T43 x9 x14).f2) < ((rd_T43 x9 x13).f2) then (spec_l15Learn.l0 k x9 x14 (wrap64 (x14 + 1)) x223000 x223001 x223002) else (spec_l15Learn.l0 k x9 x13 (wrap64 (x14 + 1)) x223000 x223001 x223002)) else (none)) else (none)) else (none)) else ((some (([] : List (S43)) : List (S43))).bind fun y225 => (if 0 ≤ x13 then (if x13 ≤ (x9.length : Int) then ((some (x9.take (x13 : Int).toNat : List (S43))).bind fun y228 => (if y225.length + y228.length < 4398046511104 then ((some (y225 ++ y228 : List (S43))).bind fun y232 => (if 0 ≤ (wrap64 (x13 + 1)) then (if (wrap64 (x13 + 1)) ≤ (x9.length : Int) then ((some (x9.drop ((wrap64 (x13 + 1)) : Int).toNat : List (S43))).bind fun y235 => (if y232.length + y235.length < 4398046511104 then ((some (y232 ++ y235 : List (S43))).bind fun y239 => (if y239.length < 4398046511104 then (some (y239 ++ [(⟨x223000, x223001, x223002⟩ : S43)])) else (none))) else (none))) else (none)) else (none))) else (none))) else (none)) else (none)))
end
def spec_l15Learn.f (k : Nat) (l0 : List (S43)) (a1 : ByteArray) (a2 : Int) (a3 : Int) : Option ((List (S43))) := (spec_l15Live.f k l0 a3).bind fun t199 => ((spec_l15Find.f k t199 a1).bind fun t202 => (if t202 ≥ 0 then (if 0 ≤ t202 then (if t202 < (t199.length : Int) then ((some (([] : List (S43)) : List (S43))).bind fun y204 => (if t202 ≤ (t199.length : Int) then ((some (t199.take (t202 : Int).toNat : List (S43))).bind fun y207 => (if y204.length + y207.length < 4398046511104 then ((some (y204 ++ y207 : List (S43))).bind fun y211 => (if 0 ≤ (wrap64 (t202 + 1)) then (if (wrap64 (t202 + 1)) ≤ (t199.length : Int) then ((some (t199.drop ((wrap64 (t202 + 1)) : Int).toNat : List (S43))).bind fun y214 => (if y211.length + y214.length < 4398046511104 then (spec_l15Learn.j0 k a1 a2 a3 (y211 ++ y214) ((rd_T43 t199 t202).f1)) else (none))) else (none)) else (none))) else (none))) else (none))) else (none)) else (none)) else (spec_l15Learn.j0 k a1 a2 a3 t199 1500)))
theorem spec_l15Learn.mono_l : ∀ k, (∀ y0 y1 y2 y3 y4, LeO (spec_l15Learn.j0 k y0 y1 y2 y3 y4) (spec_l15Learn.j0 (k + 1) y0 y1 y2 y3 y4)) ∧ (∀ y0 y1 y2 y3 y4 y5, LeO (spec_l15Learn.l0 k y0 y1 y2 y3 y4 y5) (spec_l15Learn.l0 (k + 1) y0 y1 y2 y3 y4 y5))
  | 0 => ⟨fun _ _ _ _ _ r h => by simp [spec_l15Learn.j0] at h, fun _ _ _ _ _ _ r h => by simp [spec_l15Learn.l0] at h⟩
  | k + 1 => by
    obtain ⟨ih0, ih1⟩ := spec_l15Learn.mono_l k
    refine ⟨?_, ?_⟩
    · intro y0 y1 y2 y3 y4
      unfold spec_l15Learn.j0
      repeat' first
      | (with_reducible exact ih0 _ _ _ _ _)
      | (with_reducible exact ih1 _ _ _ _ _ _)
      | (with_reducible exact spec_l15Find.mono _ _ _)
      | (with_reducible exact spec_l15Live.mono _ _ _)
      | (with_reducible exact LeO.refl _)
      | (with_reducible exact LeO.none _)
      | (with_reducible refine LeO.ite ?_ ?_)
      | (with_reducible refine LeO.bind ?_ (fun _ => ?_))
      | exact ih0 _ _ _ _ _
      | exact ih1 _ _ _ _ _ _
      | exact spec_l15Find.mono _ _ _
      | exact spec_l15Live.mono _ _ _
      | exact LeO.none _
      | refine LeO.ite ?_ ?_
      | refine LeO.bind ?_ (fun _ => ?_)
    · intro y0 y1 y2 y3 y4 y5
      unfold spec_l15Learn.l0
      repeat' first
      | (with_reducible exact ih0 _ _ _ _ _)
      | (with_reducible exact ih1 _ _ _ _ _ _)
      | (with_reducible exact spec_l15Find.mono _ _ _)
      | (with_reducible exact spec_l15Live.mono _ _ _)
      | (with_reducible exact LeO.refl _)
      | (with_reducible exact LeO.none _)
      | (with_reducible refine LeO.ite ?_ ?_)
      | (with_reducible refine LeO.bind ?_ (fun _ => ?_))
      | exact ih0 _ _ _ _ _
      | exact ih1 _ _ _ _ _ _
      | exact spec_l15Find.mono _ _ _
      | exact spec_l15Live.mono _ _ _
      | exact LeO.none _
      | refine LeO.ite ?_ ?_
      | refine LeO.bind ?_ (fun _ => ?_)
theorem spec_l15Learn.mono : ∀ a0 a1 a2 a3 k, LeO (spec_l15Learn.f k a0 a1 a2 a3) (spec_l15Learn.f (k + 1) a0 a1 a2 a3) := by
  intro a0 a1 a2 a3 k
  obtain ⟨ih0, ih1⟩ := spec_l15Learn.mono_l k
  unfold spec_l15Learn.f
  repeat' first
      | (with_reducible exact ih0 _ _ _ _ _)
      | (with_reducible exact ih1 _ _ _ _ _ _)
      | (with_reducible exact spec_l15Find.mono _ _ _)
      | (with_reducible exact spec_l15Live.mono _ _ _)
      | (with_reducible exact LeO.refl _)
      | (with_reducible exact LeO.none _)
      | (with_reducible refine LeO.ite ?_ ?_)
      | (with_reducible refine LeO.bind ?_ (fun _ => ?_))
      | exact ih0 _ _ _ _ _
      | exact ih1 _ _ _ _ _ _
      | exact spec_l15Find.mono _ _ _
      | exact spec_l15Live.mono _ _ _
      | exact LeO.none _
      | refine LeO.ite ?_ ?_
      | refine LeO.bind ?_ (fun _ => ?_)
def spec_l15Learn.T6 : Bool × List (List Nat × List Nat) := (true, [([], []), ([], []), ([], []), ([1, 2], [1, 2]), ([0, 3], [0, 3]), ([], []), ([], []), ([6], [6]), ([5, 7], [5, 7]), ([4, 8, 4], [4, 8]), ([9, 9, 0, 1, 2, 3, 4, 5, 6, 7, 8, 9], [1, 5, 9])])
def spec_l15Learn.B6 : List Nat := [0, 0, 0, 6, 15, 0, 0, 64, 224, 511, 1023]
theorem spec_l15Learn.tab6 : rtab .any (opsOf Try.f46 6) = spec_l15Learn.T6 := by kernel_rfl
theorem spec_l15Learn.bits6 : waitsOk spec_l15Learn.T6.2 spec_l15Learn.B6 = true := by kernel_rfl
def spec_l15Learn.T15 : Bool × List (List Nat × List Nat) := (true, [([], []), ([], []), ([0, 1], [0, 1]), ([2], [2]), ([3], [3]), ([], []), ([], []), ([5, 6], [5, 6]), ([7], [7]), ([8], [8]), ([4, 9], [4, 9])])
def spec_l15Learn.B15 : List Nat := [0, 0, 3, 7, 15, 0, 0, 96, 224, 480, 1023]
theorem spec_l15Learn.tab15 : rtab .any (opsOf Try.f46 15) = spec_l15Learn.T15 := by kernel_rfl
theorem spec_l15Learn.bits15 : waitsOk spec_l15Learn.T15.2 spec_l15Learn.B15 = true := by kernel_rfl
def spec_l15Learn.T17 : Bool × List (List Nat × List Nat) := (true, [([], []), ([], []), ([], []), ([1, 2], [1, 2]), ([0, 3], [0, 3]), ([], []), ([], []), ([6], [6]), ([5, 7], [5, 7]), ([4, 8, 4], [4, 8]), ([9, 9, 0, 1, 2, 3, 4, 5, 6, 7, 8, 9], [1, 5, 9])])
def spec_l15Learn.B17 : List Nat := [0, 0, 0, 6, 15, 0, 0, 64, 224, 511, 1023]
theorem spec_l15Learn.tab17 : rtab .any (opsOf Try.f46 17) = spec_l15Learn.T17 := by kernel_rfl
theorem spec_l15Learn.bits17 : waitsOk spec_l15Learn.T17.2 spec_l15Learn.B17 = true := by kernel_rfl
set_option maxHeartbeats 8000000 in
set_option maxRecDepth 100000 in
theorem spec_l15Learn.calls (k : Nat) (A0 : Option Addr) (c0 : Nat) (l0 : List (S43)) (a1 : ByteArray) (a2 : Int) (a3 : Int) (r : List (S43)) (w : World) (hr0 : Kd.C k43 w A0 l0.length l0) (hc0 : l0.length ≤ c0) (h : spec_l15Learn.f k l0 a1 a2 a3 = some r) :
    Calls Try.prog 46 #[.slice A0 l0.length c0, .string a1, .int .i64 a2, .int .i64 a3] w fun e w' => ∃ v0_ : Value, e = .returned (v0_) ∧ Kd.R k43 43 w' w.heap.size (fun _ => True) v0_ r ∧ Below w.heap.size w w' := by
  have hu43 := Try.underlying43
  have HR0 := Aside0.mk hr0
  have HC0 := Aside0.mk hc0
  clear hr0 hc0
  have HB := Aside0.mk (Below.refl w.heap.size w)
  have H : ((spec_l15Live.f k l0 a3).bind fun t199 => ((spec_l15Find.f k t199 a1).bind fun t202 => (if t202 ≥ 0 then (if 0 ≤ t202 then (if t202 < (t199.length : Int) then ((some (([] : List (S43)) : List (S43))).bind fun y204 => (if t202 ≤ (t199.length : Int) then ((some (t199.take (t202 : Int).toNat : List (S43))).bind fun y207 => (if y204.length + y207.length < 4398046511104 then ((some (y204 ++ y207 : List (S43))).bind fun y211 => (if 0 ≤ (wrap64 (t202 + 1)) then (if (wrap64 (t202 + 1)) ≤ (t199.length : Int) then ((some (t199.drop ((wrap64 (t202 + 1)) : Int).toNat : List (S43))).bind fun y214 => (if y211.length + y214.length < 4398046511104 then (spec_l15Learn.j0 k a1 a2 a3 (y211 ++ y214) ((rd_T43 t199 t202).f1)) else (none))) else (none)) else (none))) else (none))) else (none))) else (none)) else (none)) else (spec_l15Learn.j0 k a1 a2 a3 t199 1500)))) = some r := h
  clear h
  replace H := Option.bind_eq_some_iff.mp H
  obtain ⟨t199, A50, H⟩ := H
  replace H : ((spec_l15Find.f k t199 a1).bind fun t202 => (if t202 ≥ 0 then (if 0 ≤ t202 then (if t202 < (t199.length : Int) then ((some (([] : List (S43)) : List (S43))).bind fun y204 => (if t202 ≤ (t199.length : Int) then ((some (t199.take (t202 : Int).toNat : List (S43))).bind fun y207 => (if y204.length + y207.length < 4398046511104 then ((some (y204 ++ y207 : List (S43))).bind fun y211 => (if 0 ≤ (wrap64 (t202 + 1)) then (if (wrap64 (t202 + 1)) ≤ (t199.length : Int) then ((some (t199.drop ((wrap64 (t202 + 1)) : Int).toNat : List (S43))).bind fun y214 => (if y211.length + y214.length < 4398046511104 then (spec_l15Learn.j0 k a1 a2 a3 (y211 ++ y214) ((rd_T43 t199 t202).f1)) else (none))) else (none)) else (none))) else (none))) else (none))) else (none)) else (none)) else (spec_l15Learn.j0 k a1 a2 a3 t199 1500))) = some r := H
  have A5 := Aside0.mk A50
  clear A50
  replace H := Option.bind_eq_some_iff.mp H
  obtain ⟨t202, A60, H⟩ := H
  replace H : (if t202 ≥ 0 then (if 0 ≤ t202 then (if t202 < (t199.length : Int) then ((some (([] : List (S43)) : List (S43))).bind fun y204 => (if t202 ≤ (t199.length : Int) then ((some (t199.take (t202 : Int).toNat : List (S43))).bind fun y207 => (if y204.length + y207.length < 4398046511104 then ((some (y204 ++ y207 : List (S43))).bind fun y211 => (if 0 ≤ (wrap64 (t202 + 1)) then (if (wrap64 (t202 + 1)) ≤ (t199.length : Int) then ((some (t199.drop ((wrap64 (t202 + 1)) : Int).toNat : List (S43))).bind fun y214 => (if y211.length + y214.length < 4398046511104 then (spec_l15Learn.j0 k a1 a2 a3 (y211 ++ y214) ((rd_T43 t199 t202).f1)) else (none))) else (none)) else (none))) else (none))) else (none))) else (none)) else (none)) else (spec_l15Learn.j0 k a1 a2 a3 t199 1500)) = some r := H
  have A6 := Aside0.mk A60
  clear A60
  have HC7 := Aside0.mk H
  clear H
  go_enter Try.func46, Try.ntmps46
  go_upto_if 22 with (first | ((with_reducible refine gate_callee (f := 34) rfl ?_); refine goesL_ (some 17) rfl rfl Try.func34 (by kernel_rfl) rfl #[.slice A0 l0.length c0, .int .i64 a3] rfl (by (try simp only [List.map_toArray, List.map_cons, List.map_nil]); first | done | rfl | (simp only [List.length_drop, List.length_take]; rfl)) ?_; (with_reducible refine (spec_l15Live.calls k _ _ l0 a3 t199 _ ?side1 ?side2 A5.out).mono ?_); (case side1 => repeat (first | exact HR0.out | (with_reducible refine Kd.C_alloc ?_ _) | (with_reducible refine Kd.C_drewN ?_ _) | (with_reducible refine Kd.C_drew ?_))); (case side2 => exact HC0.out); rintro e w8 ⟨v200, rfl, ho0, hb⟩; refine ⟨_, rfl, ?_⟩; have n0_ := Aside0.mk (Kd.R_lower ho0 (below_size (by repeat (first | (with_reducible first | exact HB.out | apply below_alloc | apply pw_below_drewN | apply below_drew1) | exact HB.out)))); have n1_ := Aside0.mk (below_step (by repeat (first | (with_reducible first | exact HB.out | apply below_alloc | apply pw_below_drewN | apply below_drew1) | exact HB.out)) hb); clear HB; have HO201 := n0_; have HB := n1_; clear n0_ n1_; (try clear hb); (try clear hb2); (try clear hk); (try clear hi); (try clear ho0); obtain ⟨Ao9, co9, eo9⟩ := Kd.R_slice HO201.out; subst eo9) | ((with_reducible refine gate_callee (f := 28) rfl ?_); refine goesL_ (some 20) rfl rfl Try.func28 (by kernel_rfl) rfl #[.slice Ao9 t199.length co9, .string a1] rfl (by (try simp only [List.map_toArray, List.map_cons, List.map_nil]); first | done | rfl | (simp only [List.length_drop, List.length_take]; rfl)) ?_; (with_reducible refine (spec_l15Find.calls k _ _ t199 a1 t202 _ ?side1 ?side2 A6.out).mono ?_); (case side1 => repeat (first | exact (Kd.R_reads' HO201.out).2.2 | (with_reducible refine Kd.C_alloc ?_ _) | (with_reducible refine Kd.C_drewN ?_ _) | (with_reducible refine Kd.C_drew ?_))); (case side2 => exact (Kd.R_reads' HO201.out).2.1); rintro e w' ⟨rfl, ⟨nd, rfl⟩⟩; refine ⟨_, rfl, ?_⟩))
  -- drew_named
  rw [drewN_self w8]; generalize hq_ : World.drewN w8 _ = w8
  have n0_ := Aside0.mk (Kd.R_at hq_ HO201.out)
  have n1_ := Aside0.mk (below_at hq_ HB.out)
  clear hq_ HO201 HB
  have HO201 := n0_
  have HB := n1_
  clear n0_ n1_
  (try simp only [Act.put, List.setIfInBounds_toArray, List.set_cons_zero, List.set_cons_succ])
  go_cut [9, 10] (fun v9 v10 wc => ∃ (kq : Nat) (x9_6 : List (S43)) (x10_6 : Int), v10 = .int .i64 x10_6 ∧ Aside0 (spec_l15Learn.j0 kq a1 a2 a3 x9_6 x10_6 = some r) ∧ Aside0 (kq ≤ k) ∧ Aside0 (Kd.R k43 43 wc w.heap.size (fun _ => True) v9 x9_6) ∧ Aside0 (Below w.heap.size w wc))
  case first =>
    have H := HC7.out
    clear HC7
    by_cases c10 : t202 ≥ 0
    · rw [if_pos c10] at H
      have c10b0 : decide (0 ≤ t202) = true := decide_eq_true c10
      clear c10
      (first | rw [c10b0] | (simp only [i64_w, i32_w]; rw [c10b0]) | skip)
      by_cases c11 : 0 ≤ t202
      · rw [if_pos c11] at H
        have c11b0 : decide (0 ≤ t202) = true := decide_eq_true c11
        clear c11
        by_cases c12 : t202 < (t199.length : Int)
        · rw [if_pos c12] at H
          have c12b0 : decide (t202 < (t199.length : Int)) = true := decide_eq_true c12
          clear c12
          obtain ⟨y204, hy204⟩ : ∃ y_ : List (S43), y_ = (([] : List (S43))) := ⟨_, rfl⟩
          replace H : (if t202 ≤ (t199.length : Int) then ((some (t199.take (t202 : Int).toNat : List (S43))).bind fun y207 => (if y204.length + y207.length < 4398046511104 then ((some (y204 ++ y207 : List (S43))).bind fun y211 => (if 0 ≤ (wrap64 (t202 + 1)) then (if (wrap64 (t202 + 1)) ≤ (t199.length : Int) then ((some (t199.drop ((wrap64 (t202 + 1)) : Int).toNat : List (S43))).bind fun y214 => (if y211.length + y214.length < 4398046511104 then (spec_l15Learn.j0 k a1 a2 a3 (y211 ++ y214) ((rd_T43 t199 t202).f1)) else (none))) else (none)) else (none))) else (none))) else (none)) = some r := by first | (rw [hy204]; with_reducible exact H) | (have H2_ := (Option.bind_some _ _).symm.trans H; rw [hy204]; with_reducible exact H2_) | (have H2_ := (Option.bind_some _ _).symm.trans H; with_reducible exact H2_) | with_reducible exact H | (rw [hy204]; exact H) | exact H
          have Ny204 := Aside0.mk hy204
          clear hy204
          have c13b0 := eq_true (of_decide_eq_true (by first | (with_reducible assumption) | assumption) : 0 ≤ t202)
          by_cases c14 : t202 ≤ (t199.length : Int)
          · rw [if_pos c14] at H
            have c14b0 := eq_true c14
            have c14b1 : decide (t202 ≤ (t199.length : Int)) = true := decide_eq_true c14
            clear c14
            obtain ⟨y207, hy207⟩ : ∃ y_ : List (S43), y_ = (t199.take (t202 : Int).toNat) := ⟨_, rfl⟩
            replace H : (if y204.length + y207.length < 4398046511104 then ((some (y204 ++ y207 : List (S43))).bind fun y211 => (if 0 ≤ (wrap64 (t202 + 1)) then (if (wrap64 (t202 + 1)) ≤ (t199.length : Int) then ((some (t199.drop ((wrap64 (t202 + 1)) : Int).toNat : List (S43))).bind fun y214 => (if y211.length + y214.length < 4398046511104 then (spec_l15Learn.j0 k a1 a2 a3 (y211 ++ y214) ((rd_T43 t199 t202).f1)) else (none))) else (none)) else (none))) else (none)) = some r := by first | (rw [hy207]; with_reducible exact H) | (have H2_ := (Option.bind_some _ _).symm.trans H; rw [hy207]; with_reducible exact H2_) | (have H2_ := (Option.bind_some _ _).symm.trans H; with_reducible exact H2_) | with_reducible exact H | (rw [hy207]; exact H) | exact H
            have Ny207 := Aside0.mk hy207
            clear hy207
            by_cases c15 : y204.length + y207.length < 4398046511104
            · rw [if_pos c15] at H
              have LMc15 := Aside0.mk c15
              clear c15
              obtain ⟨y211, hy211⟩ : ∃ y_ : List (S43), y_ = (y204 ++ y207) := ⟨_, rfl⟩
              replace H : (if 0 ≤ (wrap64 (t202 + 1)) then (if (wrap64 (t202 + 1)) ≤ (t199.length : Int) then ((some (t199.drop ((wrap64 (t202 + 1)) : Int).toNat : List (S43))).bind fun y214 => (if y211.length + y214.length < 4398046511104 then (spec_l15Learn.j0 k a1 a2 a3 (y211 ++ y214) ((rd_T43 t199 t202).f1)) else (none))) else (none)) else (none)) = some r := by first | (rw [hy211]; with_reducible exact H) | (have H2_ := (Option.bind_some _ _).symm.trans H; rw [hy211]; with_reducible exact H2_) | (have H2_ := (Option.bind_some _ _).symm.trans H; with_reducible exact H2_) | with_reducible exact H | (rw [hy211]; exact H) | exact H
              have Ny211 := Aside0.mk hy211
              clear hy211
              obtain ⟨ji16, hji16⟩ : ∃ j_ : Int, (wrap64 (t202 + 1)) = j_ := ⟨_, rfl⟩
              replace H : (if 0 ≤ (ji16) then (if (ji16) ≤ (t199.length : Int) then ((some (t199.drop ((ji16) : Int).toNat : List (S43))).bind fun y214 => (if y211.length + y214.length < 4398046511104 then (spec_l15Learn.j0 k a1 a2 a3 (y211 ++ y214) ((rd_T43 t199 t202).f1)) else (none))) else (none)) else (none)) = some r := by first | (rw [hji16] at H; exact H) | (simp only [hji16] at H ⊢; exact H)
              have hji16w : (IntKind.i64.wrap (t202 + 1)) = ji16 := (i64_w _).trans hji16
              by_cases c17 : 0 ≤ (ji16)
              · rw [if_pos c17] at H
                have c17b0 := eq_true c17
                have c17b1 : decide (0 ≤ (ji16)) = true := decide_eq_true c17
                clear c17
                by_cases c18 : (ji16) ≤ (t199.length : Int)
                · rw [if_pos c18] at H
                  have c18b0 := eq_true c18
                  have c18b1 : decide ((ji16) ≤ (t199.length : Int)) = true := decide_eq_true c18
                  clear c18
                  obtain ⟨y214, hy214⟩ : ∃ y_ : List (S43), y_ = (t199.drop ((ji16) : Int).toNat) := ⟨_, rfl⟩
                  replace H : (if y211.length + y214.length < 4398046511104 then (spec_l15Learn.j0 k a1 a2 a3 (y211 ++ y214) ((rd_T43 t199 t202).f1)) else (none)) = some r := by first | (rw [hy214]; with_reducible exact H) | (have H2_ := (Option.bind_some _ _).symm.trans H; rw [hy214]; with_reducible exact H2_) | (have H2_ := (Option.bind_some _ _).symm.trans H; with_reducible exact H2_) | with_reducible exact H | (rw [hy214]; exact H) | exact H
                  have Ny214 := Aside0.mk hy214
                  clear hy214
                  by_cases c19 : y211.length + y214.length < 4398046511104
                  · rw [if_pos c19] at H
                    have LMc19 := Aside0.mk c19
                    clear c19
                    obtain ⟨y218, hy218⟩ : ∃ y_ : List (S43), y_ = (y211 ++ y214) := ⟨_, rfl⟩
                    replace H : (spec_l15Learn.j0 k a1 a2 a3 y218 ((rd_T43 t199 t202).f1)) = some r := by first | (rw [hy218]; with_reducible exact H) | (have H2_ := (Option.bind_some _ _).symm.trans H; rw [hy218]; with_reducible exact H2_) | (have H2_ := (Option.bind_some _ _).symm.trans H; with_reducible exact H2_) | with_reducible exact H | (rw [hy218]; exact H) | exact H
                    have Ny218 := Aside0.mk hy218
                    clear hy218
                    have H' := Aside0.mk H
                    clear H
                    have p203 : 0 ≤ (t202 : Int) := of_decide_eq_true (by first | (with_reducible assumption) | assumption)
                    have q203 : t202 < (t199.length : Int) := of_decide_eq_true (by first | (with_reducible assumption) | assumption)
                    obtain ⟨ad203, e203, hx203_0, hx203_1, hx203_2⟩ := at_T43 (Kd.R_reads' HO201.out).2.2 t202 p203 q203
                    cases e203
                    replace p203 := eq_true p203
                    replace q203 := eq_true q203
                    try go_wp2
                    have n0_ := Aside0.mk (Kd.R_drew HO201.out)
                    have n1_ := Aside0.mk (below_drew1 HB.out)
                    clear HO201
                    clear HB
                    have HO201 := n0_
                    have HB := n1_
                    clear n0_ n1_
                    have q21 : (t202 : Int) ≤ ((t199.length : Int) : Int) := of_decide_eq_true (by first | (with_reducible assumption) | assumption)
                    obtain ⟨i021, hi021, _, hsz21, _⟩ := info_parts info43
                    have hroom21 : t199.length ≤ co9 := (Kd.R_reads' HO201.out).2.1
                    have hC21 : Kd.C k43 _ (some ad203) t199.length t199 := (Kd.R_reads' HO201.out).2.2
                    have hcut21 := cut_to (P := Try.prog) 28 43 .i64 Try.underlying28 hi021 (some ad203) t199.length co9 t202 (of_decide_eq_true (by first | (with_reducible assumption) | assumption)) q21 hroom21
                    have hr21 := Kd.C_take (m := (t202 : Int).toNat) hC21 (by omega)
                    have hy21 : y207.length = (t202 : Int).toNat := (by rw [Ny207.out, List.length_take]; omega)
                    rw [← Ny207.out] at hr21
                    rw [← hy21] at hcut21
                    have HR210 := Aside0.mk hr21
                    have HC210 := Aside0.mk (show y207.length ≤ co9 from by omega)
                    clear hr21 hC21 hroom21 hi021 hsz21
                    have KY21 := Aside0.mk hy21
                    clear hy21
                    have KL21 := Aside0.mk (show (t202 : Int).toNat ≤ t199.length from by omega)
                    replace q21 := eq_true q21
                    have q22 : ((ji16) : Int) ≤ ((t199.length : Int) : Int) := of_decide_eq_true (by first | (with_reducible assumption) | assumption)
                    obtain ⟨i022, hi022, _, hsz22, _⟩ := info_parts info43
                    have hroom22 : t199.length ≤ co9 := (Kd.R_reads' HO201.out).2.1
                    have hC22 : Kd.C k43 _ (some ad203) t199.length t199 := (Kd.R_reads' HO201.out).2.2
                    have q022 : (0 : Int) ≤ ((ji16) : Int) := of_decide_eq_true (by first | (with_reducible assumption) | assumption)
                    have hcut22 := cut_from (P := Try.prog) 28 43 .i64 Try.underlying28 hi022 3 hsz22 (some ad203) t199.length co9 (ji16) q022 q22
                    have hr22 := Kd.C_drop (m := ((ji16) : Int).toNat) (c := co9) hC22 (by omega) hroom22
                    obtain ⟨A22, hA22⟩ : ∃ A1, A1 = (if co9 = ((ji16) : Int).toNat then (some ad203) else ((some ad203) : Option Addr).map (·.add (((ji16) : Int).toNat * 3))) := ⟨_, rfl⟩
                    obtain ⟨c22, hc22⟩ : ∃ c1, c1 = co9 - ((ji16) : Int).toNat := ⟨_, rfl⟩
                    have hy22 : y214.length = t199.length - ((ji16) : Int).toNat := (by rw [Ny214.out, List.length_drop] <;> omega)
                    rw [show (t199).drop ((ji16) : Int).toNat = y214 from Ny214.out.symm] at hr22
                    replace hr22 : Kd.C k43 _ A22 y214.length y214 := (by rw [hA22]; exact hr22)
                    rw [← hy22, ← hA22, ← hc22] at hcut22
                    have HR217 := Aside0.mk hr22
                    have HC217 := Aside0.mk (show y214.length ≤ c22 from by rw [hy22, hc22]; exact Nat.sub_le_sub_right hroom22 _)
                    clear hr22 hC22 hroom22 hi022 hsz22 hc22
                    have KY22 := Aside0.mk hy22
                    have KA22 := Aside0.mk hA22
                    clear hy22 hA22
                    have KL22 := Aside0.mk (show ((ji16) : Int).toNat ≤ t199.length from by omega)
                    replace q22 := eq_true q22
                    refine start_ (n := 11) (S := fun w' => True) (ds := []) #[false, false, false, false, false, false, false, false, false, false, false] (by kernel_rfl) rfl rfl trivial (fun hHeld => ?_); refine with_tabW spec_l15Learn.tab6 spec_l15Learn.bits6 (fun HT_ HW_ => ?_)
                    generalize w8.drew = w20 at HO201 HB HR210 HR217 hHeld ⊢
                    refine pure_ (i := 1) (N := some 29) (v := ?_) (a' := ?_) #[false, true, false, false, false, false, false, false, false, false, false] rfl rfl (any_of HT_.out (by kernel_rfl)) (fun _ _ _ h => h) (Or.inl ⟨by rfl, ?_⟩) ?_ ?_
                    rotate_left
                    · intro w'
                      go_simp
                      with_reducible rfl
                    rotate_left
                    · simp only [Act.put, List.setIfInBounds_toArray, List.set_cons_zero, List.set_cons_succ, i64_w, i32_w]
                      rfl
                    refine pure_ (i := 2) (N := some 30) (v := ?_) (a' := ?_) #[false, true, true, false, false, false, false, false, false, false, false] rfl rfl (any_of HT_.out (by kernel_rfl)) (fun _ _ _ h => h) (Or.inl ⟨by rfl, ?_⟩) ?_ ?_
                    rotate_left
                    · intro w'
                      go_simp
                      with_reducible rfl
                    rotate_left
                    · simp only [Act.put, List.setIfInBounds_toArray, List.set_cons_zero, List.set_cons_succ, i64_w, i32_w]
                      rfl
                    refine pure_ (i := 3) (N := some 31) (v := ?_) (a' := ?_) #[false, true, true, true, false, false, false, false, false, false, false] rfl rfl (any_of HT_.out (by kernel_rfl)) (fun _ _ _ h => h) (Or.inl ⟨by rfl, ?_⟩) ?_ ?_
                    rotate_left
                    · intro w'
                      go_simp
                      with_reducible rfl
                    rotate_left
                    · simp only [Act.put, List.setIfInBounds_toArray, List.set_cons_zero, List.set_cons_succ, i64_w, i32_w]
                      rfl
                    refine pure_ (i := 5) (N := some 33) (v := ?_) (a' := ?_) #[false, true, true, true, false, true, false, false, false, false, false] rfl rfl (any_of HT_.out (by kernel_rfl)) (fun _ _ _ h => h) (Or.inl ⟨by rfl, ?_⟩) ?_ ?_
                    rotate_left
                    · intro w'
                      go_simp
                      with_reducible rfl
                    rotate_left
                    · simp only [Act.put, List.setIfInBounds_toArray, List.set_cons_zero, List.set_cons_succ, i64_w, i32_w]
                      rfl
                    refine pure_ (i := 6) (N := some 34) (v := ?_) (a' := ?_) #[false, true, true, true, false, true, true, false, false, false, false] rfl rfl (any_of HT_.out (by kernel_rfl)) (fun _ _ _ h => h) (Or.inl ⟨by rfl, ?_⟩) ?_ ?_
                    rotate_left
                    · intro w'
                      go_simp
                      with_reducible rfl
                    rotate_left
                    · simp only [Act.put, List.setIfInBounds_toArray, List.set_cons_zero, List.set_cons_succ, i64_w, i32_w]
                      rfl
                    refine pure_ (i := 7) (N := some 35) (v := ?_) (a' := ?_) #[false, true, true, true, false, true, true, true, false, false, false] rfl rfl (any_of HT_.out (by kernel_rfl)) (fun _ _ _ h => h) (Or.inl ⟨by rfl, ?_⟩) ?_ ?_
                    rotate_left
                    · intro w'
                      go_simp
                      with_reducible rfl
                    rotate_left
                    · simp only [Act.put, List.setIfInBounds_toArray, List.set_cons_zero, List.set_cons_succ, i64_w, i32_w]
                      rfl
                    refine pure_ (i := 8) (N := some 36) (v := ?_) (a' := ?_) #[false, true, true, true, false, true, true, true, true, false, false] rfl rfl (any_of HT_.out (by kernel_rfl)) (fun _ _ _ h => h) (Or.inl ⟨by rfl, ?_⟩) ?_ ?_
                    rotate_left
                    · intro w'
                      go_simp
                      with_reducible rfl
                    rotate_left
                    · simp only [Act.put, List.setIfInBounds_toArray, List.set_cons_zero, List.set_cons_succ, i64_w, i32_w]
                      rfl
                    refine one_ (i := 0) (N := some 28) #[true, true, true, true, false, true, true, true, true, false, false] rfl rfl (one_of HT_.out (by kernel_rfl)) (by decide) (fun K hK => ?_)
                    refine Kd.R_lit_step k43 _ 43 ?hg (N := 28) ?hd (xs := ([] : List (S43))) (inner := []) (ok := fun _ => True) (okp := fun _ => True) ?hr ?hp (fun _ hk => hk) trivial (Below.refl _ _) (Nat.le_refl _) (by simp) ?_; (case hd => rfl); (case hg => rfl); (case hr => first | (go_simp; done) | (go_simp; rfl)); (case hp => exact (Reps.none _ _))
                    intro v205 w23 ho24 hb hg_ hnew_
                    clear hg_ hnew_
                    (first | rw [← Ny204.out] at ho24 | (simp only [Int.reduceToNat] at ho24; rw [← Ny204.out] at ho24))
                    have n0_ := Aside0.mk (Kd.R_elder' (by (with_reducible repeat (first | apply Kd.R_alloc | apply Kd.R_drewN | apply Kd.R_drew)); exact HO201.out) (Kd.R_base ho24) hb)
                    have n1_ := Aside0.mk (Kd.R_lower (Kd.R_new' ho24 (Kd.R_lt (by (with_reducible repeat (first | apply Kd.R_alloc | apply Kd.R_drewN | apply Kd.R_drew)); exact HO201.out))) (below_size (by repeat (first | (with_reducible first | exact HB.out | apply below_alloc | apply pw_below_drewN | apply below_drew1) | exact HB.out))))
                    have n2_ := Aside0.mk (Kd.C_below (by repeat (first | (with_reducible exact HR210.out) | (with_reducible refine Kd.C_alloc ?_ _) | (with_reducible refine Kd.C_drewN ?_ _) | (with_reducible refine Kd.C_drew ?_) | exact HR210.out)) hb)
                    have n3_ := Aside0.mk (Kd.C_below (by repeat (first | (with_reducible exact HR217.out) | (with_reducible refine Kd.C_alloc ?_ _) | (with_reducible refine Kd.C_drewN ?_ _) | (with_reducible refine Kd.C_drew ?_) | exact HR217.out)) hb)
                    have n4_ := Aside0.mk (below_step (by repeat (first | (with_reducible first | exact HB.out | apply below_alloc | apply pw_below_drewN | apply below_drew1) | exact HB.out)) hb)
                    clear HO201
                    clear HR210
                    clear HR217
                    clear HB
                    have HO201 := n0_
                    have HO206 := n1_
                    have HR210 := n2_
                    have HR217 := n3_
                    have HB := n4_
                    clear n0_ n1_ n2_ n3_ n4_
                    clear hb ho24
                    refine hK.out _ _ trivial (fun hHeld => ?_)
                    clear hK K
                    refine norm_ (a' := ?_) ?_ ?_
                    rotate_left
                    · show Act.put _ (some 28) _ = _
                      simp only [Act.put, List.setIfInBounds_toArray, List.set_cons_zero, List.set_cons_succ, i64_w, i32_w]
                      rfl
                    refine one_ (i := 4) (N := some 32) #[true, true, true, true, true, true, true, true, true, false, false] rfl rfl (one_of HT_.out (by kernel_rfl)) (by decide) (fun K hK => ?_)
                    refine Kd.R_append_rows_step k43 (w0 := w) w.heap.size (by rfl) (.tmp 28) (.tmp 31) 28 43 (.agg #[(.string ⟨#[]⟩), (.int .i64 0), (.int .i64 0)]) 32 rfl Try.underlying28 info43 rfl (by decide) (by omega) v205 y204 y207 _ _ _ (fun k_ => some k_ ≠ (.slice (some ad203) t199.length co9 : Value).ownBlock) (fun _ => False) rfl rfl ?aO ?aR (fun _ _ h => h) (fun _ h => h.elim) ?aF ?aB ?aS ?aL ?_
                    (case aR => repeat (first | exact (by repeat (first | (with_reducible exact HR210.out) | (with_reducible refine Kd.C_alloc ?_ _) | (with_reducible refine Kd.C_drewN ?_ _) | (with_reducible refine Kd.C_drew ?_) | exact HR210.out)) | (with_reducible refine Kd.C_alloc ?_ _) | (with_reducible refine Kd.C_drewN ?_ _) | (with_reducible refine Kd.C_drew ?_)))
                    (case aB => exact (by repeat (first | (with_reducible first | exact HB.out | apply below_alloc | apply pw_below_drewN | apply below_drew1) | exact HB.out)))
                    (case aF => exact (fun k_ hk => Kd.fresh' (Kd.R_lt (by (with_reducible repeat (first | apply Kd.R_alloc | apply Kd.R_drewN | apply Kd.R_drew)); exact HO201.out)) k_ hk))
                    (case aO => exact (by (with_reducible repeat (first | apply Kd.R_alloc | apply Kd.R_drewN | apply Kd.R_drew)); exact Kd.R_mono HO206.out (fun _ hk => hk.2)))
                    (case aS => exact (below_size (by repeat (first | (with_reducible first | exact HB.out | apply below_alloc | apply pw_below_drewN | apply below_drew1) | exact HB.out))))
                    (case aL => have := LMc15.out; omega)
                    intro v212 w25 ho hb hg hat
                    rw [← Ny211.out] at ho
                    have n0_ := Aside0.mk (Kd.R_after (ok := (fun _ => True)) (by (with_reducible repeat (first | apply Kd.R_alloc | apply Kd.R_drewN | apply Kd.R_drew)); exact HO201.out) hg hat)
                    have n1_ := Aside0.mk (hb)
                    have n2_ := Aside0.mk ((show Kd.C k43 w25 (some ad203) y207.length y207 from by rw [Ny207.out]; exact Kd.C_take (m := (t202 : Int).toNat) ((Kd.R_reads' (Kd.R_after (ok := (fun _ => True)) (by (with_reducible repeat (first | apply Kd.R_alloc | apply Kd.R_drewN | apply Kd.R_drew)); exact HO201.out) hg hat)).2.2) KL21.out))
                    have n3_ := Aside0.mk ((show Kd.C k43 w25 A22 y214.length y214 from by rw [Ny214.out, KA22.out]; exact Kd.C_drop (m := ((ji16) : Int).toNat) (c := co9) ((Kd.R_reads' (Kd.R_after (ok := (fun _ => True)) (by (with_reducible repeat (first | apply Kd.R_alloc | apply Kd.R_drewN | apply Kd.R_drew)); exact HO201.out) hg hat)).2.2) KL22.out ((Kd.R_reads' (Kd.R_after (ok := (fun _ => True)) (by (with_reducible repeat (first | apply Kd.R_alloc | apply Kd.R_drewN | apply Kd.R_drew)); exact HO201.out) hg hat)).2.1)))
                    have n4_ := Aside0.mk (ho)
                    clear HO201
                    clear HB
                    clear HR210
                    clear HR217
                    clear HO206
                    have HO201 := n0_
                    have HB := n1_
                    have HR210 := n2_
                    have HR217 := n3_
                    have HO213 := n4_
                    clear n0_ n1_ n2_ n3_ n4_
                    clear ho hb hg hat
                    refine hK.out _ _ trivial (fun hHeld => ?_)
                    clear hK K
                    refine norm_ (a' := ?_) ?_ ?_
                    rotate_left
                    · show Act.put _ (some 32) _ = _
                      simp only [Act.put, List.setIfInBounds_toArray, List.set_cons_zero, List.set_cons_succ, i64_w, i32_w]
                      rfl
                    refine one_ (i := 9) (N := some 37) #[true, true, true, true, true, true, true, true, true, true, false] rfl rfl (one_of HT_.out (by kernel_rfl)) (by decide) (fun K hK => ?_)
                    refine Kd.R_append_rows_step k43 (w0 := w) w.heap.size (by rfl) (.tmp 32) (.tmp 36) 28 43 (.agg #[(.string ⟨#[]⟩), (.int .i64 0), (.int .i64 0)]) 32 rfl Try.underlying28 info43 rfl (by decide) (by omega) v212 y211 y214 _ _ _ (fun k_ => some k_ ≠ (.slice (some ad203) t199.length co9 : Value).ownBlock) (fun _ => False) rfl rfl ?aO ?aR (fun _ _ h => h) (fun _ h => h.elim) ?aF ?aB ?aS ?aL ?_
                    (case aR => repeat (first | exact (by repeat (first | (with_reducible exact HR217.out) | (with_reducible refine Kd.C_alloc ?_ _) | (with_reducible refine Kd.C_drewN ?_ _) | (with_reducible refine Kd.C_drew ?_) | exact HR217.out)) | (with_reducible refine Kd.C_alloc ?_ _) | (with_reducible refine Kd.C_drewN ?_ _) | (with_reducible refine Kd.C_drew ?_)))
                    (case aB => exact (by repeat (first | (with_reducible first | exact HB.out | apply below_alloc | apply pw_below_drewN | apply below_drew1) | exact HB.out)))
                    (case aF => exact (fun k_ hk => Kd.fresh' (Kd.R_lt (by (with_reducible repeat (first | apply Kd.R_alloc | apply Kd.R_drewN | apply Kd.R_drew)); exact HO201.out)) k_ hk))
                    (case aO => exact (by (with_reducible repeat (first | apply Kd.R_alloc | apply Kd.R_drewN | apply Kd.R_drew)); exact HO213.out))
                    (case aS => exact (below_size (by repeat (first | (with_reducible first | exact HB.out | apply below_alloc | apply pw_below_drewN | apply below_drew1) | exact HB.out))))
                    (case aL => have := LMc19.out; omega)
                    intro v219 w26 ho hb hg hat
                    rw [← Ny218.out] at ho
                    have n0_ := Aside0.mk (Kd.R_after (ok := (fun _ => True)) (by (with_reducible repeat (first | apply Kd.R_alloc | apply Kd.R_drewN | apply Kd.R_drew)); exact HO201.out) hg hat)
                    have n1_ := Aside0.mk (hb)
                    have n2_ := Aside0.mk ((show Kd.C k43 w26 (some ad203) y207.length y207 from by rw [Ny207.out]; exact Kd.C_take (m := (t202 : Int).toNat) ((Kd.R_reads' (Kd.R_after (ok := (fun _ => True)) (by (with_reducible repeat (first | apply Kd.R_alloc | apply Kd.R_drewN | apply Kd.R_drew)); exact HO201.out) hg hat)).2.2) KL21.out))
                    have n3_ := Aside0.mk ((show Kd.C k43 w26 A22 y214.length y214 from by rw [Ny214.out, KA22.out]; exact Kd.C_drop (m := ((ji16) : Int).toNat) (c := co9) ((Kd.R_reads' (Kd.R_after (ok := (fun _ => True)) (by (with_reducible repeat (first | apply Kd.R_alloc | apply Kd.R_drewN | apply Kd.R_drew)); exact HO201.out) hg hat)).2.2) KL22.out ((Kd.R_reads' (Kd.R_after (ok := (fun _ => True)) (by (with_reducible repeat (first | apply Kd.R_alloc | apply Kd.R_drewN | apply Kd.R_drew)); exact HO201.out) hg hat)).2.1)))
                    have n4_ := Aside0.mk (ho)
                    clear HO201
                    clear HB
                    clear HR210
                    clear HR217
                    clear HO213
                    have HO201 := n0_
                    have HB := n1_
                    have HR210 := n2_
                    have HR217 := n3_
                    have HO220 := n4_
                    clear n0_ n1_ n2_ n3_ n4_
                    clear ho hb hg hat
                    refine hK.out _ _ trivial (fun hHeld => ?_)
                    clear hK K
                    refine norm_ (a' := ?_) ?_ ?_
                    rotate_left
                    · show Act.put _ (some 37) _ = _
                      simp only [Act.put, List.setIfInBounds_toArray, List.set_cons_zero, List.set_cons_succ, i64_w, i32_w]
                      rfl
                    refine pure_ (i := 10) (N := some 9) (v := ?_) (a' := ?_) #[true, true, true, true, true, true, true, true, true, true, true] rfl rfl (any_of HT_.out (by kernel_rfl)) (fun _ _ _ h => h) (Or.inl ⟨by rfl, ?_⟩) ?_ ?_
                    rotate_left
                    · intro w'
                      go_simp
                      with_reducible rfl
                    rotate_left
                    · simp only [Act.put, List.setIfInBounds_toArray, List.set_cons_zero, List.set_cons_succ, i64_w, i32_w]
                      rfl
                    refine done_ (done_of HT_.out (by kernel_rfl)) ?_
                    try go_wp2
                    go_meet
                    case rel => exact ⟨_, (y218), ((rd_T43 t199 t202).f1), (by first | rfl | (simp; done) | (simp [*]; done)), H', ⟨by first | omega | exact Nat.le_refl _⟩, ⟨by (with_reducible repeat (first | apply Kd.R_alloc | apply Kd.R_drewN | apply Kd.R_drew)); exact Kd.R_mono HO220.out (fun _ hk => trivial)⟩, ⟨by repeat (first | (with_reducible first | exact HB.out | apply below_alloc | apply pw_below_drewN | apply below_drew1) | exact HB.out)⟩⟩
                  · rw [if_neg c19] at H
                    exact absurd H (by simp)
                · rw [if_neg c18] at H
                  exact absurd H (by simp)
              · rw [if_neg c17] at H
                exact absurd H (by simp)
            · rw [if_neg c15] at H
              exact absurd H (by simp)
          · rw [if_neg c14] at H
            exact absurd H (by simp)
        · rw [if_neg c12] at H
          exact absurd H (by simp)
      · rw [if_neg c11] at H
        exact absurd H (by simp)
    · rw [if_neg c10] at H
      have c10b0 : decide (0 ≤ t202) = false := decide_eq_false c10
      clear c10
      (first | rw [c10b0] | (simp only [i64_w, i32_w]; rw [c10b0]) | skip)
      have H' := Aside0.mk H
      clear H
      go_wp2
      go_meet
      case rel => exact ⟨_, (t199), (1500), (by first | rfl | (simp; done) | (simp [*]; done)), H', ⟨by first | omega | exact Nat.le_refl _⟩, ⟨by (with_reducible repeat (first | apply Kd.R_alloc | apply Kd.R_drewN | apply Kd.R_drew)); exact HO201.out⟩, ⟨by repeat (first | (with_reducible first | exact HB.out | apply below_alloc | apply pw_below_drewN | apply below_drew1) | exact HB.out)⟩⟩
  case rest =>
    clear HC7
    try clear c1
    try clear c2
    try clear p2
    try clear q2
    try clear hx2
    try clear c3
    try clear c4
    try clear p6
    try clear c10
    try clear c10b0
    try clear c11
    try clear c11b0
    try clear c12
    try clear c12b0
    try clear c13
    try clear c13b0
    try clear c14
    try clear c14b0
    try clear c14b1
    try clear c15
    try clear c17
    try clear c17b0
    try clear c17b1
    try clear c18
    try clear c18b0
    try clear c18b1
    try clear c19
    try clear p20
    try clear q20
    try clear hx20
    try clear q21
    try clear c22
    try clear q22
    try clear hx203_0
    try clear hx203_1
    try clear hx203_2
    try clear p203
    try clear q022
    try clear q203
    try clear q21
    try clear q22
    obtain ⟨kq, x9_6, x10_6, rfl, HA, HJ6, HO_9, HB⟩ := hcut
    cases kq with
    | zero => exact absurd HA.out (by simp [spec_l15Learn.j0])
    | succ kj6 =>
      have H := HA.out
      clear HA
      simp only [spec_l15Learn.j0] at H
      replace H := Option.bind_eq_some_iff.mp H
      obtain ⟨t221, A270, H⟩ := H
      replace H : (if (mn x10_6 (mx a2 t221)) = 1500 then (some x9_6) else (if (x9_6.length : Int) = 8 then (spec_l15Learn.l0 kj6 x9_6 0 1 a1 (mn x10_6 (mx a2 t221)) (wrap64 (a3 + 600))) else (if x9_6.length < 4398046511104 then (some (x9_6 ++ [(⟨a1, mn x10_6 (mx a2 t221), wrap64 (a3 + 600)⟩ : S43)])) else (none)))) = some r := H
      have A27 := Aside0.mk A270
      clear A270
      obtain ⟨ji28, hji28⟩ : ∃ j_ : Int, (mx a2 t221) = j_ := ⟨_, rfl⟩
      replace H : (if (mn x10_6 (ji28)) = 1500 then (some x9_6) else (if (x9_6.length : Int) = 8 then (spec_l15Learn.l0 kj6 x9_6 0 1 a1 (mn x10_6 (ji28)) (wrap64 (a3 + 600))) else (if x9_6.length < 4398046511104 then (some (x9_6 ++ [(⟨a1, mn x10_6 (ji28), wrap64 (a3 + 600)⟩ : S43)])) else (none)))) = some r := by first | (rw [hji28] at H; exact H) | (simp only [hji28] at H ⊢; exact H)
      (try rw [hji28] at A27)
      have hji28_ : (if a2 < t221 then t221 else a2) = ji28 := hji28
      obtain ⟨ji29, hji29⟩ : ∃ j_ : Int, (mn x10_6 (ji28)) = j_ := ⟨_, rfl⟩
      replace H : (if (ji29) = 1500 then (some x9_6) else (if (x9_6.length : Int) = 8 then (spec_l15Learn.l0 kj6 x9_6 0 1 a1 ji29 (wrap64 (a3 + 600))) else (if x9_6.length < 4398046511104 then (some (x9_6 ++ [(⟨a1, ji29, wrap64 (a3 + 600)⟩ : S43)])) else (none)))) = some r := by first | (rw [hji29] at H; exact H) | (simp only [hji29] at H ⊢; exact H)
      (try rw [hji29] at A27)
      have hji29_ : (if (ji28) < x10_6 then (ji28) else x10_6) = ji29 := hji29
      by_cases c30 : (ji29) = 1500
      · rw [if_pos c30] at H
        have c30b0 : ((ji29) == 1500) = true := beq_iff_eq.mpr c30
        have c30b1 : ((ji29) != 1500) = false := bne_eq_false_iff_eq.mpr c30
        clear c30
        obtain rfl := Option.some.inj H
        go_wp2_with (first | ((with_reducible refine gate_callee (f := 27) rfl ?_); refine goesL_ (some 42) rfl rfl Try.func27 (by kernel_rfl) rfl #[.string a1] rfl (by (try simp only [List.map_toArray, List.map_cons, List.map_nil]); first | done | rfl | (simp only [List.length_drop, List.length_take]; rfl)) ?_; (with_reducible refine (spec_l15Least.calls a1 t221 _ A27.out).mono ?_); rintro e w' ⟨rfl, ⟨nd, rfl⟩⟩; refine ⟨_, rfl, ?_⟩; (try (rw [drewN_self wc]; generalize hq_ : World.drewN wc _ = wc; have n0_ : Aside0 (Kd.R k43 43 wc w.heap.size (fun _ => True) u9 x9_6) := ⟨by rw [← hq_]; exact (by (with_reducible repeat (first | apply Kd.R_alloc | apply Kd.R_drewN | apply Kd.R_drew)); exact HO_9.out)⟩; have n1_ : Aside0 (Below w.heap.size w wc) := ⟨by rw [← hq_]; exact (by repeat (first | (with_reducible first | exact HB.out | apply below_alloc | apply pw_below_drewN | apply below_drew1) | exact HB.out))⟩; clear HO_9 HB hq_; have HO_9 := n0_; have HB := n1_; clear n0_ n1_))) | ((with_reducible refine gate_dst (N := 12) rfl ?_); refine box_event ?hg (N := 12) ?hd (cs := #[.string (⟨#[]⟩ : ByteArray), .int .i64 0, .int .i64 0]) (t := 43) ?hr ?_; (case hd => rfl); (case hg => rfl); (case hr => first | (go_simp; done) | (go_simp; rfl)); intro gb222 hg w31 hbox hb; have n0_ := Aside0.mk (Kd.R_below (Kd.R_elderB (by (with_reducible repeat (first | apply Kd.R_alloc | apply Kd.R_drewN | apply Kd.R_drew)); exact HO_9.out) gb222 (Nat.le_of_eq hg.symm)) hb); have n1_ := Aside0.mk (below_step (by repeat (first | (with_reducible first | exact HB.out | apply below_alloc | apply pw_below_drewN | apply below_drew1) | exact HB.out)) hb); have n2_ := Aside0.mk (hbox); have n3_ := Aside0.mk ((by rw [hg]; exact (below_size (by repeat (first | (with_reducible first | exact HB.out | apply below_alloc | apply pw_below_drewN | apply below_drew1) | exact HB.out))) : w.heap.size ≤ gb222)); have n4_ := Aside0.mk ((by rw [hg]; exact (below_size (by repeat (first | (with_reducible first | exact HB.out | apply below_alloc | apply pw_below_drewN | apply below_drew1) | exact HB.out))) : w.heap.size ≤ gb222)); clear HO_9; clear HB; have HO_9 := n0_; have HB := n1_; have BK222 := n2_; have GW222 := n3_; have GE222 := n4_; clear n0_ n1_ n2_ n3_ n4_; clear hb hbox hg; have hcz32_0 : w31.cell? ⟨gb222, 0, none⟩ = some (.string (⟨#[]⟩ : ByteArray)) := (blk_cell BK222.out 0).trans rfl; have hcz32_1 : w31.cell? ⟨gb222, 1, none⟩ = some (.int .i64 0) := (blk_cell BK222.out 1).trans rfl; have hcz32_2 : w31.cell? ⟨gb222, 2, none⟩ = some (.int .i64 0) := (blk_cell BK222.out 2).trans rfl; have hfz32_0 := blk_frozen BK222.out 0; have hfz32_1 := blk_frozen BK222.out 1; have hfz32_2 := blk_frozen BK222.out 2))
        go_ret
        exact ⟨_, by first | rfl | (simp [errW_none, errW_some] <;> rfl) | (simp only [← hji28, ← hji29]; first | rfl | (simp [errW_none, errW_some] <;> rfl)) | (simp [*, errW_none, errW_some] <;> rfl), by (with_reducible repeat (first | apply Kd.R_alloc | apply Kd.R_drewN | apply Kd.R_drew)); exact Kd.R_mono (Kd.R_far (p := ⟨gb222, 2, none⟩) (Kd.R_far (p := ⟨gb222, 1, none⟩) (Kd.R_far (p := ⟨gb222, 0, none⟩) (Kd.R_mono HO_9.out (fun k_ hk => (⟨hk, hk.2⟩ : _ ∧ k_ ≠ gb222))) (fun _ hk => hk.2) (.string a1)) (fun _ hk => hk.2) (.int .i64 ji29)) (fun _ hk => hk.2) (.int .i64 (wrap64 (a3 + 600)))) (fun _ hk => trivial), by repeat (first | (with_reducible first | exact HB.out | apply below_alloc | apply pw_below_drewN | apply below_drew1 | refine below_set ?_ GE222.out) | exact HB.out)⟩
      · rw [if_neg c30] at H
        have c30b0 : ((ji29) == 1500) = false := beq_eq_false_iff_ne.mpr c30
        have c30b1 : ((ji29) != 1500) = true := bne_iff_ne.mpr c30
        by_cases c33 : (x9_6.length : Int) = 8
        · rw [if_pos c33] at H
          have c33b0 : ((x9_6.length : Int) == 8) = true := beq_iff_eq.mpr c33
          have c33b1 : ((x9_6.length : Int) != 8) = false := bne_eq_false_iff_eq.mpr c33
          clear c33
          have H' := Aside0.mk H
          clear H
          go_wp2_with (first | ((with_reducible refine gate_callee (f := 27) rfl ?_); refine goesL_ (some 42) rfl rfl Try.func27 (by kernel_rfl) rfl #[.string a1] rfl (by (try simp only [List.map_toArray, List.map_cons, List.map_nil]); first | done | rfl | (simp only [List.length_drop, List.length_take]; rfl)) ?_; (with_reducible refine (spec_l15Least.calls a1 t221 _ A27.out).mono ?_); rintro e w' ⟨rfl, ⟨nd, rfl⟩⟩; refine ⟨_, rfl, ?_⟩; (try (rw [drewN_self wc]; generalize hq_ : World.drewN wc _ = wc; have n0_ : Aside0 (Kd.R k43 43 wc w.heap.size (fun _ => True) u9 x9_6) := ⟨by rw [← hq_]; exact (by (with_reducible repeat (first | apply Kd.R_alloc | apply Kd.R_drewN | apply Kd.R_drew)); exact HO_9.out)⟩; have n1_ : Aside0 (Below w.heap.size w wc) := ⟨by rw [← hq_]; exact (by repeat (first | (with_reducible first | exact HB.out | apply below_alloc | apply pw_below_drewN | apply below_drew1) | exact HB.out))⟩; clear HO_9 HB hq_; have HO_9 := n0_; have HB := n1_; clear n0_ n1_))) | ((with_reducible refine gate_dst (N := 12) rfl ?_); refine box_event ?hg (N := 12) ?hd (cs := #[.string (⟨#[]⟩ : ByteArray), .int .i64 0, .int .i64 0]) (t := 43) ?hr ?_; (case hd => rfl); (case hg => rfl); (case hr => first | (go_simp; done) | (go_simp; rfl)); intro gb222 hg w34 hbox hb; have n0_ := Aside0.mk (Kd.R_below (Kd.R_elderB (by (with_reducible repeat (first | apply Kd.R_alloc | apply Kd.R_drewN | apply Kd.R_drew)); exact HO_9.out) gb222 (Nat.le_of_eq hg.symm)) hb); have n1_ := Aside0.mk (below_step (by repeat (first | (with_reducible first | exact HB.out | apply below_alloc | apply pw_below_drewN | apply below_drew1) | exact HB.out)) hb); have n2_ := Aside0.mk (hbox); have n3_ := Aside0.mk ((by rw [hg]; exact (below_size (by repeat (first | (with_reducible first | exact HB.out | apply below_alloc | apply pw_below_drewN | apply below_drew1) | exact HB.out))) : w.heap.size ≤ gb222)); have n4_ := Aside0.mk ((by rw [hg]; exact (below_size (by repeat (first | (with_reducible first | exact HB.out | apply below_alloc | apply pw_below_drewN | apply below_drew1) | exact HB.out))) : w.heap.size ≤ gb222)); clear HO_9; clear HB; have HO_9 := n0_; have HB := n1_; have BK222 := n2_; have GW222 := n3_; have GE222 := n4_; clear n0_ n1_ n2_ n3_ n4_; clear hb hbox hg; have hcz35_0 : w34.cell? ⟨gb222, 0, none⟩ = some (.string (⟨#[]⟩ : ByteArray)) := (blk_cell BK222.out 0).trans rfl; have hcz35_1 : w34.cell? ⟨gb222, 1, none⟩ = some (.int .i64 0) := (blk_cell BK222.out 1).trans rfl; have hcz35_2 : w34.cell? ⟨gb222, 2, none⟩ = some (.int .i64 0) := (blk_cell BK222.out 2).trans rfl; have hfz35_0 := blk_frozen BK222.out 0; have hfz35_1 := blk_frozen BK222.out 1; have hfz35_2 := blk_frozen BK222.out 2; obtain ⟨Ao36, co36, eo36⟩ := Kd.R_slice HO_9.out; subst eo36))
          go_loopg [13, 14] kj6 (fun kq v13 v14 w' => ∃ (x13_2 : Int) (x14_2 : Int), v13 = .int .i64 x13_2 ∧ v14 = .int .i64 x14_2 ∧ Aside0 (spec_l15Learn.l0 kq x9_6 x13_2 x14_2 a1 ji29 (wrap64 (a3 + 600)) = some r) ∧ Aside0 (kq ≤ kj6) ∧ Aside0 (Kd.R k43 43 w' w.heap.size (fun k_ => k_ ≠ gb222) (.slice Ao36 x9_6.length co36) x9_6) ∧ Aside0 (w'.heap[gb222]? = some (.cells #[.string a1, .int .i64 ji29, .int .i64 (wrap64 (a3 + 600))] 43 (0, 0))) ∧ Aside0 (Below w.heap.size w w'))
          case atStart => exact ⟨(0), (1), (by first | rfl | (simp; done) | (simp [*]; done)), (by first | rfl | (simp; done) | (simp [*]; done)), H', ⟨Nat.le_refl _⟩, ⟨by (with_reducible repeat (first | apply Kd.R_alloc | apply Kd.R_drewN | apply Kd.R_drew)); exact Kd.R_mono (Kd.R_far (p := ⟨gb222, 2, none⟩) (Kd.R_far (p := ⟨gb222, 1, none⟩) (Kd.R_far (p := ⟨gb222, 0, none⟩) (Kd.R_mono HO_9.out (fun k_ hk => (⟨hk, hk.2⟩ : _ ∧ k_ ≠ gb222))) (fun _ hk => hk.2) (.string a1)) (fun _ hk => hk.2) (.int .i64 ji29)) (fun _ hk => hk.2) (.int .i64 (wrap64 (a3 + 600)))) (fun _ hk => hk.1.2)⟩, ⟨by (with_reducible repeat (first | refine blk_drewN ?_ _ | refine blk_drew ?_ | refine blk_alloc ?_ _)); refine blk_put (cs := #[.string a1, .int .i64 ji29, .int .i64 0]) ?_ 2 _ rfl; (with_reducible repeat (first | refine blk_drewN ?_ _ | refine blk_drew ?_ | refine blk_alloc ?_ _)); refine blk_put (cs := #[.string a1, .int .i64 0, .int .i64 0]) ?_ 1 _ rfl; (with_reducible repeat (first | refine blk_drewN ?_ _ | refine blk_drew ?_ | refine blk_alloc ?_ _)); refine blk_put (cs := #[.string (⟨#[]⟩ : ByteArray), .int .i64 0, .int .i64 0]) ?_ 0 _ rfl; (with_reducible repeat (first | refine blk_drewN ?_ _ | refine blk_drew ?_ | refine blk_alloc ?_ _)); exact BK222.out⟩, ⟨by repeat (first | (with_reducible first | exact HB.out | apply below_alloc | apply pw_below_drewN | apply below_drew1 | refine below_set ?_ GE222.out) | exact HB.out)⟩⟩
          case round =>
            clear H'
            try clear c1
            try clear c2
            try clear p2
            try clear q2
            try clear hx2
            try clear c3
            try clear c4
            try clear p6
            try clear c10
            try clear c10b0
            try clear c11
            try clear c11b0
            try clear c12
            try clear c12b0
            try clear c13
            try clear c13b0
            try clear c14
            try clear c14b0
            try clear c14b1
            try clear c15
            try clear c17
            try clear c17b0
            try clear c17b1
            try clear c18
            try clear c18b0
            try clear c18b1
            try clear c19
            try clear p20
            try clear q20
            try clear hx20
            try clear q21
            try clear c22
            try clear q22
            try clear c27
            try clear c28
            try clear c30
            try clear c30b0
            try clear c30b1
            try clear c33
            try clear c33b0
            try clear c33b1
            try clear c34
            try clear hcz32_0
            try clear hcz32_1
            try clear hcz32_2
            try clear hcz35_0
            try clear hcz35_1
            try clear hcz35_2
            try clear hfz32_0
            try clear hfz32_1
            try clear hfz32_2
            try clear hfz35_0
            try clear hfz35_1
            try clear hfz35_2
            try clear hx203_0
            try clear hx203_1
            try clear hx203_2
            try clear p2
            try clear p20
            try clear p203
            try clear p6
            try clear q022
            try clear q2
            try clear q20
            try clear q203
            try clear q21
            try clear q22
            obtain ⟨x13_2, x14_2, rfl, rfl, HA, HK2, HO_9, BK222, HB⟩ := hrel
            cases gk with
            | zero => exact absurd HA.out (by simp [spec_l15Learn.l0])
            | succ k2 =>
              have H := HA.out
              clear HA
              simp only [spec_l15Learn.l0] at H
              by_cases c37 : x14_2 < (x9_6.length : Int)
              · rw [if_pos c37] at H
                have c37b0 : decide (x14_2 < (x9_6.length : Int)) = true := decide_eq_true c37
                clear c37
                by_cases c38 : 0 ≤ x14_2
                · rw [if_pos c38] at H
                  have c38b0 : decide (0 ≤ x14_2) = true := decide_eq_true c38
                  clear c38
                  by_cases c39 : 0 ≤ x13_2
                  · rw [if_pos c39] at H
                    have c39b0 : decide (0 ≤ x13_2) = true := decide_eq_true c39
                    clear c39
                    by_cases c40 : x13_2 < (x9_6.length : Int)
                    · rw [if_pos c40] at H
                      have c40b0 : decide (x13_2 < (x9_6.length : Int)) = true := decide_eq_true c40
                      clear c40
                      by_cases c41 : ((rd_T43 x9_6 x14_2).f2) < ((rd_T43 x9_6 x13_2).f2)
                      · rw [if_pos c41] at H
                        have c41b0 : decide (((rd_T43 x9_6 x14_2).f2) < ((rd_T43 x9_6 x13_2).f2)) = true := decide_eq_true c41
                        clear c41
                        have H' := Aside0.mk H
                        clear H
                        try go_wp2
                        have n0_ := Aside0.mk (Kd.R_drew HO_9.out)
                        have n1_ := Aside0.mk (blk_drew BK222.out)
                        have n2_ := Aside0.mk (below_drew1 HB.out)
                        clear HO_9
                        clear BK222
                        clear HB
                        have HO_9 := n0_
                        have BK222 := n1_
                        have HB := n2_
                        clear n0_ n1_ n2_
                        have p223 : 0 ≤ (x14_2 : Int) := of_decide_eq_true (by first | (with_reducible assumption) | assumption)
                        have q223 : x14_2 < (x9_6.length : Int) := of_decide_eq_true (by first | (with_reducible assumption) | assumption)
                        obtain ⟨ad223, e223, hx223_0, hx223_1, hx223_2⟩ := at_T43 (Kd.R_reads' HO_9.out).2.2 x14_2 p223 q223
                        cases e223
                        replace p223 := eq_true p223
                        replace q223 := eq_true q223
                        have p224 : 0 ≤ (x13_2 : Int) := of_decide_eq_true (by first | (with_reducible assumption) | assumption)
                        have q224 : x13_2 < (x9_6.length : Int) := of_decide_eq_true (by first | (with_reducible assumption) | assumption)
                        obtain ⟨ad224, e224, hx224_0, hx224_1, hx224_2⟩ := at_T43 (Kd.R_reads' HO_9.out).2.2 x13_2 p224 q224
                        obtain rfl : ad223 = ad224 := (by injection e224)
                        replace p224 := eq_true p224
                        replace q224 := eq_true q224
                        refine start_ (n := 11) (S := fun w' => w'.cell? (ad223.add ((x14_2).toNat * 3)) = some (.string ((rd_T43 x9_6 x14_2).f0)) ∧ w'.cell? ⟨(ad223.add ((x14_2).toNat * 3)).block, (ad223.add ((x14_2).toNat * 3)).off + 1, none⟩ = some (.int .i64 ((rd_T43 x9_6 x14_2).f1)) ∧ w'.cell? ⟨(ad223.add ((x14_2).toNat * 3)).block, (ad223.add ((x14_2).toNat * 3)).off + 2, none⟩ = some (.int .i64 ((rd_T43 x9_6 x14_2).f2)) ∧ w'.cell? (ad223.add ((x13_2).toNat * 3)) = some (.string ((rd_T43 x9_6 x13_2).f0)) ∧ w'.cell? ⟨(ad223.add ((x13_2).toNat * 3)).block, (ad223.add ((x13_2).toNat * 3)).off + 1, none⟩ = some (.int .i64 ((rd_T43 x9_6 x13_2).f1)) ∧ w'.cell? ⟨(ad223.add ((x13_2).toNat * 3)).block, (ad223.add ((x13_2).toNat * 3)).off + 2, none⟩ = some (.int .i64 ((rd_T43 x9_6 x13_2).f2))) (ds := []) #[false, false, false, false, false, false, false, false, false, false, false] (by kernel_rfl) rfl rfl ⟨hx223_0, hx223_1, hx223_2, hx224_0, hx224_1, hx224_2⟩ (fun hHeld => ?_); refine with_tabW spec_l15Learn.tab15 spec_l15Learn.bits15 (fun HT_ HW_ => ?_)
                        generalize wr.drew = w42 at HO_9 BK222 HB hx223_0 hx223_1 hx223_2 hx224_0 hx224_1 hx224_2 hHeld ⊢
                        refine pure_ (i := 0) (N := some 61) (v := ?_) (a' := ?_) #[true, false, false, false, false, false, false, false, false, false, false] rfl rfl (any_of HT_.out (by kernel_rfl)) (fun _ _ _ h => h) (Or.inl ⟨by rfl, ?_⟩) ?_ ?_
                        rotate_left
                        · intro w'
                          go_simp
                          with_reducible rfl
                        rotate_left
                        · simp only [Act.put, List.setIfInBounds_toArray, List.set_cons_zero, List.set_cons_succ, i64_w, i32_w]
                          rfl
                        refine pure_ (i := 1) (N := some 62) (v := ?_) (a' := ?_) #[true, true, false, false, false, false, false, false, false, false, false] rfl rfl (any_of HT_.out (by kernel_rfl)) (fun _ _ _ h => h) (Or.inl ⟨by rfl, ?_⟩) ?_ ?_
                        rotate_left
                        · intro w'
                          go_simp
                          with_reducible rfl
                        rotate_left
                        · simp only [Act.put, List.setIfInBounds_toArray, List.set_cons_zero, List.set_cons_succ, i64_w, i32_w]
                          rfl
                        refine pure_ (i := 2) (N := some 63) (v := ?_) (a' := ?_) #[true, true, true, false, false, false, false, false, false, false, false] rfl rfl (any_of HT_.out (by kernel_rfl)) (fun _ _ _ h => h) (Or.inl ⟨by rfl, ?_⟩) ?_ ?_
                        rotate_left
                        · intro w'
                          go_simp
                          with_reducible rfl
                        rotate_left
                        · simp only [Act.put, List.setIfInBounds_toArray, List.set_cons_zero, List.set_cons_succ, i64_w, i32_w]
                          rfl
                        refine pure_ (i := 3) (N := some 64) (v := ?_) (a' := ?_) #[true, true, true, true, false, false, false, false, false, false, false] rfl rfl (any_of HT_.out (by kernel_rfl)) (fun _ _ _ h => h) (Or.inl ⟨by rfl, ?_⟩) ?_ ?_
                        rotate_left
                        · intro w'
                          go_simp
                          with_reducible rfl
                        rotate_left
                        · simp only [Act.put, List.setIfInBounds_toArray, List.set_cons_zero, List.set_cons_succ, i64_w, i32_w]
                          rfl
                        refine pure_ (i := 5) (N := some 66) (v := ?_) (a' := ?_) #[true, true, true, true, false, true, false, false, false, false, false] rfl rfl (any_of HT_.out (by kernel_rfl)) (fun _ _ _ h => h) (Or.inl ⟨by rfl, ?_⟩) ?_ ?_
                        rotate_left
                        · intro w'
                          go_simp
                          with_reducible rfl
                        rotate_left
                        · simp only [Act.put, List.setIfInBounds_toArray, List.set_cons_zero, List.set_cons_succ, i64_w, i32_w]
                          rfl
                        refine pure_ (i := 6) (N := some 67) (v := ?_) (a' := ?_) #[true, true, true, true, false, true, true, false, false, false, false] rfl rfl (any_of HT_.out (by kernel_rfl)) (fun _ _ _ h => h) (Or.inl ⟨by rfl, ?_⟩) ?_ ?_
                        rotate_left
                        · intro w'
                          go_simp
                          with_reducible rfl
                        rotate_left
                        · simp only [Act.put, List.setIfInBounds_toArray, List.set_cons_zero, List.set_cons_succ, i64_w, i32_w]
                          rfl
                        refine pure_ (i := 7) (N := some 68) (v := ?_) (a' := ?_) #[true, true, true, true, false, true, true, true, false, false, false] rfl rfl (any_of HT_.out (by kernel_rfl)) (fun _ _ _ h => h) (Or.inl ⟨by rfl, ?_⟩) ?_ ?_
                        rotate_left
                        · intro w'
                          go_simp
                          with_reducible rfl
                        rotate_left
                        · simp only [Act.put, List.setIfInBounds_toArray, List.set_cons_zero, List.set_cons_succ, i64_w, i32_w]
                          rfl
                        refine pure_ (i := 8) (N := some 69) (v := ?_) (a' := ?_) #[true, true, true, true, false, true, true, true, true, false, false] rfl rfl (any_of HT_.out (by kernel_rfl)) (fun _ _ _ h => h) (Or.inl ⟨by rfl, ?_⟩) ?_ ?_
                        rotate_left
                        · intro w'
                          go_simp
                          with_reducible rfl
                        rotate_left
                        · simp only [Act.put, List.setIfInBounds_toArray, List.set_cons_zero, List.set_cons_succ, i64_w, i32_w]
                          rfl
                        refine take_ (i := 4) (N := some 65) (v := ?_) (a' := ?_) #[true, true, true, true, true, true, true, true, true, false, false] rfl rfl (take_ofW HT_.out HW_.out (by kernel_rfl)) (fun _ _ _ h => h) (Or.inl ⟨by rfl, ?_⟩) hHeld ?_ ?_
                        rotate_left
                        · rintro w' ⟨s0, s1, s2, s3, s4, s5⟩
                          go_simp
                          with_reducible rfl
                        rotate_left
                        · simp only [Act.put, List.setIfInBounds_toArray, List.set_cons_zero, List.set_cons_succ, i64_w, i32_w]
                          rfl
                        refine take_ (i := 9) (N := some 70) (v := ?_) (a' := ?_) #[true, true, true, true, true, true, true, true, true, true, false] rfl rfl (take_ofW HT_.out HW_.out (by kernel_rfl)) (fun _ _ _ h => h) (Or.inl ⟨by rfl, ?_⟩) hHeld ?_ ?_
                        rotate_left
                        · rintro w' ⟨s0, s1, s2, s3, s4, s5⟩
                          go_simp
                          with_reducible rfl
                        rotate_left
                        · simp only [Act.put, List.setIfInBounds_toArray, List.set_cons_zero, List.set_cons_succ, i64_w, i32_w]
                          rfl
                        refine pure_ (i := 10) (N := some 71) (v := ?_) (a' := ?_) #[true, true, true, true, true, true, true, true, true, true, true] rfl rfl (any_of HT_.out (by kernel_rfl)) (fun _ _ _ h => h) (Or.inl ⟨by rfl, ?_⟩) ?_ ?_
                        rotate_left
                        · intro w'
                          go_simp
                          with_reducible rfl
                        rotate_left
                        · simp only [Act.put, List.setIfInBounds_toArray, List.set_cons_zero, List.set_cons_succ, i64_w, i32_w]
                          rfl
                        refine done_ (done_of HT_.out (by kernel_rfl)) ?_
                        try go_wp2
                        go_roundg k2
                        case measure => have := HJ6.out; have := HK2.out; omega
                        case rel => exact ⟨(x14_2), (wrap64 (x14_2 + 1)), (by first | rfl | (simp; done) | (simp [*]; done)), (by first | rfl | (simp; done) | (simp [*]; done)), H', ⟨by have := HJ6.out; have := HK2.out; omega⟩, ⟨by (with_reducible repeat (first | apply Kd.R_alloc | apply Kd.R_drewN | apply Kd.R_drew)); exact HO_9.out⟩, ⟨by (with_reducible repeat (first | refine blk_drewN ?_ _ | refine blk_drew ?_ | refine blk_alloc ?_ _)); exact BK222.out⟩, ⟨by repeat (first | (with_reducible first | exact HB.out | apply below_alloc | apply pw_below_drewN | apply below_drew1 | refine below_set ?_ GE222.out) | exact HB.out)⟩⟩
                      · rw [if_neg c41] at H
                        have c41b0 : decide (((rd_T43 x9_6 x14_2).f2) < ((rd_T43 x9_6 x13_2).f2)) = false := decide_eq_false c41
                        clear c41
                        have H' := Aside0.mk H
                        clear H
                        try go_wp2
                        have n0_ := Aside0.mk (Kd.R_drew HO_9.out)
                        have n1_ := Aside0.mk (blk_drew BK222.out)
                        have n2_ := Aside0.mk (below_drew1 HB.out)
                        clear HO_9
                        clear BK222
                        clear HB
                        have HO_9 := n0_
                        have BK222 := n1_
                        have HB := n2_
                        clear n0_ n1_ n2_
                        have p223 : 0 ≤ (x14_2 : Int) := of_decide_eq_true (by first | (with_reducible assumption) | assumption)
                        have q223 : x14_2 < (x9_6.length : Int) := of_decide_eq_true (by first | (with_reducible assumption) | assumption)
                        obtain ⟨ad223, e223, hx223_0, hx223_1, hx223_2⟩ := at_T43 (Kd.R_reads' HO_9.out).2.2 x14_2 p223 q223
                        cases e223
                        replace p223 := eq_true p223
                        replace q223 := eq_true q223
                        have p224 : 0 ≤ (x13_2 : Int) := of_decide_eq_true (by first | (with_reducible assumption) | assumption)
                        have q224 : x13_2 < (x9_6.length : Int) := of_decide_eq_true (by first | (with_reducible assumption) | assumption)
                        obtain ⟨ad224, e224, hx224_0, hx224_1, hx224_2⟩ := at_T43 (Kd.R_reads' HO_9.out).2.2 x13_2 p224 q224
                        obtain rfl : ad223 = ad224 := (by injection e224)
                        replace p224 := eq_true p224
                        replace q224 := eq_true q224
                        refine start_ (n := 11) (S := fun w' => w'.cell? (ad223.add ((x14_2).toNat * 3)) = some (.string ((rd_T43 x9_6 x14_2).f0)) ∧ w'.cell? ⟨(ad223.add ((x14_2).toNat * 3)).block, (ad223.add ((x14_2).toNat * 3)).off + 1, none⟩ = some (.int .i64 ((rd_T43 x9_6 x14_2).f1)) ∧ w'.cell? ⟨(ad223.add ((x14_2).toNat * 3)).block, (ad223.add ((x14_2).toNat * 3)).off + 2, none⟩ = some (.int .i64 ((rd_T43 x9_6 x14_2).f2)) ∧ w'.cell? (ad223.add ((x13_2).toNat * 3)) = some (.string ((rd_T43 x9_6 x13_2).f0)) ∧ w'.cell? ⟨(ad223.add ((x13_2).toNat * 3)).block, (ad223.add ((x13_2).toNat * 3)).off + 1, none⟩ = some (.int .i64 ((rd_T43 x9_6 x13_2).f1)) ∧ w'.cell? ⟨(ad223.add ((x13_2).toNat * 3)).block, (ad223.add ((x13_2).toNat * 3)).off + 2, none⟩ = some (.int .i64 ((rd_T43 x9_6 x13_2).f2))) (ds := []) #[false, false, false, false, false, false, false, false, false, false, false] (by kernel_rfl) rfl rfl ⟨hx223_0, hx223_1, hx223_2, hx224_0, hx224_1, hx224_2⟩ (fun hHeld => ?_); refine with_tabW spec_l15Learn.tab15 spec_l15Learn.bits15 (fun HT_ HW_ => ?_)
                        generalize wr.drew = w43 at HO_9 BK222 HB hx223_0 hx223_1 hx223_2 hx224_0 hx224_1 hx224_2 hHeld ⊢
                        refine pure_ (i := 0) (N := some 61) (v := ?_) (a' := ?_) #[true, false, false, false, false, false, false, false, false, false, false] rfl rfl (any_of HT_.out (by kernel_rfl)) (fun _ _ _ h => h) (Or.inl ⟨by rfl, ?_⟩) ?_ ?_
                        rotate_left
                        · intro w'
                          go_simp
                          with_reducible rfl
                        rotate_left
                        · simp only [Act.put, List.setIfInBounds_toArray, List.set_cons_zero, List.set_cons_succ, i64_w, i32_w]
                          rfl
                        refine pure_ (i := 1) (N := some 62) (v := ?_) (a' := ?_) #[true, true, false, false, false, false, false, false, false, false, false] rfl rfl (any_of HT_.out (by kernel_rfl)) (fun _ _ _ h => h) (Or.inl ⟨by rfl, ?_⟩) ?_ ?_
                        rotate_left
                        · intro w'
                          go_simp
                          with_reducible rfl
                        rotate_left
                        · simp only [Act.put, List.setIfInBounds_toArray, List.set_cons_zero, List.set_cons_succ, i64_w, i32_w]
                          rfl
                        refine pure_ (i := 2) (N := some 63) (v := ?_) (a' := ?_) #[true, true, true, false, false, false, false, false, false, false, false] rfl rfl (any_of HT_.out (by kernel_rfl)) (fun _ _ _ h => h) (Or.inl ⟨by rfl, ?_⟩) ?_ ?_
                        rotate_left
                        · intro w'
                          go_simp
                          with_reducible rfl
                        rotate_left
                        · simp only [Act.put, List.setIfInBounds_toArray, List.set_cons_zero, List.set_cons_succ, i64_w, i32_w]
                          rfl
                        refine pure_ (i := 3) (N := some 64) (v := ?_) (a' := ?_) #[true, true, true, true, false, false, false, false, false, false, false] rfl rfl (any_of HT_.out (by kernel_rfl)) (fun _ _ _ h => h) (Or.inl ⟨by rfl, ?_⟩) ?_ ?_
                        rotate_left
                        · intro w'
                          go_simp
                          with_reducible rfl
                        rotate_left
                        · simp only [Act.put, List.setIfInBounds_toArray, List.set_cons_zero, List.set_cons_succ, i64_w, i32_w]
                          rfl
                        refine pure_ (i := 5) (N := some 66) (v := ?_) (a' := ?_) #[true, true, true, true, false, true, false, false, false, false, false] rfl rfl (any_of HT_.out (by kernel_rfl)) (fun _ _ _ h => h) (Or.inl ⟨by rfl, ?_⟩) ?_ ?_
                        rotate_left
                        · intro w'
                          go_simp
                          with_reducible rfl
                        rotate_left
                        · simp only [Act.put, List.setIfInBounds_toArray, List.set_cons_zero, List.set_cons_succ, i64_w, i32_w]
                          rfl
                        refine pure_ (i := 6) (N := some 67) (v := ?_) (a' := ?_) #[true, true, true, true, false, true, true, false, false, false, false] rfl rfl (any_of HT_.out (by kernel_rfl)) (fun _ _ _ h => h) (Or.inl ⟨by rfl, ?_⟩) ?_ ?_
                        rotate_left
                        · intro w'
                          go_simp
                          with_reducible rfl
                        rotate_left
                        · simp only [Act.put, List.setIfInBounds_toArray, List.set_cons_zero, List.set_cons_succ, i64_w, i32_w]
                          rfl
                        refine pure_ (i := 7) (N := some 68) (v := ?_) (a' := ?_) #[true, true, true, true, false, true, true, true, false, false, false] rfl rfl (any_of HT_.out (by kernel_rfl)) (fun _ _ _ h => h) (Or.inl ⟨by rfl, ?_⟩) ?_ ?_
                        rotate_left
                        · intro w'
                          go_simp
                          with_reducible rfl
                        rotate_left
                        · simp only [Act.put, List.setIfInBounds_toArray, List.set_cons_zero, List.set_cons_succ, i64_w, i32_w]
                          rfl
                        refine pure_ (i := 8) (N := some 69) (v := ?_) (a' := ?_) #[true, true, true, true, false, true, true, true, true, false, false] rfl rfl (any_of HT_.out (by kernel_rfl)) (fun _ _ _ h => h) (Or.inl ⟨by rfl, ?_⟩) ?_ ?_
                        rotate_left
                        · intro w'
                          go_simp
                          with_reducible rfl
                        rotate_left
                        · simp only [Act.put, List.setIfInBounds_toArray, List.set_cons_zero, List.set_cons_succ, i64_w, i32_w]
                          rfl
                        refine take_ (i := 4) (N := some 65) (v := ?_) (a' := ?_) #[true, true, true, true, true, true, true, true, true, false, false] rfl rfl (take_ofW HT_.out HW_.out (by kernel_rfl)) (fun _ _ _ h => h) (Or.inl ⟨by rfl, ?_⟩) hHeld ?_ ?_
                        rotate_left
                        · rintro w' ⟨s0, s1, s2, s3, s4, s5⟩
                          go_simp
                          with_reducible rfl
                        rotate_left
                        · simp only [Act.put, List.setIfInBounds_toArray, List.set_cons_zero, List.set_cons_succ, i64_w, i32_w]
                          rfl
                        refine take_ (i := 9) (N := some 70) (v := ?_) (a' := ?_) #[true, true, true, true, true, true, true, true, true, true, false] rfl rfl (take_ofW HT_.out HW_.out (by kernel_rfl)) (fun _ _ _ h => h) (Or.inl ⟨by rfl, ?_⟩) hHeld ?_ ?_
                        rotate_left
                        · rintro w' ⟨s0, s1, s2, s3, s4, s5⟩
                          go_simp
                          with_reducible rfl
                        rotate_left
                        · simp only [Act.put, List.setIfInBounds_toArray, List.set_cons_zero, List.set_cons_succ, i64_w, i32_w]
                          rfl
                        refine pure_ (i := 10) (N := some 71) (v := ?_) (a' := ?_) #[true, true, true, true, true, true, true, true, true, true, true] rfl rfl (any_of HT_.out (by kernel_rfl)) (fun _ _ _ h => h) (Or.inl ⟨by rfl, ?_⟩) ?_ ?_
                        rotate_left
                        · intro w'
                          go_simp
                          with_reducible rfl
                        rotate_left
                        · simp only [Act.put, List.setIfInBounds_toArray, List.set_cons_zero, List.set_cons_succ, i64_w, i32_w]
                          rfl
                        refine done_ (done_of HT_.out (by kernel_rfl)) ?_
                        try go_wp2
                        go_roundg k2
                        case measure => have := HJ6.out; have := HK2.out; omega
                        case rel => exact ⟨(x13_2), (wrap64 (x14_2 + 1)), (by first | rfl | (simp; done) | (simp [*]; done)), (by first | rfl | (simp; done) | (simp [*]; done)), H', ⟨by have := HJ6.out; have := HK2.out; omega⟩, ⟨by (with_reducible repeat (first | apply Kd.R_alloc | apply Kd.R_drewN | apply Kd.R_drew)); exact HO_9.out⟩, ⟨by (with_reducible repeat (first | refine blk_drewN ?_ _ | refine blk_drew ?_ | refine blk_alloc ?_ _)); exact BK222.out⟩, ⟨by repeat (first | (with_reducible first | exact HB.out | apply below_alloc | apply pw_below_drewN | apply below_drew1 | refine below_set ?_ GE222.out) | exact HB.out)⟩⟩
                    · rw [if_neg c40] at H
                      exact absurd H (by simp)
                  · rw [if_neg c39] at H
                    exact absurd H (by simp)
                · rw [if_neg c38] at H
                  exact absurd H (by simp)
              · rw [if_neg c37] at H
                have c37b0 : decide (x14_2 < (x9_6.length : Int)) = false := decide_eq_false c37
                clear c37
                obtain ⟨y225, hy225⟩ : ∃ y_ : List (S43), y_ = (([] : List (S43))) := ⟨_, rfl⟩
                replace H : (if 0 ≤ x13_2 then (if x13_2 ≤ (x9_6.length : Int) then ((some (x9_6.take (x13_2 : Int).toNat : List (S43))).bind fun y228 => (if y225.length + y228.length < 4398046511104 then ((some (y225 ++ y228 : List (S43))).bind fun y232 => (if 0 ≤ (wrap64 (x13_2 + 1)) then (if (wrap64 (x13_2 + 1)) ≤ (x9_6.length : Int) then ((some (x9_6.drop ((wrap64 (x13_2 + 1)) : Int).toNat : List (S43))).bind fun y235 => (if y232.length + y235.length < 4398046511104 then ((some (y232 ++ y235 : List (S43))).bind fun y239 => (if y239.length < 4398046511104 then (some (y239 ++ [(⟨a1, ji29, (wrap64 (a3 + 600))⟩ : S43)])) else (none))) else (none))) else (none)) else (none))) else (none))) else (none)) else (none)) = some r := by first | (rw [hy225]; with_reducible exact H) | (have H2_ := (Option.bind_some _ _).symm.trans H; rw [hy225]; with_reducible exact H2_) | (have H2_ := (Option.bind_some _ _).symm.trans H; with_reducible exact H2_) | with_reducible exact H | (rw [hy225]; exact H) | exact H
                have Ny225 := Aside0.mk hy225
                clear hy225
                by_cases c44 : 0 ≤ x13_2
                · rw [if_pos c44] at H
                  have c44b0 := eq_true c44
                  have c44b1 : decide (0 ≤ x13_2) = true := decide_eq_true c44
                  clear c44
                  by_cases c45 : x13_2 ≤ (x9_6.length : Int)
                  · rw [if_pos c45] at H
                    have c45b0 := eq_true c45
                    have c45b1 : decide (x13_2 ≤ (x9_6.length : Int)) = true := decide_eq_true c45
                    clear c45
                    obtain ⟨y228, hy228⟩ : ∃ y_ : List (S43), y_ = (x9_6.take (x13_2 : Int).toNat) := ⟨_, rfl⟩
                    replace H : (if y225.length + y228.length < 4398046511104 then ((some (y225 ++ y228 : List (S43))).bind fun y232 => (if 0 ≤ (wrap64 (x13_2 + 1)) then (if (wrap64 (x13_2 + 1)) ≤ (x9_6.length : Int) then ((some (x9_6.drop ((wrap64 (x13_2 + 1)) : Int).toNat : List (S43))).bind fun y235 => (if y232.length + y235.length < 4398046511104 then ((some (y232 ++ y235 : List (S43))).bind fun y239 => (if y239.length < 4398046511104 then (some (y239 ++ [(⟨a1, ji29, (wrap64 (a3 + 600))⟩ : S43)])) else (none))) else (none))) else (none)) else (none))) else (none)) = some r := by first | (rw [hy228]; with_reducible exact H) | (have H2_ := (Option.bind_some _ _).symm.trans H; rw [hy228]; with_reducible exact H2_) | (have H2_ := (Option.bind_some _ _).symm.trans H; with_reducible exact H2_) | with_reducible exact H | (rw [hy228]; exact H) | exact H
                    have Ny228 := Aside0.mk hy228
                    clear hy228
                    by_cases c46 : y225.length + y228.length < 4398046511104
                    · rw [if_pos c46] at H
                      have LMc46 := Aside0.mk c46
                      clear c46
                      obtain ⟨y232, hy232⟩ : ∃ y_ : List (S43), y_ = (y225 ++ y228) := ⟨_, rfl⟩
                      replace H : (if 0 ≤ (wrap64 (x13_2 + 1)) then (if (wrap64 (x13_2 + 1)) ≤ (x9_6.length : Int) then ((some (x9_6.drop ((wrap64 (x13_2 + 1)) : Int).toNat : List (S43))).bind fun y235 => (if y232.length + y235.length < 4398046511104 then ((some (y232 ++ y235 : List (S43))).bind fun y239 => (if y239.length < 4398046511104 then (some (y239 ++ [(⟨a1, ji29, (wrap64 (a3 + 600))⟩ : S43)])) else (none))) else (none))) else (none)) else (none)) = some r := by first | (rw [hy232]; with_reducible exact H) | (have H2_ := (Option.bind_some _ _).symm.trans H; rw [hy232]; with_reducible exact H2_) | (have H2_ := (Option.bind_some _ _).symm.trans H; with_reducible exact H2_) | with_reducible exact H | (rw [hy232]; exact H) | exact H
                      have Ny232 := Aside0.mk hy232
                      clear hy232
                      obtain ⟨ji47, hji47⟩ : ∃ j_ : Int, (wrap64 (x13_2 + 1)) = j_ := ⟨_, rfl⟩
                      replace H : (if 0 ≤ (ji47) then (if (ji47) ≤ (x9_6.length : Int) then ((some (x9_6.drop ((ji47) : Int).toNat : List (S43))).bind fun y235 => (if y232.length + y235.length < 4398046511104 then ((some (y232 ++ y235 : List (S43))).bind fun y239 => (if y239.length < 4398046511104 then (some (y239 ++ [(⟨a1, ji29, (wrap64 (a3 + 600))⟩ : S43)])) else (none))) else (none))) else (none)) else (none)) = some r := by first | (rw [hji47] at H; exact H) | (simp only [hji47] at H ⊢; exact H)
                      have hji47w : (IntKind.i64.wrap (x13_2 + 1)) = ji47 := (i64_w _).trans hji47
                      by_cases c48 : 0 ≤ (ji47)
                      · rw [if_pos c48] at H
                        have c48b0 := eq_true c48
                        have c48b1 : decide (0 ≤ (ji47)) = true := decide_eq_true c48
                        clear c48
                        by_cases c49 : (ji47) ≤ (x9_6.length : Int)
                        · rw [if_pos c49] at H
                          have c49b0 := eq_true c49
                          have c49b1 : decide ((ji47) ≤ (x9_6.length : Int)) = true := decide_eq_true c49
                          clear c49
                          obtain ⟨y235, hy235⟩ : ∃ y_ : List (S43), y_ = (x9_6.drop ((ji47) : Int).toNat) := ⟨_, rfl⟩
                          replace H : (if y232.length + y235.length < 4398046511104 then ((some (y232 ++ y235 : List (S43))).bind fun y239 => (if y239.length < 4398046511104 then (some (y239 ++ [(⟨a1, ji29, (wrap64 (a3 + 600))⟩ : S43)])) else (none))) else (none)) = some r := by first | (rw [hy235]; with_reducible exact H) | (have H2_ := (Option.bind_some _ _).symm.trans H; rw [hy235]; with_reducible exact H2_) | (have H2_ := (Option.bind_some _ _).symm.trans H; with_reducible exact H2_) | with_reducible exact H | (rw [hy235]; exact H) | exact H
                          have Ny235 := Aside0.mk hy235
                          clear hy235
                          by_cases c50 : y232.length + y235.length < 4398046511104
                          · rw [if_pos c50] at H
                            have LMc50 := Aside0.mk c50
                            clear c50
                            obtain ⟨y239, hy239⟩ : ∃ y_ : List (S43), y_ = (y232 ++ y235) := ⟨_, rfl⟩
                            replace H : (if y239.length < 4398046511104 then (some (y239 ++ [(⟨a1, ji29, (wrap64 (a3 + 600))⟩ : S43)])) else (none)) = some r := by first | (rw [hy239]; with_reducible exact H) | (have H2_ := (Option.bind_some _ _).symm.trans H; rw [hy239]; with_reducible exact H2_) | (have H2_ := (Option.bind_some _ _).symm.trans H; with_reducible exact H2_) | with_reducible exact H | (rw [hy239]; exact H) | exact H
                            have Ny239 := Aside0.mk hy239
                            clear hy239
                            by_cases c51 : y239.length < 4398046511104
                            · rw [if_pos c51] at H
                              have LMc51 := Aside0.mk c51
                              clear c51
                              obtain ⟨y242, hy242⟩ : ∃ y_ : List (S43), y_ = (y239 ++ [(⟨a1, ji29, (wrap64 (a3 + 600))⟩ : S43)]) := ⟨_, rfl⟩
                              replace H : (some y242) = some r := by first | (rw [hy242]; with_reducible exact H) | (have H2_ := (Option.bind_some _ _).symm.trans H; rw [hy242]; with_reducible exact H2_) | (have H2_ := (Option.bind_some _ _).symm.trans H; with_reducible exact H2_) | with_reducible exact H | (rw [hy242]; exact H) | exact H
                              have Ny242 := Aside0.mk hy242
                              clear hy242
                              obtain rfl := Option.some.inj H
                              try go_wp2
                              have n0_ := Aside0.mk (Kd.R_drew HO_9.out)
                              have n1_ := Aside0.mk (blk_drew BK222.out)
                              have n2_ := Aside0.mk (below_drew1 HB.out)
                              clear HO_9
                              clear BK222
                              clear HB
                              have HO_9 := n0_
                              have BK222 := n1_
                              have HB := n2_
                              clear n0_ n1_ n2_
                              have q53 : (x13_2 : Int) ≤ ((x9_6.length : Int) : Int) := of_decide_eq_true (by first | (with_reducible assumption) | assumption)
                              obtain ⟨i053, hi053, _, hsz53, _⟩ := info_parts info43
                              have hroom53 : x9_6.length ≤ co36 := (Kd.R_reads' HO_9.out).2.1
                              have hC53 : Kd.C k43 _ Ao36 x9_6.length x9_6 := (Kd.R_reads' HO_9.out).2.2
                              have hcut53 := cut_to (P := Try.prog) 28 43 .i64 Try.underlying28 hi053 Ao36 x9_6.length co36 x13_2 (of_decide_eq_true (by first | (with_reducible assumption) | assumption)) q53 hroom53
                              have hr53 := Kd.C_take (m := (x13_2 : Int).toNat) hC53 (by omega)
                              have hy53 : y228.length = (x13_2 : Int).toNat := (by rw [Ny228.out, List.length_take]; omega)
                              rw [← Ny228.out] at hr53
                              rw [← hy53] at hcut53
                              have HR231 := Aside0.mk hr53
                              have HC231 := Aside0.mk (show y228.length ≤ co36 from by omega)
                              clear hr53 hC53 hroom53 hi053 hsz53
                              have KY53 := Aside0.mk hy53
                              clear hy53
                              have KL53 := Aside0.mk (show (x13_2 : Int).toNat ≤ x9_6.length from by omega)
                              replace q53 := eq_true q53
                              have q54 : ((ji47) : Int) ≤ ((x9_6.length : Int) : Int) := of_decide_eq_true (by first | (with_reducible assumption) | assumption)
                              obtain ⟨i054, hi054, _, hsz54, _⟩ := info_parts info43
                              have hroom54 : x9_6.length ≤ co36 := (Kd.R_reads' HO_9.out).2.1
                              have hC54 : Kd.C k43 _ Ao36 x9_6.length x9_6 := (Kd.R_reads' HO_9.out).2.2
                              have q054 : (0 : Int) ≤ ((ji47) : Int) := of_decide_eq_true (by first | (with_reducible assumption) | assumption)
                              have hcut54 := cut_from (P := Try.prog) 28 43 .i64 Try.underlying28 hi054 3 hsz54 Ao36 x9_6.length co36 (ji47) q054 q54
                              have hr54 := Kd.C_drop (m := ((ji47) : Int).toNat) (c := co36) hC54 (by omega) hroom54
                              obtain ⟨A54, hA54⟩ : ∃ A1, A1 = (if co36 = ((ji47) : Int).toNat then Ao36 else (Ao36 : Option Addr).map (·.add (((ji47) : Int).toNat * 3))) := ⟨_, rfl⟩
                              obtain ⟨c54, hc54⟩ : ∃ c1, c1 = co36 - ((ji47) : Int).toNat := ⟨_, rfl⟩
                              have hy54 : y235.length = x9_6.length - ((ji47) : Int).toNat := (by rw [Ny235.out, List.length_drop] <;> omega)
                              rw [show (x9_6).drop ((ji47) : Int).toNat = y235 from Ny235.out.symm] at hr54
                              replace hr54 : Kd.C k43 _ A54 y235.length y235 := (by rw [hA54]; exact hr54)
                              rw [← hy54, ← hA54, ← hc54] at hcut54
                              have HR238 := Aside0.mk hr54
                              have HC238 := Aside0.mk (show y235.length ≤ c54 from by rw [hy54, hc54]; exact Nat.sub_le_sub_right hroom54 _)
                              clear hr54 hC54 hroom54 hi054 hsz54 hc54
                              have KY54 := Aside0.mk hy54
                              have KA54 := Aside0.mk hA54
                              clear hy54 hA54
                              have KL54 := Aside0.mk (show ((ji47) : Int).toNat ≤ x9_6.length from by omega)
                              replace q54 := eq_true q54
                              refine start_ (n := 11) (S := fun w' => True) (ds := []) #[false, false, false, false, false, false, false, false, false, false, false] (by kernel_rfl) rfl rfl trivial (fun hHeld => ?_); refine with_tabW spec_l15Learn.tab17 spec_l15Learn.bits17 (fun HT_ HW_ => ?_)
                              generalize wr.drew = w52 at HO_9 BK222 HB HR231 HR238 hHeld ⊢
                              refine pure_ (i := 1) (N := some 74) (v := ?_) (a' := ?_) #[false, true, false, false, false, false, false, false, false, false, false] rfl rfl (any_of HT_.out (by kernel_rfl)) (fun _ _ _ h => h) (Or.inl ⟨by rfl, ?_⟩) ?_ ?_
                              rotate_left
                              · intro w'
                                go_simp
                                with_reducible rfl
                              rotate_left
                              · simp only [Act.put, List.setIfInBounds_toArray, List.set_cons_zero, List.set_cons_succ, i64_w, i32_w]
                                rfl
                              refine pure_ (i := 2) (N := some 75) (v := ?_) (a' := ?_) #[false, true, true, false, false, false, false, false, false, false, false] rfl rfl (any_of HT_.out (by kernel_rfl)) (fun _ _ _ h => h) (Or.inl ⟨by rfl, ?_⟩) ?_ ?_
                              rotate_left
                              · intro w'
                                go_simp
                                with_reducible rfl
                              rotate_left
                              · simp only [Act.put, List.setIfInBounds_toArray, List.set_cons_zero, List.set_cons_succ, i64_w, i32_w]
                                rfl
                              refine pure_ (i := 3) (N := some 76) (v := ?_) (a' := ?_) #[false, true, true, true, false, false, false, false, false, false, false] rfl rfl (any_of HT_.out (by kernel_rfl)) (fun _ _ _ h => h) (Or.inl ⟨by rfl, ?_⟩) ?_ ?_
                              rotate_left
                              · intro w'
                                go_simp
                                with_reducible rfl
                              rotate_left
                              · simp only [Act.put, List.setIfInBounds_toArray, List.set_cons_zero, List.set_cons_succ, i64_w, i32_w]
                                rfl
                              refine pure_ (i := 5) (N := some 78) (v := ?_) (a' := ?_) #[false, true, true, true, false, true, false, false, false, false, false] rfl rfl (any_of HT_.out (by kernel_rfl)) (fun _ _ _ h => h) (Or.inl ⟨by rfl, ?_⟩) ?_ ?_
                              rotate_left
                              · intro w'
                                go_simp
                                with_reducible rfl
                              rotate_left
                              · simp only [Act.put, List.setIfInBounds_toArray, List.set_cons_zero, List.set_cons_succ, i64_w, i32_w]
                                rfl
                              refine pure_ (i := 6) (N := some 79) (v := ?_) (a' := ?_) #[false, true, true, true, false, true, true, false, false, false, false] rfl rfl (any_of HT_.out (by kernel_rfl)) (fun _ _ _ h => h) (Or.inl ⟨by rfl, ?_⟩) ?_ ?_
                              rotate_left
                              · intro w'
                                go_simp
                                with_reducible rfl
                              rotate_left
                              · simp only [Act.put, List.setIfInBounds_toArray, List.set_cons_zero, List.set_cons_succ, i64_w, i32_w]
                                rfl
                              refine pure_ (i := 7) (N := some 80) (v := ?_) (a' := ?_) #[false, true, true, true, false, true, true, true, false, false, false] rfl rfl (any_of HT_.out (by kernel_rfl)) (fun _ _ _ h => h) (Or.inl ⟨by rfl, ?_⟩) ?_ ?_
                              rotate_left
                              · intro w'
                                go_simp
                                with_reducible rfl
                              rotate_left
                              · simp only [Act.put, List.setIfInBounds_toArray, List.set_cons_zero, List.set_cons_succ, i64_w, i32_w]
                                rfl
                              refine pure_ (i := 8) (N := some 81) (v := ?_) (a' := ?_) #[false, true, true, true, false, true, true, true, true, false, false] rfl rfl (any_of HT_.out (by kernel_rfl)) (fun _ _ _ h => h) (Or.inl ⟨by rfl, ?_⟩) ?_ ?_
                              rotate_left
                              · intro w'
                                go_simp
                                with_reducible rfl
                              rotate_left
                              · simp only [Act.put, List.setIfInBounds_toArray, List.set_cons_zero, List.set_cons_succ, i64_w, i32_w]
                                rfl
                              refine one_ (i := 0) (N := some 73) #[true, true, true, true, false, true, true, true, true, false, false] rfl rfl (one_of HT_.out (by kernel_rfl)) (by decide) (fun K hK => ?_)
                              refine Kd.R_lit_step k43 _ 43 ?hg (N := 73) ?hd (xs := ([] : List (S43))) (inner := []) (ok := fun _ => True) (okp := fun _ => True) ?hr ?hp (fun _ hk => hk) trivial (Below.refl _ _) (Nat.le_refl _) (by simp) ?_; (case hd => rfl); (case hg => rfl); (case hr => first | (go_simp; done) | (go_simp; rfl)); (case hp => exact (Reps.none _ _))
                              intro v226 w55 ho56 hb hg_ hnew_
                              clear hg_ hnew_
                              (first | rw [← Ny225.out] at ho56 | (simp only [Int.reduceToNat] at ho56; rw [← Ny225.out] at ho56))
                              have n0_ := Aside0.mk (Kd.R_elder' (by (with_reducible repeat (first | apply Kd.R_alloc | apply Kd.R_drewN | apply Kd.R_drew)); exact HO_9.out) (Kd.R_base ho56) hb)
                              have n1_ := Aside0.mk (Kd.R_lower (Kd.R_newB (Kd.R_new' ho56 (Kd.R_lt (by (with_reducible repeat (first | apply Kd.R_alloc | apply Kd.R_drewN | apply Kd.R_drew)); exact HO_9.out))) (g := gb222) (o := .cells #[.string a1, .int .i64 ji29, .int .i64 (wrap64 (a3 + 600))] 43 (0, 0)) (by (with_reducible repeat (first | refine blk_drewN ?_ _ | refine blk_drew ?_ | refine blk_alloc ?_ _)); exact BK222.out)) (below_size (by repeat (first | (with_reducible first | exact HB.out | apply below_alloc | apply pw_below_drewN | apply below_drew1 | refine below_set ?_ GE222.out) | exact HB.out))))
                              have n2_ := Aside0.mk (blk_below (g := gb222) (o := .cells #[.string a1, .int .i64 ji29, .int .i64 (wrap64 (a3 + 600))] 43 (0, 0)) (by (with_reducible repeat (first | refine blk_drewN ?_ _ | refine blk_drew ?_ | refine blk_alloc ?_ _)); exact BK222.out) hb)
                              have n3_ := Aside0.mk (Kd.C_below (by repeat (first | (with_reducible exact HR231.out) | (with_reducible refine Kd.C_alloc ?_ _) | (with_reducible refine Kd.C_drewN ?_ _) | (with_reducible refine Kd.C_drew ?_) | exact HR231.out)) hb)
                              have n4_ := Aside0.mk (Kd.C_below (by repeat (first | (with_reducible exact HR238.out) | (with_reducible refine Kd.C_alloc ?_ _) | (with_reducible refine Kd.C_drewN ?_ _) | (with_reducible refine Kd.C_drew ?_) | exact HR238.out)) hb)
                              have n5_ := Aside0.mk (below_step (by repeat (first | (with_reducible first | exact HB.out | apply below_alloc | apply pw_below_drewN | apply below_drew1 | refine below_set ?_ GE222.out) | exact HB.out)) hb)
                              clear HO_9
                              clear BK222
                              clear HR231
                              clear HR238
                              clear HB
                              have HO_9 := n0_
                              have HO227 := n1_
                              have BK222 := n2_
                              have HR231 := n3_
                              have HR238 := n4_
                              have HB := n5_
                              clear n0_ n1_ n2_ n3_ n4_ n5_
                              clear hb ho56
                              refine hK.out _ _ trivial (fun hHeld => ?_)
                              clear hK K
                              refine norm_ (a' := ?_) ?_ ?_
                              rotate_left
                              · show Act.put _ (some 73) _ = _
                                simp only [Act.put, List.setIfInBounds_toArray, List.set_cons_zero, List.set_cons_succ, i64_w, i32_w]
                                rfl
                              refine one_ (i := 4) (N := some 77) #[true, true, true, true, true, true, true, true, true, false, false] rfl rfl (one_of HT_.out (by kernel_rfl)) (by decide) (fun K hK => ?_)
                              refine Kd.R_append_rows_step k43 (w0 := w) w.heap.size (by rfl) (.tmp 73) (.tmp 76) 28 43 (.agg #[(.string ⟨#[]⟩), (.int .i64 0), (.int .i64 0)]) 32 rfl Try.underlying28 info43 rfl (by decide) (by omega) v226 y225 y228 _ _ _ (fun k_ => some k_ ≠ (.slice Ao36 x9_6.length co36 : Value).ownBlock ∧ k_ ≠ gb222) (fun _ => False) rfl rfl ?aO ?aR (fun _ _ h => h) (fun _ h => h.elim) ?aF ?aB ?aS ?aL ?_
                              (case aR => repeat (first | exact (by repeat (first | (with_reducible exact HR231.out) | (with_reducible refine Kd.C_alloc ?_ _) | (with_reducible refine Kd.C_drewN ?_ _) | (with_reducible refine Kd.C_drew ?_) | exact HR231.out)) | (with_reducible refine Kd.C_alloc ?_ _) | (with_reducible refine Kd.C_drewN ?_ _) | (with_reducible refine Kd.C_drew ?_)))
                              (case aB => exact (by repeat (first | (with_reducible first | exact HB.out | apply below_alloc | apply pw_below_drewN | apply below_drew1 | refine below_set ?_ GE222.out) | exact HB.out)))
                              (case aF => exact (fun k_ hk => ⟨Kd.fresh' (Kd.R_lt (by (with_reducible repeat (first | apply Kd.R_alloc | apply Kd.R_drewN | apply Kd.R_drew)); exact HO_9.out)) k_ hk, Kd.freshB (g := gb222) (o := .cells #[.string a1, .int .i64 ji29, .int .i64 (wrap64 (a3 + 600))] 43 (0, 0)) (by (with_reducible repeat (first | refine blk_drewN ?_ _ | refine blk_drew ?_ | refine blk_alloc ?_ _)); exact BK222.out) k_ hk⟩))
                              (case aO => exact (by (with_reducible repeat (first | apply Kd.R_alloc | apply Kd.R_drewN | apply Kd.R_drew)); exact Kd.R_mono HO227.out (fun _ hk => ⟨hk.1.2, hk.2⟩)))
                              (case aS => exact (below_size (by repeat (first | (with_reducible first | exact HB.out | apply below_alloc | apply pw_below_drewN | apply below_drew1 | refine below_set ?_ GE222.out) | exact HB.out))))
                              (case aL => have := LMc46.out; omega)
                              intro v233 w57 ho hb hg hat
                              rw [← Ny232.out] at ho
                              have n0_ := Aside0.mk (Kd.R_after (ok := (fun k_ => k_ ≠ gb222)) (by (with_reducible repeat (first | apply Kd.R_alloc | apply Kd.R_drewN | apply Kd.R_drew)); exact HO_9.out) hg hat)
                              have n1_ := Aside0.mk (blk_grown (g := gb222) (o := .cells #[.string a1, .int .i64 ji29, .int .i64 (wrap64 (a3 + 600))] 43 (0, 0)) (by (with_reducible repeat (first | refine blk_drewN ?_ _ | refine blk_drew ?_ | refine blk_alloc ?_ _)); exact BK222.out) hg (Kd.R_away HO227.out (fun _ hk => hk.2)))
                              have n2_ := Aside0.mk (hb)
                              have n3_ := Aside0.mk ((show Kd.C k43 w57 Ao36 y228.length y228 from by rw [Ny228.out]; exact Kd.C_take (m := (x13_2 : Int).toNat) ((Kd.R_reads' (Kd.R_after (ok := (fun k_ => k_ ≠ gb222)) (by (with_reducible repeat (first | apply Kd.R_alloc | apply Kd.R_drewN | apply Kd.R_drew)); exact HO_9.out) hg hat)).2.2) KL53.out))
                              have n4_ := Aside0.mk ((show Kd.C k43 w57 A54 y235.length y235 from by rw [Ny235.out, KA54.out]; exact Kd.C_drop (m := ((ji47) : Int).toNat) (c := co36) ((Kd.R_reads' (Kd.R_after (ok := (fun k_ => k_ ≠ gb222)) (by (with_reducible repeat (first | apply Kd.R_alloc | apply Kd.R_drewN | apply Kd.R_drew)); exact HO_9.out) hg hat)).2.2) KL54.out ((Kd.R_reads' (Kd.R_after (ok := (fun k_ => k_ ≠ gb222)) (by (with_reducible repeat (first | apply Kd.R_alloc | apply Kd.R_drewN | apply Kd.R_drew)); exact HO_9.out) hg hat)).2.1)))
                              have n5_ := Aside0.mk (ho)
                              clear HO_9
                              clear BK222
                              clear HB
                              clear HR231
                              clear HR238
                              clear HO227
                              have HO_9 := n0_
                              have BK222 := n1_
                              have HB := n2_
                              have HR231 := n3_
                              have HR238 := n4_
                              have HO234 := n5_
                              clear n0_ n1_ n2_ n3_ n4_ n5_
                              clear ho hb hg hat
                              refine hK.out _ _ trivial (fun hHeld => ?_)
                              clear hK K
                              refine norm_ (a' := ?_) ?_ ?_
                              rotate_left
                              · show Act.put _ (some 77) _ = _
                                simp only [Act.put, List.setIfInBounds_toArray, List.set_cons_zero, List.set_cons_succ, i64_w, i32_w]
                                rfl
                              refine one_ (i := 9) (N := some 82) #[true, true, true, true, true, true, true, true, true, true, false] rfl rfl (one_of HT_.out (by kernel_rfl)) (by decide) (fun K hK => ?_)
                              refine Kd.R_append_rows_step k43 (w0 := w) w.heap.size (by rfl) (.tmp 77) (.tmp 81) 28 43 (.agg #[(.string ⟨#[]⟩), (.int .i64 0), (.int .i64 0)]) 32 rfl Try.underlying28 info43 rfl (by decide) (by omega) v233 y232 y235 _ _ _ (fun k_ => some k_ ≠ (.slice Ao36 x9_6.length co36 : Value).ownBlock ∧ k_ ≠ gb222) (fun _ => False) rfl rfl ?aO ?aR (fun _ _ h => h) (fun _ h => h.elim) ?aF ?aB ?aS ?aL ?_
                              (case aR => repeat (first | exact (by repeat (first | (with_reducible exact HR238.out) | (with_reducible refine Kd.C_alloc ?_ _) | (with_reducible refine Kd.C_drewN ?_ _) | (with_reducible refine Kd.C_drew ?_) | exact HR238.out)) | (with_reducible refine Kd.C_alloc ?_ _) | (with_reducible refine Kd.C_drewN ?_ _) | (with_reducible refine Kd.C_drew ?_)))
                              (case aB => exact (by repeat (first | (with_reducible first | exact HB.out | apply below_alloc | apply pw_below_drewN | apply below_drew1 | refine below_set ?_ GE222.out) | exact HB.out)))
                              (case aF => exact (fun k_ hk => ⟨Kd.fresh' (Kd.R_lt (by (with_reducible repeat (first | apply Kd.R_alloc | apply Kd.R_drewN | apply Kd.R_drew)); exact HO_9.out)) k_ hk, Kd.freshB (g := gb222) (o := .cells #[.string a1, .int .i64 ji29, .int .i64 (wrap64 (a3 + 600))] 43 (0, 0)) (by (with_reducible repeat (first | refine blk_drewN ?_ _ | refine blk_drew ?_ | refine blk_alloc ?_ _)); exact BK222.out) k_ hk⟩))
                              (case aO => exact (by (with_reducible repeat (first | apply Kd.R_alloc | apply Kd.R_drewN | apply Kd.R_drew)); exact HO234.out))
                              (case aS => exact (below_size (by repeat (first | (with_reducible first | exact HB.out | apply below_alloc | apply pw_below_drewN | apply below_drew1 | refine below_set ?_ GE222.out) | exact HB.out))))
                              (case aL => have := LMc50.out; omega)
                              intro v240 w58 ho hb hg hat
                              rw [← Ny239.out] at ho
                              have n0_ := Aside0.mk (Kd.R_after (ok := (fun k_ => k_ ≠ gb222)) (by (with_reducible repeat (first | apply Kd.R_alloc | apply Kd.R_drewN | apply Kd.R_drew)); exact HO_9.out) hg hat)
                              have n1_ := Aside0.mk (blk_grown (g := gb222) (o := .cells #[.string a1, .int .i64 ji29, .int .i64 (wrap64 (a3 + 600))] 43 (0, 0)) (by (with_reducible repeat (first | refine blk_drewN ?_ _ | refine blk_drew ?_ | refine blk_alloc ?_ _)); exact BK222.out) hg (Kd.R_away HO234.out (fun _ hk => hk.2)))
                              have n2_ := Aside0.mk (hb)
                              have n3_ := Aside0.mk ((show Kd.C k43 w58 Ao36 y228.length y228 from by rw [Ny228.out]; exact Kd.C_take (m := (x13_2 : Int).toNat) ((Kd.R_reads' (Kd.R_after (ok := (fun k_ => k_ ≠ gb222)) (by (with_reducible repeat (first | apply Kd.R_alloc | apply Kd.R_drewN | apply Kd.R_drew)); exact HO_9.out) hg hat)).2.2) KL53.out))
                              have n4_ := Aside0.mk ((show Kd.C k43 w58 A54 y235.length y235 from by rw [Ny235.out, KA54.out]; exact Kd.C_drop (m := ((ji47) : Int).toNat) (c := co36) ((Kd.R_reads' (Kd.R_after (ok := (fun k_ => k_ ≠ gb222)) (by (with_reducible repeat (first | apply Kd.R_alloc | apply Kd.R_drewN | apply Kd.R_drew)); exact HO_9.out) hg hat)).2.2) KL54.out ((Kd.R_reads' (Kd.R_after (ok := (fun k_ => k_ ≠ gb222)) (by (with_reducible repeat (first | apply Kd.R_alloc | apply Kd.R_drewN | apply Kd.R_drew)); exact HO_9.out) hg hat)).2.1)))
                              have n5_ := Aside0.mk (ho)
                              clear HO_9
                              clear BK222
                              clear HB
                              clear HR231
                              clear HR238
                              clear HO234
                              have HO_9 := n0_
                              have BK222 := n1_
                              have HB := n2_
                              have HR231 := n3_
                              have HR238 := n4_
                              have HO241 := n5_
                              clear n0_ n1_ n2_ n3_ n4_ n5_
                              clear ho hb hg hat
                              refine hK.out _ _ trivial (fun hHeld => ?_)
                              clear hK K
                              refine norm_ (a' := ?_) ?_ ?_
                              rotate_left
                              · show Act.put _ (some 82) _ = _
                                simp only [Act.put, List.setIfInBounds_toArray, List.set_cons_zero, List.set_cons_succ, i64_w, i32_w]
                                rfl
                              refine pure_ (i := 10) (N := some 9) (v := ?_) (a' := ?_) #[true, true, true, true, true, true, true, true, true, true, true] rfl rfl (any_of HT_.out (by kernel_rfl)) (fun _ _ _ h => h) (Or.inl ⟨by rfl, ?_⟩) ?_ ?_
                              rotate_left
                              · intro w'
                                go_simp
                                with_reducible rfl
                              rotate_left
                              · simp only [Act.put, List.setIfInBounds_toArray, List.set_cons_zero, List.set_cons_succ, i64_w, i32_w]
                                rfl
                              refine done_ (done_of HT_.out (by kernel_rfl)) ?_
                              have hcz59_0 : w58.cell? ⟨gb222, 0, none⟩ = some (.string a1) := (blk_cell BK222.out 0).trans rfl
                              have hcz59_1 : w58.cell? ⟨gb222, 1, none⟩ = some (.int .i64 ji29) := (blk_cell BK222.out 1).trans rfl
                              have hcz59_2 : w58.cell? ⟨gb222, 2, none⟩ = some (.int .i64 (wrap64 (a3 + 600))) := (blk_cell BK222.out 2).trans rfl
                              have hfz59_0 := blk_frozen BK222.out 0
                              have hfz59_1 := blk_frozen BK222.out 1
                              have hfz59_2 := blk_frozen BK222.out 2
                              try go_wp2_with (first | ((with_reducible refine gate_builtin (b := .append) (xs := #[.tmp 83, .tmp 85]) rfl ?_); at_builtin; refine Kd.R_append k43 (w0 := w) w.heap.size rfl (.tmp 83) (.tmp 85) 28 43 (.agg #[(.string ⟨#[]⟩), (.int .i64 0), (.int .i64 0)]) 32 rfl Try.underlying28 info43 rfl (by decide) (by omega) v240 y239 (⟨a1, ji29, (wrap64 (a3 + 600))⟩ : S43) [.string a1, .int .i64 ji29, .int .i64 (wrap64 (a3 + 600))] (fun k_ => some k_ ≠ (.slice Ao36 x9_6.length co36 : Value).ownBlock ∧ k_ ≠ gb222) (fun _ => False) rfl rfl ?aP (fun _ hk => hk.elim) ?aF ?aO ?aB ?aS ?aL ?_; (case aP => exact k43_mkM _ _ _ (⟨a1, ji29, (wrap64 (a3 + 600))⟩ : S43)); (case aB => exact (by repeat (first | (with_reducible first | exact HB.out | apply below_alloc | apply pw_below_drewN | apply below_drew1 | refine below_set ?_ GE222.out) | exact HB.out))); (case aF => exact (fun k_ hk => ⟨Kd.fresh' (Kd.R_lt (by (with_reducible repeat (first | apply Kd.R_alloc | apply Kd.R_drewN | apply Kd.R_drew)); exact HO_9.out)) k_ hk, Kd.freshB (g := gb222) (o := .cells #[.string a1, .int .i64 ji29, .int .i64 (wrap64 (a3 + 600))] 43 (0, 0)) (by (with_reducible repeat (first | refine blk_drewN ?_ _ | refine blk_drew ?_ | refine blk_alloc ?_ _)); exact BK222.out) k_ hk⟩)); (case aO => exact (by (with_reducible repeat (first | apply Kd.R_alloc | apply Kd.R_drewN | apply Kd.R_drew)); exact HO241.out)); (case aS => exact (below_size (by repeat (first | (with_reducible first | exact HB.out | apply below_alloc | apply pw_below_drewN | apply below_drew1 | refine below_set ?_ GE222.out) | exact HB.out)))); (case aL => have := LMc51.out; omega); intro v243 w60 ho hb hg hat; rw [← Ny242.out] at ho; have n0_ := Aside0.mk (Kd.R_after (ok := (fun k_ => k_ ≠ gb222)) (by (with_reducible repeat (first | apply Kd.R_alloc | apply Kd.R_drewN | apply Kd.R_drew)); exact HO_9.out) hg hat); have n1_ := Aside0.mk (blk_grown (g := gb222) (o := .cells #[.string a1, .int .i64 ji29, .int .i64 (wrap64 (a3 + 600))] 43 (0, 0)) (by (with_reducible repeat (first | refine blk_drewN ?_ _ | refine blk_drew ?_ | refine blk_alloc ?_ _)); exact BK222.out) hg (Kd.R_away HO241.out (fun _ hk => hk.2))); have n2_ := Aside0.mk (hb); have n3_ := Aside0.mk ((show Kd.C k43 w60 Ao36 y228.length y228 from by rw [Ny228.out]; exact Kd.C_take (m := (x13_2 : Int).toNat) ((Kd.R_reads' (Kd.R_after (ok := (fun k_ => k_ ≠ gb222)) (by (with_reducible repeat (first | apply Kd.R_alloc | apply Kd.R_drewN | apply Kd.R_drew)); exact HO_9.out) hg hat)).2.2) KL53.out)); have n4_ := Aside0.mk ((show Kd.C k43 w60 A54 y235.length y235 from by rw [Ny235.out, KA54.out]; exact Kd.C_drop (m := ((ji47) : Int).toNat) (c := co36) ((Kd.R_reads' (Kd.R_after (ok := (fun k_ => k_ ≠ gb222)) (by (with_reducible repeat (first | apply Kd.R_alloc | apply Kd.R_drewN | apply Kd.R_drew)); exact HO_9.out) hg hat)).2.2) KL54.out ((Kd.R_reads' (Kd.R_after (ok := (fun k_ => k_ ≠ gb222)) (by (with_reducible repeat (first | apply Kd.R_alloc | apply Kd.R_drewN | apply Kd.R_drew)); exact HO_9.out) hg hat)).2.1))); have n5_ := Aside0.mk (ho); clear HO_9; clear BK222; clear HB; clear HR231; clear HR238; clear HO241; have HO_9 := n0_; have BK222 := n1_; have HB := n2_; have HR231 := n3_; have HR238 := n4_; have HO244 := n5_; clear n0_ n1_ n2_ n3_ n4_ n5_; clear ho hb hg hat))
                              go_ret
                              exact ⟨_, by first | rfl | (simp [errW_none, errW_some] <;> rfl) | (simp only [← hji28, ← hji29, ← hji47]; first | rfl | (simp [errW_none, errW_some] <;> rfl)) | (simp [*, errW_none, errW_some] <;> rfl), by (with_reducible repeat (first | apply Kd.R_alloc | apply Kd.R_drewN | apply Kd.R_drew)); exact Kd.R_mono HO244.out (fun _ hk => trivial), by repeat (first | (with_reducible first | exact HB.out | apply below_alloc | apply pw_below_drewN | apply below_drew1 | refine below_set ?_ GE222.out) | exact HB.out)⟩
                            · rw [if_neg c51] at H
                              exact absurd H (by simp)
                          · rw [if_neg c50] at H
                            exact absurd H (by simp)
                        · rw [if_neg c49] at H
                          exact absurd H (by simp)
                      · rw [if_neg c48] at H
                        exact absurd H (by simp)
                    · rw [if_neg c46] at H
                      exact absurd H (by simp)
                  · rw [if_neg c45] at H
                    exact absurd H (by simp)
                · rw [if_neg c44] at H
                  exact absurd H (by simp)
        · rw [if_neg c33] at H
          have c33b0 : ((x9_6.length : Int) == 8) = false := beq_eq_false_iff_ne.mpr c33
          have c33b1 : ((x9_6.length : Int) != 8) = true := bne_iff_ne.mpr c33
          by_cases c61 : x9_6.length < 4398046511104
          · rw [if_pos c61] at H
            have LMc61 := Aside0.mk c61
            clear c61
            obtain ⟨y245, hy245⟩ : ∃ y_ : List (S43), y_ = (x9_6 ++ [(⟨a1, ji29, wrap64 (a3 + 600)⟩ : S43)]) := ⟨_, rfl⟩
            replace H : (some y245) = some r := by first | (rw [hy245]; with_reducible exact H) | (have H2_ := (Option.bind_some _ _).symm.trans H; rw [hy245]; with_reducible exact H2_) | (have H2_ := (Option.bind_some _ _).symm.trans H; with_reducible exact H2_) | with_reducible exact H | (rw [hy245]; exact H) | exact H
            have Ny245 := Aside0.mk hy245
            clear hy245
            obtain rfl := Option.some.inj H
            go_wp2_with (first | ((with_reducible refine gate_callee (f := 27) rfl ?_); refine goesL_ (some 42) rfl rfl Try.func27 (by kernel_rfl) rfl #[.string a1] rfl (by (try simp only [List.map_toArray, List.map_cons, List.map_nil]); first | done | rfl | (simp only [List.length_drop, List.length_take]; rfl)) ?_; (with_reducible refine (spec_l15Least.calls a1 t221 _ A27.out).mono ?_); rintro e w' ⟨rfl, ⟨nd, rfl⟩⟩; refine ⟨_, rfl, ?_⟩; (try (rw [drewN_self wc]; generalize hq_ : World.drewN wc _ = wc; have n0_ : Aside0 (Kd.R k43 43 wc w.heap.size (fun _ => True) u9 x9_6) := ⟨by rw [← hq_]; exact (by (with_reducible repeat (first | apply Kd.R_alloc | apply Kd.R_drewN | apply Kd.R_drew)); exact HO_9.out)⟩; have n1_ : Aside0 (Below w.heap.size w wc) := ⟨by rw [← hq_]; exact (by repeat (first | (with_reducible first | exact HB.out | apply below_alloc | apply pw_below_drewN | apply below_drew1) | exact HB.out))⟩; clear HO_9 HB hq_; have HO_9 := n0_; have HB := n1_; clear n0_ n1_))) | ((with_reducible refine gate_dst (N := 12) rfl ?_); refine box_event ?hg (N := 12) ?hd (cs := #[.string (⟨#[]⟩ : ByteArray), .int .i64 0, .int .i64 0]) (t := 43) ?hr ?_; (case hd => rfl); (case hg => rfl); (case hr => first | (go_simp; done) | (go_simp; rfl)); intro gb222 hg w62 hbox hb; have n0_ := Aside0.mk (Kd.R_below (Kd.R_elderB (by (with_reducible repeat (first | apply Kd.R_alloc | apply Kd.R_drewN | apply Kd.R_drew)); exact HO_9.out) gb222 (Nat.le_of_eq hg.symm)) hb); have n1_ := Aside0.mk (below_step (by repeat (first | (with_reducible first | exact HB.out | apply below_alloc | apply pw_below_drewN | apply below_drew1) | exact HB.out)) hb); have n2_ := Aside0.mk (hbox); have n3_ := Aside0.mk ((by rw [hg]; exact (below_size (by repeat (first | (with_reducible first | exact HB.out | apply below_alloc | apply pw_below_drewN | apply below_drew1) | exact HB.out))) : w.heap.size ≤ gb222)); have n4_ := Aside0.mk ((by rw [hg]; exact (below_size (by repeat (first | (with_reducible first | exact HB.out | apply below_alloc | apply pw_below_drewN | apply below_drew1) | exact HB.out))) : w.heap.size ≤ gb222)); clear HO_9; clear HB; have HO_9 := n0_; have HB := n1_; have BK222 := n2_; have GW222 := n3_; have GE222 := n4_; clear n0_ n1_ n2_ n3_ n4_; clear hb hbox hg; have hcz63_0 : w62.cell? ⟨gb222, 0, none⟩ = some (.string (⟨#[]⟩ : ByteArray)) := (blk_cell BK222.out 0).trans rfl; have hcz63_1 : w62.cell? ⟨gb222, 1, none⟩ = some (.int .i64 0) := (blk_cell BK222.out 1).trans rfl; have hcz63_2 : w62.cell? ⟨gb222, 2, none⟩ = some (.int .i64 0) := (blk_cell BK222.out 2).trans rfl; have hfz63_0 := blk_frozen BK222.out 0; have hfz63_1 := blk_frozen BK222.out 1; have hfz63_2 := blk_frozen BK222.out 2; obtain ⟨Ao64, co64, eo64⟩ := Kd.R_slice HO_9.out; subst eo64) | ((with_reducible refine gate_builtin (b := .append) (xs := #[.tmp 83, .tmp 85]) rfl ?_); at_builtin; refine Kd.R_append k43 (w0 := w) w.heap.size rfl (.tmp 83) (.tmp 85) 28 43 (.agg #[(.string ⟨#[]⟩), (.int .i64 0), (.int .i64 0)]) 32 rfl Try.underlying28 info43 rfl (by decide) (by omega) (.slice Ao64 x9_6.length co64) x9_6 (⟨a1, ji29, wrap64 (a3 + 600)⟩ : S43) [.string a1, .int .i64 ji29, .int .i64 (wrap64 (a3 + 600))] (fun k_ => k_ ≠ gb222) (fun _ => False) rfl (by first | (go_simp; done) | (go_simp; rfl)) ?aP (fun _ hk => hk.elim) ?aF ?aO ?aB ?aS ?aL ?_; (case aP => exact k43_mkM _ _ _ (⟨a1, ji29, wrap64 (a3 + 600)⟩ : S43)); (case aB => exact (by repeat (first | (with_reducible first | exact HB.out | apply below_alloc | apply pw_below_drewN | apply below_drew1 | refine below_set ?_ GE222.out) | exact HB.out))); (case aF => exact (fun k_ hk => Kd.freshB (g := gb222) (o := .cells #[.string a1, .int .i64 ji29, .int .i64 (wrap64 (a3 + 600))] 43 (0, 0)) (by (with_reducible repeat (first | refine blk_drewN ?_ _ | refine blk_drew ?_ | refine blk_alloc ?_ _)); refine blk_put (cs := #[.string a1, .int .i64 ji29, .int .i64 0]) ?_ 2 _ rfl; (with_reducible repeat (first | refine blk_drewN ?_ _ | refine blk_drew ?_ | refine blk_alloc ?_ _)); refine blk_put (cs := #[.string a1, .int .i64 0, .int .i64 0]) ?_ 1 _ rfl; (with_reducible repeat (first | refine blk_drewN ?_ _ | refine blk_drew ?_ | refine blk_alloc ?_ _)); refine blk_put (cs := #[.string (⟨#[]⟩ : ByteArray), .int .i64 0, .int .i64 0]) ?_ 0 _ rfl; (with_reducible repeat (first | refine blk_drewN ?_ _ | refine blk_drew ?_ | refine blk_alloc ?_ _)); exact BK222.out) k_ hk)); (case aO => exact (by (with_reducible repeat (first | apply Kd.R_alloc | apply Kd.R_drewN | apply Kd.R_drew)); exact Kd.R_mono (Kd.R_far (p := ⟨gb222, 2, none⟩) (Kd.R_far (p := ⟨gb222, 1, none⟩) (Kd.R_far (p := ⟨gb222, 0, none⟩) (Kd.R_mono HO_9.out (fun k_ hk => (⟨hk, hk.2⟩ : _ ∧ k_ ≠ gb222))) (fun _ hk => hk.2) (.string a1)) (fun _ hk => hk.2) (.int .i64 ji29)) (fun _ hk => hk.2) (.int .i64 (wrap64 (a3 + 600)))) (fun _ hk => hk.1.2))); (case aS => exact (below_size (by repeat (first | (with_reducible first | exact HB.out | apply below_alloc | apply pw_below_drewN | apply below_drew1 | refine below_set ?_ GE222.out) | exact HB.out)))); (case aL => have := LMc61.out; omega); intro v246 w65 ho hb hg hat; rw [← Ny245.out] at ho; have n0_ := Aside0.mk (blk_grown (g := gb222) (o := .cells #[.string a1, .int .i64 ji29, .int .i64 (wrap64 (a3 + 600))] 43 (0, 0)) (by (with_reducible repeat (first | refine blk_drewN ?_ _ | refine blk_drew ?_ | refine blk_alloc ?_ _)); refine blk_put (cs := #[.string a1, .int .i64 ji29, .int .i64 0]) ?_ 2 _ rfl; (with_reducible repeat (first | refine blk_drewN ?_ _ | refine blk_drew ?_ | refine blk_alloc ?_ _)); refine blk_put (cs := #[.string a1, .int .i64 0, .int .i64 0]) ?_ 1 _ rfl; (with_reducible repeat (first | refine blk_drewN ?_ _ | refine blk_drew ?_ | refine blk_alloc ?_ _)); refine blk_put (cs := #[.string (⟨#[]⟩ : ByteArray), .int .i64 0, .int .i64 0]) ?_ 0 _ rfl; (with_reducible repeat (first | refine blk_drewN ?_ _ | refine blk_drew ?_ | refine blk_alloc ?_ _)); exact BK222.out) hg (Kd.R_away HO_9.out (fun _ hk => hk.2))); have n1_ := Aside0.mk (hb); have n2_ := Aside0.mk (ho); clear BK222; clear HB; clear HO_9; have BK222 := n0_; have HB := n1_; have HO247 := n2_; clear n0_ n1_ n2_; clear ho hb hg hat))
            go_ret
            exact ⟨_, by first | rfl | (simp [errW_none, errW_some] <;> rfl) | (simp only [← hji28, ← hji29]; first | rfl | (simp [errW_none, errW_some] <;> rfl)) | (simp [*, errW_none, errW_some] <;> rfl), by (with_reducible repeat (first | apply Kd.R_alloc | apply Kd.R_drewN | apply Kd.R_drew)); exact Kd.R_mono HO247.out (fun _ hk => trivial), by repeat (first | (with_reducible first | exact HB.out | apply below_alloc | apply pw_below_drewN | apply below_drew1 | refine below_set ?_ GE222.out) | exact HB.out)⟩
          · rw [if_neg c61] at H
            exact absurd H (by simp)

end Go.Proofs.Ytgbkpledbjkjoaa.PFnPaths
