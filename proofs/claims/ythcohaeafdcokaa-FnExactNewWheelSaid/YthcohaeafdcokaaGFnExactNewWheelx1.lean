-- OWN TEXT of FnExactNewWheel: made by own_print.sh, finished by hand
import Derived.Test.YthcohaeafdcokaaGFnExactNewWheelx0
namespace Go.Proofs.Ythcohaeafdcokaa.PFnExactNewWheel
open Go.RowKit Go.Proofs.YthcohaeafdcokaaW.PrintWords Go.Proofs.YthcohaeafdcokaaW.PrintLast Go.Proofs.YthcohaeafdcokaaW.PrintMore
attribute [local go_sem] max2_int min2_int max_two min_two max_three min_three max_four min_four   -- for this text's walks alone
set_option linter.unusedVariables false
set_option linter.unusedSimpArgs false

/-! ### spec_l11New: function 51 -/
def spec_l11New.l0 : Nat → Int → Int → Int → List (List (List (S84))) → Option (Int × Int × (List (List (List (S84)))))
  | 0, _, _, _, _ => none
  | k + 1, x2, x103000, x103001, x103002 => if x2 < 3 then (if 8 ≤ 11728124029610 then (if x103002.length < 5864062014805 then (spec_l11New.l0 k (wrap64 (x2 + 1)) x103000 x103001 (x103002 ++ [(List.replicate 8 [])])) else (none)) else (none)) else (some (x103000, x103001, x103002))
def spec_l11New.f (k : Nat)  : Option (Int × Int × (List (List (List (S84))))) := spec_l11New.l0 k 0 0 0 ([] : List (List (List (S84))))
theorem spec_l11New.mono_l : ∀ k, (∀ y0 y1 y2 y3, LeO (spec_l11New.l0 k y0 y1 y2 y3) (spec_l11New.l0 (k + 1) y0 y1 y2 y3))
  | 0 => fun _ _ _ _ r h => by simp [spec_l11New.l0] at h
  | k + 1 => by
    have ih0 := spec_l11New.mono_l k
    · intro y0 y1 y2 y3
      unfold spec_l11New.l0
      repeat' first
      | (with_reducible exact ih0 _ _ _ _)
      | (with_reducible exact LeO.refl _)
      | (with_reducible exact LeO.none _)
      | (with_reducible refine LeO.ite ?_ ?_)
      | (with_reducible refine LeO.bind ?_ (fun _ => ?_))
      | exact ih0 _ _ _ _
      | exact LeO.none _
      | refine LeO.ite ?_ ?_
      | refine LeO.bind ?_ (fun _ => ?_)
theorem spec_l11New.mono : ∀ k, LeO (spec_l11New.f k ) (spec_l11New.f (k + 1) ) := by
  intro  k
  have ih0 := spec_l11New.mono_l k
  unfold spec_l11New.f
  repeat' first
      | (with_reducible exact ih0 _ _ _ _)
      | (with_reducible exact LeO.refl _)
      | (with_reducible exact LeO.none _)
      | (with_reducible refine LeO.ite ?_ ?_)
      | (with_reducible refine LeO.bind ?_ (fun _ => ?_))
      | exact ih0 _ _ _ _
      | exact LeO.none _
      | refine LeO.ite ?_ ?_
      | refine LeO.bind ?_ (fun _ => ?_)
set_option maxHeartbeats 8000000 in
set_option maxRecDepth 100000 in
theorem spec_l11New.calls (k : Nat)  (r1 : Int) (r2 : Int) (r3 : List (List (List (S84)))) (w : World) (h : spec_l11New.f k  = some (r1, r2, r3)) :
    Calls Try.prog 51 #[] w fun e w' => ∃ v2_ : Value, e = .returned (.agg #[.int .i64 r1, .int .i64 r2, v2_]) ∧ Kd.R (Kd.slice 74 (Kd.slice 84 k84)) 81 w' w.heap.size (fun _ => True) v2_ r3 ∧ Below w.heap.size w w' := by
  have hu62 := Try.underlying62
  have HB := Aside0.mk (Below.refl w.heap.size w)
  have H : (spec_l11New.l0 k 0 0 0 ([] : List (List (List (S84))))) = some (r1, r2, r3) := h
  clear h
  have H' := Aside0.mk H
  clear H
  go_enter Try.func51, Try.ntmps51
  go_wp2_with (first | ((with_reducible refine gate_dst (N := 0) rfl ?_); refine box_event ?hg (N := 0) ?hd (cs := #[.int .i64 0, .int .i64 0, .slice none 0 0]) (t := 62) ?hr ?_; (case hd => rfl); (case hg => rfl); (case hr => first | (go_simp; done) | (go_simp; rfl)); intro gb101 hg w1 hbox hb; have n0_ := Aside0.mk (below_step (by repeat (first | (with_reducible first | exact HB.out | apply below_alloc | apply pw_below_drewN | apply below_drew1) | exact HB.out)) hb); have n1_ := Aside0.mk (hbox); have n2_ := Aside0.mk ((by rw [hg]; exact (below_size (by repeat (first | (with_reducible first | exact HB.out | apply below_alloc | apply pw_below_drewN | apply below_drew1) | exact HB.out))) : w.heap.size ≤ gb101)); have n3_ := Aside0.mk ((by rw [hg]; exact (below_size (by repeat (first | (with_reducible first | exact HB.out | apply below_alloc | apply pw_below_drewN | apply below_drew1) | exact HB.out))) : w.heap.size ≤ gb101)); clear HB; have HB := n0_; have BK101 := n1_; have GW101 := n2_; have GE101 := n3_; clear n0_ n1_ n2_ n3_; clear hb hbox hg) | ((with_reducible refine gate_dst (N := 1) rfl ?_); refine box_event ?hg (N := 1) ?hd (cs := #[.int .i64 0, .int .i64 0, .slice none 0 0]) (t := 62) ?hr ?_; (case hd => rfl); (case hg => rfl); (case hr => first | (go_simp; done) | (go_simp; rfl)); intro gb102 hg w2 hbox hb; have n0_ := Aside0.mk (blk_below (g := gb101) (o := .cells #[.int .i64 0, .int .i64 0, .slice none 0 0] 62 (0, 0)) (by (with_reducible repeat (first | refine blk_drewN ?_ _ | refine blk_drew ?_ | refine blk_alloc ?_ _)); exact BK101.out) hb); have n1_ := Aside0.mk (below_step (by repeat (first | (with_reducible first | exact HB.out | apply below_alloc | apply pw_below_drewN | apply below_drew1 | refine below_set ?_ GE101.out) | exact HB.out)) hb); have n2_ := Aside0.mk (hbox); have n3_ := Aside0.mk ((by rw [hg]; exact (below_size (by repeat (first | (with_reducible first | exact HB.out | apply below_alloc | apply pw_below_drewN | apply below_drew1 | refine below_set ?_ GE101.out) | exact HB.out))) : w.heap.size ≤ gb102)); have n4_ := Aside0.mk ((by rw [hg]; exact (below_size (by repeat (first | (with_reducible first | exact HB.out | apply below_alloc | apply pw_below_drewN | apply below_drew1 | refine below_set ?_ GE101.out) | exact HB.out))) : w.heap.size ≤ gb102)); have n5_ := Aside0.mk ((by rw [hg]; exact Nat.ne_of_lt (blk_lt (g := gb101) (o := .cells #[.int .i64 0, .int .i64 0, .slice none 0 0] 62 (0, 0)) (by (with_reducible repeat (first | refine blk_drewN ?_ _ | refine blk_drew ?_ | refine blk_alloc ?_ _)); exact BK101.out)) : gb101 ≠ gb102)); have n6_ := Aside0.mk ((by rw [hg]; exact Nat.ne_of_gt (blk_lt (g := gb101) (o := .cells #[.int .i64 0, .int .i64 0, .slice none 0 0] 62 (0, 0)) (by (with_reducible repeat (first | refine blk_drewN ?_ _ | refine blk_drew ?_ | refine blk_alloc ?_ _)); exact BK101.out)) : gb102 ≠ gb101)); clear BK101; clear HB; have BK101 := n0_; have HB := n1_; have BK102 := n2_; have GW102 := n3_; have GE102 := n4_; have NB101_102 := n5_; have NB102_101 := n6_; clear n0_ n1_ n2_ n3_ n4_ n5_ n6_; clear hb hbox hg; have hnb3 := NB102_101.out; have hnc3 := NB101_102.out; have hcz4_0 : w2.cell? ⟨gb102, 0, none⟩ = some (.int .i64 0) := (blk_cell BK102.out 0).trans rfl; have hcz4_1 : w2.cell? ⟨gb102, 1, none⟩ = some (.int .i64 0) := (blk_cell BK102.out 1).trans rfl; have hcz4_2 : w2.cell? ⟨gb102, 2, none⟩ = some (.slice none 0 0) := (blk_cell BK102.out 2).trans rfl; have hfz4_0 := blk_frozen BK102.out 0; have hfz4_1 := blk_frozen BK102.out 1; have hfz4_2 := blk_frozen BK102.out 2))
  go_loopg [2] k (fun kq v2 w' => ∃ (x2_1 : Int) (x103002_1 : List (List (List (S84)))) (u103002 : Value), v2 = .int .i64 x2_1 ∧ Aside0 (spec_l11New.l0 kq x2_1 0 0 x103002_1 = some (r1, r2, r3)) ∧ Aside0 (kq ≤ k) ∧ Aside0 (Kd.R (Kd.slice 74 (Kd.slice 84 k84)) 81 w' w.heap.size (fun _ => True) u103002 x103002_1) ∧ Aside0 (w'.heap[gb101]? = some (.cells #[.int .i64 0, .int .i64 0, (.slice none 0 0)] 62 (0, 0))) ∧ Aside0 (w'.heap[gb102]? = some (.cells #[.int .i64 0, .int .i64 0, u103002] 62 (0, 0))) ∧ Aside0 (Below w.heap.size w w'))
  case atStart => exact ⟨(0), (([] : List (List (List (S84))))), (.slice none 0 0), (by first | rfl | (simp; done) | (simp [*]; done)), H', ⟨Nat.le_refl _⟩, ⟨by first | exact Kd.R_nil _ _ _ _ _ | exact Kd.N_nil _ _ _ _ _ | exact Kd.V_nil _ _ _ _ _ | exact Kd.Q_nil _ _ _ _ _ | exact Kd.S_nil _ _ _ _ _⟩, ⟨by (with_reducible repeat (first | refine blk_drewN ?_ _ | refine blk_drew ?_ | refine blk_alloc ?_ _)); refine blk_far ?_ NB101_102.out _; (with_reducible repeat (first | refine blk_drewN ?_ _ | refine blk_drew ?_ | refine blk_alloc ?_ _)); refine blk_far ?_ NB101_102.out _; (with_reducible repeat (first | refine blk_drewN ?_ _ | refine blk_drew ?_ | refine blk_alloc ?_ _)); refine blk_far ?_ NB101_102.out _; (with_reducible repeat (first | refine blk_drewN ?_ _ | refine blk_drew ?_ | refine blk_alloc ?_ _)); exact BK101.out⟩, ⟨by (with_reducible repeat (first | refine blk_drewN ?_ _ | refine blk_drew ?_ | refine blk_alloc ?_ _)); refine blk_put (cs := #[.int .i64 0, .int .i64 0, .slice none 0 0]) ?_ 2 _ rfl; (with_reducible repeat (first | refine blk_drewN ?_ _ | refine blk_drew ?_ | refine blk_alloc ?_ _)); refine blk_put (cs := #[.int .i64 0, .int .i64 0, .slice none 0 0]) ?_ 1 _ rfl; (with_reducible repeat (first | refine blk_drewN ?_ _ | refine blk_drew ?_ | refine blk_alloc ?_ _)); refine blk_put (cs := #[.int .i64 0, .int .i64 0, .slice none 0 0]) ?_ 0 _ rfl; (with_reducible repeat (first | refine blk_drewN ?_ _ | refine blk_drew ?_ | refine blk_alloc ?_ _)); exact BK102.out⟩, ⟨by repeat (first | (with_reducible first | exact HB.out | apply below_alloc | apply pw_below_drewN | apply below_drew1 | refine below_set ?_ GE101.out | refine below_set ?_ GE102.out) | exact HB.out)⟩⟩
  case round =>
    clear H'
    try clear p2
    try clear c3
    try clear hcz4_0
    try clear hcz4_1
    try clear hcz4_2
    try clear hfz4_0
    try clear hfz4_1
    try clear hfz4_2
    obtain ⟨x2_1, x103002_1, u103002, rfl, HA, HK1, HO_103002, BK101, BK102, HB⟩ := hrel
    cases gk with
    | zero => exact absurd HA.out (by simp [spec_l11New.l0])
    | succ k1 =>
      have H := HA.out
      clear HA
      simp only [spec_l11New.l0] at H
      by_cases c5 : x2_1 < 3
      · rw [if_pos c5] at H
        have c5b0 : decide (x2_1 < 3) = true := decide_eq_true c5
        clear c5
        by_cases c6 : 8 ≤ 11728124029610
        · rw [if_pos c6] at H
          have c6b0 := eq_true c6
          have c6b1 : decide (8 ≤ 11728124029610) = true := decide_eq_true c6
          clear c6
          obtain ⟨y103, hy103⟩ : ∃ y_ : List (List (S84)), y_ = (List.replicate 8 []) := ⟨_, rfl⟩
          replace H : (if x103002_1.length < 5864062014805 then (spec_l11New.l0 k1 (wrap64 (x2_1 + 1)) 0 0 (x103002_1 ++ [y103])) else (none)) = some (r1, r2, r3) := by first | (rw [hy103]; with_reducible exact H) | (have H2_ := (Option.bind_some _ _).symm.trans H; rw [hy103]; with_reducible exact H2_) | (have H2_ := (Option.bind_some _ _).symm.trans H; with_reducible exact H2_) | with_reducible exact H | (rw [hy103]; exact H) | exact H
          have Ny103 := Aside0.mk hy103
          clear hy103
          by_cases c7 : x103002_1.length < 5864062014805
          · rw [if_pos c7] at H
            have LMc7 := Aside0.mk c7
            clear c7
            obtain ⟨y106, hy106⟩ : ∃ y_ : List (List (List (S84))), y_ = (x103002_1 ++ [y103]) := ⟨_, rfl⟩
            replace H : (spec_l11New.l0 k1 (wrap64 (x2_1 + 1)) 0 0 y106) = some (r1, r2, r3) := by first | (rw [hy106]; with_reducible exact H) | (have H2_ := (Option.bind_some _ _).symm.trans H; rw [hy106]; with_reducible exact H2_) | (have H2_ := (Option.bind_some _ _).symm.trans H; with_reducible exact H2_) | with_reducible exact H | (rw [hy106]; exact H) | exact H
            have Ny106 := Aside0.mk hy106
            clear hy106
            have H' := Aside0.mk H
            clear H
            try go_wp2
            have n0_ := Aside0.mk (Kd.R_drew HO_103002.out)
            have n1_ := Aside0.mk (blk_drew BK101.out)
            have n2_ := Aside0.mk (blk_drew BK102.out)
            have n3_ := Aside0.mk (below_drew1 HB.out)
            clear HO_103002
            clear BK101
            clear BK102
            clear HB
            have HO_103002 := n0_
            have BK101 := n1_
            have BK102 := n2_
            have HB := n3_
            clear n0_ n1_ n2_ n3_
            refine start_ (n := 7) (S := fun w' => w'.cell? ⟨gb102, 0, none⟩ = some (.int .i64 0) ∧ w'.cell? ⟨gb102, 1, none⟩ = some (.int .i64 0) ∧ w'.cell? ⟨gb102, 2, none⟩ = some (u103002)) (ds := [6]) #[false, false, false, false, false, false, false] (by kernel_rfl) rfl rfl ⟨(blk_cell BK102.out 0).trans rfl, (blk_cell BK102.out 1).trans rfl, (blk_cell BK102.out 2).trans rfl⟩ (fun hHeld => ?_)
            generalize wr.drew = w8 at HO_103002 BK101 BK102 HB hHeld ⊢
            refine pure_ (i := 0) (N := some 8) (v := ?_) (a' := ?_) #[true, false, false, false, false, false, false] rfl rfl (by kernel_rfl) (fun _ _ _ h => h) (Or.inl ⟨by rfl, ?_⟩) ?_ ?_
            rotate_left
            · intro w'
              go_simp
              with_reducible rfl
            rotate_left
            · simp only [Act.put, List.setIfInBounds_toArray, List.set_cons_zero, List.set_cons_succ, i64_w, i32_w]
              rfl
            refine take_ (i := 1) (N := some 9) (v := ?_) (a' := ?_) #[true, true, false, false, false, false, false] rfl rfl (by kernel_rfl) (fun _ _ _ h => h) (Or.inl ⟨by rfl, ?_⟩) hHeld ?_ ?_
            rotate_left
            · rintro w' ⟨s0, s1, s2⟩
              go_simp
              with_reducible rfl
            rotate_left
            · simp only [Act.put, List.setIfInBounds_toArray, List.set_cons_zero, List.set_cons_succ, i64_w, i32_w]
              rfl
            refine one_ (i := 2) (N := some 10) #[true, true, true, false, false, false, false] rfl rfl (by kernel_rfl) (by decide) (fun K hK => ?_)
            refine Kd.S_make_step (Kd.slice 84 k84) _ 74 (by rfl) (N := 10) rfl 81 _ _ rfl 8 rfl rfl Try.underlying81 (.slice none 0 0) 24 info74 rfl (by decide) (by omega) [] (ok := fun _ => True) (okp := fun _ => True) ⟨_, rfl, Kd.R_nil _ _ _ _ _⟩ (fun _ hk => hk) trivial (by omega) (by omega) (Below.refl _ _) (Nat.le_refl _) ?_
            intro v104 w9 ho10 hb hg_ hnew_
            clear hg_ hnew_
            (first | rw [← Ny103.out] at ho10 | (simp only [Int.reduceToNat] at ho10; rw [← Ny103.out] at ho10))
            have n0_ := Aside0.mk (Kd.R_elder' (by (with_reducible repeat (first | apply Kd.R_alloc | apply Kd.R_drewN | apply Kd.R_drew)); exact HO_103002.out) (Kd.S_base ho10) hb)
            have n1_ := Aside0.mk (Kd.S_lower ho10 (below_size (by repeat (first | (with_reducible first | exact HB.out | apply below_alloc | apply pw_below_drewN | apply below_drew1 | refine below_set ?_ GE101.out | refine below_set ?_ GE102.out) | exact HB.out))))
            have n2_ := Aside0.mk (blk_below (g := gb101) (o := .cells #[.int .i64 0, .int .i64 0, .slice none 0 0] 62 (0, 0)) (by (with_reducible repeat (first | refine blk_drewN ?_ _ | refine blk_drew ?_ | refine blk_alloc ?_ _)); exact BK101.out) hb)
            have n3_ := Aside0.mk (blk_below (g := gb102) (o := .cells #[.int .i64 0, .int .i64 0, u103002] 62 (0, 0)) (by (with_reducible repeat (first | refine blk_drewN ?_ _ | refine blk_drew ?_ | refine blk_alloc ?_ _)); exact BK102.out) hb)
            have n4_ := Aside0.mk (below_step (by repeat (first | (with_reducible first | exact HB.out | apply below_alloc | apply pw_below_drewN | apply below_drew1 | refine below_set ?_ GE101.out | refine below_set ?_ GE102.out) | exact HB.out)) hb)
            clear HO_103002
            clear BK101
            clear BK102
            clear HB
            have HO_103002 := n0_
            have HO105 := n1_
            have BK101 := n2_
            have BK102 := n3_
            have HB := n4_
            clear n0_ n1_ n2_ n3_ n4_
            clear hb ho10
            obtain ⟨Ao12, co12, eo12⟩ := Kd.S_slice HO105.out
            (first | subst eo12 | (injection eo12 with f1_ f2_ f3_; have f4_ := f1_.symm; have f5_ := f3_.symm; clear f1_ f2_ f3_; subst f4_; subst f5_))
            refine hK.out _ _ ⟨(blk_cell BK102.out 0).trans rfl, (blk_cell BK102.out 1).trans rfl, (blk_cell BK102.out 2).trans rfl⟩ (fun hHeld => ?_)
            clear hK K
            refine norm_ (a' := ?_) ?_ ?_
            rotate_left
            · show Act.put _ (some 10) _ = _
              simp only [Act.put, List.setIfInBounds_toArray, List.set_cons_zero, List.set_cons_succ, i64_w, i32_w]
              rfl
            refine one_ (i := 3) (N := some 11) #[true, true, true, true, false, false, false] rfl rfl (by kernel_rfl) (by decide) (fun K hK => ?_)
            refine value_ (w1 := ?_) (v := ?_) (by rfl) rfl ?_ ?_
            rotate_left 2
            · go_simp
              constructor
              · rfl
              · rfl
            refine hK.out _ _ ⟨(blk_cell (blk_alloc BK102.out _) 0).trans rfl, (blk_cell (blk_alloc BK102.out _) 1).trans rfl, (blk_cell (blk_alloc BK102.out _) 2).trans rfl⟩ (fun hHeld => ?_)
            clear hK K
            refine norm_ (a' := ?_) ?_ ?_
            rotate_left
            · show Act.put _ (some 11) _ = _
              simp only [Act.put, List.setIfInBounds_toArray, List.set_cons_zero, List.set_cons_succ, i64_w, i32_w]
              rfl
            refine one_ (i := 4) (N := some 12) #[true, true, true, true, true, false, false] rfl rfl (by kernel_rfl) (by decide) (fun K hK => ?_)
            refine Kd.R_append_step (Kd.slice 74 (Kd.slice 84 k84)) (w0 := w) w.heap.size (by rfl) (.tmp 9) (.tmp 11) 60 81 (.slice none 0 0) 24 rfl Try.underlying60 info81 rfl (by decide) (by omega) u103002 x103002_1 y103 [.slice Ao12 y103.length co12] (fun _ => True) (fun k_ => ((fun _ => True)) k_ ∧ some k_ ≠ (u103002 : Value).ownBlock) rfl rfl ?aP (fun _ hk => hk) ?aF ?aO ?aB ?aS ?aL ?_
            (case aP => exact Kd.M_row (Kd.R_mono (Kd.R_apart' ((Kd.S_R HO105.out)) (Kd.R_typed HO_103002.out) (by decide)) (fun k_ hk => ⟨trivial, hk.2⟩)))
            (case aB => exact (by repeat (first | (with_reducible first | exact HB.out | apply below_alloc | apply pw_below_drewN | apply below_drew1 | refine below_set ?_ GE101.out | refine below_set ?_ GE102.out) | exact HB.out)))
            (case aF => exact (fun _ _ => trivial))
            (case aO => exact (by (with_reducible repeat (first | apply Kd.R_alloc | apply Kd.R_drewN | apply Kd.R_drew)); exact Kd.R_mono HO_103002.out (fun _ hk => trivial)))
            (case aS => exact (below_size (by repeat (first | (with_reducible first | exact HB.out | apply below_alloc | apply pw_below_drewN | apply below_drew1 | refine below_set ?_ GE101.out | refine below_set ?_ GE102.out) | exact HB.out))))
            (case aL => have := LMc7.out; omega)
            intro v107 w11 ho hb hg hat
            rw [← Ny106.out] at ho
            have n0_ := Aside0.mk (blk_grown (g := gb101) (o := .cells #[.int .i64 0, .int .i64 0, .slice none 0 0] 62 (0, 0)) (by (with_reducible repeat (first | refine blk_drewN ?_ _ | refine blk_drew ?_ | refine blk_alloc ?_ _)); exact BK101.out) hg (Kd.R_ne HO_103002.out BK101.out (by decide)))
            have n1_ := Aside0.mk (blk_grown (g := gb102) (o := .cells #[.int .i64 0, .int .i64 0, u103002] 62 (0, 0)) (by (with_reducible repeat (first | refine blk_drewN ?_ _ | refine blk_drew ?_ | refine blk_alloc ?_ _)); exact BK102.out) hg (Kd.R_ne HO_103002.out BK102.out (by decide)))
            have n2_ := Aside0.mk (hb)
            have n3_ := Aside0.mk (ho)
            clear BK101
            clear BK102
            clear HB
            clear HO_103002
            clear HO105
            have BK101 := n0_
            have BK102 := n1_
            have HB := n2_
            have HO108 := n3_
            clear n0_ n1_ n2_ n3_
            clear ho hb hg hat
            obtain ⟨Ao13, co13, eo13⟩ := Kd.R_slice HO108.out
            (first | subst eo13 | (injection eo13 with f1_ f2_ f3_; have f4_ := f1_.symm; have f5_ := f3_.symm; clear f1_ f2_ f3_; subst f4_; subst f5_))
            refine hK.out _ _ ⟨(blk_cell BK102.out 0).trans rfl, (blk_cell BK102.out 1).trans rfl, (blk_cell BK102.out 2).trans rfl⟩ (fun hHeld => ?_)
            clear hK K
            refine norm_ (a' := ?_) ?_ ?_
            rotate_left
            · show Act.put _ (some 12) _ = _
              simp only [Act.put, List.setIfInBounds_toArray, List.set_cons_zero, List.set_cons_succ, i64_w, i32_w]
              rfl
            refine pure_ (i := 5) (N := some 13) (v := ?_) (a' := ?_) #[true, true, true, true, true, true, false] rfl rfl (by kernel_rfl) (fun _ _ _ h => h) (Or.inl ⟨by rfl, ?_⟩) ?_ ?_
            rotate_left
            · intro w'
              go_simp
              with_reducible rfl
            rotate_left
            · simp only [Act.put, List.setIfInBounds_toArray, List.set_cons_zero, List.set_cons_succ, i64_w, i32_w]
              rfl
            refine last_ (i := 6) (N := none) #[true, true, true, true, true, true, true] rfl rfl (by kernel_rfl) (by decide) (fun K hK => ?_)
            have hs14 : w11.cell? ⟨gb102, 2, none⟩ = some (u103002) := (blk_cell BK102.out 2).trans rfl
            have hfs14 := blk_frozen BK102.out 2
            have hns14_0 := NB101_102.out
            have hms14_0 := NB102_101.out
            refine skip_ (w1 := ?_) (by rfl) rfl ?_ ?_
            rotate_left
            · go_simp
              rfl
            refine hK.out _ _ ?_
            clear hK K
            refine done_ (by kernel_rfl) ?_
            try go_wp2
            go_roundg k1
            case measure => have := HK1.out; omega
            case rel => exact ⟨(wrap64 (x2_1 + 1)), (y106), (.slice Ao13 y106.length co13), (by first | rfl | (simp; done) | (simp [*]; done)), H', ⟨by have := HK1.out; omega⟩, ⟨by (with_reducible repeat (first | apply Kd.R_alloc | apply Kd.R_drewN | apply Kd.R_drew)); exact Kd.R_mono (Kd.R_far (p := ⟨gb102, 2, none⟩) (Kd.R_types HO108.out BK102.out (by decide)) (fun _ hk => hk.2) (.slice Ao13 y106.length co13)) (fun _ hk => trivial)⟩, ⟨by (with_reducible repeat (first | refine blk_drewN ?_ _ | refine blk_drew ?_ | refine blk_alloc ?_ _)); refine blk_far ?_ NB101_102.out _; (with_reducible repeat (first | refine blk_drewN ?_ _ | refine blk_drew ?_ | refine blk_alloc ?_ _)); exact BK101.out⟩, ⟨by (with_reducible repeat (first | refine blk_drewN ?_ _ | refine blk_drew ?_ | refine blk_alloc ?_ _)); refine blk_put (cs := #[.int .i64 0, .int .i64 0, u103002]) ?_ 2 _ rfl; (with_reducible repeat (first | refine blk_drewN ?_ _ | refine blk_drew ?_ | refine blk_alloc ?_ _)); exact BK102.out⟩, ⟨by repeat (first | (with_reducible first | exact HB.out | apply below_alloc | apply pw_below_drewN | apply below_drew1 | refine below_set ?_ GE101.out | refine below_set ?_ GE102.out) | exact HB.out)⟩⟩
          · rw [if_neg c7] at H
            exact absurd H (by simp)
        · rw [if_neg c6] at H
          exact absurd H (by simp)
      · rw [if_neg c5] at H
        have c5b0 : decide (x2_1 < 3) = false := decide_eq_false c5
        clear c5
        simp only [Option.some.injEq, Prod.mk.injEq] at H
        obtain ⟨rfl, rfl, rfl⟩ := H
        have hnb15 := NB102_101.out
        have hnc15 := NB101_102.out
        have hcz16_0 : wr.cell? ⟨gb102, 0, none⟩ = some (.int .i64 0) := (blk_cell BK102.out 0).trans rfl
        have hcz16_1 : wr.cell? ⟨gb102, 1, none⟩ = some (.int .i64 0) := (blk_cell BK102.out 1).trans rfl
        have hcz16_2 : wr.cell? ⟨gb102, 2, none⟩ = some (u103002) := (blk_cell BK102.out 2).trans rfl
        have hfz16_0 := blk_frozen BK102.out 0
        have hfz16_1 := blk_frozen BK102.out 1
        have hfz16_2 := blk_frozen BK102.out 2
        have hcz17_0 : wr.cell? ⟨gb101, 0, none⟩ = some (.int .i64 0) := (blk_cell BK101.out 0).trans rfl
        have hcz17_1 : wr.cell? ⟨gb101, 1, none⟩ = some (.int .i64 0) := (blk_cell BK101.out 1).trans rfl
        have hcz17_2 : wr.cell? ⟨gb101, 2, none⟩ = some (.slice none 0 0) := (blk_cell BK101.out 2).trans rfl
        have hfz17_0 := blk_frozen BK101.out 0
        have hfz17_1 := blk_frozen BK101.out 1
        have hfz17_2 := blk_frozen BK101.out 2
        obtain ⟨Ao18, co18, eo18⟩ := Kd.R_slice HO_103002.out
        subst eo18
        go_wp2
        refine bodyPost_ret (results_cell_row rfl _ _ gb101 62 #[.int .i64 0, .int .i64 0, .slice Ao18 x103002_1.length co18] (0, 0) _ rfl (by (with_reducible repeat (first | refine blk_drewN ?_ _ | refine blk_drew ?_ | refine blk_alloc ?_ _)); refine blk_put (cs := #[.int .i64 0, .int .i64 0, .slice none 0 0]) ?_ 2 _ rfl; (with_reducible repeat (first | refine blk_drewN ?_ _ | refine blk_drew ?_ | refine blk_alloc ?_ _)); refine blk_put (cs := #[.int .i64 0, .int .i64 0, .slice none 0 0]) ?_ 1 _ rfl; (with_reducible repeat (first | refine blk_drewN ?_ _ | refine blk_drew ?_ | refine blk_alloc ?_ _)); refine blk_put (cs := #[.int .i64 0, .int .i64 0, .slice none 0 0]) ?_ 0 _ rfl; (with_reducible repeat (first | refine blk_drewN ?_ _ | refine blk_drew ?_ | refine blk_alloc ?_ _)); exact BK101.out) Try.underlying62 rfl (by kernel_rfl)) rfl ?_
        exact ⟨_, by first | rfl | (simp [errW_none, errW_some] <;> rfl) | (simp [*, errW_none, errW_some] <;> rfl), by (with_reducible repeat (first | apply Kd.R_alloc | apply Kd.R_drewN | apply Kd.R_drew)); exact Kd.R_mono (Kd.R_far (p := ⟨gb101, 2, none⟩) (Kd.R_far (p := ⟨gb101, 1, none⟩) (Kd.R_far (p := ⟨gb101, 0, none⟩) (Kd.R_types HO_103002.out BK101.out (by decide)) (fun _ hk => hk.2) (.int .i64 0)) (fun _ hk => hk.2) (.int .i64 0)) (fun _ hk => hk.2) (.slice Ao18 x103002_1.length co18)) (fun _ hk => trivial), by repeat (first | (with_reducible first | exact HB.out | apply below_alloc | apply pw_below_drewN | apply below_drew1 | refine below_set ?_ GE101.out | refine below_set ?_ GE102.out) | exact HB.out)⟩

/-! ### spec_NewWheel: function 38 -/
def spec_NewWheel.f (k : Nat)  : Option (Int × Int × (List (List (List (S84))))) := (spec_l11New.f k).bind fun bt110 => (some (bt110.1, bt110.2.1, bt110.2.2))
theorem spec_NewWheel.mono : ∀ k, LeO (spec_NewWheel.f k ) (spec_NewWheel.f (k + 1) ) := by
  intro  k
  unfold spec_NewWheel.f
  repeat' first
      | (with_reducible exact spec_l11New.mono _)
      | (with_reducible exact LeO.refl _)
      | (with_reducible exact LeO.none _)
      | (with_reducible refine LeO.ite ?_ ?_)
      | (with_reducible refine LeO.bind ?_ (fun _ => ?_))
      | exact spec_l11New.mono _
      | exact LeO.none _
      | refine LeO.ite ?_ ?_
      | refine LeO.bind ?_ (fun _ => ?_)
set_option maxHeartbeats 8000000 in
set_option maxRecDepth 100000 in
theorem spec_NewWheel.calls (k : Nat)  (r1 : Int) (r2 : Int) (r3 : List (List (List (S84)))) (w : World) (h : spec_NewWheel.f k  = some (r1, r2, r3)) :
    Calls Try.prog 38 #[] w fun e w' => ∃ v2_ : Value, e = .returned (.agg #[.int .i64 r1, .int .i64 r2, v2_]) ∧ Kd.R (Kd.slice 74 (Kd.slice 84 k84)) 81 w' w.heap.size (fun _ => True) v2_ r3 ∧ Below w.heap.size w w' := by
  have hu62 := Try.underlying62
  have HB := Aside0.mk (Below.refl w.heap.size w)
  have H : ((spec_l11New.f k).bind fun bt110 => (some (bt110.1, bt110.2.1, bt110.2.2))) = some (r1, r2, r3) := h
  clear h
  replace H := Option.bind_eq_some_iff.mp H
  obtain ⟨⟨t110, t111, t112⟩, A10, H⟩ := H
  replace H : (some (t110, t111, t112)) = some (r1, r2, r3) := H
  have A1 := Aside0.mk A10
  clear A10
  simp only [Option.some.injEq, Prod.mk.injEq] at H
  obtain ⟨rfl, rfl, rfl⟩ := H
  go_enter Try.func38, Try.ntmps38
  go_wp2_with (first | ((with_reducible refine gate_dst (N := 0) rfl ?_); refine box_event ?hg (N := 0) ?hd (cs := #[.int .i64 0, .int .i64 0, .slice none 0 0]) (t := 62) ?hr ?_; (case hd => rfl); (case hg => rfl); (case hr => first | (go_simp; done) | (go_simp; rfl)); intro gb109 hg w2 hbox hb; have n0_ := Aside0.mk (below_step (by repeat (first | (with_reducible first | exact HB.out | apply below_alloc | apply pw_below_drewN | apply below_drew1) | exact HB.out)) hb); have n1_ := Aside0.mk (hbox); have n2_ := Aside0.mk ((by rw [hg]; exact (below_size (by repeat (first | (with_reducible first | exact HB.out | apply below_alloc | apply pw_below_drewN | apply below_drew1) | exact HB.out))) : w.heap.size ≤ gb109)); have n3_ := Aside0.mk ((by rw [hg]; exact (below_size (by repeat (first | (with_reducible first | exact HB.out | apply below_alloc | apply pw_below_drewN | apply below_drew1) | exact HB.out))) : w.heap.size ≤ gb109)); clear HB; have HB := n0_; have BK109 := n1_; have GW109 := n2_; have GE109 := n3_; clear n0_ n1_ n2_ n3_; clear hb hbox hg) | ((with_reducible refine gate_callee (f := 51) rfl ?_); refine goesL_ (some 1) rfl rfl Try.func51 (by kernel_rfl) rfl #[] rfl (by (try simp only [List.map_toArray, List.map_cons, List.map_nil]); first | done | rfl | (simp only [List.length_drop, List.length_take]; rfl)) ?_; (with_reducible refine (spec_l11New.calls k  t110 t111 t112 _ A1.out).mono ?_); rintro e w3 ⟨v113, rfl, ho0, hb⟩; refine ⟨_, rfl, ?_⟩; have n0_ := Aside0.mk (Kd.R_lower ho0 (below_size (by repeat (first | (with_reducible first | exact HB.out | apply below_alloc | apply pw_below_drewN | apply below_drew1 | refine below_set ?_ GE109.out) | exact HB.out)))); have n1_ := Aside0.mk (blk_below (g := gb109) (o := .cells #[.int .i64 0, .int .i64 0, .slice none 0 0] 62 (0, 0)) (by (with_reducible repeat (first | refine blk_drewN ?_ _ | refine blk_drew ?_ | refine blk_alloc ?_ _)); exact BK109.out) hb); have n2_ := Aside0.mk (below_step (by repeat (first | (with_reducible first | exact HB.out | apply below_alloc | apply pw_below_drewN | apply below_drew1 | refine below_set ?_ GE109.out) | exact HB.out)) hb); clear BK109; clear HB; have HO114 := n0_; have BK109 := n1_; have HB := n2_; clear n0_ n1_ n2_; (try clear hb); (try clear hb2); (try clear hk); (try clear hi); (try clear ho0); have hcz4_0 : w3.cell? ⟨gb109, 0, none⟩ = some (.int .i64 0) := (blk_cell BK109.out 0).trans rfl; have hcz4_1 : w3.cell? ⟨gb109, 1, none⟩ = some (.int .i64 0) := (blk_cell BK109.out 1).trans rfl; have hcz4_2 : w3.cell? ⟨gb109, 2, none⟩ = some (.slice none 0 0) := (blk_cell BK109.out 2).trans rfl; have hfz4_0 := blk_frozen BK109.out 0; have hfz4_1 := blk_frozen BK109.out 1; have hfz4_2 := blk_frozen BK109.out 2; obtain ⟨Ao5, co5, eo5⟩ := Kd.R_slice HO114.out; subst eo5))
  refine bodyPost_ret (results_cell_row rfl _ _ gb109 62 #[.int .i64 t110, .int .i64 t111, .slice Ao5 t112.length co5] (0, 0) _ rfl (by (with_reducible repeat (first | refine blk_drewN ?_ _ | refine blk_drew ?_ | refine blk_alloc ?_ _)); refine blk_put (cs := #[.int .i64 t110, .int .i64 t111, .slice none 0 0]) ?_ 2 _ rfl; (with_reducible repeat (first | refine blk_drewN ?_ _ | refine blk_drew ?_ | refine blk_alloc ?_ _)); refine blk_put (cs := #[.int .i64 t110, .int .i64 0, .slice none 0 0]) ?_ 1 _ rfl; (with_reducible repeat (first | refine blk_drewN ?_ _ | refine blk_drew ?_ | refine blk_alloc ?_ _)); refine blk_put (cs := #[.int .i64 0, .int .i64 0, .slice none 0 0]) ?_ 0 _ rfl; (with_reducible repeat (first | refine blk_drewN ?_ _ | refine blk_drew ?_ | refine blk_alloc ?_ _)); exact BK109.out) Try.underlying62 rfl (by kernel_rfl)) rfl ?_
  exact ⟨_, by first | rfl | (simp [errW_none, errW_some] <;> rfl) | (simp [*, errW_none, errW_some] <;> rfl), by (with_reducible repeat (first | apply Kd.R_alloc | apply Kd.R_drewN | apply Kd.R_drew)); exact Kd.R_mono (Kd.R_far (p := ⟨gb109, 2, none⟩) (Kd.R_far (p := ⟨gb109, 1, none⟩) (Kd.R_far (p := ⟨gb109, 0, none⟩) (Kd.R_types HO114.out BK109.out (by decide)) (fun _ hk => hk.2) (.int .i64 t110)) (fun _ hk => hk.2) (.int .i64 t111)) (fun _ hk => hk.2) (.slice Ao5 t112.length co5)) (fun _ hk => trivial), by repeat (first | (with_reducible first | exact HB.out | apply below_alloc | apply pw_below_drewN | apply below_drew1 | refine below_set ?_ GE109.out) | exact HB.out)⟩

/-! ### impl_place: function 59 -/
def impl_place.f (a0 : Int) (a1 : Int) : Option (Int × Int) := if (wrap64 (Int.tdiv a0 8)) = (wrap64 (Int.tdiv a1 8)) then (some (0, Int.tmod a0 8)) else (if (wrap64 (Int.tdiv a0 64)) = (wrap64 (Int.tdiv a1 64)) then (some (1, Int.tmod (wrap64 (Int.tdiv a0 8)) 8)) else (some (2, Int.tmod (wrap64 (Int.tdiv a0 64)) 8)))
set_option maxHeartbeats 8000000 in
set_option maxRecDepth 100000 in
theorem impl_place.calls (a0 : Int) (a1 : Int) (r1 : Int) (r2 : Int) (w : World) (h : impl_place.f a0 a1 = some (r1, r2)) :
    Calls Try.prog 59 #[.int .i64 a0, .int .i64 a1] w fun e w' => e = .returned (.tuple #[.int .i64 r1, .int .i64 r2]) ∧ Drawn0 w w' := by
  have H : (if (wrap64 (Int.tdiv a0 8)) = (wrap64 (Int.tdiv a1 8)) then (some (0, Int.tmod a0 8)) else (if (wrap64 (Int.tdiv a0 64)) = (wrap64 (Int.tdiv a1 64)) then (some (1, Int.tmod (wrap64 (Int.tdiv a0 8)) 8)) else (some (2, Int.tmod (wrap64 (Int.tdiv a0 64)) 8)))) = some (r1, r2) := h
  clear h
  by_cases c3 : (wrap64 (Int.tdiv a0 8)) = (wrap64 (Int.tdiv a1 8))
  · rw [if_pos c3] at H
    have c3b0 : ((wrap64 (Int.tdiv a0 8)) == (wrap64 (Int.tdiv a1 8))) = true := beq_iff_eq.mpr c3
    have c3b1 : ((wrap64 (Int.tdiv a0 8)) != (wrap64 (Int.tdiv a1 8))) = false := bne_eq_false_iff_eq.mpr c3
    clear c3
    simp only [Option.some.injEq, Prod.mk.injEq] at H
    obtain ⟨rfl, rfl⟩ := H
    go_enter Try.func59, Try.ntmps59
    go_wp2
    go_ret2
    exact ⟨by first | rfl | (simp; done) | (simp [*]; done), by repeat (first | exact Drawn0.refl _ | apply Drawn0.step)⟩
  · rw [if_neg c3] at H
    have c3b0 : ((wrap64 (Int.tdiv a0 8)) == (wrap64 (Int.tdiv a1 8))) = false := beq_eq_false_iff_ne.mpr c3
    have c3b1 : ((wrap64 (Int.tdiv a0 8)) != (wrap64 (Int.tdiv a1 8))) = true := bne_iff_ne.mpr c3
    by_cases c4 : (wrap64 (Int.tdiv a0 64)) = (wrap64 (Int.tdiv a1 64))
    · rw [if_pos c4] at H
      have c4b0 : ((wrap64 (Int.tdiv a0 64)) == (wrap64 (Int.tdiv a1 64))) = true := beq_iff_eq.mpr c4
      have c4b1 : ((wrap64 (Int.tdiv a0 64)) != (wrap64 (Int.tdiv a1 64))) = false := bne_eq_false_iff_eq.mpr c4
      clear c4
      simp only [Option.some.injEq, Prod.mk.injEq] at H
      obtain ⟨rfl, rfl⟩ := H
      go_enter Try.func59, Try.ntmps59
      go_wp2
      go_ret2
      exact ⟨by first | rfl | (simp; done) | (simp [*]; done), by repeat (first | exact Drawn0.refl _ | apply Drawn0.step)⟩
    · rw [if_neg c4] at H
      have c4b0 : ((wrap64 (Int.tdiv a0 64)) == (wrap64 (Int.tdiv a1 64))) = false := beq_eq_false_iff_ne.mpr c4
      have c4b1 : ((wrap64 (Int.tdiv a0 64)) != (wrap64 (Int.tdiv a1 64))) = true := bne_iff_ne.mpr c4
      simp only [Option.some.injEq, Prod.mk.injEq] at H
      obtain ⟨rfl, rfl⟩ := H
      go_enter Try.func59, Try.ntmps59
      go_wp2
      go_ret2
      exact ⟨by first | rfl | (simp; done) | (simp [*]; done), by repeat (first | exact Drawn0.refl _ | apply Drawn0.step)⟩

-- NOT PRINTED: function 52 (impl_ticker_wheel)

/-! ### impl_NewWheel: function 39 -/
theorem rep8 {α : Type} {d : Kd (List α)} {W : World} {base : Nat} {ok : Nat → Prop} {n : Nat} {v : Value} (hs : d.sz = 1) (h : d.M W base ok [] [v]) : Reps (d.M W base ok) d.sz (List.replicate n []) (List.replicate n v) := by
  rw [hs]
  refine ⟨by simp, fun m p hm => ?_⟩
  have h1 := List.getElem?_eq_some_iff.1 hm
  obtain ⟨h2, rfl⟩ := h1
  rw [List.length_replicate] at h2
  rw [List.getElem_replicate, Nat.mul_one, List.drop_replicate, List.take_replicate]
  rw [show min 1 (n - m) = 1 by omega]
  exact h
theorem rowNil8 {W : World} {base b : Nat} {ok : Nat → Prop} (hb : base ≤ b) (h : W.heap[b]? = some (.cells (List.replicate 8 (Value.slice none 0 0)).toArray 74 (0, 0))) (hok : ok b) : Kd.R (Kd.slice 84 k84) 74 W base ok (.slice (some ⟨b, 0, none⟩) 8 8) (List.replicate 8 []) := by
  refine ⟨fun k hk => by simp [Value.ownBlock] at hk; subst hk; exact hok, List.replicate 8 (Value.slice none 0 0), ⟨rfl, .inr ⟨b, 8, _, rfl, hb, h, Nat.le_refl _, by decide, rfl, rfl⟩⟩, rep8 rfl ⟨_, rfl, Kd.R_nil _ _ _ _ _⟩⟩
def lev (b : Nat) : Value := .slice (some ⟨b, 0, none⟩) 8 8
theorem rowWheel {W : World} {base gl b0 b1 b2 : Nat} (hl : base ≤ gl) (h : W.heap[gl]? = some (.cells #[lev b0, lev b1, lev b2] 81 (0, 0))) (q0 : base ≤ b0) (q1 : base ≤ b1) (q2 : base ≤ b2)
    (e0 : W.heap[b0]? = some (.cells (List.replicate 8 (Value.slice none 0 0)).toArray 74 (0, 0))) (e1 : W.heap[b1]? = some (.cells (List.replicate 8 (Value.slice none 0 0)).toArray 74 (0, 0))) (e2 : W.heap[b2]? = some (.cells (List.replicate 8 (Value.slice none 0 0)).toArray 74 (0, 0))) :
    Kd.R (Kd.slice 74 (Kd.slice 84 k84)) 81 W base (fun _ => True) (.slice (some ⟨gl, 0, none⟩) 3 3) (List.replicate 3 (List.replicate 8 [])) := by
  have ne : ∀ b, W.heap[b]? = some (.cells (List.replicate 8 (Value.slice none 0 0)).toArray 74 (0, 0)) → True ∧ some b ≠ (Value.slice (some ⟨gl, 0, none⟩) 3 3).ownBlock := by
    intro b hb
    refine ⟨trivial, fun hh => ?_⟩
    simp [Value.ownBlock] at hh
    subst hh
    rw [h] at hb
    simp at hb
  refine ⟨fun _ _ => trivial, [lev b0, lev b1, lev b2], ⟨rfl, .inr ⟨gl, 3, _, rfl, hl, h, Nat.le_refl _, by decide, rfl, rfl⟩⟩, ⟨rfl, fun m p hm => ?_⟩⟩
  have hm3 : m < 3 := by have := (List.getElem?_eq_some_iff.1 hm).1; simpa using this
  have hm' : m = 0 ∨ m = 1 ∨ m = 2 := by omega
  rcases hm' with rfl | rfl | rfl
  · obtain rfl : List.replicate 8 [] = p := by simpa using hm
    exact ⟨lev b0, rfl, rowNil8 q0 e0 (ne b0 e0)⟩
  · obtain rfl : List.replicate 8 [] = p := by simpa using hm
    exact ⟨lev b1, rfl, rowNil8 q1 e1 (ne b1 e1)⟩
  · obtain rfl : List.replicate 8 [] = p := by simpa using hm
    exact ⟨lev b2, rfl, rowNil8 q2 e2 (ne b2 e2)⟩
/-- What stands while a new wheel is made: the box of the ticker, the result's cell, the wheel's, its levels. -/
def WI (w W : World) (g g2 g3 gl : Nat) (c0 c1 c2 : Value) : Prop :=
  W.heap[g]? = some (.cells #[.int .i64 0, .int .i64 0, .slice none 0 0] 76 (0, 0)) ∧ W.heap[g2]? = some (.cells #[.int .i64 0, .int .i64 0, .slice none 0 0] 62 (0, 0)) ∧ W.heap[g3]? = some (.cells #[.int .i64 0, .int .i64 0, .slice (some ⟨gl, 0, none⟩) 3 3] 62 (0, 0)) ∧
  W.heap[gl]? = some (.cells #[c0, c1, c2] 81 (0, 0)) ∧ g2 ≠ g3 ∧ w.heap.size ≤ g2 ∧ w.heap.size ≤ g3 ∧ w.heap.size ≤ gl ∧ Below w.heap.size w W
def LV (w W : World) (b : Nat) : Prop := w.heap.size ≤ b ∧ W.heap[b]? = some (.cells (List.replicate 8 (Value.slice none 0 0)).toArray 74 (0, 0))
theorem mkN (t e : TypeId) (ht : Try.prog.underlying t = some (.slice e)) (hinfo : (Try.prog.info? e).map (fun i => (i.zero, i.size, i.bytes)) = some (some (.slice none 0 0), 1, 24)) (n : Nat) (h1 : n ≤ 1000) (W : World) : (Instr.makeSlice t (.int .i64 (n : Int)) (.int .i64 (n : Int))).run Try.prog W = .ok (.slice (some ⟨W.heap.size, 0, none⟩) n n) (W.alloc (.cells (List.replicate n (Value.slice none 0 0)).toArray e)) := by
  obtain ⟨i0, hi, hzz⟩ := Option.map_eq_some_iff.1 hinfo
  simp only [Prod.mk.injEq] at hzz
  obtain ⟨hz0, hz1, hz2⟩ := hzz
  have hr := run_make (P := Try.prog) (w := W) t e i0 (.slice none 0 0) ht hi hz0 .i64 .i64 n n (by omega) (Int.le_refl _) (by rw [hz2]; omega) (by omega)
  rw [hr, hz1, Nat.mul_one, Int.toNat_natCast]
  congr 3
  refine Array.ext (by simp [madeCells]) (fun i h1 h2 => ?_)
  simp [madeCells, Value.cells, Nat.mod_one]
theorem two_new (W : World) (X Y : Obj) : ((W.alloc X).alloc Y).drew.heap[W.heap.size]? = some X ∧ ((W.alloc X).alloc Y).drew.heap[W.heap.size + 1]? = some Y := by
  have s1 : (W.alloc X).heap.size = W.heap.size + 1 := Array.size_push _
  refine ⟨blk_drew (blk_alloc (blk_new _ _) _), ?_⟩
  rw [← s1]; exact blk_drew (blk_new _ _)
theorem wi_made {w W W' : World} {g g2 : Nat} {v3 : Value} (g3 gl : Nat) (hv : v3 = .pointer (some ⟨g3, 0, none⟩)) (hb : Below w.heap.size w W) (hw : Below W.heap.size W W') (hg : W.heap[g]? = some (.cells #[.int .i64 0, .int .i64 0, .slice none 0 0] 76 (0, 0))) (h2 : W.heap[g2]? = some (.cells #[.int .i64 0, .int .i64 0, .slice none 0 0] 62 (0, 0))) (hge : w.heap.size ≤ g2)
    (e3 : W'.heap[g3]? = some (.cells #[.int .i64 0, .int .i64 0, .slice (some ⟨gl, 0, none⟩) 3 3] 62 (0, 0))) (el : W'.heap[gl]? = some (.cells (List.replicate 3 (Value.slice none 0 0)).toArray 81 (0, 0))) (q3 : W.heap.size ≤ g3) (ql : W.heap.size ≤ gl) :
    ∃ g3 gl, v3 = .pointer (some ⟨g3, 0, none⟩) ∧ WI w W' g g2 g3 gl (.slice none 0 0) (.slice none 0 0) (.slice none 0 0) := by
  have hs := below_size hb
  have h2l := blk_lt h2
  exact ⟨g3, gl, hv, (hw.block g (blk_lt hg)).trans hg, (hw.block g2 h2l).trans h2, e3, el, by omega, hge, by omega, by omega, below_step hb hw⟩
theorem blk_ne {W : World} {a b t t' : Nat} {x y : Array Value} (ha : W.heap[a]? = some (.cells x t (0, 0))) (hb : W.heap[b]? = some (.cells y t' (0, 0))) (ht : t ≠ t') : a ≠ b := by
  intro e
  subst e
  rw [ha] at hb
  simp at hb
  exact ht hb.2
theorem wi_put {w W : World} {g g2 g3 gl : Nat} {c0 c1 c2 : Value} (h : WI w W g g2 g3 gl c0 c1 c2) (i : Nat) (d0 d1 d2 : Value) (hd : #[d0, d1, d2] = #[c0, c1, c2].setIfInBounds i (lev W.heap.size)) :
    LV w ((W.setCell ⟨gl, i, none⟩ (lev W.heap.size)).alloc (.cells (List.replicate 8 (Value.slice none 0 0)).toArray 74)).drew W.heap.size ∧ WI w ((W.setCell ⟨gl, i, none⟩ (lev W.heap.size)).alloc (.cells (List.replicate 8 (Value.slice none 0 0)).toArray 74)).drew g g2 g3 gl d0 d1 d2 := by
  obtain ⟨hg, h2, h3, hl, n23, q2, q3, ql, hb⟩ := h
  have hs : (W.setCell ⟨gl, i, none⟩ (lev W.heap.size)).heap.size = W.heap.size := by simp
  have hn := blk_new (W.setCell ⟨gl, i, none⟩ (lev W.heap.size)) (.cells (List.replicate 8 (Value.slice none 0 0)).toArray 74)
  rw [hs] at hn
  refine ⟨⟨below_size hb, blk_drew hn⟩, blk_drew (blk_alloc (blk_far (p := ⟨gl, i, none⟩) hg (blk_ne hg hl (by decide)) _) _), blk_drew (blk_alloc (blk_far (p := ⟨gl, i, none⟩) h2 (blk_ne h2 hl (by decide)) _) _), blk_drew (blk_alloc (blk_far (p := ⟨gl, i, none⟩) h3 (blk_ne h3 hl (by decide)) _) _), ?_, n23, q2, q3, ql, below_drew1 (below_alloc (below_set (g := gl) (j := i) hb ql) _)⟩
  rw [hd]
  exact blk_drew (blk_alloc (blk_put hl i _ rfl) _)
theorem lv_put {w W : World} {gl b : Nat} {cs : Array Value} (hl : W.heap[gl]? = some (.cells cs 81 (0, 0))) (i : Nat) (v : Value) (X : Obj) (h : LV w W b) : LV w ((W.setCell ⟨gl, i, none⟩ v).alloc X).drew b := by
  obtain ⟨h1, h2⟩ := h
  exact ⟨h1, blk_drew (blk_alloc (blk_far (p := ⟨gl, i, none⟩) h2 (blk_ne h2 hl (by decide)) _) _)⟩
theorem far3 {W : World} {g2 b t : Nat} {cs : Array Value} (h : W.heap[b]? = some (.cells cs t (0, 0))) (ne : b ≠ g2) (x y z : Value) : (((W.setCell ⟨g2, 0, none⟩ x).setCell ⟨g2, 1, none⟩ y).setCell ⟨g2, 2, none⟩ z).heap[b]? = some (.cells cs t (0, 0)) :=
  blk_far (p := ⟨g2, 2, none⟩) (blk_far (p := ⟨g2, 1, none⟩) (blk_far (p := ⟨g2, 0, none⟩) h ne x) ne y) ne z
set_option maxHeartbeats 8000000 in
set_option maxRecDepth 100000 in
theorem wheel0 (g : Nat) (w : World) (hg : w.heap[g]? = some (.cells #[.int .i64 0, .int .i64 0, .slice none 0 0] 76 (0, 0))) :
    Calls Try.prog 52 #[.pointer (some ⟨g, 0, none⟩)] w fun e w' => ∃ v : Value, e = .returned (.agg #[.int .i64 0, .int .i64 0, v]) ∧ Kd.R (Kd.slice 74 (Kd.slice 84 k84)) 81 w' w.heap.size (fun _ => True) v (List.replicate 3 (List.replicate 8 [])) ∧ Below w.heap.size w w' := by
  have hu62 := Try.underlying62
  have hu76 := Try.underlying76
  have hm60 := mkN 60 81 Try.underlying60 (by kernel_rfl) 3 (by omega)
  have hm81 := mkN 81 74 Try.underlying81 (by kernel_rfl) 8 (by omega)
  simp only [Int.cast_ofNat_Int] at hm60 hm81
  go_enter Try.func52, Try.ntmps52
  go_upto_region 1 with (first | ((with_reducible refine gate_dst (N := 2) rfl ?_); refine box_event ?hg (N := 2) ?hd (cs := #[.int .i64 0, .int .i64 0, .slice none 0 0]) (t := 62) ?hr ?_; (case hd => rfl); (case hg => rfl); (case hr => first | (go_simp; done) | (go_simp; rfl)); intro g2 hg2 w1 hbox hb))
  (try simp only [Act.put, List.setIfInBounds_toArray, List.set_cons_zero, List.set_cons_succ])
  have hge2 : w.heap.size ≤ g2 := by omega
  have hg1 := (hb.block g (blk_lt hg)).trans hg
  have hc0 : w1.cell? ⟨g, 0, none⟩ = some (.int .i64 0) := (blk_cell hg1 0).trans rfl
  have hc1 : w1.cell? ⟨g, 1, none⟩ = some (.int .i64 0) := (blk_cell hg1 1).trans rfl
  have hc0a : ∀ X, (w1.alloc X).cell? ⟨g, 0, none⟩ = some (.int .i64 0) := fun X => (blk_cell (blk_alloc hg1 X) 0).trans rfl
  have hc1a : ∀ X, (w1.alloc X).cell? ⟨g, 1, none⟩ = some (.int .i64 0) := fun X => (blk_cell (blk_alloc hg1 X) 1).trans rfl
  have hc0b : ∀ X Y, ((w1.alloc X).alloc Y).cell? ⟨g, 0, none⟩ = some (.int .i64 0) := fun X Y => (blk_cell (blk_alloc (blk_alloc hg1 X) Y) 0).trans rfl
  have hc1b : ∀ X Y, ((w1.alloc X).alloc Y).cell? ⟨g, 1, none⟩ = some (.int .i64 0) := fun X Y => (blk_cell (blk_alloc (blk_alloc hg1 X) Y) 1).trans rfl
  have HB1 := Aside0.mk hb
  have HG1 := Aside0.mk hg1
  have H21 := Aside0.mk hbox
  clear hb hg1 hbox hg2
  go_cut [3] (fun v3 wc => ∃ g3 gl, v3 = .pointer (some ⟨g3, 0, none⟩) ∧ WI w wc g g2 g3 gl (.slice none 0 0) (.slice none 0 0) (.slice none 0 0))
  case first =>
    go_region
    all_goals go_wp2
    all_goals go_meet
    all_goals first
      | exact wi_made (w1.heap.size + 1) w1.heap.size rfl HB1.out (by repeat (first | exact Below.refl _ _ | apply below_alloc | apply pw_below_drewN | apply below_drew1)) HG1.out H21.out hge2 (two_new _ _ _).2 (two_new _ _ _).1 (by omega) (by omega)
      | exact wi_made w1.heap.size (w1.heap.size + 1) rfl HB1.out (by repeat (first | exact Below.refl _ _ | apply below_alloc | apply pw_below_drewN | apply below_drew1)) HG1.out H21.out hge2 (two_new _ _ _).1 (two_new _ _ _).2 (by omega) (by omega)
  case rest =>
    clear hc0 hc1 hc0a hc1a hc0b hc1b
    obtain ⟨g3, gl, rfl, hW⟩ := hcut
    have HW := Aside0.mk hW
    have hc2 : wc.cell? ⟨g3, 2, none⟩ = some (.slice (some ⟨gl, 0, none⟩) 3 3) := (blk_cell hW.2.2.1 2).trans rfl
    clear hW
    go_wp2
    go_loopg [22] 3 (fun gg v22 w' => (v22 = .int .i64 0 ∧ gg = 3 ∧ Aside0 (WI w w' g g2 g3 gl (.slice none 0 0) (.slice none 0 0) (.slice none 0 0))) ∨ (∃ b0, v22 = .int .i64 1 ∧ gg = 2 ∧ Aside0 (LV w w' b0) ∧ Aside0 (WI w w' g g2 g3 gl (lev b0) (.slice none 0 0) (.slice none 0 0))) ∨
      (∃ b0 b1, v22 = .int .i64 2 ∧ gg = 1 ∧ Aside0 (LV w w' b0) ∧ Aside0 (LV w w' b1) ∧ Aside0 (WI w w' g g2 g3 gl (lev b0) (lev b1) (.slice none 0 0))) ∨ (∃ b0 b1 b2, v22 = .int .i64 3 ∧ gg = 0 ∧ Aside0 (LV w w' b0) ∧ Aside0 (LV w w' b1) ∧ Aside0 (LV w w' b2) ∧ Aside0 (WI w w' g g2 g3 gl (lev b0) (lev b1) (lev b2))))
    case atStart => exact Or.inl ⟨rfl, rfl, HW⟩
    case round =>
      clear hc2
      rcases hrel with ⟨rfl, rfl, HW⟩ | ⟨b0, rfl, rfl, L0, HW⟩ | ⟨b0, b1, rfl, rfl, L0, L1, HW⟩ | ⟨b0, b1, b2, rfl, rfl, L0, L1, L2, HW⟩
      · have hl := blk_lt HW.out.2.2.2.1
        have hc2 : wr.cell? ⟨g3, 2, none⟩ = some (.slice (some ⟨gl, 0, none⟩) 3 3) := (blk_cell HW.out.2.2.1 2).trans rfl
        have hcl : wr.cell? ⟨gl, 0, none⟩ = some (.slice none 0 0) := (blk_cell HW.out.2.2.2.1 0).trans rfl
        have hfl := blk_frozen HW.out.2.2.2.1 0
        have hc2a : ∀ X, (wr.alloc X).cell? ⟨g3, 2, none⟩ = some (.slice (some ⟨gl, 0, none⟩) 3 3) := fun X => (blk_cell (blk_alloc HW.out.2.2.1 X) 2).trans rfl
        have hcla : ∀ X, (wr.alloc X).cell? ⟨gl, 0, none⟩ = some (.slice none 0 0) := fun X => (blk_cell (blk_alloc HW.out.2.2.2.1 X) 0).trans rfl
        have hfla : ∀ X, (wr.alloc X).frozen? ⟨gl, 0, none⟩ = false := fun X => blk_frozen (blk_alloc HW.out.2.2.2.1 X) 0
        obtain ⟨N0, N1⟩ := wi_put HW.out 0 (lev wr.heap.size) (.slice none 0 0) (.slice none 0 0) rfl
        go_upto_region 5 with (fail)
        go_region
        go_wp2
        go_roundg 2
        case measure => omega
        case rel => exact Or.inr (Or.inl ⟨_, rfl, rfl, ⟨N0⟩, ⟨N1⟩⟩)
      · have hl := blk_lt HW.out.2.2.2.1
        have hc2 : wr.cell? ⟨g3, 2, none⟩ = some (.slice (some ⟨gl, 0, none⟩) 3 3) := (blk_cell HW.out.2.2.1 2).trans rfl
        have hcl : wr.cell? ⟨gl, 1, none⟩ = some (.slice none 0 0) := (blk_cell HW.out.2.2.2.1 1).trans rfl
        have hfl := blk_frozen HW.out.2.2.2.1 1
        have hc2a : ∀ X, (wr.alloc X).cell? ⟨g3, 2, none⟩ = some (.slice (some ⟨gl, 0, none⟩) 3 3) := fun X => (blk_cell (blk_alloc HW.out.2.2.1 X) 2).trans rfl
        have hcla : ∀ X, (wr.alloc X).cell? ⟨gl, 1, none⟩ = some (.slice none 0 0) := fun X => (blk_cell (blk_alloc HW.out.2.2.2.1 X) 1).trans rfl
        have hfla : ∀ X, (wr.alloc X).frozen? ⟨gl, 1, none⟩ = false := fun X => blk_frozen (blk_alloc HW.out.2.2.2.1 X) 1
        obtain ⟨N0, N1⟩ := wi_put HW.out 1 (lev b0) (lev wr.heap.size) (.slice none 0 0) rfl
        have M0 := lv_put HW.out.2.2.2.1 1 (lev wr.heap.size) (.cells (List.replicate 8 (Value.slice none 0 0)).toArray 74) L0.out
        go_upto_region 5 with (fail)
        go_region
        go_wp2
        go_roundg 1
        case measure => omega
        case rel => exact Or.inr (Or.inr (Or.inl ⟨_, _, rfl, rfl, ⟨M0⟩, ⟨N0⟩, ⟨N1⟩⟩))
      · have hl := blk_lt HW.out.2.2.2.1
        have hc2 : wr.cell? ⟨g3, 2, none⟩ = some (.slice (some ⟨gl, 0, none⟩) 3 3) := (blk_cell HW.out.2.2.1 2).trans rfl
        have hcl : wr.cell? ⟨gl, 2, none⟩ = some (.slice none 0 0) := (blk_cell HW.out.2.2.2.1 2).trans rfl
        have hfl := blk_frozen HW.out.2.2.2.1 2
        have hc2a : ∀ X, (wr.alloc X).cell? ⟨g3, 2, none⟩ = some (.slice (some ⟨gl, 0, none⟩) 3 3) := fun X => (blk_cell (blk_alloc HW.out.2.2.1 X) 2).trans rfl
        have hcla : ∀ X, (wr.alloc X).cell? ⟨gl, 2, none⟩ = some (.slice none 0 0) := fun X => (blk_cell (blk_alloc HW.out.2.2.2.1 X) 2).trans rfl
        have hfla : ∀ X, (wr.alloc X).frozen? ⟨gl, 2, none⟩ = false := fun X => blk_frozen (blk_alloc HW.out.2.2.2.1 X) 2
        obtain ⟨N0, N1⟩ := wi_put HW.out 2 (lev b0) (lev b1) (lev wr.heap.size) rfl
        have M0 := lv_put HW.out.2.2.2.1 2 (lev wr.heap.size) (.cells (List.replicate 8 (Value.slice none 0 0)).toArray 74) L0.out
        have M1 := lv_put HW.out.2.2.2.1 2 (lev wr.heap.size) (.cells (List.replicate 8 (Value.slice none 0 0)).toArray 74) L1.out
        go_upto_region 5 with (fail)
        go_region
        go_wp2
        go_roundg 0
        case measure => omega
        case rel => exact Or.inr (Or.inr (Or.inr ⟨_, _, _, rfl, rfl, ⟨M0⟩, ⟨M1⟩, ⟨N0⟩, ⟨N1⟩⟩))
      · have hct : wr.cell? ⟨g, 2, none⟩ = some (.slice none 0 0) := (blk_cell HW.out.1 2).trans rfl
        have h30 : wr.cell? ⟨g3, 0, none⟩ = some (.int .i64 0) := (blk_cell HW.out.2.2.1 0).trans rfl
        have h31 : wr.cell? ⟨g3, 1, none⟩ = some (.int .i64 0) := (blk_cell HW.out.2.2.1 1).trans rfl
        have h32 : wr.cell? ⟨g3, 2, none⟩ = some (.slice (some ⟨gl, 0, none⟩) 3 3) := (blk_cell HW.out.2.2.1 2).trans rfl
        have h20 : wr.cell? ⟨g2, 0, none⟩ = some (.int .i64 0) := (blk_cell HW.out.2.1 0).trans rfl
        have h21 : wr.cell? ⟨g2, 1, none⟩ = some (.int .i64 0) := (blk_cell HW.out.2.1 1).trans rfl
        have h22 : wr.cell? ⟨g2, 2, none⟩ = some (.slice none 0 0) := (blk_cell HW.out.2.1 2).trans rfl
        have f20 := blk_frozen HW.out.2.1 0
        have f21 := blk_frozen HW.out.2.1 1
        have f22 := blk_frozen HW.out.2.1 2
        go_wp2
        go_loopg [36] 0 (fun gg v36 w' => v36 = .int .i64 0 ∧ w' = wr)
        case atStart => exact ⟨rfl, rfl⟩
        case round =>
          obtain ⟨rfl, rfl⟩ := hrel
          go_wp2
          refine bodyPost_ret (results_cell_row rfl _ _ g2 62 #[.int .i64 0, .int .i64 0, .slice (some ⟨gl, 0, none⟩) 3 3] (0, 0) _ rfl (by refine blk_put (cs := #[.int .i64 0, .int .i64 0, .slice none 0 0]) ?_ 2 _ rfl; refine blk_put (cs := #[.int .i64 0, .int .i64 0, .slice none 0 0]) ?_ 1 _ rfl; refine blk_put (cs := #[.int .i64 0, .int .i64 0, .slice none 0 0]) ?_ 0 _ rfl; exact HW.out.2.1) Try.underlying62 rfl (by kernel_rfl)) rfl ?_
          obtain ⟨hg', h2', h3', hl', n23, q2, q3, ql, hb'⟩ := HW.out
          exact ⟨_, rfl, rowWheel ql (far3 hl' (blk_ne hl' h2' (by decide)) _ _ _) L0.out.1 L1.out.1 L2.out.1 (far3 L0.out.2 (blk_ne L0.out.2 h2' (by decide)) _ _ _) (far3 L1.out.2 (blk_ne L1.out.2 h2' (by decide)) _ _ _) (far3 L2.out.2 (blk_ne L2.out.2 h2' (by decide)) _ _ _), below_set (g := g2) (j := 2) (below_set (g := g2) (j := 1) (below_set (g := g2) (j := 0) hb' q2) q2) q2⟩
def impl_NewWheel.f (k : Nat) : Option (Int × Int × (List (List (List (S84))))) := some (0, 0, List.replicate 3 (List.replicate 8 []))
theorem impl_NewWheel.mono : ∀ k, LeO (impl_NewWheel.f k) (impl_NewWheel.f (k + 1)) := fun _ => LeO.refl _
set_option maxHeartbeats 8000000 in
set_option maxRecDepth 100000 in
theorem impl_NewWheel.calls (k : Nat)  (r1 : Int) (r2 : Int) (r3 : List (List (List (S84)))) (w : World) (h : impl_NewWheel.f k  = some (r1, r2, r3)) :
    Calls Try.prog 39 #[] w fun e w' => ∃ v2_ : Value, e = .returned (.agg #[.int .i64 r1, .int .i64 r2, v2_]) ∧ Kd.R (Kd.slice 74 (Kd.slice 84 k84)) 81 w' w.heap.size (fun _ => True) v2_ r3 ∧ Below w.heap.size w w' := by
  simp only [impl_NewWheel.f, Option.some.injEq, Prod.mk.injEq] at h
  obtain ⟨rfl, rfl, rfl⟩ := h
  have hu62 := Try.underlying62
  have hu76 := Try.underlying76
  go_enter Try.func39, Try.ntmps39
  go_wp2_with (first
    | ((with_reducible refine gate_dst (N := 0) rfl ?_); refine box_event ?hg (N := 0) ?hd (cs := #[.int .i64 0, .int .i64 0, .slice none 0 0]) (t := 62) ?hr ?_; (case hd => rfl); (case hg => rfl); (case hr => first | (go_simp; done) | (go_simp; rfl)); intro g0 hg0 w1 hbox hb; have B1 := Aside0.mk hbox; have HB1 := Aside0.mk hb; have GE0 := Aside0.mk (by rw [hg0]; exact Nat.le_refl _ : w.heap.size ≤ g0); clear hbox hb hg0)
    | ((with_reducible refine gate_dst (N := 1) rfl ?_); refine box_event ?hg (N := 1) ?hd (cs := #[.int .i64 0, .int .i64 0, .slice none 0 0]) (t := 76) ?hr ?_; (case hd => rfl); (case hg => rfl); (case hr => first | (go_simp; done) | (go_simp; rfl)); intro g1 hg1 w2 hbox hb; have B2 := Aside0.mk hbox; have hx0 : w2.cell? ⟨g1, 0, none⟩ = some (.int .i64 0) := (blk_cell hbox 0).trans rfl; have hx1 : w2.cell? ⟨g1, 1, none⟩ = some (.int .i64 0) := (blk_cell hbox 1).trans rfl; have hx2 : w2.cell? ⟨g1, 2, none⟩ = some (.slice none 0 0) := (blk_cell hbox 2).trans rfl; have hf0 := blk_frozen hbox 0; have hf1 := blk_frozen hbox 1; have hf2 := blk_frozen hbox 2; have HB2 := Aside0.mk hb; have GE1 := Aside0.mk (by rw [hg1]; exact below_size HB1.out : w.heap.size ≤ g1); clear hbox hb hg1)
    | (go_at_call 52; have n1_ : (((w2.setCell ⟨g1, 0, none⟩ (.int .i64 0)).setCell ⟨g1, 1, none⟩ (.int .i64 0)).setCell ⟨g1, 2, none⟩ (.slice none 0 0)).heap[g1]? = some (.cells #[.int .i64 0, .int .i64 0, .slice none 0 0] 76 (0, 0)) := (by refine blk_put (cs := #[.int .i64 0, .int .i64 0, .slice none 0 0]) ?_ 2 _ rfl; refine blk_put (cs := #[.int .i64 0, .int .i64 0, .slice none 0 0]) ?_ 1 _ rfl; refine blk_put (cs := #[.int .i64 0, .int .i64 0, .slice none 0 0]) ?_ 0 _ rfl; exact B2.out);
       have n2_ := far3 (g2 := g1) ((HB2.out.block g0 (blk_lt B1.out)).trans B1.out) (blk_ne ((HB2.out.block g0 (blk_lt B1.out)).trans B1.out) B2.out (by decide)) (.int .i64 0) (.int .i64 0) (.slice none 0 0);
       have n3_ := below_set (g := g1) (j := 2) (v := .slice none 0 0) (below_set (g := g1) (j := 1) (v := .int .i64 0) (below_set (g := g1) (j := 0) (v := .int .i64 0) (below_step HB1.out HB2.out) GE1.out) GE1.out) GE1.out;
       refine (wheel0 g1 _ n1_).mono ?_; rintro e w' ⟨v, rfl, hR, hb'⟩; have R3 := Aside0.mk (Kd.R_lower hR (below_size n3_)); have B3 := Aside0.mk ((hb'.block g0 (blk_lt n2_)).trans n2_); have HB3 := Aside0.mk (below_step n3_ hb'); clear n1_ n2_ n3_ hR hb';
       have hy0 : w'.cell? ⟨g0, 0, none⟩ = some (.int .i64 0) := (blk_cell B3.out 0).trans rfl; have hy1 : w'.cell? ⟨g0, 1, none⟩ = some (.int .i64 0) := (blk_cell B3.out 1).trans rfl; have hy2 : w'.cell? ⟨g0, 2, none⟩ = some (.slice none 0 0) := (blk_cell B3.out 2).trans rfl; have hz0 := blk_frozen B3.out 0; have hz1 := blk_frozen B3.out 1; have hz2 := blk_frozen B3.out 2; obtain ⟨A3, c3, e3⟩ := Kd.R_slice R3.out; subst e3))
  refine bodyPost_ret (results_cell_row rfl _ _ g0 62 #[.int .i64 0, .int .i64 0, .slice A3 (List.replicate 3 (List.replicate 8 ([] : List S84))).length c3] (0, 0) _ rfl (by refine blk_put (cs := #[.int .i64 0, .int .i64 0, .slice none 0 0]) ?_ 2 _ rfl; refine blk_put (cs := #[.int .i64 0, .int .i64 0, .slice none 0 0]) ?_ 1 _ rfl; refine blk_put (cs := #[.int .i64 0, .int .i64 0, .slice none 0 0]) ?_ 0 _ rfl; exact B3.out) Try.underlying62 rfl (by kernel_rfl)) rfl ?_
  exact ⟨_, rfl, Kd.R_mono (Kd.R_far (p := ⟨g0, 2, none⟩) (Kd.R_far (p := ⟨g0, 1, none⟩) (Kd.R_far (p := ⟨g0, 0, none⟩) (Kd.R_types R3.out B3.out (by decide)) (fun _ hk => hk.2) _) (fun _ hk => hk.2) _) (fun _ hk => hk.2) _) (fun _ _ => trivial), below_set (g := g0) (j := 2) (below_set (g := g0) (j := 1) (below_set (g := g0) (j := 0) HB3.out GE0.out) GE0.out) GE0.out⟩

/-! ### laws_eqTimer: function 67 -/
def laws_eqTimer.f (a0_0 : Int) (a0_1 : Int) (a0_2 : Int) (a1_0 : Int) (a1_1 : Int) (a1_2 : Int) : Option (Bool) := if a0_0 = a1_0 then (if a0_1 = a1_1 then (if a0_2 = a1_2 then (some true) else (some false)) else (some false)) else (some false)
set_option maxHeartbeats 8000000 in
set_option maxRecDepth 100000 in
theorem laws_eqTimer.calls (a0_0 : Int) (a0_1 : Int) (a0_2 : Int) (a1_0 : Int) (a1_1 : Int) (a1_2 : Int) (r : Bool) (w : World) (h : laws_eqTimer.f a0_0 a0_1 a0_2 a1_0 a1_1 a1_2 = some r) :
    Calls Try.prog 67 #[.agg #[.int .i64 a0_0, .int .i64 a0_1, .int .i64 a0_2], .agg #[.int .i64 a1_0, .int .i64 a1_1, .int .i64 a1_2]] w fun e w' => e = .returned (.bool r) ∧ Below w.heap.size w w' := by
  have hu84 := Try.underlying84
  have HB := Aside0.mk (Below.refl w.heap.size w)
  have H : (if a0_0 = a1_0 then (if a0_1 = a1_1 then (if a0_2 = a1_2 then (some true) else (some false)) else (some false)) else (some false)) = some r := h
  clear h
  by_cases c3 : a0_0 = a1_0
  · rw [if_pos c3] at H
    have c3b0 : (a0_0 == a1_0) = true := beq_iff_eq.mpr c3
    have c3b1 : (a0_0 != a1_0) = false := bne_eq_false_iff_eq.mpr c3
    clear c3
    by_cases c4 : a0_1 = a1_1
    · rw [if_pos c4] at H
      have c4b0 : (a0_1 == a1_1) = true := beq_iff_eq.mpr c4
      have c4b1 : (a0_1 != a1_1) = false := bne_eq_false_iff_eq.mpr c4
      clear c4
      by_cases c5 : a0_2 = a1_2
      · rw [if_pos c5] at H
        have c5b0 : (a0_2 == a1_2) = true := beq_iff_eq.mpr c5
        have c5b1 : (a0_2 != a1_2) = false := bne_eq_false_iff_eq.mpr c5
        clear c5
        obtain rfl := Option.some.inj H
        go_enter Try.func67, Try.ntmps67
        go_wp2_with (first | ((with_reducible refine gate_dst (N := 2) rfl ?_); refine box_event ?hg (N := 2) ?hd (cs := #[.int .i64 a0_0, .int .i64 a0_1, .int .i64 a0_2]) (t := 84) ?hr ?_; (case hd => rfl); (case hg => rfl); (case hr => first | (go_simp; done) | (go_simp; rfl)); intro gb131 hg w6 hbox hb; have n0_ := Aside0.mk (below_step (by repeat (first | (with_reducible first | exact HB.out | apply below_alloc | apply pw_below_drewN | apply below_drew1) | exact HB.out)) hb); have n1_ := Aside0.mk (hbox); have n2_ := Aside0.mk ((by rw [hg]; exact (below_size (by repeat (first | (with_reducible first | exact HB.out | apply below_alloc | apply pw_below_drewN | apply below_drew1) | exact HB.out))) : w.heap.size ≤ gb131)); have n3_ := Aside0.mk ((by rw [hg]; exact (below_size (by repeat (first | (with_reducible first | exact HB.out | apply below_alloc | apply pw_below_drewN | apply below_drew1) | exact HB.out))) : w.heap.size ≤ gb131)); clear HB; have HB := n0_; have BK131 := n1_; have GW131 := n2_; have GE131 := n3_; clear n0_ n1_ n2_ n3_; clear hb hbox hg) | ((with_reducible refine gate_dst (N := 3) rfl ?_); refine box_event ?hg (N := 3) ?hd (cs := #[.int .i64 a1_0, .int .i64 a1_1, .int .i64 a1_2]) (t := 84) ?hr ?_; (case hd => rfl); (case hg => rfl); (case hr => first | (go_simp; done) | (go_simp; rfl)); intro gb132 hg w7 hbox hb; have n0_ := Aside0.mk (blk_below (g := gb131) (o := .cells #[.int .i64 a0_0, .int .i64 a0_1, .int .i64 a0_2] 84 (0, 0)) (by (with_reducible repeat (first | refine blk_drewN ?_ _ | refine blk_drew ?_ | refine blk_alloc ?_ _)); exact BK131.out) hb); have n1_ := Aside0.mk (below_step (by repeat (first | (with_reducible first | exact HB.out | apply below_alloc | apply pw_below_drewN | apply below_drew1 | refine below_set ?_ GE131.out) | exact HB.out)) hb); have n2_ := Aside0.mk (hbox); have n3_ := Aside0.mk ((by rw [hg]; exact (below_size (by repeat (first | (with_reducible first | exact HB.out | apply below_alloc | apply pw_below_drewN | apply below_drew1 | refine below_set ?_ GE131.out) | exact HB.out))) : w.heap.size ≤ gb132)); have n4_ := Aside0.mk ((by rw [hg]; exact (below_size (by repeat (first | (with_reducible first | exact HB.out | apply below_alloc | apply pw_below_drewN | apply below_drew1 | refine below_set ?_ GE131.out) | exact HB.out))) : w.heap.size ≤ gb132)); have n5_ := Aside0.mk ((by rw [hg]; exact Nat.ne_of_lt (blk_lt (g := gb131) (o := .cells #[.int .i64 a0_0, .int .i64 a0_1, .int .i64 a0_2] 84 (0, 0)) (by (with_reducible repeat (first | refine blk_drewN ?_ _ | refine blk_drew ?_ | refine blk_alloc ?_ _)); exact BK131.out)) : gb131 ≠ gb132)); have n6_ := Aside0.mk ((by rw [hg]; exact Nat.ne_of_gt (blk_lt (g := gb131) (o := .cells #[.int .i64 a0_0, .int .i64 a0_1, .int .i64 a0_2] 84 (0, 0)) (by (with_reducible repeat (first | refine blk_drewN ?_ _ | refine blk_drew ?_ | refine blk_alloc ?_ _)); exact BK131.out)) : gb132 ≠ gb131)); clear BK131; clear HB; have BK131 := n0_; have HB := n1_; have BK132 := n2_; have GW132 := n3_; have GE132 := n4_; have NB131_132 := n5_; have NB132_131 := n6_; clear n0_ n1_ n2_ n3_ n4_ n5_ n6_; clear hb hbox hg; have hnb8 := NB131_132.out; have hnc8 := NB132_131.out; have hcz9_0 : w7.cell? ⟨gb131, 0, none⟩ = some (.int .i64 a0_0) := (blk_cell BK131.out 0).trans rfl; have hcz9_1 : w7.cell? ⟨gb131, 1, none⟩ = some (.int .i64 a0_1) := (blk_cell BK131.out 1).trans rfl; have hcz9_2 : w7.cell? ⟨gb131, 2, none⟩ = some (.int .i64 a0_2) := (blk_cell BK131.out 2).trans rfl; have hfz9_0 := blk_frozen BK131.out 0; have hfz9_1 := blk_frozen BK131.out 1; have hfz9_2 := blk_frozen BK131.out 2; have hcz10_0 : w7.cell? ⟨gb132, 0, none⟩ = some (.int .i64 a1_0) := (blk_cell BK132.out 0).trans rfl; have hcz10_1 : w7.cell? ⟨gb132, 1, none⟩ = some (.int .i64 a1_1) := (blk_cell BK132.out 1).trans rfl; have hcz10_2 : w7.cell? ⟨gb132, 2, none⟩ = some (.int .i64 a1_2) := (blk_cell BK132.out 2).trans rfl; have hfz10_0 := blk_frozen BK132.out 0; have hfz10_1 := blk_frozen BK132.out 1; have hfz10_2 := blk_frozen BK132.out 2))
        go_ret
        exact ⟨by first | rfl | (simp [errW_none, errW_some] <;> rfl) | (simp [*, errW_none, errW_some] <;> rfl), by repeat (first | (with_reducible first | exact HB.out | apply below_alloc | apply pw_below_drewN | apply below_drew1 | refine below_set ?_ GE131.out | refine below_set ?_ GE132.out) | exact HB.out)⟩
      · rw [if_neg c5] at H
        have c5b0 : (a0_2 == a1_2) = false := beq_eq_false_iff_ne.mpr c5
        have c5b1 : (a0_2 != a1_2) = true := bne_iff_ne.mpr c5
        obtain rfl := Option.some.inj H
        go_enter Try.func67, Try.ntmps67
        go_wp2_with (first | ((with_reducible refine gate_dst (N := 2) rfl ?_); refine box_event ?hg (N := 2) ?hd (cs := #[.int .i64 a0_0, .int .i64 a0_1, .int .i64 a0_2]) (t := 84) ?hr ?_; (case hd => rfl); (case hg => rfl); (case hr => first | (go_simp; done) | (go_simp; rfl)); intro gb131 hg w11 hbox hb; have n0_ := Aside0.mk (below_step (by repeat (first | (with_reducible first | exact HB.out | apply below_alloc | apply pw_below_drewN | apply below_drew1) | exact HB.out)) hb); have n1_ := Aside0.mk (hbox); have n2_ := Aside0.mk ((by rw [hg]; exact (below_size (by repeat (first | (with_reducible first | exact HB.out | apply below_alloc | apply pw_below_drewN | apply below_drew1) | exact HB.out))) : w.heap.size ≤ gb131)); have n3_ := Aside0.mk ((by rw [hg]; exact (below_size (by repeat (first | (with_reducible first | exact HB.out | apply below_alloc | apply pw_below_drewN | apply below_drew1) | exact HB.out))) : w.heap.size ≤ gb131)); clear HB; have HB := n0_; have BK131 := n1_; have GW131 := n2_; have GE131 := n3_; clear n0_ n1_ n2_ n3_; clear hb hbox hg) | ((with_reducible refine gate_dst (N := 3) rfl ?_); refine box_event ?hg (N := 3) ?hd (cs := #[.int .i64 a1_0, .int .i64 a1_1, .int .i64 a1_2]) (t := 84) ?hr ?_; (case hd => rfl); (case hg => rfl); (case hr => first | (go_simp; done) | (go_simp; rfl)); intro gb132 hg w12 hbox hb; have n0_ := Aside0.mk (blk_below (g := gb131) (o := .cells #[.int .i64 a0_0, .int .i64 a0_1, .int .i64 a0_2] 84 (0, 0)) (by (with_reducible repeat (first | refine blk_drewN ?_ _ | refine blk_drew ?_ | refine blk_alloc ?_ _)); exact BK131.out) hb); have n1_ := Aside0.mk (below_step (by repeat (first | (with_reducible first | exact HB.out | apply below_alloc | apply pw_below_drewN | apply below_drew1 | refine below_set ?_ GE131.out) | exact HB.out)) hb); have n2_ := Aside0.mk (hbox); have n3_ := Aside0.mk ((by rw [hg]; exact (below_size (by repeat (first | (with_reducible first | exact HB.out | apply below_alloc | apply pw_below_drewN | apply below_drew1 | refine below_set ?_ GE131.out) | exact HB.out))) : w.heap.size ≤ gb132)); have n4_ := Aside0.mk ((by rw [hg]; exact (below_size (by repeat (first | (with_reducible first | exact HB.out | apply below_alloc | apply pw_below_drewN | apply below_drew1 | refine below_set ?_ GE131.out) | exact HB.out))) : w.heap.size ≤ gb132)); have n5_ := Aside0.mk ((by rw [hg]; exact Nat.ne_of_lt (blk_lt (g := gb131) (o := .cells #[.int .i64 a0_0, .int .i64 a0_1, .int .i64 a0_2] 84 (0, 0)) (by (with_reducible repeat (first | refine blk_drewN ?_ _ | refine blk_drew ?_ | refine blk_alloc ?_ _)); exact BK131.out)) : gb131 ≠ gb132)); have n6_ := Aside0.mk ((by rw [hg]; exact Nat.ne_of_gt (blk_lt (g := gb131) (o := .cells #[.int .i64 a0_0, .int .i64 a0_1, .int .i64 a0_2] 84 (0, 0)) (by (with_reducible repeat (first | refine blk_drewN ?_ _ | refine blk_drew ?_ | refine blk_alloc ?_ _)); exact BK131.out)) : gb132 ≠ gb131)); clear BK131; clear HB; have BK131 := n0_; have HB := n1_; have BK132 := n2_; have GW132 := n3_; have GE132 := n4_; have NB131_132 := n5_; have NB132_131 := n6_; clear n0_ n1_ n2_ n3_ n4_ n5_ n6_; clear hb hbox hg; have hnb13 := NB131_132.out; have hnc13 := NB132_131.out; have hcz14_0 : w12.cell? ⟨gb131, 0, none⟩ = some (.int .i64 a0_0) := (blk_cell BK131.out 0).trans rfl; have hcz14_1 : w12.cell? ⟨gb131, 1, none⟩ = some (.int .i64 a0_1) := (blk_cell BK131.out 1).trans rfl; have hcz14_2 : w12.cell? ⟨gb131, 2, none⟩ = some (.int .i64 a0_2) := (blk_cell BK131.out 2).trans rfl; have hfz14_0 := blk_frozen BK131.out 0; have hfz14_1 := blk_frozen BK131.out 1; have hfz14_2 := blk_frozen BK131.out 2; have hcz15_0 : w12.cell? ⟨gb132, 0, none⟩ = some (.int .i64 a1_0) := (blk_cell BK132.out 0).trans rfl; have hcz15_1 : w12.cell? ⟨gb132, 1, none⟩ = some (.int .i64 a1_1) := (blk_cell BK132.out 1).trans rfl; have hcz15_2 : w12.cell? ⟨gb132, 2, none⟩ = some (.int .i64 a1_2) := (blk_cell BK132.out 2).trans rfl; have hfz15_0 := blk_frozen BK132.out 0; have hfz15_1 := blk_frozen BK132.out 1; have hfz15_2 := blk_frozen BK132.out 2))
        go_ret
        exact ⟨by first | rfl | (simp [errW_none, errW_some] <;> rfl) | (simp [*, errW_none, errW_some] <;> rfl), by repeat (first | (with_reducible first | exact HB.out | apply below_alloc | apply pw_below_drewN | apply below_drew1 | refine below_set ?_ GE131.out | refine below_set ?_ GE132.out) | exact HB.out)⟩
    · rw [if_neg c4] at H
      have c4b0 : (a0_1 == a1_1) = false := beq_eq_false_iff_ne.mpr c4
      have c4b1 : (a0_1 != a1_1) = true := bne_iff_ne.mpr c4
      obtain rfl := Option.some.inj H
      go_enter Try.func67, Try.ntmps67
      go_wp2_with (first | ((with_reducible refine gate_dst (N := 2) rfl ?_); refine box_event ?hg (N := 2) ?hd (cs := #[.int .i64 a0_0, .int .i64 a0_1, .int .i64 a0_2]) (t := 84) ?hr ?_; (case hd => rfl); (case hg => rfl); (case hr => first | (go_simp; done) | (go_simp; rfl)); intro gb131 hg w16 hbox hb; have n0_ := Aside0.mk (below_step (by repeat (first | (with_reducible first | exact HB.out | apply below_alloc | apply pw_below_drewN | apply below_drew1) | exact HB.out)) hb); have n1_ := Aside0.mk (hbox); have n2_ := Aside0.mk ((by rw [hg]; exact (below_size (by repeat (first | (with_reducible first | exact HB.out | apply below_alloc | apply pw_below_drewN | apply below_drew1) | exact HB.out))) : w.heap.size ≤ gb131)); have n3_ := Aside0.mk ((by rw [hg]; exact (below_size (by repeat (first | (with_reducible first | exact HB.out | apply below_alloc | apply pw_below_drewN | apply below_drew1) | exact HB.out))) : w.heap.size ≤ gb131)); clear HB; have HB := n0_; have BK131 := n1_; have GW131 := n2_; have GE131 := n3_; clear n0_ n1_ n2_ n3_; clear hb hbox hg) | ((with_reducible refine gate_dst (N := 3) rfl ?_); refine box_event ?hg (N := 3) ?hd (cs := #[.int .i64 a1_0, .int .i64 a1_1, .int .i64 a1_2]) (t := 84) ?hr ?_; (case hd => rfl); (case hg => rfl); (case hr => first | (go_simp; done) | (go_simp; rfl)); intro gb132 hg w17 hbox hb; have n0_ := Aside0.mk (blk_below (g := gb131) (o := .cells #[.int .i64 a0_0, .int .i64 a0_1, .int .i64 a0_2] 84 (0, 0)) (by (with_reducible repeat (first | refine blk_drewN ?_ _ | refine blk_drew ?_ | refine blk_alloc ?_ _)); exact BK131.out) hb); have n1_ := Aside0.mk (below_step (by repeat (first | (with_reducible first | exact HB.out | apply below_alloc | apply pw_below_drewN | apply below_drew1 | refine below_set ?_ GE131.out) | exact HB.out)) hb); have n2_ := Aside0.mk (hbox); have n3_ := Aside0.mk ((by rw [hg]; exact (below_size (by repeat (first | (with_reducible first | exact HB.out | apply below_alloc | apply pw_below_drewN | apply below_drew1 | refine below_set ?_ GE131.out) | exact HB.out))) : w.heap.size ≤ gb132)); have n4_ := Aside0.mk ((by rw [hg]; exact (below_size (by repeat (first | (with_reducible first | exact HB.out | apply below_alloc | apply pw_below_drewN | apply below_drew1 | refine below_set ?_ GE131.out) | exact HB.out))) : w.heap.size ≤ gb132)); have n5_ := Aside0.mk ((by rw [hg]; exact Nat.ne_of_lt (blk_lt (g := gb131) (o := .cells #[.int .i64 a0_0, .int .i64 a0_1, .int .i64 a0_2] 84 (0, 0)) (by (with_reducible repeat (first | refine blk_drewN ?_ _ | refine blk_drew ?_ | refine blk_alloc ?_ _)); exact BK131.out)) : gb131 ≠ gb132)); have n6_ := Aside0.mk ((by rw [hg]; exact Nat.ne_of_gt (blk_lt (g := gb131) (o := .cells #[.int .i64 a0_0, .int .i64 a0_1, .int .i64 a0_2] 84 (0, 0)) (by (with_reducible repeat (first | refine blk_drewN ?_ _ | refine blk_drew ?_ | refine blk_alloc ?_ _)); exact BK131.out)) : gb132 ≠ gb131)); clear BK131; clear HB; have BK131 := n0_; have HB := n1_; have BK132 := n2_; have GW132 := n3_; have GE132 := n4_; have NB131_132 := n5_; have NB132_131 := n6_; clear n0_ n1_ n2_ n3_ n4_ n5_ n6_; clear hb hbox hg; have hnb18 := NB131_132.out; have hnc18 := NB132_131.out; have hcz19_0 : w17.cell? ⟨gb131, 0, none⟩ = some (.int .i64 a0_0) := (blk_cell BK131.out 0).trans rfl; have hcz19_1 : w17.cell? ⟨gb131, 1, none⟩ = some (.int .i64 a0_1) := (blk_cell BK131.out 1).trans rfl; have hcz19_2 : w17.cell? ⟨gb131, 2, none⟩ = some (.int .i64 a0_2) := (blk_cell BK131.out 2).trans rfl; have hfz19_0 := blk_frozen BK131.out 0; have hfz19_1 := blk_frozen BK131.out 1; have hfz19_2 := blk_frozen BK131.out 2; have hcz20_0 : w17.cell? ⟨gb132, 0, none⟩ = some (.int .i64 a1_0) := (blk_cell BK132.out 0).trans rfl; have hcz20_1 : w17.cell? ⟨gb132, 1, none⟩ = some (.int .i64 a1_1) := (blk_cell BK132.out 1).trans rfl; have hcz20_2 : w17.cell? ⟨gb132, 2, none⟩ = some (.int .i64 a1_2) := (blk_cell BK132.out 2).trans rfl; have hfz20_0 := blk_frozen BK132.out 0; have hfz20_1 := blk_frozen BK132.out 1; have hfz20_2 := blk_frozen BK132.out 2))
      go_ret
      exact ⟨by first | rfl | (simp [errW_none, errW_some] <;> rfl) | (simp [*, errW_none, errW_some] <;> rfl), by repeat (first | (with_reducible first | exact HB.out | apply below_alloc | apply pw_below_drewN | apply below_drew1 | refine below_set ?_ GE131.out | refine below_set ?_ GE132.out) | exact HB.out)⟩
  · rw [if_neg c3] at H
    have c3b0 : (a0_0 == a1_0) = false := beq_eq_false_iff_ne.mpr c3
    have c3b1 : (a0_0 != a1_0) = true := bne_iff_ne.mpr c3
    obtain rfl := Option.some.inj H
    go_enter Try.func67, Try.ntmps67
    go_wp2_with (first | ((with_reducible refine gate_dst (N := 2) rfl ?_); refine box_event ?hg (N := 2) ?hd (cs := #[.int .i64 a0_0, .int .i64 a0_1, .int .i64 a0_2]) (t := 84) ?hr ?_; (case hd => rfl); (case hg => rfl); (case hr => first | (go_simp; done) | (go_simp; rfl)); intro gb131 hg w21 hbox hb; have n0_ := Aside0.mk (below_step (by repeat (first | (with_reducible first | exact HB.out | apply below_alloc | apply pw_below_drewN | apply below_drew1) | exact HB.out)) hb); have n1_ := Aside0.mk (hbox); have n2_ := Aside0.mk ((by rw [hg]; exact (below_size (by repeat (first | (with_reducible first | exact HB.out | apply below_alloc | apply pw_below_drewN | apply below_drew1) | exact HB.out))) : w.heap.size ≤ gb131)); have n3_ := Aside0.mk ((by rw [hg]; exact (below_size (by repeat (first | (with_reducible first | exact HB.out | apply below_alloc | apply pw_below_drewN | apply below_drew1) | exact HB.out))) : w.heap.size ≤ gb131)); clear HB; have HB := n0_; have BK131 := n1_; have GW131 := n2_; have GE131 := n3_; clear n0_ n1_ n2_ n3_; clear hb hbox hg) | ((with_reducible refine gate_dst (N := 3) rfl ?_); refine box_event ?hg (N := 3) ?hd (cs := #[.int .i64 a1_0, .int .i64 a1_1, .int .i64 a1_2]) (t := 84) ?hr ?_; (case hd => rfl); (case hg => rfl); (case hr => first | (go_simp; done) | (go_simp; rfl)); intro gb132 hg w22 hbox hb; have n0_ := Aside0.mk (blk_below (g := gb131) (o := .cells #[.int .i64 a0_0, .int .i64 a0_1, .int .i64 a0_2] 84 (0, 0)) (by (with_reducible repeat (first | refine blk_drewN ?_ _ | refine blk_drew ?_ | refine blk_alloc ?_ _)); exact BK131.out) hb); have n1_ := Aside0.mk (below_step (by repeat (first | (with_reducible first | exact HB.out | apply below_alloc | apply pw_below_drewN | apply below_drew1 | refine below_set ?_ GE131.out) | exact HB.out)) hb); have n2_ := Aside0.mk (hbox); have n3_ := Aside0.mk ((by rw [hg]; exact (below_size (by repeat (first | (with_reducible first | exact HB.out | apply below_alloc | apply pw_below_drewN | apply below_drew1 | refine below_set ?_ GE131.out) | exact HB.out))) : w.heap.size ≤ gb132)); have n4_ := Aside0.mk ((by rw [hg]; exact (below_size (by repeat (first | (with_reducible first | exact HB.out | apply below_alloc | apply pw_below_drewN | apply below_drew1 | refine below_set ?_ GE131.out) | exact HB.out))) : w.heap.size ≤ gb132)); have n5_ := Aside0.mk ((by rw [hg]; exact Nat.ne_of_lt (blk_lt (g := gb131) (o := .cells #[.int .i64 a0_0, .int .i64 a0_1, .int .i64 a0_2] 84 (0, 0)) (by (with_reducible repeat (first | refine blk_drewN ?_ _ | refine blk_drew ?_ | refine blk_alloc ?_ _)); exact BK131.out)) : gb131 ≠ gb132)); have n6_ := Aside0.mk ((by rw [hg]; exact Nat.ne_of_gt (blk_lt (g := gb131) (o := .cells #[.int .i64 a0_0, .int .i64 a0_1, .int .i64 a0_2] 84 (0, 0)) (by (with_reducible repeat (first | refine blk_drewN ?_ _ | refine blk_drew ?_ | refine blk_alloc ?_ _)); exact BK131.out)) : gb132 ≠ gb131)); clear BK131; clear HB; have BK131 := n0_; have HB := n1_; have BK132 := n2_; have GW132 := n3_; have GE132 := n4_; have NB131_132 := n5_; have NB132_131 := n6_; clear n0_ n1_ n2_ n3_ n4_ n5_ n6_; clear hb hbox hg; have hnb23 := NB131_132.out; have hnc23 := NB132_131.out; have hcz24_0 : w22.cell? ⟨gb131, 0, none⟩ = some (.int .i64 a0_0) := (blk_cell BK131.out 0).trans rfl; have hcz24_1 : w22.cell? ⟨gb131, 1, none⟩ = some (.int .i64 a0_1) := (blk_cell BK131.out 1).trans rfl; have hcz24_2 : w22.cell? ⟨gb131, 2, none⟩ = some (.int .i64 a0_2) := (blk_cell BK131.out 2).trans rfl; have hfz24_0 := blk_frozen BK131.out 0; have hfz24_1 := blk_frozen BK131.out 1; have hfz24_2 := blk_frozen BK131.out 2; have hcz25_0 : w22.cell? ⟨gb132, 0, none⟩ = some (.int .i64 a1_0) := (blk_cell BK132.out 0).trans rfl; have hcz25_1 : w22.cell? ⟨gb132, 1, none⟩ = some (.int .i64 a1_1) := (blk_cell BK132.out 1).trans rfl; have hcz25_2 : w22.cell? ⟨gb132, 2, none⟩ = some (.int .i64 a1_2) := (blk_cell BK132.out 2).trans rfl; have hfz25_0 := blk_frozen BK132.out 0; have hfz25_1 := blk_frozen BK132.out 1; have hfz25_2 := blk_frozen BK132.out 2))
    go_ret
    exact ⟨by first | rfl | (simp [errW_none, errW_some] <;> rfl) | (simp [*, errW_none, errW_some] <;> rfl), by repeat (first | (with_reducible first | exact HB.out | apply below_alloc | apply pw_below_drewN | apply below_drew1 | refine below_set ?_ GE131.out | refine below_set ?_ GE132.out) | exact HB.out)⟩

end Go.Proofs.Ythcohaeafdcokaa.PFnExactNewWheel
