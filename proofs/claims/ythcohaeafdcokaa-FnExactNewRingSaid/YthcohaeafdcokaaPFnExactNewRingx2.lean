-- PRINTED BY print.sh 35421559b90ae4d0a3588c463048766b98c2df88dd9212a6774a882060cdf62d: not written by this session
import Derived.Test.YthcohaeafdcokaaPFnExactNewRingx0
import Derived.Test.YthcohaeafdcokaaPFnExactNewRingx1
namespace Go.Proofs.Ythcohaeafdcokaa.PFnExactNewRing
open Go.RowKit Go.Proofs.YthcohaeafdcokaaW.PrintWords Go.Proofs.YthcohaeafdcokaaW.PrintLast Go.Proofs.YthcohaeafdcokaaW.PrintMore
attribute [local go_sem] max2_int min2_int max_two min_two max_three min_three max_four min_four   -- for this text's walks alone
set_option linter.unusedVariables false
set_option linter.unusedSimpArgs false

/-! ### laws_FnExactNewRing: function 3 -/
mutual
def laws_FnExactNewRing.j0 : Nat → Int → Int → Int → Bool → Int → Bool → List Int → List Int → Int → Int → Int → Int → Int → Bool → List Int → List Int → Int → Int → Int → Int → Option (Bool)
  | 0, _, _, _, _, _, _, _, _, _, _, _, _, _, _, _, _, _, _, _, _ => none
  | k + 1, x0, x1, x6, x33, x137000, x137001, x137002, x137003, x137004, x137005, x137006, x137007, x151000, x151001, x151002, x151003, x151004, x151005, x151006, x151007 => if x33 = true then (some false) else ((laws_markRing.f k x151000 x151001 x151002 x151003 x151004 x151005 x151006 x151007 1).bind fun bt152 => ((laws_heldRing.f k x151000 x151001 bt152.2.1 bt152.2.2 x151004 x151005 x151006 x151007 1).bind fun t155 => (if t155 < 0 then (some false) else (if t155 = bt152.1 then ((impl_NewRing.f x0 x1).bind fun bt156 => ((laws_eqRing.f k bt156.1 bt156.2.1 bt156.2.2.1 bt156.2.2.2.1 bt156.2.2.2.2.1 bt156.2.2.2.2.2.1 bt156.2.2.2.2.2.2.1 bt156.2.2.2.2.2.2.2.1 x137000 x137001 x137002 x137003 x137004 x137005 x137006 x137007).bind fun t170 => (if t170 = true then (laws_FnExactNewRing.j1 k bt152.1 (bt156.2.2.2.2.2.2.2.2 != x6) x151000 x151001 bt152.2.1 bt152.2.2 x151004 x151005 x151006 x151007) else (laws_FnExactNewRing.j1 k bt152.1 true x151000 x151001 bt152.2.1 bt152.2.2 x151004 x151005 x151006 x151007)))) else (some false)))))
def laws_FnExactNewRing.j1 : Nat → Int → Bool → Int → Bool → List Int → List Int → Int → Int → Int → Int → Option (Bool)
  | 0, _, _, _, _, _, _, _, _, _, _ => none
  | k + 1, x9, x59, x151000, x151001, x151002, x151003, x151004, x151005, x151006, x151007 => if x59 = true then (some false) else ((laws_heldRing.f k x151000 x151001 x151002 x151003 x151004 x151005 x151006 x151007 1).bind fun t171 => (if t171 < 0 then (some false) else (if t171 = x9 then (some true) else (some false))))
end
def laws_FnExactNewRing.f (k : Nat) (a0 : Int) (a1 : Int) : Option (Bool) := (spec_NewRing.f a0 a1).bind fun bt123 => ((impl_NewRing.f a0 a1).bind fun bt137 => ((laws_eqRing.f k bt137.1 bt137.2.1 bt137.2.2.1 bt137.2.2.2.1 bt137.2.2.2.2.1 bt137.2.2.2.2.2.1 bt137.2.2.2.2.2.2.1 bt137.2.2.2.2.2.2.2.1 bt123.1 bt123.2.1 bt123.2.2.1 bt123.2.2.2.1 bt123.2.2.2.2.1 bt123.2.2.2.2.2.1 bt123.2.2.2.2.2.2.1 bt123.2.2.2.2.2.2.2.1).bind fun t151 => (if t151 = true then (laws_FnExactNewRing.j0 k a0 a1 bt123.2.2.2.2.2.2.2.2 (bt137.2.2.2.2.2.2.2.2 != bt123.2.2.2.2.2.2.2.2) bt123.1 bt123.2.1 bt123.2.2.1 bt123.2.2.2.1 bt123.2.2.2.2.1 bt123.2.2.2.2.2.1 bt123.2.2.2.2.2.2.1 bt123.2.2.2.2.2.2.2.1 bt137.1 bt137.2.1 bt137.2.2.1 bt137.2.2.2.1 bt137.2.2.2.2.1 bt137.2.2.2.2.2.1 bt137.2.2.2.2.2.2.1 bt137.2.2.2.2.2.2.2.1) else (laws_FnExactNewRing.j0 k a0 a1 bt123.2.2.2.2.2.2.2.2 true bt123.1 bt123.2.1 bt123.2.2.1 bt123.2.2.2.1 bt123.2.2.2.2.1 bt123.2.2.2.2.2.1 bt123.2.2.2.2.2.2.1 bt123.2.2.2.2.2.2.2.1 bt137.1 bt137.2.1 bt137.2.2.1 bt137.2.2.2.1 bt137.2.2.2.2.1 bt137.2.2.2.2.2.1 bt137.2.2.2.2.2.2.1 bt137.2.2.2.2.2.2.2.1))))
theorem laws_FnExactNewRing.mono_l : ∀ k, (∀ y0 y1 y2 y3 y4 y5 y6 y7 y8 y9 y10 y11 y12 y13 y14 y15 y16 y17 y18 y19, LeO (laws_FnExactNewRing.j0 k y0 y1 y2 y3 y4 y5 y6 y7 y8 y9 y10 y11 y12 y13 y14 y15 y16 y17 y18 y19) (laws_FnExactNewRing.j0 (k + 1) y0 y1 y2 y3 y4 y5 y6 y7 y8 y9 y10 y11 y12 y13 y14 y15 y16 y17 y18 y19)) ∧ (∀ y0 y1 y2 y3 y4 y5 y6 y7 y8 y9, LeO (laws_FnExactNewRing.j1 k y0 y1 y2 y3 y4 y5 y6 y7 y8 y9) (laws_FnExactNewRing.j1 (k + 1) y0 y1 y2 y3 y4 y5 y6 y7 y8 y9))
  | 0 => ⟨fun _ _ _ _ _ _ _ _ _ _ _ _ _ _ _ _ _ _ _ _ r h => by simp [laws_FnExactNewRing.j0] at h, fun _ _ _ _ _ _ _ _ _ _ r h => by simp [laws_FnExactNewRing.j1] at h⟩
  | k + 1 => by
    obtain ⟨ih0, ih1⟩ := laws_FnExactNewRing.mono_l k
    refine ⟨?_, ?_⟩
    · intro y0 y1 y2 y3 y4 y5 y6 y7 y8 y9 y10 y11 y12 y13 y14 y15 y16 y17 y18 y19
      unfold laws_FnExactNewRing.j0
      repeat' first
      | (with_reducible exact ih0 _ _ _ _ _ _ _ _ _ _ _ _ _ _ _ _ _ _ _ _)
      | (with_reducible exact ih1 _ _ _ _ _ _ _ _ _ _)
      | (with_reducible exact laws_eqRing.mono _ _ _ _ _ _ _ _ _ _ _ _ _ _ _ _ _)
      | (with_reducible exact laws_heldRing.mono _ _ _ _ _ _ _ _ _ _)
      | (with_reducible exact laws_markRing.mono _ _ _ _ _ _ _ _ _ _)
      | (with_reducible exact LeO.refl _)
      | (with_reducible exact LeO.none _)
      | (with_reducible refine LeO.ite ?_ ?_)
      | (with_reducible refine LeO.bind ?_ (fun _ => ?_))
      | exact ih0 _ _ _ _ _ _ _ _ _ _ _ _ _ _ _ _ _ _ _ _
      | exact ih1 _ _ _ _ _ _ _ _ _ _
      | exact laws_eqRing.mono _ _ _ _ _ _ _ _ _ _ _ _ _ _ _ _ _
      | exact laws_heldRing.mono _ _ _ _ _ _ _ _ _ _
      | exact laws_markRing.mono _ _ _ _ _ _ _ _ _ _
      | exact LeO.none _
      | refine LeO.ite ?_ ?_
      | refine LeO.bind ?_ (fun _ => ?_)
    · intro y0 y1 y2 y3 y4 y5 y6 y7 y8 y9
      unfold laws_FnExactNewRing.j1
      repeat' first
      | (with_reducible exact ih0 _ _ _ _ _ _ _ _ _ _ _ _ _ _ _ _ _ _ _ _)
      | (with_reducible exact ih1 _ _ _ _ _ _ _ _ _ _)
      | (with_reducible exact laws_eqRing.mono _ _ _ _ _ _ _ _ _ _ _ _ _ _ _ _ _)
      | (with_reducible exact laws_heldRing.mono _ _ _ _ _ _ _ _ _ _)
      | (with_reducible exact laws_markRing.mono _ _ _ _ _ _ _ _ _ _)
      | (with_reducible exact LeO.refl _)
      | (with_reducible exact LeO.none _)
      | (with_reducible refine LeO.ite ?_ ?_)
      | (with_reducible refine LeO.bind ?_ (fun _ => ?_))
      | exact ih0 _ _ _ _ _ _ _ _ _ _ _ _ _ _ _ _ _ _ _ _
      | exact ih1 _ _ _ _ _ _ _ _ _ _
      | exact laws_eqRing.mono _ _ _ _ _ _ _ _ _ _ _ _ _ _ _ _ _
      | exact laws_heldRing.mono _ _ _ _ _ _ _ _ _ _
      | exact laws_markRing.mono _ _ _ _ _ _ _ _ _ _
      | exact LeO.none _
      | refine LeO.ite ?_ ?_
      | refine LeO.bind ?_ (fun _ => ?_)
theorem laws_FnExactNewRing.mono : ∀ a0 a1 k, LeO (laws_FnExactNewRing.f k a0 a1) (laws_FnExactNewRing.f (k + 1) a0 a1) := by
  intro a0 a1 k
  obtain ⟨ih0, ih1⟩ := laws_FnExactNewRing.mono_l k
  unfold laws_FnExactNewRing.f
  repeat' first
      | (with_reducible exact ih0 _ _ _ _ _ _ _ _ _ _ _ _ _ _ _ _ _ _ _ _)
      | (with_reducible exact ih1 _ _ _ _ _ _ _ _ _ _)
      | (with_reducible exact laws_eqRing.mono _ _ _ _ _ _ _ _ _ _ _ _ _ _ _ _ _)
      | (with_reducible exact laws_heldRing.mono _ _ _ _ _ _ _ _ _ _)
      | (with_reducible exact laws_markRing.mono _ _ _ _ _ _ _ _ _ _)
      | (with_reducible exact LeO.refl _)
      | (with_reducible exact LeO.none _)
      | (with_reducible refine LeO.ite ?_ ?_)
      | (with_reducible refine LeO.bind ?_ (fun _ => ?_))
      | exact ih0 _ _ _ _ _ _ _ _ _ _ _ _ _ _ _ _ _ _ _ _
      | exact ih1 _ _ _ _ _ _ _ _ _ _
      | exact laws_eqRing.mono _ _ _ _ _ _ _ _ _ _ _ _ _ _ _ _ _
      | exact laws_heldRing.mono _ _ _ _ _ _ _ _ _ _
      | exact laws_markRing.mono _ _ _ _ _ _ _ _ _ _
      | exact LeO.none _
      | refine LeO.ite ?_ ?_
      | refine LeO.bind ?_ (fun _ => ?_)
set_option maxHeartbeats 8000000 in
set_option maxRecDepth 100000 in
theorem laws_FnExactNewRing.calls (k : Nat) (a0 : Int) (a1 : Int) (r : Bool) (w : World) (h : laws_FnExactNewRing.f k a0 a1 = some r) :
    Calls Try.prog 3 #[.int .i64 a0, .int .i64 a1] w fun e w' => e = .returned (.bool r) ∧ Below w.heap.size w w' := by
  have hu24 := Try.underlying24
  have HB := Aside0.mk (Below.refl w.heap.size w)
  have H : ((spec_NewRing.f a0 a1).bind fun bt123 => ((impl_NewRing.f a0 a1).bind fun bt137 => ((laws_eqRing.f k bt137.1 bt137.2.1 bt137.2.2.1 bt137.2.2.2.1 bt137.2.2.2.2.1 bt137.2.2.2.2.2.1 bt137.2.2.2.2.2.2.1 bt137.2.2.2.2.2.2.2.1 bt123.1 bt123.2.1 bt123.2.2.1 bt123.2.2.2.1 bt123.2.2.2.2.1 bt123.2.2.2.2.2.1 bt123.2.2.2.2.2.2.1 bt123.2.2.2.2.2.2.2.1).bind fun t151 => (if t151 = true then (laws_FnExactNewRing.j0 k a0 a1 bt123.2.2.2.2.2.2.2.2 (bt137.2.2.2.2.2.2.2.2 != bt123.2.2.2.2.2.2.2.2) bt123.1 bt123.2.1 bt123.2.2.1 bt123.2.2.2.1 bt123.2.2.2.2.1 bt123.2.2.2.2.2.1 bt123.2.2.2.2.2.2.1 bt123.2.2.2.2.2.2.2.1 bt137.1 bt137.2.1 bt137.2.2.1 bt137.2.2.2.1 bt137.2.2.2.2.1 bt137.2.2.2.2.2.1 bt137.2.2.2.2.2.2.1 bt137.2.2.2.2.2.2.2.1) else (laws_FnExactNewRing.j0 k a0 a1 bt123.2.2.2.2.2.2.2.2 true bt123.1 bt123.2.1 bt123.2.2.1 bt123.2.2.2.1 bt123.2.2.2.2.1 bt123.2.2.2.2.2.1 bt123.2.2.2.2.2.2.1 bt123.2.2.2.2.2.2.2.1 bt137.1 bt137.2.1 bt137.2.2.1 bt137.2.2.2.1 bt137.2.2.2.2.1 bt137.2.2.2.2.2.1 bt137.2.2.2.2.2.2.1 bt137.2.2.2.2.2.2.2.1))))) = some r := h
  clear h
  replace H := Option.bind_eq_some_iff.mp H
  obtain ⟨⟨t123, t124, t125, t128, t131, t132, t133, t134, t135⟩, A30, H⟩ := H
  replace H : ((impl_NewRing.f a0 a1).bind fun bt137 => ((laws_eqRing.f k bt137.1 bt137.2.1 bt137.2.2.1 bt137.2.2.2.1 bt137.2.2.2.2.1 bt137.2.2.2.2.2.1 bt137.2.2.2.2.2.2.1 bt137.2.2.2.2.2.2.2.1 t123 t124 t125 t128 t131 t132 t133 t134).bind fun t151 => (if t151 = true then (laws_FnExactNewRing.j0 k a0 a1 t135 (bt137.2.2.2.2.2.2.2.2 != t135) t123 t124 t125 t128 t131 t132 t133 t134 bt137.1 bt137.2.1 bt137.2.2.1 bt137.2.2.2.1 bt137.2.2.2.2.1 bt137.2.2.2.2.2.1 bt137.2.2.2.2.2.2.1 bt137.2.2.2.2.2.2.2.1) else (laws_FnExactNewRing.j0 k a0 a1 t135 true t123 t124 t125 t128 t131 t132 t133 t134 bt137.1 bt137.2.1 bt137.2.2.1 bt137.2.2.2.1 bt137.2.2.2.2.1 bt137.2.2.2.2.2.1 bt137.2.2.2.2.2.2.1 bt137.2.2.2.2.2.2.2.1)))) = some r := H
  have A3 := Aside0.mk A30
  clear A30
  replace H := Option.bind_eq_some_iff.mp H
  obtain ⟨⟨t137, t138, t139, t142, t145, t146, t147, t148, t149⟩, A40, H⟩ := H
  replace H : ((laws_eqRing.f k t137 t138 t139 t142 t145 t146 t147 t148 t123 t124 t125 t128 t131 t132 t133 t134).bind fun t151 => (if t151 = true then (laws_FnExactNewRing.j0 k a0 a1 t135 (t149 != t135) t123 t124 t125 t128 t131 t132 t133 t134 t137 t138 t139 t142 t145 t146 t147 t148) else (laws_FnExactNewRing.j0 k a0 a1 t135 true t123 t124 t125 t128 t131 t132 t133 t134 t137 t138 t139 t142 t145 t146 t147 t148))) = some r := H
  have A4 := Aside0.mk A40
  clear A40
  have HC5 := Aside0.mk H
  clear H
  go_enter Try.func3, Try.ntmps3
  go_upto_region 3 with (first | ((with_reducible refine gate_callee (f := 10) rfl ?_); refine goesL_ (some 16) rfl rfl Try.func10 (by kernel_rfl) rfl #[.int .i64 a0, .int .i64 a1] rfl (by (try simp only [List.map_toArray, List.map_cons, List.map_nil]); first | done | rfl | (simp only [List.length_drop, List.length_take]; rfl)) ?_; (with_reducible refine (spec_NewRing.calls a0 a1 t123 t124 t125 t128 t131 t132 t133 t134 t135 _ A3.out).mono ?_); rintro e w6 ⟨v126, v129, rfl, ho0, ho1, hb⟩; refine ⟨_, rfl, ?_⟩; have n0_ := Aside0.mk (Kd.R_lower ho0 (below_size (by repeat (first | (with_reducible first | exact HB.out | apply below_alloc | apply pw_below_drewN | apply below_drew1) | exact HB.out)))); have n1_ := Aside0.mk (Kd.R_lower ho1 (below_size (by repeat (first | (with_reducible first | exact HB.out | apply below_alloc | apply pw_below_drewN | apply below_drew1) | exact HB.out)))); have n2_ := Aside0.mk (below_step (by repeat (first | (with_reducible first | exact HB.out | apply below_alloc | apply pw_below_drewN | apply below_drew1) | exact HB.out)) hb); clear HB; have HO127 := n0_; have HO130 := n1_; have HB := n2_; clear n0_ n1_ n2_; (try clear hb); (try clear hb2); (try clear hk); (try clear hi); (try clear ho0); (try clear ho1)) | ((with_reducible refine gate_dst (N := 5) rfl ?_); refine box_event ?hg (N := 5) ?hd (cs := #[.int .i64 0, .bool false, .slice none 0 0, .slice none 0 0, .int .i64 0, .int .i64 0, .int .i64 0, .int .i64 0]) (t := 24) ?hr ?_; (case hd => rfl); (case hg => rfl); (case hr => first | (go_simp; done) | (go_simp; rfl)); intro gb136 hg w7 hbox hb; have n0_ := Aside0.mk (Kd.R_below (by (with_reducible repeat (first | apply Kd.R_alloc | apply Kd.R_drewN | apply Kd.R_drew)); exact HO127.out) hb); have n1_ := Aside0.mk (Kd.R_below (by (with_reducible repeat (first | apply Kd.R_alloc | apply Kd.R_drewN | apply Kd.R_drew)); exact HO130.out) hb); have n2_ := Aside0.mk (below_step (by repeat (first | (with_reducible first | exact HB.out | apply below_alloc | apply pw_below_drewN | apply below_drew1) | exact HB.out)) hb); have n3_ := Aside0.mk (hbox); have n4_ := Aside0.mk ((by rw [hg]; exact (below_size (by repeat (first | (with_reducible first | exact HB.out | apply below_alloc | apply pw_below_drewN | apply below_drew1) | exact HB.out))) : w.heap.size ≤ gb136)); have n5_ := Aside0.mk ((by rw [hg]; exact (below_size (by repeat (first | (with_reducible first | exact HB.out | apply below_alloc | apply pw_below_drewN | apply below_drew1) | exact HB.out))) : w.heap.size ≤ gb136)); clear HO127; clear HO130; clear HB; have HO127 := n0_; have HO130 := n1_; have HB := n2_; have BK136 := n3_; have GW136 := n4_; have GE136 := n5_; clear n0_ n1_ n2_ n3_ n4_ n5_; clear hb hbox hg; have hcz8_0 : w7.cell? ⟨gb136, 0, none⟩ = some (.int .i64 0) := (blk_cell BK136.out 0).trans rfl; have hcz8_1 : w7.cell? ⟨gb136, 1, none⟩ = some (.bool false) := (blk_cell BK136.out 1).trans rfl; have hcz8_2 : w7.cell? ⟨gb136, 2, none⟩ = some (.slice none 0 0) := (blk_cell BK136.out 2).trans rfl; have hcz8_3 : w7.cell? ⟨gb136, 3, none⟩ = some (.slice none 0 0) := (blk_cell BK136.out 3).trans rfl; have hcz8_4 : w7.cell? ⟨gb136, 4, none⟩ = some (.int .i64 0) := (blk_cell BK136.out 4).trans rfl; have hcz8_5 : w7.cell? ⟨gb136, 5, none⟩ = some (.int .i64 0) := (blk_cell BK136.out 5).trans rfl; have hcz8_6 : w7.cell? ⟨gb136, 6, none⟩ = some (.int .i64 0) := (blk_cell BK136.out 6).trans rfl; have hcz8_7 : w7.cell? ⟨gb136, 7, none⟩ = some (.int .i64 0) := (blk_cell BK136.out 7).trans rfl; have hfz8_0 := blk_frozen BK136.out 0; have hfz8_1 := blk_frozen BK136.out 1; have hfz8_2 := blk_frozen BK136.out 2; have hfz8_3 := blk_frozen BK136.out 3; have hfz8_4 := blk_frozen BK136.out 4; have hfz8_5 := blk_frozen BK136.out 5; have hfz8_6 := blk_frozen BK136.out 6; have hfz8_7 := blk_frozen BK136.out 7; obtain ⟨Ao9, co9, eo9⟩ := Kd.R_slice HO127.out; subst eo9; obtain ⟨Ao10, co10, eo10⟩ := Kd.R_slice HO130.out; subst eo10) | ((with_reducible refine gate_callee (f := 11) rfl ?_); refine goesL_ (some 22) rfl rfl Try.func11 (by kernel_rfl) rfl #[.int .i64 a0, .int .i64 a1] rfl (by (try simp only [List.map_toArray, List.map_cons, List.map_nil]); first | done | rfl | (simp only [List.length_drop, List.length_take]; rfl)) ?_; (with_reducible refine (impl_NewRing.calls a0 a1 t137 t138 t139 t142 t145 t146 t147 t148 t149 _ A4.out).mono ?_); rintro e w11 ⟨v140, v143, rfl, ho0, ho1, hb⟩; refine ⟨_, rfl, ?_⟩; have n0_ := Aside0.mk (Kd.R_mono (Kd.R_told (Kd.R_told (Kd.R_old (by (with_reducible repeat (first | apply Kd.R_alloc | apply Kd.R_drewN | apply Kd.R_drew)); exact (Kd.R_mono (Kd.R_far (p := ⟨gb136, 7, none⟩) (Kd.R_far (p := ⟨gb136, 6, none⟩) (Kd.R_far (p := ⟨gb136, 5, none⟩) (Kd.R_far (p := ⟨gb136, 4, none⟩) (Kd.R_far (p := ⟨gb136, 3, none⟩) (Kd.R_far (p := ⟨gb136, 2, none⟩) (Kd.R_far (p := ⟨gb136, 1, none⟩) (Kd.R_far (p := ⟨gb136, 0, none⟩) (Kd.R_types HO127.out BK136.out (by decide)) (fun _ hk => hk.2) (.int .i64 t123)) (fun _ hk => hk.2) (.bool t124)) (fun _ hk => hk.2) (.slice Ao9 t125.length co9)) (fun _ hk => hk.2) (.slice Ao10 t128.length co10)) (fun _ hk => hk.2) (.int .i64 t131)) (fun _ hk => hk.2) (.int .i64 t132)) (fun _ hk => hk.2) (.int .i64 t133)) (fun _ hk => hk.2) (.int .i64 t134)) (fun _ h_ => h_.1))) hb) (Kd.R_base ho0)) (Kd.R_base ho1)) (fun _ h_ => h_.1)); have n1_ := Aside0.mk (Kd.R_mono (Kd.R_told (Kd.R_told (Kd.R_old (by (with_reducible repeat (first | apply Kd.R_alloc | apply Kd.R_drewN | apply Kd.R_drew)); exact (Kd.R_mono (Kd.R_far (p := ⟨gb136, 7, none⟩) (Kd.R_far (p := ⟨gb136, 6, none⟩) (Kd.R_far (p := ⟨gb136, 5, none⟩) (Kd.R_far (p := ⟨gb136, 4, none⟩) (Kd.R_far (p := ⟨gb136, 3, none⟩) (Kd.R_far (p := ⟨gb136, 2, none⟩) (Kd.R_far (p := ⟨gb136, 1, none⟩) (Kd.R_far (p := ⟨gb136, 0, none⟩) (Kd.R_types HO130.out BK136.out (by decide)) (fun _ hk => hk.2) (.int .i64 t123)) (fun _ hk => hk.2) (.bool t124)) (fun _ hk => hk.2) (.slice Ao9 t125.length co9)) (fun _ hk => hk.2) (.slice Ao10 t128.length co10)) (fun _ hk => hk.2) (.int .i64 t131)) (fun _ hk => hk.2) (.int .i64 t132)) (fun _ hk => hk.2) (.int .i64 t133)) (fun _ hk => hk.2) (.int .i64 t134)) (fun _ h_ => h_.1))) hb) (Kd.R_base ho0)) (Kd.R_base ho1)) (fun _ h_ => h_.1)); have n2_ := Aside0.mk (Kd.R_lower (Kd.R_new' (Kd.R_new' ho0 (Kd.R_lt (by (with_reducible repeat (first | apply Kd.R_alloc | apply Kd.R_drewN | apply Kd.R_drew)); exact (Kd.R_mono (Kd.R_far (p := ⟨gb136, 7, none⟩) (Kd.R_far (p := ⟨gb136, 6, none⟩) (Kd.R_far (p := ⟨gb136, 5, none⟩) (Kd.R_far (p := ⟨gb136, 4, none⟩) (Kd.R_far (p := ⟨gb136, 3, none⟩) (Kd.R_far (p := ⟨gb136, 2, none⟩) (Kd.R_far (p := ⟨gb136, 1, none⟩) (Kd.R_far (p := ⟨gb136, 0, none⟩) (Kd.R_types HO127.out BK136.out (by decide)) (fun _ hk => hk.2) (.int .i64 t123)) (fun _ hk => hk.2) (.bool t124)) (fun _ hk => hk.2) (.slice Ao9 t125.length co9)) (fun _ hk => hk.2) (.slice Ao10 t128.length co10)) (fun _ hk => hk.2) (.int .i64 t131)) (fun _ hk => hk.2) (.int .i64 t132)) (fun _ hk => hk.2) (.int .i64 t133)) (fun _ hk => hk.2) (.int .i64 t134)) (fun _ h_ => h_.1))))) (Kd.R_lt (by (with_reducible repeat (first | apply Kd.R_alloc | apply Kd.R_drewN | apply Kd.R_drew)); exact (Kd.R_mono (Kd.R_far (p := ⟨gb136, 7, none⟩) (Kd.R_far (p := ⟨gb136, 6, none⟩) (Kd.R_far (p := ⟨gb136, 5, none⟩) (Kd.R_far (p := ⟨gb136, 4, none⟩) (Kd.R_far (p := ⟨gb136, 3, none⟩) (Kd.R_far (p := ⟨gb136, 2, none⟩) (Kd.R_far (p := ⟨gb136, 1, none⟩) (Kd.R_far (p := ⟨gb136, 0, none⟩) (Kd.R_types HO130.out BK136.out (by decide)) (fun _ hk => hk.2) (.int .i64 t123)) (fun _ hk => hk.2) (.bool t124)) (fun _ hk => hk.2) (.slice Ao9 t125.length co9)) (fun _ hk => hk.2) (.slice Ao10 t128.length co10)) (fun _ hk => hk.2) (.int .i64 t131)) (fun _ hk => hk.2) (.int .i64 t132)) (fun _ hk => hk.2) (.int .i64 t133)) (fun _ hk => hk.2) (.int .i64 t134)) (fun _ h_ => h_.1))))) (below_size (by repeat (first | (with_reducible first | exact HB.out | apply below_alloc | apply pw_below_drewN | apply below_drew1 | refine below_set ?_ GE136.out) | exact HB.out)))); have n3_ := Aside0.mk (Kd.R_lower (Kd.R_new' (Kd.R_new' ho1 (Kd.R_lt (by (with_reducible repeat (first | apply Kd.R_alloc | apply Kd.R_drewN | apply Kd.R_drew)); exact (Kd.R_mono (Kd.R_far (p := ⟨gb136, 7, none⟩) (Kd.R_far (p := ⟨gb136, 6, none⟩) (Kd.R_far (p := ⟨gb136, 5, none⟩) (Kd.R_far (p := ⟨gb136, 4, none⟩) (Kd.R_far (p := ⟨gb136, 3, none⟩) (Kd.R_far (p := ⟨gb136, 2, none⟩) (Kd.R_far (p := ⟨gb136, 1, none⟩) (Kd.R_far (p := ⟨gb136, 0, none⟩) (Kd.R_types HO127.out BK136.out (by decide)) (fun _ hk => hk.2) (.int .i64 t123)) (fun _ hk => hk.2) (.bool t124)) (fun _ hk => hk.2) (.slice Ao9 t125.length co9)) (fun _ hk => hk.2) (.slice Ao10 t128.length co10)) (fun _ hk => hk.2) (.int .i64 t131)) (fun _ hk => hk.2) (.int .i64 t132)) (fun _ hk => hk.2) (.int .i64 t133)) (fun _ hk => hk.2) (.int .i64 t134)) (fun _ h_ => h_.1))))) (Kd.R_lt (by (with_reducible repeat (first | apply Kd.R_alloc | apply Kd.R_drewN | apply Kd.R_drew)); exact (Kd.R_mono (Kd.R_far (p := ⟨gb136, 7, none⟩) (Kd.R_far (p := ⟨gb136, 6, none⟩) (Kd.R_far (p := ⟨gb136, 5, none⟩) (Kd.R_far (p := ⟨gb136, 4, none⟩) (Kd.R_far (p := ⟨gb136, 3, none⟩) (Kd.R_far (p := ⟨gb136, 2, none⟩) (Kd.R_far (p := ⟨gb136, 1, none⟩) (Kd.R_far (p := ⟨gb136, 0, none⟩) (Kd.R_types HO130.out BK136.out (by decide)) (fun _ hk => hk.2) (.int .i64 t123)) (fun _ hk => hk.2) (.bool t124)) (fun _ hk => hk.2) (.slice Ao9 t125.length co9)) (fun _ hk => hk.2) (.slice Ao10 t128.length co10)) (fun _ hk => hk.2) (.int .i64 t131)) (fun _ hk => hk.2) (.int .i64 t132)) (fun _ hk => hk.2) (.int .i64 t133)) (fun _ hk => hk.2) (.int .i64 t134)) (fun _ h_ => h_.1))))) (below_size (by repeat (first | (with_reducible first | exact HB.out | apply below_alloc | apply pw_below_drewN | apply below_drew1 | refine below_set ?_ GE136.out) | exact HB.out)))); have n4_ := Aside0.mk (blk_below (g := gb136) (o := .cells #[.int .i64 t123, .bool t124, .slice Ao9 t125.length co9, .slice Ao10 t128.length co10, .int .i64 t131, .int .i64 t132, .int .i64 t133, .int .i64 t134] 24 (0, 0)) (by (with_reducible repeat (first | refine blk_drewN ?_ _ | refine blk_drew ?_ | refine blk_alloc ?_ _)); refine blk_put (cs := #[.int .i64 t123, .bool t124, .slice Ao9 t125.length co9, .slice Ao10 t128.length co10, .int .i64 t131, .int .i64 t132, .int .i64 t133, .int .i64 0]) ?_ 7 _ rfl; (with_reducible repeat (first | refine blk_drewN ?_ _ | refine blk_drew ?_ | refine blk_alloc ?_ _)); refine blk_put (cs := #[.int .i64 t123, .bool t124, .slice Ao9 t125.length co9, .slice Ao10 t128.length co10, .int .i64 t131, .int .i64 t132, .int .i64 0, .int .i64 0]) ?_ 6 _ rfl; (with_reducible repeat (first | refine blk_drewN ?_ _ | refine blk_drew ?_ | refine blk_alloc ?_ _)); refine blk_put (cs := #[.int .i64 t123, .bool t124, .slice Ao9 t125.length co9, .slice Ao10 t128.length co10, .int .i64 t131, .int .i64 0, .int .i64 0, .int .i64 0]) ?_ 5 _ rfl; (with_reducible repeat (first | refine blk_drewN ?_ _ | refine blk_drew ?_ | refine blk_alloc ?_ _)); refine blk_put (cs := #[.int .i64 t123, .bool t124, .slice Ao9 t125.length co9, .slice Ao10 t128.length co10, .int .i64 0, .int .i64 0, .int .i64 0, .int .i64 0]) ?_ 4 _ rfl; (with_reducible repeat (first | refine blk_drewN ?_ _ | refine blk_drew ?_ | refine blk_alloc ?_ _)); refine blk_put (cs := #[.int .i64 t123, .bool t124, .slice Ao9 t125.length co9, .slice none 0 0, .int .i64 0, .int .i64 0, .int .i64 0, .int .i64 0]) ?_ 3 _ rfl; (with_reducible repeat (first | refine blk_drewN ?_ _ | refine blk_drew ?_ | refine blk_alloc ?_ _)); refine blk_put (cs := #[.int .i64 t123, .bool t124, .slice none 0 0, .slice none 0 0, .int .i64 0, .int .i64 0, .int .i64 0, .int .i64 0]) ?_ 2 _ rfl; (with_reducible repeat (first | refine blk_drewN ?_ _ | refine blk_drew ?_ | refine blk_alloc ?_ _)); refine blk_put (cs := #[.int .i64 t123, .bool false, .slice none 0 0, .slice none 0 0, .int .i64 0, .int .i64 0, .int .i64 0, .int .i64 0]) ?_ 1 _ rfl; (with_reducible repeat (first | refine blk_drewN ?_ _ | refine blk_drew ?_ | refine blk_alloc ?_ _)); refine blk_put (cs := #[.int .i64 0, .bool false, .slice none 0 0, .slice none 0 0, .int .i64 0, .int .i64 0, .int .i64 0, .int .i64 0]) ?_ 0 _ rfl; (with_reducible repeat (first | refine blk_drewN ?_ _ | refine blk_drew ?_ | refine blk_alloc ?_ _)); exact BK136.out) hb); have n5_ := Aside0.mk (below_step (by repeat (first | (with_reducible first | exact HB.out | apply below_alloc | apply pw_below_drewN | apply below_drew1 | refine below_set ?_ GE136.out) | exact HB.out)) hb); clear HO127; clear HO130; clear BK136; clear HB; have HO127 := n0_; have HO130 := n1_; have HO141 := n2_; have HO144 := n3_; have BK136 := n4_; have HB := n5_; clear n0_ n1_ n2_ n3_ n4_ n5_; (try clear hb); (try clear hb2); (try clear hk); (try clear hi); (try clear ho0); (try clear ho1)) | ((with_reducible refine gate_dst (N := 7) rfl ?_); refine box_event ?hg (N := 7) ?hd (cs := #[.int .i64 0, .bool false, .slice none 0 0, .slice none 0 0, .int .i64 0, .int .i64 0, .int .i64 0, .int .i64 0]) (t := 24) ?hr ?_; (case hd => rfl); (case hg => rfl); (case hr => first | (go_simp; done) | (go_simp; rfl)); intro gb150 hg w12 hbox hb; have n0_ := Aside0.mk (Kd.R_below (by (with_reducible repeat (first | apply Kd.R_alloc | apply Kd.R_drewN | apply Kd.R_drew)); exact HO127.out) hb); have n1_ := Aside0.mk (Kd.R_below (by (with_reducible repeat (first | apply Kd.R_alloc | apply Kd.R_drewN | apply Kd.R_drew)); exact HO130.out) hb); have n2_ := Aside0.mk (Kd.R_below (by (with_reducible repeat (first | apply Kd.R_alloc | apply Kd.R_drewN | apply Kd.R_drew)); exact HO141.out) hb); have n3_ := Aside0.mk (Kd.R_below (by (with_reducible repeat (first | apply Kd.R_alloc | apply Kd.R_drewN | apply Kd.R_drew)); exact HO144.out) hb); have n4_ := Aside0.mk (blk_below (g := gb136) (o := .cells #[.int .i64 t123, .bool t124, .slice Ao9 t125.length co9, .slice Ao10 t128.length co10, .int .i64 t131, .int .i64 t132, .int .i64 t133, .int .i64 t134] 24 (0, 0)) (by (with_reducible repeat (first | refine blk_drewN ?_ _ | refine blk_drew ?_ | refine blk_alloc ?_ _)); exact BK136.out) hb); have n5_ := Aside0.mk (below_step (by repeat (first | (with_reducible first | exact HB.out | apply below_alloc | apply pw_below_drewN | apply below_drew1 | refine below_set ?_ GE136.out) | exact HB.out)) hb); have n6_ := Aside0.mk (hbox); have n7_ := Aside0.mk ((by rw [hg]; exact (below_size (by repeat (first | (with_reducible first | exact HB.out | apply below_alloc | apply pw_below_drewN | apply below_drew1 | refine below_set ?_ GE136.out) | exact HB.out))) : w.heap.size ≤ gb150)); have n8_ := Aside0.mk ((by rw [hg]; exact (below_size (by repeat (first | (with_reducible first | exact HB.out | apply below_alloc | apply pw_below_drewN | apply below_drew1 | refine below_set ?_ GE136.out) | exact HB.out))) : w.heap.size ≤ gb150)); have n9_ := Aside0.mk ((by rw [hg]; exact Nat.ne_of_lt (blk_lt (g := gb136) (o := .cells #[.int .i64 t123, .bool t124, .slice Ao9 t125.length co9, .slice Ao10 t128.length co10, .int .i64 t131, .int .i64 t132, .int .i64 t133, .int .i64 t134] 24 (0, 0)) (by (with_reducible repeat (first | refine blk_drewN ?_ _ | refine blk_drew ?_ | refine blk_alloc ?_ _)); exact BK136.out)) : gb136 ≠ gb150)); have n10_ := Aside0.mk ((by rw [hg]; exact Nat.ne_of_gt (blk_lt (g := gb136) (o := .cells #[.int .i64 t123, .bool t124, .slice Ao9 t125.length co9, .slice Ao10 t128.length co10, .int .i64 t131, .int .i64 t132, .int .i64 t133, .int .i64 t134] 24 (0, 0)) (by (with_reducible repeat (first | refine blk_drewN ?_ _ | refine blk_drew ?_ | refine blk_alloc ?_ _)); exact BK136.out)) : gb150 ≠ gb136)); clear HO127; clear HO130; clear HO141; clear HO144; clear BK136; clear HB; have HO127 := n0_; have HO130 := n1_; have HO141 := n2_; have HO144 := n3_; have BK136 := n4_; have HB := n5_; have BK150 := n6_; have GW150 := n7_; have GE150 := n8_; have NB136_150 := n9_; have NB150_136 := n10_; clear n0_ n1_ n2_ n3_ n4_ n5_ n6_ n7_ n8_ n9_ n10_; clear hb hbox hg; have hnb13 := NB150_136.out; have hnc13 := NB136_150.out; have hcz14_0 : w12.cell? ⟨gb150, 0, none⟩ = some (.int .i64 0) := (blk_cell BK150.out 0).trans rfl; have hcz14_1 : w12.cell? ⟨gb150, 1, none⟩ = some (.bool false) := (blk_cell BK150.out 1).trans rfl; have hcz14_2 : w12.cell? ⟨gb150, 2, none⟩ = some (.slice none 0 0) := (blk_cell BK150.out 2).trans rfl; have hcz14_3 : w12.cell? ⟨gb150, 3, none⟩ = some (.slice none 0 0) := (blk_cell BK150.out 3).trans rfl; have hcz14_4 : w12.cell? ⟨gb150, 4, none⟩ = some (.int .i64 0) := (blk_cell BK150.out 4).trans rfl; have hcz14_5 : w12.cell? ⟨gb150, 5, none⟩ = some (.int .i64 0) := (blk_cell BK150.out 5).trans rfl; have hcz14_6 : w12.cell? ⟨gb150, 6, none⟩ = some (.int .i64 0) := (blk_cell BK150.out 6).trans rfl; have hcz14_7 : w12.cell? ⟨gb150, 7, none⟩ = some (.int .i64 0) := (blk_cell BK150.out 7).trans rfl; have hfz14_0 := blk_frozen BK150.out 0; have hfz14_1 := blk_frozen BK150.out 1; have hfz14_2 := blk_frozen BK150.out 2; have hfz14_3 := blk_frozen BK150.out 3; have hfz14_4 := blk_frozen BK150.out 4; have hfz14_5 := blk_frozen BK150.out 5; have hfz14_6 := blk_frozen BK150.out 6; have hfz14_7 := blk_frozen BK150.out 7; obtain ⟨Ao15, co15, eo15⟩ := Kd.R_slice HO141.out; subst eo15; obtain ⟨Ao16, co16, eo16⟩ := Kd.R_slice HO144.out; subst eo16))
  (try simp only [Act.put, List.setIfInBounds_toArray, List.set_cons_zero, List.set_cons_succ])
  go_cut [33] (fun v33 wc => ∃ (kq : Nat) (x33_4 : Bool), v33 = .bool x33_4 ∧ Aside0 (laws_FnExactNewRing.j0 kq a0 a1 t135 x33_4 t123 t124 t125 t128 t131 t132 t133 t134 t137 t138 t139 t142 t145 t146 t147 t148 = some r) ∧ Aside0 (kq ≤ k) ∧ Aside0 (Kd.R (Kd.int .i64) 3 wc w.heap.size (fun k_ => some k_ ≠ ((.slice Ao10 t128.length co10) : Value).ownBlock ∧ some k_ ≠ ((.slice Ao15 t139.length co15) : Value).ownBlock ∧ some k_ ≠ ((.slice Ao16 t142.length co16) : Value).ownBlock) (.slice Ao9 t125.length co9) t125) ∧ Aside0 (Kd.R (Kd.int .i64) 3 wc w.heap.size (fun k_ => some k_ ≠ ((.slice Ao9 t125.length co9) : Value).ownBlock ∧ some k_ ≠ ((.slice Ao15 t139.length co15) : Value).ownBlock ∧ some k_ ≠ ((.slice Ao16 t142.length co16) : Value).ownBlock) (.slice Ao10 t128.length co10) t128) ∧ Aside0 (Kd.R (Kd.int .i64) 3 wc w.heap.size (fun k_ => some k_ ≠ ((.slice Ao9 t125.length co9) : Value).ownBlock ∧ some k_ ≠ ((.slice Ao10 t128.length co10) : Value).ownBlock ∧ some k_ ≠ ((.slice Ao16 t142.length co16) : Value).ownBlock) (.slice Ao15 t139.length co15) t139) ∧ Aside0 (Kd.R (Kd.int .i64) 3 wc w.heap.size (fun k_ => some k_ ≠ ((.slice Ao9 t125.length co9) : Value).ownBlock ∧ some k_ ≠ ((.slice Ao10 t128.length co10) : Value).ownBlock ∧ some k_ ≠ ((.slice Ao15 t139.length co15) : Value).ownBlock) (.slice Ao16 t142.length co16) t142) ∧ Aside0 (wc.heap[gb136]? = some (.cells #[.int .i64 t123, .bool t124, (.slice Ao9 t125.length co9), (.slice Ao10 t128.length co10), .int .i64 t131, .int .i64 t132, .int .i64 t133, .int .i64 t134] 24 (0, 0))) ∧ Aside0 (wc.heap[gb150]? = some (.cells #[.int .i64 t137, .bool t138, (.slice Ao15 t139.length co15), (.slice Ao16 t142.length co16), .int .i64 t145, .int .i64 t146, .int .i64 t147, .int .i64 t148] 24 (0, 0))) ∧ Aside0 (Below w.heap.size w wc))
  case first =>
    have H := HC5.out
    clear HC5
    replace H := Option.bind_eq_some_iff.mp H
    obtain ⟨t151, A170, H⟩ := H
    replace H : (if t151 = true then (laws_FnExactNewRing.j0 k a0 a1 t135 (t149 != t135) t123 t124 t125 t128 t131 t132 t133 t134 t137 t138 t139 t142 t145 t146 t147 t148) else (laws_FnExactNewRing.j0 k a0 a1 t135 true t123 t124 t125 t128 t131 t132 t133 t134 t137 t138 t139 t142 t145 t146 t147 t148)) = some r := H
    have A17 := Aside0.mk A170
    clear A170
    by_cases c18 : t151 = true
    · subst c18
      have H1 : (laws_FnExactNewRing.j0 k a0 a1 t135 (t149 != t135) t123 t124 t125 t128 t131 t132 t133 t134 t137 t138 t139 t142 t145 t146 t147 t148) = some r := by rw [if_pos rfl] at H; exact H
      clear H
      have H := H1
      clear H1
      have H' := Aside0.mk H
      clear H
      have hnb19 := NB150_136.out
      have hnc19 := NB136_150.out
      have hcz20_0 : w12.cell? ⟨gb150, 0, none⟩ = some (.int .i64 0) := (blk_cell BK150.out 0).trans rfl
      have hcz20_1 : w12.cell? ⟨gb150, 1, none⟩ = some (.bool false) := (blk_cell BK150.out 1).trans rfl
      have hcz20_2 : w12.cell? ⟨gb150, 2, none⟩ = some (.slice none 0 0) := (blk_cell BK150.out 2).trans rfl
      have hcz20_3 : w12.cell? ⟨gb150, 3, none⟩ = some (.slice none 0 0) := (blk_cell BK150.out 3).trans rfl
      have hcz20_4 : w12.cell? ⟨gb150, 4, none⟩ = some (.int .i64 0) := (blk_cell BK150.out 4).trans rfl
      have hcz20_5 : w12.cell? ⟨gb150, 5, none⟩ = some (.int .i64 0) := (blk_cell BK150.out 5).trans rfl
      have hcz20_6 : w12.cell? ⟨gb150, 6, none⟩ = some (.int .i64 0) := (blk_cell BK150.out 6).trans rfl
      have hcz20_7 : w12.cell? ⟨gb150, 7, none⟩ = some (.int .i64 0) := (blk_cell BK150.out 7).trans rfl
      have hfz20_0 := blk_frozen BK150.out 0
      have hfz20_1 := blk_frozen BK150.out 1
      have hfz20_2 := blk_frozen BK150.out 2
      have hfz20_3 := blk_frozen BK150.out 3
      have hfz20_4 := blk_frozen BK150.out 4
      have hfz20_5 := blk_frozen BK150.out 5
      have hfz20_6 := blk_frozen BK150.out 6
      have hfz20_7 := blk_frozen BK150.out 7
      have hcz21_0 : w12.cell? ⟨gb136, 0, none⟩ = some (.int .i64 t123) := (blk_cell BK136.out 0).trans rfl
      have hcz21_1 : w12.cell? ⟨gb136, 1, none⟩ = some (.bool t124) := (blk_cell BK136.out 1).trans rfl
      have hcz21_2 : w12.cell? ⟨gb136, 2, none⟩ = some (.slice Ao9 t125.length co9) := (blk_cell BK136.out 2).trans rfl
      have hcz21_3 : w12.cell? ⟨gb136, 3, none⟩ = some (.slice Ao10 t128.length co10) := (blk_cell BK136.out 3).trans rfl
      have hcz21_4 : w12.cell? ⟨gb136, 4, none⟩ = some (.int .i64 t131) := (blk_cell BK136.out 4).trans rfl
      have hcz21_5 : w12.cell? ⟨gb136, 5, none⟩ = some (.int .i64 t132) := (blk_cell BK136.out 5).trans rfl
      have hcz21_6 : w12.cell? ⟨gb136, 6, none⟩ = some (.int .i64 t133) := (blk_cell BK136.out 6).trans rfl
      have hcz21_7 : w12.cell? ⟨gb136, 7, none⟩ = some (.int .i64 t134) := (blk_cell BK136.out 7).trans rfl
      have hfz21_0 := blk_frozen BK136.out 0
      have hfz21_1 := blk_frozen BK136.out 1
      have hfz21_2 := blk_frozen BK136.out 2
      have hfz21_3 := blk_frozen BK136.out 3
      have hfz21_4 := blk_frozen BK136.out 4
      have hfz21_5 := blk_frozen BK136.out 5
      have hfz21_6 := blk_frozen BK136.out 6
      have hfz21_7 := blk_frozen BK136.out 7
      go_wp2_with (first | ((with_reducible refine gate_callee (f := 12) rfl ?_); refine goesL_ (some 27) rfl rfl Try.func12 (by kernel_rfl) rfl #[.agg #[.int .i64 t137, .bool t138, .slice Ao15 t139.length co15, .slice Ao16 t142.length co16, .int .i64 t145, .int .i64 t146, .int .i64 t147, .int .i64 t148], .agg #[.int .i64 t123, .bool t124, .slice Ao9 t125.length co9, .slice Ao10 t128.length co10, .int .i64 t131, .int .i64 t132, .int .i64 t133, .int .i64 t134]] rfl (by (try simp only [List.map_toArray, List.map_cons, List.map_nil]); first | done | rfl | (simp only [List.length_drop, List.length_take]; rfl)) ?_; (with_reducible refine (laws_eqRing.calls k t137 t138 _ _ t139 _ _ t142 t145 t146 t147 t148 t123 t124 _ _ t125 _ _ t128 t131 t132 t133 t134 true _ ?side1 ?side2 ?side3 ?side4 ?side5 ?side6 ?side7 ?side8 A17.out).mono ?_); (case side1 => refine (Kd.R_reads' (e := 3) (base := w.heap.size) (ok := fun k_ => ((some k_ ≠ (.slice Ao16 t142.length co16 : Value).ownBlock ∧ some k_ ≠ (.slice Ao9 t125.length co9 : Value).ownBlock) ∧ some k_ ≠ (.slice Ao10 t128.length co10 : Value).ownBlock)) (n := t139.length) (c := co15) ?_).2.2; exact (by (with_reducible repeat (first | apply Kd.R_alloc | apply Kd.R_drewN | apply Kd.R_drew)); exact (Kd.R_mono (Kd.R_far (p := ⟨gb150, 7, none⟩) (Kd.R_far (p := ⟨gb150, 6, none⟩) (Kd.R_far (p := ⟨gb150, 5, none⟩) (Kd.R_far (p := ⟨gb150, 4, none⟩) (Kd.R_far (p := ⟨gb150, 3, none⟩) (Kd.R_far (p := ⟨gb150, 2, none⟩) (Kd.R_far (p := ⟨gb150, 1, none⟩) (Kd.R_far (p := ⟨gb150, 0, none⟩) (Kd.R_types HO141.out BK150.out (by decide)) (fun _ hk => hk.2) (.int .i64 t137)) (fun _ hk => hk.2) (.bool t138)) (fun _ hk => hk.2) (.slice Ao15 t139.length co15)) (fun _ hk => hk.2) (.slice Ao16 t142.length co16)) (fun _ hk => hk.2) (.int .i64 t145)) (fun _ hk => hk.2) (.int .i64 t146)) (fun _ hk => hk.2) (.int .i64 t147)) (fun _ hk => hk.2) (.int .i64 t148)) (fun _ h_ => h_.1)))); (case side2 => exact (Kd.R_reads' HO141.out).2.1); (case side3 => refine (Kd.R_reads' (e := 3) (base := w.heap.size) (ok := fun k_ => ((some k_ ≠ (.slice Ao15 t139.length co15 : Value).ownBlock ∧ some k_ ≠ (.slice Ao9 t125.length co9 : Value).ownBlock) ∧ some k_ ≠ (.slice Ao10 t128.length co10 : Value).ownBlock)) (n := t142.length) (c := co16) ?_).2.2; exact (by (with_reducible repeat (first | apply Kd.R_alloc | apply Kd.R_drewN | apply Kd.R_drew)); exact (Kd.R_mono (Kd.R_far (p := ⟨gb150, 7, none⟩) (Kd.R_far (p := ⟨gb150, 6, none⟩) (Kd.R_far (p := ⟨gb150, 5, none⟩) (Kd.R_far (p := ⟨gb150, 4, none⟩) (Kd.R_far (p := ⟨gb150, 3, none⟩) (Kd.R_far (p := ⟨gb150, 2, none⟩) (Kd.R_far (p := ⟨gb150, 1, none⟩) (Kd.R_far (p := ⟨gb150, 0, none⟩) (Kd.R_types HO144.out BK150.out (by decide)) (fun _ hk => hk.2) (.int .i64 t137)) (fun _ hk => hk.2) (.bool t138)) (fun _ hk => hk.2) (.slice Ao15 t139.length co15)) (fun _ hk => hk.2) (.slice Ao16 t142.length co16)) (fun _ hk => hk.2) (.int .i64 t145)) (fun _ hk => hk.2) (.int .i64 t146)) (fun _ hk => hk.2) (.int .i64 t147)) (fun _ hk => hk.2) (.int .i64 t148)) (fun _ h_ => h_.1)))); (case side4 => exact (Kd.R_reads' HO144.out).2.1); (case side5 => refine (Kd.R_reads' (e := 3) (base := w.heap.size) (ok := fun k_ => ((some k_ ≠ (.slice Ao10 t128.length co10 : Value).ownBlock ∧ some k_ ≠ (.slice Ao15 t139.length co15 : Value).ownBlock) ∧ some k_ ≠ (.slice Ao16 t142.length co16 : Value).ownBlock)) (n := t125.length) (c := co9) ?_).2.2; exact (by (with_reducible repeat (first | apply Kd.R_alloc | apply Kd.R_drewN | apply Kd.R_drew)); exact (Kd.R_mono (Kd.R_far (p := ⟨gb150, 7, none⟩) (Kd.R_far (p := ⟨gb150, 6, none⟩) (Kd.R_far (p := ⟨gb150, 5, none⟩) (Kd.R_far (p := ⟨gb150, 4, none⟩) (Kd.R_far (p := ⟨gb150, 3, none⟩) (Kd.R_far (p := ⟨gb150, 2, none⟩) (Kd.R_far (p := ⟨gb150, 1, none⟩) (Kd.R_far (p := ⟨gb150, 0, none⟩) (Kd.R_types HO127.out BK150.out (by decide)) (fun _ hk => hk.2) (.int .i64 t137)) (fun _ hk => hk.2) (.bool t138)) (fun _ hk => hk.2) (.slice Ao15 t139.length co15)) (fun _ hk => hk.2) (.slice Ao16 t142.length co16)) (fun _ hk => hk.2) (.int .i64 t145)) (fun _ hk => hk.2) (.int .i64 t146)) (fun _ hk => hk.2) (.int .i64 t147)) (fun _ hk => hk.2) (.int .i64 t148)) (fun _ h_ => h_.1)))); (case side6 => exact (Kd.R_reads' HO127.out).2.1); (case side7 => refine (Kd.R_reads' (e := 3) (base := w.heap.size) (ok := fun k_ => ((some k_ ≠ (.slice Ao9 t125.length co9 : Value).ownBlock ∧ some k_ ≠ (.slice Ao15 t139.length co15 : Value).ownBlock) ∧ some k_ ≠ (.slice Ao16 t142.length co16 : Value).ownBlock)) (n := t128.length) (c := co10) ?_).2.2; exact (by (with_reducible repeat (first | apply Kd.R_alloc | apply Kd.R_drewN | apply Kd.R_drew)); exact (Kd.R_mono (Kd.R_far (p := ⟨gb150, 7, none⟩) (Kd.R_far (p := ⟨gb150, 6, none⟩) (Kd.R_far (p := ⟨gb150, 5, none⟩) (Kd.R_far (p := ⟨gb150, 4, none⟩) (Kd.R_far (p := ⟨gb150, 3, none⟩) (Kd.R_far (p := ⟨gb150, 2, none⟩) (Kd.R_far (p := ⟨gb150, 1, none⟩) (Kd.R_far (p := ⟨gb150, 0, none⟩) (Kd.R_types HO130.out BK150.out (by decide)) (fun _ hk => hk.2) (.int .i64 t137)) (fun _ hk => hk.2) (.bool t138)) (fun _ hk => hk.2) (.slice Ao15 t139.length co15)) (fun _ hk => hk.2) (.slice Ao16 t142.length co16)) (fun _ hk => hk.2) (.int .i64 t145)) (fun _ hk => hk.2) (.int .i64 t146)) (fun _ hk => hk.2) (.int .i64 t147)) (fun _ hk => hk.2) (.int .i64 t148)) (fun _ h_ => h_.1)))); (case side8 => exact (Kd.R_reads' HO130.out).2.1); rintro e w22 ⟨rfl, hb⟩; refine ⟨_, rfl, ?_⟩; have n0_ := Aside0.mk (Kd.R_below (by (with_reducible repeat (first | apply Kd.R_alloc | apply Kd.R_drewN | apply Kd.R_drew)); exact (Kd.R_mono (Kd.R_far (p := ⟨gb150, 7, none⟩) (Kd.R_far (p := ⟨gb150, 6, none⟩) (Kd.R_far (p := ⟨gb150, 5, none⟩) (Kd.R_far (p := ⟨gb150, 4, none⟩) (Kd.R_far (p := ⟨gb150, 3, none⟩) (Kd.R_far (p := ⟨gb150, 2, none⟩) (Kd.R_far (p := ⟨gb150, 1, none⟩) (Kd.R_far (p := ⟨gb150, 0, none⟩) (Kd.R_types HO127.out BK150.out (by decide)) (fun _ hk => hk.2) (.int .i64 t137)) (fun _ hk => hk.2) (.bool t138)) (fun _ hk => hk.2) (.slice Ao15 t139.length co15)) (fun _ hk => hk.2) (.slice Ao16 t142.length co16)) (fun _ hk => hk.2) (.int .i64 t145)) (fun _ hk => hk.2) (.int .i64 t146)) (fun _ hk => hk.2) (.int .i64 t147)) (fun _ hk => hk.2) (.int .i64 t148)) (fun _ h_ => h_.1))) hb); have n1_ := Aside0.mk (Kd.R_below (by (with_reducible repeat (first | apply Kd.R_alloc | apply Kd.R_drewN | apply Kd.R_drew)); exact (Kd.R_mono (Kd.R_far (p := ⟨gb150, 7, none⟩) (Kd.R_far (p := ⟨gb150, 6, none⟩) (Kd.R_far (p := ⟨gb150, 5, none⟩) (Kd.R_far (p := ⟨gb150, 4, none⟩) (Kd.R_far (p := ⟨gb150, 3, none⟩) (Kd.R_far (p := ⟨gb150, 2, none⟩) (Kd.R_far (p := ⟨gb150, 1, none⟩) (Kd.R_far (p := ⟨gb150, 0, none⟩) (Kd.R_types HO130.out BK150.out (by decide)) (fun _ hk => hk.2) (.int .i64 t137)) (fun _ hk => hk.2) (.bool t138)) (fun _ hk => hk.2) (.slice Ao15 t139.length co15)) (fun _ hk => hk.2) (.slice Ao16 t142.length co16)) (fun _ hk => hk.2) (.int .i64 t145)) (fun _ hk => hk.2) (.int .i64 t146)) (fun _ hk => hk.2) (.int .i64 t147)) (fun _ hk => hk.2) (.int .i64 t148)) (fun _ h_ => h_.1))) hb); have n2_ := Aside0.mk (Kd.R_below (by (with_reducible repeat (first | apply Kd.R_alloc | apply Kd.R_drewN | apply Kd.R_drew)); exact (Kd.R_mono (Kd.R_far (p := ⟨gb150, 7, none⟩) (Kd.R_far (p := ⟨gb150, 6, none⟩) (Kd.R_far (p := ⟨gb150, 5, none⟩) (Kd.R_far (p := ⟨gb150, 4, none⟩) (Kd.R_far (p := ⟨gb150, 3, none⟩) (Kd.R_far (p := ⟨gb150, 2, none⟩) (Kd.R_far (p := ⟨gb150, 1, none⟩) (Kd.R_far (p := ⟨gb150, 0, none⟩) (Kd.R_types HO141.out BK150.out (by decide)) (fun _ hk => hk.2) (.int .i64 t137)) (fun _ hk => hk.2) (.bool t138)) (fun _ hk => hk.2) (.slice Ao15 t139.length co15)) (fun _ hk => hk.2) (.slice Ao16 t142.length co16)) (fun _ hk => hk.2) (.int .i64 t145)) (fun _ hk => hk.2) (.int .i64 t146)) (fun _ hk => hk.2) (.int .i64 t147)) (fun _ hk => hk.2) (.int .i64 t148)) (fun _ h_ => h_.1))) hb); have n3_ := Aside0.mk (Kd.R_below (by (with_reducible repeat (first | apply Kd.R_alloc | apply Kd.R_drewN | apply Kd.R_drew)); exact (Kd.R_mono (Kd.R_far (p := ⟨gb150, 7, none⟩) (Kd.R_far (p := ⟨gb150, 6, none⟩) (Kd.R_far (p := ⟨gb150, 5, none⟩) (Kd.R_far (p := ⟨gb150, 4, none⟩) (Kd.R_far (p := ⟨gb150, 3, none⟩) (Kd.R_far (p := ⟨gb150, 2, none⟩) (Kd.R_far (p := ⟨gb150, 1, none⟩) (Kd.R_far (p := ⟨gb150, 0, none⟩) (Kd.R_types HO144.out BK150.out (by decide)) (fun _ hk => hk.2) (.int .i64 t137)) (fun _ hk => hk.2) (.bool t138)) (fun _ hk => hk.2) (.slice Ao15 t139.length co15)) (fun _ hk => hk.2) (.slice Ao16 t142.length co16)) (fun _ hk => hk.2) (.int .i64 t145)) (fun _ hk => hk.2) (.int .i64 t146)) (fun _ hk => hk.2) (.int .i64 t147)) (fun _ hk => hk.2) (.int .i64 t148)) (fun _ h_ => h_.1))) hb); have n4_ := Aside0.mk (blk_below (g := gb136) (o := .cells #[.int .i64 t123, .bool t124, .slice Ao9 t125.length co9, .slice Ao10 t128.length co10, .int .i64 t131, .int .i64 t132, .int .i64 t133, .int .i64 t134] 24 (0, 0)) (by (with_reducible repeat (first | refine blk_drewN ?_ _ | refine blk_drew ?_ | refine blk_alloc ?_ _)); refine blk_far ?_ NB136_150.out _; (with_reducible repeat (first | refine blk_drewN ?_ _ | refine blk_drew ?_ | refine blk_alloc ?_ _)); refine blk_far ?_ NB136_150.out _; (with_reducible repeat (first | refine blk_drewN ?_ _ | refine blk_drew ?_ | refine blk_alloc ?_ _)); refine blk_far ?_ NB136_150.out _; (with_reducible repeat (first | refine blk_drewN ?_ _ | refine blk_drew ?_ | refine blk_alloc ?_ _)); refine blk_far ?_ NB136_150.out _; (with_reducible repeat (first | refine blk_drewN ?_ _ | refine blk_drew ?_ | refine blk_alloc ?_ _)); refine blk_far ?_ NB136_150.out _; (with_reducible repeat (first | refine blk_drewN ?_ _ | refine blk_drew ?_ | refine blk_alloc ?_ _)); refine blk_far ?_ NB136_150.out _; (with_reducible repeat (first | refine blk_drewN ?_ _ | refine blk_drew ?_ | refine blk_alloc ?_ _)); refine blk_far ?_ NB136_150.out _; (with_reducible repeat (first | refine blk_drewN ?_ _ | refine blk_drew ?_ | refine blk_alloc ?_ _)); refine blk_far ?_ NB136_150.out _; (with_reducible repeat (first | refine blk_drewN ?_ _ | refine blk_drew ?_ | refine blk_alloc ?_ _)); exact BK136.out) hb); have n5_ := Aside0.mk (blk_below (g := gb150) (o := .cells #[.int .i64 t137, .bool t138, .slice Ao15 t139.length co15, .slice Ao16 t142.length co16, .int .i64 t145, .int .i64 t146, .int .i64 t147, .int .i64 t148] 24 (0, 0)) (by (with_reducible repeat (first | refine blk_drewN ?_ _ | refine blk_drew ?_ | refine blk_alloc ?_ _)); refine blk_put (cs := #[.int .i64 t137, .bool t138, .slice Ao15 t139.length co15, .slice Ao16 t142.length co16, .int .i64 t145, .int .i64 t146, .int .i64 t147, .int .i64 0]) ?_ 7 _ rfl; (with_reducible repeat (first | refine blk_drewN ?_ _ | refine blk_drew ?_ | refine blk_alloc ?_ _)); refine blk_put (cs := #[.int .i64 t137, .bool t138, .slice Ao15 t139.length co15, .slice Ao16 t142.length co16, .int .i64 t145, .int .i64 t146, .int .i64 0, .int .i64 0]) ?_ 6 _ rfl; (with_reducible repeat (first | refine blk_drewN ?_ _ | refine blk_drew ?_ | refine blk_alloc ?_ _)); refine blk_put (cs := #[.int .i64 t137, .bool t138, .slice Ao15 t139.length co15, .slice Ao16 t142.length co16, .int .i64 t145, .int .i64 0, .int .i64 0, .int .i64 0]) ?_ 5 _ rfl; (with_reducible repeat (first | refine blk_drewN ?_ _ | refine blk_drew ?_ | refine blk_alloc ?_ _)); refine blk_put (cs := #[.int .i64 t137, .bool t138, .slice Ao15 t139.length co15, .slice Ao16 t142.length co16, .int .i64 0, .int .i64 0, .int .i64 0, .int .i64 0]) ?_ 4 _ rfl; (with_reducible repeat (first | refine blk_drewN ?_ _ | refine blk_drew ?_ | refine blk_alloc ?_ _)); refine blk_put (cs := #[.int .i64 t137, .bool t138, .slice Ao15 t139.length co15, .slice none 0 0, .int .i64 0, .int .i64 0, .int .i64 0, .int .i64 0]) ?_ 3 _ rfl; (with_reducible repeat (first | refine blk_drewN ?_ _ | refine blk_drew ?_ | refine blk_alloc ?_ _)); refine blk_put (cs := #[.int .i64 t137, .bool t138, .slice none 0 0, .slice none 0 0, .int .i64 0, .int .i64 0, .int .i64 0, .int .i64 0]) ?_ 2 _ rfl; (with_reducible repeat (first | refine blk_drewN ?_ _ | refine blk_drew ?_ | refine blk_alloc ?_ _)); refine blk_put (cs := #[.int .i64 t137, .bool false, .slice none 0 0, .slice none 0 0, .int .i64 0, .int .i64 0, .int .i64 0, .int .i64 0]) ?_ 1 _ rfl; (with_reducible repeat (first | refine blk_drewN ?_ _ | refine blk_drew ?_ | refine blk_alloc ?_ _)); refine blk_put (cs := #[.int .i64 0, .bool false, .slice none 0 0, .slice none 0 0, .int .i64 0, .int .i64 0, .int .i64 0, .int .i64 0]) ?_ 0 _ rfl; (with_reducible repeat (first | refine blk_drewN ?_ _ | refine blk_drew ?_ | refine blk_alloc ?_ _)); exact BK150.out) hb); have n6_ := Aside0.mk (below_step (by repeat (first | (with_reducible first | exact HB.out | apply below_alloc | apply pw_below_drewN | apply below_drew1 | refine below_set ?_ GE136.out | refine below_set ?_ GE150.out) | exact HB.out)) hb); clear HO127; clear HO130; clear HO141; clear HO144; clear BK136; clear BK150; clear HB; have HO127 := n0_; have HO130 := n1_; have HO141 := n2_; have HO144 := n3_; have BK136 := n4_; have BK150 := n5_; have HB := n6_; clear n0_ n1_ n2_ n3_ n4_ n5_ n6_; (try clear hb); (try clear hb2); (try clear hk); (try clear hi)))
      go_meet
      case rel => exact ⟨_, ((t149 != t135)), (by first | rfl | (simp; done) | (simp [*]; done)), H', ⟨by first | omega | exact Nat.le_refl _⟩, ⟨by (with_reducible repeat (first | apply Kd.R_alloc | apply Kd.R_drewN | apply Kd.R_drew)); exact Kd.R_mono HO127.out (fun _ hk => ⟨hk.1.1, ⟨hk.1.2, hk.2⟩⟩)⟩, ⟨by (with_reducible repeat (first | apply Kd.R_alloc | apply Kd.R_drewN | apply Kd.R_drew)); exact Kd.R_mono HO130.out (fun _ hk => ⟨hk.1.1, ⟨hk.1.2, hk.2⟩⟩)⟩, ⟨by (with_reducible repeat (first | apply Kd.R_alloc | apply Kd.R_drewN | apply Kd.R_drew)); exact Kd.R_mono HO141.out (fun _ hk => ⟨hk.1.2, ⟨hk.2, hk.1.1⟩⟩)⟩, ⟨by (with_reducible repeat (first | apply Kd.R_alloc | apply Kd.R_drewN | apply Kd.R_drew)); exact Kd.R_mono HO144.out (fun _ hk => ⟨hk.1.2, ⟨hk.2, hk.1.1⟩⟩)⟩, ⟨by (with_reducible repeat (first | refine blk_drewN ?_ _ | refine blk_drew ?_ | refine blk_alloc ?_ _)); exact BK136.out⟩, ⟨by (with_reducible repeat (first | refine blk_drewN ?_ _ | refine blk_drew ?_ | refine blk_alloc ?_ _)); exact BK150.out⟩, ⟨by repeat (first | (with_reducible first | exact HB.out | apply below_alloc | apply pw_below_drewN | apply below_drew1 | refine below_set ?_ GE136.out | refine below_set ?_ GE150.out) | exact HB.out)⟩⟩
    · replace c18 := Bool.eq_false_iff.mpr c18
      subst c18
      have H1 : (laws_FnExactNewRing.j0 k a0 a1 t135 true t123 t124 t125 t128 t131 t132 t133 t134 t137 t138 t139 t142 t145 t146 t147 t148) = some r := by rw [if_neg (show ¬ (false = true) by decide)] at H; exact H
      clear H
      have H := H1
      clear H1
      have H' := Aside0.mk H
      clear H
      have hnb23 := NB150_136.out
      have hnc23 := NB136_150.out
      have hcz24_0 : w12.cell? ⟨gb150, 0, none⟩ = some (.int .i64 0) := (blk_cell BK150.out 0).trans rfl
      have hcz24_1 : w12.cell? ⟨gb150, 1, none⟩ = some (.bool false) := (blk_cell BK150.out 1).trans rfl
      have hcz24_2 : w12.cell? ⟨gb150, 2, none⟩ = some (.slice none 0 0) := (blk_cell BK150.out 2).trans rfl
      have hcz24_3 : w12.cell? ⟨gb150, 3, none⟩ = some (.slice none 0 0) := (blk_cell BK150.out 3).trans rfl
      have hcz24_4 : w12.cell? ⟨gb150, 4, none⟩ = some (.int .i64 0) := (blk_cell BK150.out 4).trans rfl
      have hcz24_5 : w12.cell? ⟨gb150, 5, none⟩ = some (.int .i64 0) := (blk_cell BK150.out 5).trans rfl
      have hcz24_6 : w12.cell? ⟨gb150, 6, none⟩ = some (.int .i64 0) := (blk_cell BK150.out 6).trans rfl
      have hcz24_7 : w12.cell? ⟨gb150, 7, none⟩ = some (.int .i64 0) := (blk_cell BK150.out 7).trans rfl
      have hfz24_0 := blk_frozen BK150.out 0
      have hfz24_1 := blk_frozen BK150.out 1
      have hfz24_2 := blk_frozen BK150.out 2
      have hfz24_3 := blk_frozen BK150.out 3
      have hfz24_4 := blk_frozen BK150.out 4
      have hfz24_5 := blk_frozen BK150.out 5
      have hfz24_6 := blk_frozen BK150.out 6
      have hfz24_7 := blk_frozen BK150.out 7
      have hcz25_0 : w12.cell? ⟨gb136, 0, none⟩ = some (.int .i64 t123) := (blk_cell BK136.out 0).trans rfl
      have hcz25_1 : w12.cell? ⟨gb136, 1, none⟩ = some (.bool t124) := (blk_cell BK136.out 1).trans rfl
      have hcz25_2 : w12.cell? ⟨gb136, 2, none⟩ = some (.slice Ao9 t125.length co9) := (blk_cell BK136.out 2).trans rfl
      have hcz25_3 : w12.cell? ⟨gb136, 3, none⟩ = some (.slice Ao10 t128.length co10) := (blk_cell BK136.out 3).trans rfl
      have hcz25_4 : w12.cell? ⟨gb136, 4, none⟩ = some (.int .i64 t131) := (blk_cell BK136.out 4).trans rfl
      have hcz25_5 : w12.cell? ⟨gb136, 5, none⟩ = some (.int .i64 t132) := (blk_cell BK136.out 5).trans rfl
      have hcz25_6 : w12.cell? ⟨gb136, 6, none⟩ = some (.int .i64 t133) := (blk_cell BK136.out 6).trans rfl
      have hcz25_7 : w12.cell? ⟨gb136, 7, none⟩ = some (.int .i64 t134) := (blk_cell BK136.out 7).trans rfl
      have hfz25_0 := blk_frozen BK136.out 0
      have hfz25_1 := blk_frozen BK136.out 1
      have hfz25_2 := blk_frozen BK136.out 2
      have hfz25_3 := blk_frozen BK136.out 3
      have hfz25_4 := blk_frozen BK136.out 4
      have hfz25_5 := blk_frozen BK136.out 5
      have hfz25_6 := blk_frozen BK136.out 6
      have hfz25_7 := blk_frozen BK136.out 7
      go_wp2_with (first | ((with_reducible refine gate_callee (f := 12) rfl ?_); refine goesL_ (some 27) rfl rfl Try.func12 (by kernel_rfl) rfl #[.agg #[.int .i64 t137, .bool t138, .slice Ao15 t139.length co15, .slice Ao16 t142.length co16, .int .i64 t145, .int .i64 t146, .int .i64 t147, .int .i64 t148], .agg #[.int .i64 t123, .bool t124, .slice Ao9 t125.length co9, .slice Ao10 t128.length co10, .int .i64 t131, .int .i64 t132, .int .i64 t133, .int .i64 t134]] rfl (by (try simp only [List.map_toArray, List.map_cons, List.map_nil]); first | done | rfl | (simp only [List.length_drop, List.length_take]; rfl)) ?_; (with_reducible refine (laws_eqRing.calls k t137 t138 _ _ t139 _ _ t142 t145 t146 t147 t148 t123 t124 _ _ t125 _ _ t128 t131 t132 t133 t134 false _ ?side1 ?side2 ?side3 ?side4 ?side5 ?side6 ?side7 ?side8 A17.out).mono ?_); (case side1 => refine (Kd.R_reads' (e := 3) (base := w.heap.size) (ok := fun k_ => ((some k_ ≠ (.slice Ao16 t142.length co16 : Value).ownBlock ∧ some k_ ≠ (.slice Ao9 t125.length co9 : Value).ownBlock) ∧ some k_ ≠ (.slice Ao10 t128.length co10 : Value).ownBlock)) (n := t139.length) (c := co15) ?_).2.2; exact (by (with_reducible repeat (first | apply Kd.R_alloc | apply Kd.R_drewN | apply Kd.R_drew)); exact (Kd.R_mono (Kd.R_far (p := ⟨gb150, 7, none⟩) (Kd.R_far (p := ⟨gb150, 6, none⟩) (Kd.R_far (p := ⟨gb150, 5, none⟩) (Kd.R_far (p := ⟨gb150, 4, none⟩) (Kd.R_far (p := ⟨gb150, 3, none⟩) (Kd.R_far (p := ⟨gb150, 2, none⟩) (Kd.R_far (p := ⟨gb150, 1, none⟩) (Kd.R_far (p := ⟨gb150, 0, none⟩) (Kd.R_types HO141.out BK150.out (by decide)) (fun _ hk => hk.2) (.int .i64 t137)) (fun _ hk => hk.2) (.bool t138)) (fun _ hk => hk.2) (.slice Ao15 t139.length co15)) (fun _ hk => hk.2) (.slice Ao16 t142.length co16)) (fun _ hk => hk.2) (.int .i64 t145)) (fun _ hk => hk.2) (.int .i64 t146)) (fun _ hk => hk.2) (.int .i64 t147)) (fun _ hk => hk.2) (.int .i64 t148)) (fun _ h_ => h_.1)))); (case side2 => exact (Kd.R_reads' HO141.out).2.1); (case side3 => refine (Kd.R_reads' (e := 3) (base := w.heap.size) (ok := fun k_ => ((some k_ ≠ (.slice Ao15 t139.length co15 : Value).ownBlock ∧ some k_ ≠ (.slice Ao9 t125.length co9 : Value).ownBlock) ∧ some k_ ≠ (.slice Ao10 t128.length co10 : Value).ownBlock)) (n := t142.length) (c := co16) ?_).2.2; exact (by (with_reducible repeat (first | apply Kd.R_alloc | apply Kd.R_drewN | apply Kd.R_drew)); exact (Kd.R_mono (Kd.R_far (p := ⟨gb150, 7, none⟩) (Kd.R_far (p := ⟨gb150, 6, none⟩) (Kd.R_far (p := ⟨gb150, 5, none⟩) (Kd.R_far (p := ⟨gb150, 4, none⟩) (Kd.R_far (p := ⟨gb150, 3, none⟩) (Kd.R_far (p := ⟨gb150, 2, none⟩) (Kd.R_far (p := ⟨gb150, 1, none⟩) (Kd.R_far (p := ⟨gb150, 0, none⟩) (Kd.R_types HO144.out BK150.out (by decide)) (fun _ hk => hk.2) (.int .i64 t137)) (fun _ hk => hk.2) (.bool t138)) (fun _ hk => hk.2) (.slice Ao15 t139.length co15)) (fun _ hk => hk.2) (.slice Ao16 t142.length co16)) (fun _ hk => hk.2) (.int .i64 t145)) (fun _ hk => hk.2) (.int .i64 t146)) (fun _ hk => hk.2) (.int .i64 t147)) (fun _ hk => hk.2) (.int .i64 t148)) (fun _ h_ => h_.1)))); (case side4 => exact (Kd.R_reads' HO144.out).2.1); (case side5 => refine (Kd.R_reads' (e := 3) (base := w.heap.size) (ok := fun k_ => ((some k_ ≠ (.slice Ao10 t128.length co10 : Value).ownBlock ∧ some k_ ≠ (.slice Ao15 t139.length co15 : Value).ownBlock) ∧ some k_ ≠ (.slice Ao16 t142.length co16 : Value).ownBlock)) (n := t125.length) (c := co9) ?_).2.2; exact (by (with_reducible repeat (first | apply Kd.R_alloc | apply Kd.R_drewN | apply Kd.R_drew)); exact (Kd.R_mono (Kd.R_far (p := ⟨gb150, 7, none⟩) (Kd.R_far (p := ⟨gb150, 6, none⟩) (Kd.R_far (p := ⟨gb150, 5, none⟩) (Kd.R_far (p := ⟨gb150, 4, none⟩) (Kd.R_far (p := ⟨gb150, 3, none⟩) (Kd.R_far (p := ⟨gb150, 2, none⟩) (Kd.R_far (p := ⟨gb150, 1, none⟩) (Kd.R_far (p := ⟨gb150, 0, none⟩) (Kd.R_types HO127.out BK150.out (by decide)) (fun _ hk => hk.2) (.int .i64 t137)) (fun _ hk => hk.2) (.bool t138)) (fun _ hk => hk.2) (.slice Ao15 t139.length co15)) (fun _ hk => hk.2) (.slice Ao16 t142.length co16)) (fun _ hk => hk.2) (.int .i64 t145)) (fun _ hk => hk.2) (.int .i64 t146)) (fun _ hk => hk.2) (.int .i64 t147)) (fun _ hk => hk.2) (.int .i64 t148)) (fun _ h_ => h_.1)))); (case side6 => exact (Kd.R_reads' HO127.out).2.1); (case side7 => refine (Kd.R_reads' (e := 3) (base := w.heap.size) (ok := fun k_ => ((some k_ ≠ (.slice Ao9 t125.length co9 : Value).ownBlock ∧ some k_ ≠ (.slice Ao15 t139.length co15 : Value).ownBlock) ∧ some k_ ≠ (.slice Ao16 t142.length co16 : Value).ownBlock)) (n := t128.length) (c := co10) ?_).2.2; exact (by (with_reducible repeat (first | apply Kd.R_alloc | apply Kd.R_drewN | apply Kd.R_drew)); exact (Kd.R_mono (Kd.R_far (p := ⟨gb150, 7, none⟩) (Kd.R_far (p := ⟨gb150, 6, none⟩) (Kd.R_far (p := ⟨gb150, 5, none⟩) (Kd.R_far (p := ⟨gb150, 4, none⟩) (Kd.R_far (p := ⟨gb150, 3, none⟩) (Kd.R_far (p := ⟨gb150, 2, none⟩) (Kd.R_far (p := ⟨gb150, 1, none⟩) (Kd.R_far (p := ⟨gb150, 0, none⟩) (Kd.R_types HO130.out BK150.out (by decide)) (fun _ hk => hk.2) (.int .i64 t137)) (fun _ hk => hk.2) (.bool t138)) (fun _ hk => hk.2) (.slice Ao15 t139.length co15)) (fun _ hk => hk.2) (.slice Ao16 t142.length co16)) (fun _ hk => hk.2) (.int .i64 t145)) (fun _ hk => hk.2) (.int .i64 t146)) (fun _ hk => hk.2) (.int .i64 t147)) (fun _ hk => hk.2) (.int .i64 t148)) (fun _ h_ => h_.1)))); (case side8 => exact (Kd.R_reads' HO130.out).2.1); rintro e w26 ⟨rfl, hb⟩; refine ⟨_, rfl, ?_⟩; have n0_ := Aside0.mk (Kd.R_below (by (with_reducible repeat (first | apply Kd.R_alloc | apply Kd.R_drewN | apply Kd.R_drew)); exact (Kd.R_mono (Kd.R_far (p := ⟨gb150, 7, none⟩) (Kd.R_far (p := ⟨gb150, 6, none⟩) (Kd.R_far (p := ⟨gb150, 5, none⟩) (Kd.R_far (p := ⟨gb150, 4, none⟩) (Kd.R_far (p := ⟨gb150, 3, none⟩) (Kd.R_far (p := ⟨gb150, 2, none⟩) (Kd.R_far (p := ⟨gb150, 1, none⟩) (Kd.R_far (p := ⟨gb150, 0, none⟩) (Kd.R_types HO127.out BK150.out (by decide)) (fun _ hk => hk.2) (.int .i64 t137)) (fun _ hk => hk.2) (.bool t138)) (fun _ hk => hk.2) (.slice Ao15 t139.length co15)) (fun _ hk => hk.2) (.slice Ao16 t142.length co16)) (fun _ hk => hk.2) (.int .i64 t145)) (fun _ hk => hk.2) (.int .i64 t146)) (fun _ hk => hk.2) (.int .i64 t147)) (fun _ hk => hk.2) (.int .i64 t148)) (fun _ h_ => h_.1))) hb); have n1_ := Aside0.mk (Kd.R_below (by (with_reducible repeat (first | apply Kd.R_alloc | apply Kd.R_drewN | apply Kd.R_drew)); exact (Kd.R_mono (Kd.R_far (p := ⟨gb150, 7, none⟩) (Kd.R_far (p := ⟨gb150, 6, none⟩) (Kd.R_far (p := ⟨gb150, 5, none⟩) (Kd.R_far (p := ⟨gb150, 4, none⟩) (Kd.R_far (p := ⟨gb150, 3, none⟩) (Kd.R_far (p := ⟨gb150, 2, none⟩) (Kd.R_far (p := ⟨gb150, 1, none⟩) (Kd.R_far (p := ⟨gb150, 0, none⟩) (Kd.R_types HO130.out BK150.out (by decide)) (fun _ hk => hk.2) (.int .i64 t137)) (fun _ hk => hk.2) (.bool t138)) (fun _ hk => hk.2) (.slice Ao15 t139.length co15)) (fun _ hk => hk.2) (.slice Ao16 t142.length co16)) (fun _ hk => hk.2) (.int .i64 t145)) (fun _ hk => hk.2) (.int .i64 t146)) (fun _ hk => hk.2) (.int .i64 t147)) (fun _ hk => hk.2) (.int .i64 t148)) (fun _ h_ => h_.1))) hb); have n2_ := Aside0.mk (Kd.R_below (by (with_reducible repeat (first | apply Kd.R_alloc | apply Kd.R_drewN | apply Kd.R_drew)); exact (Kd.R_mono (Kd.R_far (p := ⟨gb150, 7, none⟩) (Kd.R_far (p := ⟨gb150, 6, none⟩) (Kd.R_far (p := ⟨gb150, 5, none⟩) (Kd.R_far (p := ⟨gb150, 4, none⟩) (Kd.R_far (p := ⟨gb150, 3, none⟩) (Kd.R_far (p := ⟨gb150, 2, none⟩) (Kd.R_far (p := ⟨gb150, 1, none⟩) (Kd.R_far (p := ⟨gb150, 0, none⟩) (Kd.R_types HO141.out BK150.out (by decide)) (fun _ hk => hk.2) (.int .i64 t137)) (fun _ hk => hk.2) (.bool t138)) (fun _ hk => hk.2) (.slice Ao15 t139.length co15)) (fun _ hk => hk.2) (.slice Ao16 t142.length co16)) (fun _ hk => hk.2) (.int .i64 t145)) (fun _ hk => hk.2) (.int .i64 t146)) (fun _ hk => hk.2) (.int .i64 t147)) (fun _ hk => hk.2) (.int .i64 t148)) (fun _ h_ => h_.1))) hb); have n3_ := Aside0.mk (Kd.R_below (by (with_reducible repeat (first | apply Kd.R_alloc | apply Kd.R_drewN | apply Kd.R_drew)); exact (Kd.R_mono (Kd.R_far (p := ⟨gb150, 7, none⟩) (Kd.R_far (p := ⟨gb150, 6, none⟩) (Kd.R_far (p := ⟨gb150, 5, none⟩) (Kd.R_far (p := ⟨gb150, 4, none⟩) (Kd.R_far (p := ⟨gb150, 3, none⟩) (Kd.R_far (p := ⟨gb150, 2, none⟩) (Kd.R_far (p := ⟨gb150, 1, none⟩) (Kd.R_far (p := ⟨gb150, 0, none⟩) (Kd.R_types HO144.out BK150.out (by decide)) (fun _ hk => hk.2) (.int .i64 t137)) (fun _ hk => hk.2) (.bool t138)) (fun _ hk => hk.2) (.slice Ao15 t139.length co15)) (fun _ hk => hk.2) (.slice Ao16 t142.length co16)) (fun _ hk => hk.2) (.int .i64 t145)) (fun _ hk => hk.2) (.int .i64 t146)) (fun _ hk => hk.2) (.int .i64 t147)) (fun _ hk => hk.2) (.int .i64 t148)) (fun _ h_ => h_.1))) hb); have n4_ := Aside0.mk (blk_below (g := gb136) (o := .cells #[.int .i64 t123, .bool t124, .slice Ao9 t125.length co9, .slice Ao10 t128.length co10, .int .i64 t131, .int .i64 t132, .int .i64 t133, .int .i64 t134] 24 (0, 0)) (by (with_reducible repeat (first | refine blk_drewN ?_ _ | refine blk_drew ?_ | refine blk_alloc ?_ _)); refine blk_far ?_ NB136_150.out _; (with_reducible repeat (first | refine blk_drewN ?_ _ | refine blk_drew ?_ | refine blk_alloc ?_ _)); refine blk_far ?_ NB136_150.out _; (with_reducible repeat (first | refine blk_drewN ?_ _ | refine blk_drew ?_ | refine blk_alloc ?_ _)); refine blk_far ?_ NB136_150.out _; (with_reducible repeat (first | refine blk_drewN ?_ _ | refine blk_drew ?_ | refine blk_alloc ?_ _)); refine blk_far ?_ NB136_150.out _; (with_reducible repeat (first | refine blk_drewN ?_ _ | refine blk_drew ?_ | refine blk_alloc ?_ _)); refine blk_far ?_ NB136_150.out _; (with_reducible repeat (first | refine blk_drewN ?_ _ | refine blk_drew ?_ | refine blk_alloc ?_ _)); refine blk_far ?_ NB136_150.out _; (with_reducible repeat (first | refine blk_drewN ?_ _ | refine blk_drew ?_ | refine blk_alloc ?_ _)); refine blk_far ?_ NB136_150.out _; (with_reducible repeat (first | refine blk_drewN ?_ _ | refine blk_drew ?_ | refine blk_alloc ?_ _)); refine blk_far ?_ NB136_150.out _; (with_reducible repeat (first | refine blk_drewN ?_ _ | refine blk_drew ?_ | refine blk_alloc ?_ _)); exact BK136.out) hb); have n5_ := Aside0.mk (blk_below (g := gb150) (o := .cells #[.int .i64 t137, .bool t138, .slice Ao15 t139.length co15, .slice Ao16 t142.length co16, .int .i64 t145, .int .i64 t146, .int .i64 t147, .int .i64 t148] 24 (0, 0)) (by (with_reducible repeat (first | refine blk_drewN ?_ _ | refine blk_drew ?_ | refine blk_alloc ?_ _)); refine blk_put (cs := #[.int .i64 t137, .bool t138, .slice Ao15 t139.length co15, .slice Ao16 t142.length co16, .int .i64 t145, .int .i64 t146, .int .i64 t147, .int .i64 0]) ?_ 7 _ rfl; (with_reducible repeat (first | refine blk_drewN ?_ _ | refine blk_drew ?_ | refine blk_alloc ?_ _)); refine blk_put (cs := #[.int .i64 t137, .bool t138, .slice Ao15 t139.length co15, .slice Ao16 t142.length co16, .int .i64 t145, .int .i64 t146, .int .i64 0, .int .i64 0]) ?_ 6 _ rfl; (with_reducible repeat (first | refine blk_drewN ?_ _ | refine blk_drew ?_ | refine blk_alloc ?_ _)); refine blk_put (cs := #[.int .i64 t137, .bool t138, .slice Ao15 t139.length co15, .slice Ao16 t142.length co16, .int .i64 t145, .int .i64 0, .int .i64 0, .int .i64 0]) ?_ 5 _ rfl; (with_reducible repeat (first | refine blk_drewN ?_ _ | refine blk_drew ?_ | refine blk_alloc ?_ _)); refine blk_put (cs := #[.int .i64 t137, .bool t138, .slice Ao15 t139.length co15, .slice Ao16 t142.length co16, .int .i64 0, .int .i64 0, .int .i64 0, .int .i64 0]) ?_ 4 _ rfl; (with_reducible repeat (first | refine blk_drewN ?_ _ | refine blk_drew ?_ | refine blk_alloc ?_ _)); refine blk_put (cs := #[.int .i64 t137, .bool t138, .slice Ao15 t139.length co15, .slice none 0 0, .int .i64 0, .int .i64 0, .int .i64 0, .int .i64 0]) ?_ 3 _ rfl; (with_reducible repeat (first | refine blk_drewN ?_ _ | refine blk_drew ?_ | refine blk_alloc ?_ _)); refine blk_put (cs := #[.int .i64 t137, .bool t138, .slice none 0 0, .slice none 0 0, .int .i64 0, .int .i64 0, .int .i64 0, .int .i64 0]) ?_ 2 _ rfl; (with_reducible repeat (first | refine blk_drewN ?_ _ | refine blk_drew ?_ | refine blk_alloc ?_ _)); refine blk_put (cs := #[.int .i64 t137, .bool false, .slice none 0 0, .slice none 0 0, .int .i64 0, .int .i64 0, .int .i64 0, .int .i64 0]) ?_ 1 _ rfl; (with_reducible repeat (first | refine blk_drewN ?_ _ | refine blk_drew ?_ | refine blk_alloc ?_ _)); refine blk_put (cs := #[.int .i64 0, .bool false, .slice none 0 0, .slice none 0 0, .int .i64 0, .int .i64 0, .int .i64 0, .int .i64 0]) ?_ 0 _ rfl; (with_reducible repeat (first | refine blk_drewN ?_ _ | refine blk_drew ?_ | refine blk_alloc ?_ _)); exact BK150.out) hb); have n6_ := Aside0.mk (below_step (by repeat (first | (with_reducible first | exact HB.out | apply below_alloc | apply pw_below_drewN | apply below_drew1 | refine below_set ?_ GE136.out | refine below_set ?_ GE150.out) | exact HB.out)) hb); clear HO127; clear HO130; clear HO141; clear HO144; clear BK136; clear BK150; clear HB; have HO127 := n0_; have HO130 := n1_; have HO141 := n2_; have HO144 := n3_; have BK136 := n4_; have BK150 := n5_; have HB := n6_; clear n0_ n1_ n2_ n3_ n4_ n5_ n6_; (try clear hb); (try clear hb2); (try clear hk); (try clear hi)))
      go_meet
      case rel => exact ⟨_, (true), (by first | rfl | (simp; done) | (simp [*]; done)), H', ⟨by first | omega | exact Nat.le_refl _⟩, ⟨by (with_reducible repeat (first | apply Kd.R_alloc | apply Kd.R_drewN | apply Kd.R_drew)); exact Kd.R_mono HO127.out (fun _ hk => ⟨hk.1.1, ⟨hk.1.2, hk.2⟩⟩)⟩, ⟨by (with_reducible repeat (first | apply Kd.R_alloc | apply Kd.R_drewN | apply Kd.R_drew)); exact Kd.R_mono HO130.out (fun _ hk => ⟨hk.1.1, ⟨hk.1.2, hk.2⟩⟩)⟩, ⟨by (with_reducible repeat (first | apply Kd.R_alloc | apply Kd.R_drewN | apply Kd.R_drew)); exact Kd.R_mono HO141.out (fun _ hk => ⟨hk.1.2, ⟨hk.2, hk.1.1⟩⟩)⟩, ⟨by (with_reducible repeat (first | apply Kd.R_alloc | apply Kd.R_drewN | apply Kd.R_drew)); exact Kd.R_mono HO144.out (fun _ hk => ⟨hk.1.2, ⟨hk.2, hk.1.1⟩⟩)⟩, ⟨by (with_reducible repeat (first | refine blk_drewN ?_ _ | refine blk_drew ?_ | refine blk_alloc ?_ _)); exact BK136.out⟩, ⟨by (with_reducible repeat (first | refine blk_drewN ?_ _ | refine blk_drew ?_ | refine blk_alloc ?_ _)); exact BK150.out⟩, ⟨by repeat (first | (with_reducible first | exact HB.out | apply below_alloc | apply pw_below_drewN | apply below_drew1 | refine below_set ?_ GE136.out | refine below_set ?_ GE150.out) | exact HB.out)⟩⟩
  case rest =>
    clear HC5
    try clear c1
    try clear c2
    try clear p2
    try clear c3
    try clear c10
    try clear c11
    try clear c12
    try clear c13
    try clear c18
    try clear c19
    try clear c23
    try clear hcz14_0
    try clear hcz14_1
    try clear hcz14_2
    try clear hcz14_3
    try clear hcz14_4
    try clear hcz14_5
    try clear hcz14_6
    try clear hcz14_7
    try clear hcz20_0
    try clear hcz20_1
    try clear hcz20_2
    try clear hcz20_3
    try clear hcz20_4
    try clear hcz20_5
    try clear hcz20_6
    try clear hcz20_7
    try clear hcz21_0
    try clear hcz21_1
    try clear hcz21_2
    try clear hcz21_3
    try clear hcz21_4
    try clear hcz21_5
    try clear hcz21_6
    try clear hcz21_7
    try clear hcz24_0
    try clear hcz24_1
    try clear hcz24_2
    try clear hcz24_3
    try clear hcz24_4
    try clear hcz24_5
    try clear hcz24_6
    try clear hcz24_7
    try clear hcz25_0
    try clear hcz25_1
    try clear hcz25_2
    try clear hcz25_3
    try clear hcz25_4
    try clear hcz25_5
    try clear hcz25_6
    try clear hcz25_7
    try clear hcz8_0
    try clear hcz8_1
    try clear hcz8_2
    try clear hcz8_3
    try clear hcz8_4
    try clear hcz8_5
    try clear hcz8_6
    try clear hcz8_7
    try clear hfz14_0
    try clear hfz14_1
    try clear hfz14_2
    try clear hfz14_3
    try clear hfz14_4
    try clear hfz14_5
    try clear hfz14_6
    try clear hfz14_7
    try clear hfz20_0
    try clear hfz20_1
    try clear hfz20_2
    try clear hfz20_3
    try clear hfz20_4
    try clear hfz20_5
    try clear hfz20_6
    try clear hfz20_7
    try clear hfz21_0
    try clear hfz21_1
    try clear hfz21_2
    try clear hfz21_3
    try clear hfz21_4
    try clear hfz21_5
    try clear hfz21_6
    try clear hfz21_7
    try clear hfz24_0
    try clear hfz24_1
    try clear hfz24_2
    try clear hfz24_3
    try clear hfz24_4
    try clear hfz24_5
    try clear hfz24_6
    try clear hfz24_7
    try clear hfz25_0
    try clear hfz25_1
    try clear hfz25_2
    try clear hfz25_3
    try clear hfz25_4
    try clear hfz25_5
    try clear hfz25_6
    try clear hfz25_7
    try clear hfz8_0
    try clear hfz8_1
    try clear hfz8_2
    try clear hfz8_3
    try clear hfz8_4
    try clear hfz8_5
    try clear hfz8_6
    try clear hfz8_7
    obtain ⟨kq, x33_4, rfl, HA, HJ4, HO_137002, HO_137003, HO_151002, HO_151003, BK136, BK150, HB⟩ := hcut
    cases kq with
    | zero => exact absurd HA.out (by simp [laws_FnExactNewRing.j0])
    | succ kj4 =>
      have H := HA.out
      clear HA
      simp only [laws_FnExactNewRing.j0] at H
      by_cases c27 : x33_4 = true
      · subst c27
        have H1 : (some false) = some r := by rw [if_pos rfl] at H; exact H
        clear H
        have H := H1
        clear H1
        obtain rfl := Option.some.inj H
        go_wp2
        go_ret
        exact ⟨by first | rfl | (simp [errW_none, errW_some] <;> rfl) | (simp [*, errW_none, errW_some] <;> rfl), by repeat (first | (with_reducible first | exact HB.out | apply below_alloc | apply pw_below_drewN | apply below_drew1 | refine below_set ?_ GE136.out | refine below_set ?_ GE150.out) | exact HB.out)⟩
      · replace c27 := Bool.eq_false_iff.mpr c27
        subst c27
        have H1 : ((laws_markRing.f kj4 t137 t138 t139 t142 t145 t146 t147 t148 1).bind fun bt152 => ((laws_heldRing.f kj4 t137 t138 bt152.2.1 bt152.2.2 t145 t146 t147 t148 1).bind fun t155 => (if t155 < 0 then (some false) else (if t155 = bt152.1 then ((impl_NewRing.f a0 a1).bind fun bt156 => ((laws_eqRing.f kj4 bt156.1 bt156.2.1 bt156.2.2.1 bt156.2.2.2.1 bt156.2.2.2.2.1 bt156.2.2.2.2.2.1 bt156.2.2.2.2.2.2.1 bt156.2.2.2.2.2.2.2.1 t123 t124 t125 t128 t131 t132 t133 t134).bind fun t170 => (if t170 = true then (laws_FnExactNewRing.j1 kj4 bt152.1 (bt156.2.2.2.2.2.2.2.2 != t135) t137 t138 bt152.2.1 bt152.2.2 t145 t146 t147 t148) else (laws_FnExactNewRing.j1 kj4 bt152.1 true t137 t138 bt152.2.1 bt152.2.2 t145 t146 t147 t148)))) else (some false))))) = some r := by rw [if_neg (show ¬ (false = true) by decide)] at H; exact H
        clear H
        have H := H1
        clear H1
        replace H := Option.bind_eq_some_iff.mp H
        obtain ⟨⟨t152, t153, t154⟩, A280, H⟩ := H
        replace H : ((laws_heldRing.f kj4 t137 t138 t153 t154 t145 t146 t147 t148 1).bind fun t155 => (if t155 < 0 then (some false) else (if t155 = t152 then ((impl_NewRing.f a0 a1).bind fun bt156 => ((laws_eqRing.f kj4 bt156.1 bt156.2.1 bt156.2.2.1 bt156.2.2.2.1 bt156.2.2.2.2.1 bt156.2.2.2.2.2.1 bt156.2.2.2.2.2.2.1 bt156.2.2.2.2.2.2.2.1 t123 t124 t125 t128 t131 t132 t133 t134).bind fun t170 => (if t170 = true then (laws_FnExactNewRing.j1 kj4 t152 (bt156.2.2.2.2.2.2.2.2 != t135) t137 t138 t153 t154 t145 t146 t147 t148) else (laws_FnExactNewRing.j1 kj4 t152 true t137 t138 t153 t154 t145 t146 t147 t148)))) else (some false)))) = some r := H
        have A28 := Aside0.mk A280
        clear A280
        replace H := Option.bind_eq_some_iff.mp H
        obtain ⟨t155, A290, H⟩ := H
        replace H : (if t155 < 0 then (some false) else (if t155 = t152 then ((impl_NewRing.f a0 a1).bind fun bt156 => ((laws_eqRing.f kj4 bt156.1 bt156.2.1 bt156.2.2.1 bt156.2.2.2.1 bt156.2.2.2.2.1 bt156.2.2.2.2.2.1 bt156.2.2.2.2.2.2.1 bt156.2.2.2.2.2.2.2.1 t123 t124 t125 t128 t131 t132 t133 t134).bind fun t170 => (if t170 = true then (laws_FnExactNewRing.j1 kj4 t152 (bt156.2.2.2.2.2.2.2.2 != t135) t137 t138 t153 t154 t145 t146 t147 t148) else (laws_FnExactNewRing.j1 kj4 t152 true t137 t138 t153 t154 t145 t146 t147 t148)))) else (some false))) = some r := H
        have A29 := Aside0.mk A290
        clear A290
        by_cases c30 : t155 < 0
        · rw [if_pos c30] at H
          have c30b0 : decide (t155 < 0) = true := decide_eq_true c30
          clear c30
          obtain rfl := Option.some.inj H
          have hnb31 := NB150_136.out
          have hnc31 := NB136_150.out
          have hcz32_0 : wc.cell? ⟨gb150, 0, none⟩ = some (.int .i64 t137) := (blk_cell BK150.out 0).trans rfl
          have hcz32_1 : wc.cell? ⟨gb150, 1, none⟩ = some (.bool t138) := (blk_cell BK150.out 1).trans rfl
          have hcz32_2 : wc.cell? ⟨gb150, 2, none⟩ = some (.slice Ao15 t139.length co15) := (blk_cell BK150.out 2).trans rfl
          have hcz32_3 : wc.cell? ⟨gb150, 3, none⟩ = some (.slice Ao16 t142.length co16) := (blk_cell BK150.out 3).trans rfl
          have hcz32_4 : wc.cell? ⟨gb150, 4, none⟩ = some (.int .i64 t145) := (blk_cell BK150.out 4).trans rfl
          have hcz32_5 : wc.cell? ⟨gb150, 5, none⟩ = some (.int .i64 t146) := (blk_cell BK150.out 5).trans rfl
          have hcz32_6 : wc.cell? ⟨gb150, 6, none⟩ = some (.int .i64 t147) := (blk_cell BK150.out 6).trans rfl
          have hcz32_7 : wc.cell? ⟨gb150, 7, none⟩ = some (.int .i64 t148) := (blk_cell BK150.out 7).trans rfl
          have hfz32_0 := blk_frozen BK150.out 0
          have hfz32_1 := blk_frozen BK150.out 1
          have hfz32_2 := blk_frozen BK150.out 2
          have hfz32_3 := blk_frozen BK150.out 3
          have hfz32_4 := blk_frozen BK150.out 4
          have hfz32_5 := blk_frozen BK150.out 5
          have hfz32_6 := blk_frozen BK150.out 6
          have hfz32_7 := blk_frozen BK150.out 7
          go_wp2_with (first | ((with_reducible refine gate_callee (f := 13) rfl ?_); refine goesL_ (some 36) rfl rfl Try.func13 (by kernel_rfl) rfl #[.agg #[.int .i64 t137, .bool t138, .slice Ao15 t139.length co15, .slice Ao16 t142.length co16, .int .i64 t145, .int .i64 t146, .int .i64 t147, .int .i64 t148], .int .i64 1] rfl (by (try simp only [List.map_toArray, List.map_cons, List.map_nil]); first | done | rfl | (simp only [List.length_drop, List.length_take]; rfl)) ?_; (with_reducible refine (laws_markRing.calls kj4 t137 t138 (fun k_ => some k_ = (.slice Ao15 t139.length co15 : Value).ownBlock) (.slice Ao15 t139.length co15) t139 (fun k_ => some k_ = (.slice Ao16 t142.length co16 : Value).ownBlock) (.slice Ao16 t142.length co16) t142 t145 t146 t147 t148 1 t152 t153 t154 w _ ?side1 ?side2 ?side3 ?side4 ?side5 A28.out).mono ?_); (case side1 => repeat (first | (with_reducible first | exact HB.out | apply below_alloc | apply pw_below_drewN | apply below_drew1 | refine below_set ?_ GE136.out | refine below_set ?_ GE150.out) | exact HB.out)); (case side2 => exact Kd.R_tight rfl HO_151002.out); (case side3 => exact fun k_ e_ => (HO_151002.out.1 k_ e_.symm).2.2); (case side4 => exact Kd.R_tight rfl HO_151003.out); (case side5 => exact fun k_ e_ => (HO_151003.out.1 k_ e_.symm).2.2); rintro e w33 ⟨rfl, hy0, hy1, hb, hkp⟩; refine ⟨_, rfl, ?_⟩; have n0_ := Aside0.mk (Kd.R_mono (ok' := fun k_ => some k_ ≠ (.slice Ao10 t128.length co10 : Value).ownBlock ∧ some k_ ≠ (.slice Ao15 t139.length co15 : Value).ownBlock ∧ some k_ ≠ (.slice Ao16 t142.length co16 : Value).ownBlock) (Kd.R_keptB (HO_137002.out) hkp (fun k_ hk_ hs_ => Or.elim hs_ (fun e_ => (hk_.2.1) e_) (fun e_ => (hk_.2.2) e_))) (fun k_ hk_ => ⟨hk_.1.1, hk_.1.2.1, hk_.1.2.2⟩)); have n1_ := Aside0.mk (Kd.R_mono (ok' := fun k_ => some k_ ≠ (.slice Ao9 t125.length co9 : Value).ownBlock ∧ some k_ ≠ (.slice Ao15 t139.length co15 : Value).ownBlock ∧ some k_ ≠ (.slice Ao16 t142.length co16 : Value).ownBlock) (Kd.R_keptB (HO_137003.out) hkp (fun k_ hk_ hs_ => Or.elim hs_ (fun e_ => (hk_.2.1) e_) (fun e_ => (hk_.2.2) e_))) (fun k_ hk_ => ⟨hk_.1.1, hk_.1.2.1, hk_.1.2.2⟩)); have n2_ := Aside0.mk (Kd.R_reok rfl hy0 (fun k_ e_ => HO_151002.out.1 k_ e_)); have n3_ := Aside0.mk (Kd.R_reok rfl hy1 (fun k_ e_ => HO_151003.out.1 k_ e_)); have n4_ := Aside0.mk (blk_kept (by (with_reducible repeat (first | refine blk_drewN ?_ _ | refine blk_drew ?_ | refine blk_alloc ?_ _)); exact BK136.out) hkp (fun hs_ => Or.elim hs_ (fun e_ => (fun e_ => (Kd.R_ne HO_151002.out BK136.out (by decide)) e_) e_) (fun e_ => (fun e_ => (Kd.R_ne HO_151003.out BK136.out (by decide)) e_) e_))); have n5_ := Aside0.mk (blk_kept (by (with_reducible repeat (first | refine blk_drewN ?_ _ | refine blk_drew ?_ | refine blk_alloc ?_ _)); exact BK150.out) hkp (fun hs_ => Or.elim hs_ (fun e_ => (fun e_ => (Kd.R_ne HO_151002.out BK150.out (by decide)) e_) e_) (fun e_ => (fun e_ => (Kd.R_ne HO_151003.out BK150.out (by decide)) e_) e_))); have n6_ := Aside0.mk (hb); clear HO_137002; clear HO_137003; clear HO_151002; clear HO_151003; clear BK136; clear BK150; clear HB; have HO_137002 := n0_; have HO_137003 := n1_; have HO_151002 := n2_; have HO_151003 := n3_; have BK136 := n4_; have BK150 := n5_; have HB := n6_; clear n0_ n1_ n2_ n3_ n4_ n5_ n6_; (try clear hb); (try clear hkp); (try clear hy0); (try clear hy1); have hcz34_0 : w33.cell? ⟨gb150, 0, none⟩ = some (.int .i64 t137) := (blk_cell BK150.out 0).trans rfl; have hcz34_1 : w33.cell? ⟨gb150, 1, none⟩ = some (.bool t138) := (blk_cell BK150.out 1).trans rfl; have hcz34_2 : w33.cell? ⟨gb150, 2, none⟩ = some (.slice Ao15 t139.length co15) := (blk_cell BK150.out 2).trans rfl; have hcz34_3 : w33.cell? ⟨gb150, 3, none⟩ = some (.slice Ao16 t142.length co16) := (blk_cell BK150.out 3).trans rfl; have hcz34_4 : w33.cell? ⟨gb150, 4, none⟩ = some (.int .i64 t145) := (blk_cell BK150.out 4).trans rfl; have hcz34_5 : w33.cell? ⟨gb150, 5, none⟩ = some (.int .i64 t146) := (blk_cell BK150.out 5).trans rfl; have hcz34_6 : w33.cell? ⟨gb150, 6, none⟩ = some (.int .i64 t147) := (blk_cell BK150.out 6).trans rfl; have hcz34_7 : w33.cell? ⟨gb150, 7, none⟩ = some (.int .i64 t148) := (blk_cell BK150.out 7).trans rfl; have hfz34_0 := blk_frozen BK150.out 0; have hfz34_1 := blk_frozen BK150.out 1; have hfz34_2 := blk_frozen BK150.out 2; have hfz34_3 := blk_frozen BK150.out 3; have hfz34_4 := blk_frozen BK150.out 4; have hfz34_5 := blk_frozen BK150.out 5; have hfz34_6 := blk_frozen BK150.out 6; have hfz34_7 := blk_frozen BK150.out 7) | ((with_reducible refine gate_callee (f := 14) rfl ?_); refine goesL_ (some 39) rfl rfl Try.func14 (by kernel_rfl) rfl #[.agg #[.int .i64 t137, .bool t138, .slice Ao15 t153.length co15, .slice Ao16 t154.length co16, .int .i64 t145, .int .i64 t146, .int .i64 t147, .int .i64 t148], .int .i64 1] rfl (by (try simp only [List.map_toArray, List.map_cons, List.map_nil]); first | done | (rw [show t153.length = t139.length from (Kd.R_reads' HO_151002.out).1.symm, show t154.length = t142.length from (Kd.R_reads' HO_151003.out).1.symm] <;> rfl) | rfl | (simp only [List.length_drop, List.length_take]; rfl)) ?_; (with_reducible refine (laws_heldRing.calls kj4 t137 t138 _ _ t153 _ _ t154 t145 t146 t147 t148 1 t155 _ ?side1 ?side2 ?side3 ?side4 A29.out).mono ?_); (case side1 => repeat (first | exact (Kd.R_reads' HO_151002.out).2.2 | (with_reducible refine Kd.C_alloc ?_ _) | (with_reducible refine Kd.C_drewN ?_ _) | (with_reducible refine Kd.C_drew ?_))); (case side2 => rw [show t153.length = t139.length from (Kd.R_reads' HO_151002.out).1.symm]; exact (Kd.R_reads' HO_151002.out).2.1); (case side3 => repeat (first | exact (Kd.R_reads' HO_151003.out).2.2 | (with_reducible refine Kd.C_alloc ?_ _) | (with_reducible refine Kd.C_drewN ?_ _) | (with_reducible refine Kd.C_drew ?_))); (case side4 => rw [show t154.length = t142.length from (Kd.R_reads' HO_151003.out).1.symm]; exact (Kd.R_reads' HO_151003.out).2.1); rintro e w35 ⟨rfl, hb⟩; refine ⟨_, rfl, ?_⟩; have n0_ := Aside0.mk (Kd.R_below (by (with_reducible repeat (first | apply Kd.R_alloc | apply Kd.R_drewN | apply Kd.R_drew)); exact HO_137002.out) hb); have n1_ := Aside0.mk (Kd.R_below (by (with_reducible repeat (first | apply Kd.R_alloc | apply Kd.R_drewN | apply Kd.R_drew)); exact HO_137003.out) hb); have n2_ := Aside0.mk (Kd.R_below (by (with_reducible repeat (first | apply Kd.R_alloc | apply Kd.R_drewN | apply Kd.R_drew)); exact HO_151002.out) hb); have n3_ := Aside0.mk (Kd.R_below (by (with_reducible repeat (first | apply Kd.R_alloc | apply Kd.R_drewN | apply Kd.R_drew)); exact HO_151003.out) hb); have n4_ := Aside0.mk (blk_below (g := gb136) (o := .cells #[.int .i64 t123, .bool t124, .slice Ao9 t125.length co9, .slice Ao10 t128.length co10, .int .i64 t131, .int .i64 t132, .int .i64 t133, .int .i64 t134] 24 (0, 0)) (by (with_reducible repeat (first | refine blk_drewN ?_ _ | refine blk_drew ?_ | refine blk_alloc ?_ _)); exact BK136.out) hb); have n5_ := Aside0.mk (blk_below (g := gb150) (o := .cells #[.int .i64 t137, .bool t138, .slice Ao15 t139.length co15, .slice Ao16 t142.length co16, .int .i64 t145, .int .i64 t146, .int .i64 t147, .int .i64 t148] 24 (0, 0)) (by (with_reducible repeat (first | refine blk_drewN ?_ _ | refine blk_drew ?_ | refine blk_alloc ?_ _)); exact BK150.out) hb); have n6_ := Aside0.mk (below_step (by repeat (first | (with_reducible first | exact HB.out | apply below_alloc | apply pw_below_drewN | apply below_drew1 | refine below_set ?_ GE136.out | refine below_set ?_ GE150.out) | exact HB.out)) hb); clear HO_137002; clear HO_137003; clear HO_151002; clear HO_151003; clear BK136; clear BK150; clear HB; have HO_137002 := n0_; have HO_137003 := n1_; have HO_151002 := n2_; have HO_151003 := n3_; have BK136 := n4_; have BK150 := n5_; have HB := n6_; clear n0_ n1_ n2_ n3_ n4_ n5_ n6_; (try clear hb); (try clear hb2); (try clear hk); (try clear hi)))
          go_ret
          exact ⟨by first | rfl | (simp [errW_none, errW_some] <;> rfl) | (simp [*, errW_none, errW_some] <;> rfl), by repeat (first | (with_reducible first | exact HB.out | apply below_alloc | apply pw_below_drewN | apply below_drew1 | refine below_set ?_ GE136.out | refine below_set ?_ GE150.out) | exact HB.out)⟩
        · rw [if_neg c30] at H
          have c30b0 : decide (t155 < 0) = false := decide_eq_false c30
          clear c30
          by_cases c36 : t155 = t152
          · rw [if_pos c36] at H
            have c36b0 : (t155 == t152) = true := beq_iff_eq.mpr c36
            have c36b1 : (t155 != t152) = false := bne_eq_false_iff_eq.mpr c36
            clear c36
            replace H := Option.bind_eq_some_iff.mp H
            obtain ⟨⟨t156, t157, t158, t161, t164, t165, t166, t167, t168⟩, A370, H⟩ := H
            replace H : ((laws_eqRing.f kj4 t156 t157 t158 t161 t164 t165 t166 t167 t123 t124 t125 t128 t131 t132 t133 t134).bind fun t170 => (if t170 = true then (laws_FnExactNewRing.j1 kj4 t152 (t168 != t135) t137 t138 t153 t154 t145 t146 t147 t148) else (laws_FnExactNewRing.j1 kj4 t152 true t137 t138 t153 t154 t145 t146 t147 t148))) = some r := H
            have A37 := Aside0.mk A370
            clear A370
            have HC38 := Aside0.mk H
            clear H
            have hnb39 := NB150_136.out
            have hnc39 := NB136_150.out
            have hcz40_0 : wc.cell? ⟨gb150, 0, none⟩ = some (.int .i64 t137) := (blk_cell BK150.out 0).trans rfl
            have hcz40_1 : wc.cell? ⟨gb150, 1, none⟩ = some (.bool t138) := (blk_cell BK150.out 1).trans rfl
            have hcz40_2 : wc.cell? ⟨gb150, 2, none⟩ = some (.slice Ao15 t139.length co15) := (blk_cell BK150.out 2).trans rfl
            have hcz40_3 : wc.cell? ⟨gb150, 3, none⟩ = some (.slice Ao16 t142.length co16) := (blk_cell BK150.out 3).trans rfl
            have hcz40_4 : wc.cell? ⟨gb150, 4, none⟩ = some (.int .i64 t145) := (blk_cell BK150.out 4).trans rfl
            have hcz40_5 : wc.cell? ⟨gb150, 5, none⟩ = some (.int .i64 t146) := (blk_cell BK150.out 5).trans rfl
            have hcz40_6 : wc.cell? ⟨gb150, 6, none⟩ = some (.int .i64 t147) := (blk_cell BK150.out 6).trans rfl
            have hcz40_7 : wc.cell? ⟨gb150, 7, none⟩ = some (.int .i64 t148) := (blk_cell BK150.out 7).trans rfl
            have hfz40_0 := blk_frozen BK150.out 0
            have hfz40_1 := blk_frozen BK150.out 1
            have hfz40_2 := blk_frozen BK150.out 2
            have hfz40_3 := blk_frozen BK150.out 3
            have hfz40_4 := blk_frozen BK150.out 4
            have hfz40_5 := blk_frozen BK150.out 5
            have hfz40_6 := blk_frozen BK150.out 6
            have hfz40_7 := blk_frozen BK150.out 7
            go_upto_region 14 with (first | ((with_reducible refine gate_callee (f := 13) rfl ?_); refine goesL_ (some 36) rfl rfl Try.func13 (by kernel_rfl) rfl #[.agg #[.int .i64 t137, .bool t138, .slice Ao15 t139.length co15, .slice Ao16 t142.length co16, .int .i64 t145, .int .i64 t146, .int .i64 t147, .int .i64 t148], .int .i64 1] rfl (by (try simp only [List.map_toArray, List.map_cons, List.map_nil]); first | done | rfl | (simp only [List.length_drop, List.length_take]; rfl)) ?_; (with_reducible refine (laws_markRing.calls kj4 t137 t138 (fun k_ => some k_ = (.slice Ao15 t139.length co15 : Value).ownBlock) (.slice Ao15 t139.length co15) t139 (fun k_ => some k_ = (.slice Ao16 t142.length co16 : Value).ownBlock) (.slice Ao16 t142.length co16) t142 t145 t146 t147 t148 1 t152 t153 t154 w _ ?side1 ?side2 ?side3 ?side4 ?side5 A28.out).mono ?_); (case side1 => repeat (first | (with_reducible first | exact HB.out | apply below_alloc | apply pw_below_drewN | apply below_drew1 | refine below_set ?_ GE136.out | refine below_set ?_ GE150.out) | exact HB.out)); (case side2 => exact Kd.R_tight rfl HO_151002.out); (case side3 => exact fun k_ e_ => (HO_151002.out.1 k_ e_.symm).2.2); (case side4 => exact Kd.R_tight rfl HO_151003.out); (case side5 => exact fun k_ e_ => (HO_151003.out.1 k_ e_.symm).2.2); rintro e w41 ⟨rfl, hy0, hy1, hb, hkp⟩; refine ⟨_, rfl, ?_⟩; have n0_ := Aside0.mk (Kd.R_mono (ok' := fun k_ => some k_ ≠ (.slice Ao10 t128.length co10 : Value).ownBlock ∧ some k_ ≠ (.slice Ao15 t139.length co15 : Value).ownBlock ∧ some k_ ≠ (.slice Ao16 t142.length co16 : Value).ownBlock) (Kd.R_keptB (HO_137002.out) hkp (fun k_ hk_ hs_ => Or.elim hs_ (fun e_ => (hk_.2.1) e_) (fun e_ => (hk_.2.2) e_))) (fun k_ hk_ => ⟨hk_.1.1, hk_.1.2.1, hk_.1.2.2⟩)); have n1_ := Aside0.mk (Kd.R_mono (ok' := fun k_ => some k_ ≠ (.slice Ao9 t125.length co9 : Value).ownBlock ∧ some k_ ≠ (.slice Ao15 t139.length co15 : Value).ownBlock ∧ some k_ ≠ (.slice Ao16 t142.length co16 : Value).ownBlock) (Kd.R_keptB (HO_137003.out) hkp (fun k_ hk_ hs_ => Or.elim hs_ (fun e_ => (hk_.2.1) e_) (fun e_ => (hk_.2.2) e_))) (fun k_ hk_ => ⟨hk_.1.1, hk_.1.2.1, hk_.1.2.2⟩)); have n2_ := Aside0.mk (Kd.R_reok rfl hy0 (fun k_ e_ => HO_151002.out.1 k_ e_)); have n3_ := Aside0.mk (Kd.R_reok rfl hy1 (fun k_ e_ => HO_151003.out.1 k_ e_)); have n4_ := Aside0.mk (blk_kept (by (with_reducible repeat (first | refine blk_drewN ?_ _ | refine blk_drew ?_ | refine blk_alloc ?_ _)); exact BK136.out) hkp (fun hs_ => Or.elim hs_ (fun e_ => (fun e_ => (Kd.R_ne HO_151002.out BK136.out (by decide)) e_) e_) (fun e_ => (fun e_ => (Kd.R_ne HO_151003.out BK136.out (by decide)) e_) e_))); have n5_ := Aside0.mk (blk_kept (by (with_reducible repeat (first | refine blk_drewN ?_ _ | refine blk_drew ?_ | refine blk_alloc ?_ _)); exact BK150.out) hkp (fun hs_ => Or.elim hs_ (fun e_ => (fun e_ => (Kd.R_ne HO_151002.out BK150.out (by decide)) e_) e_) (fun e_ => (fun e_ => (Kd.R_ne HO_151003.out BK150.out (by decide)) e_) e_))); have n6_ := Aside0.mk (hb); clear HO_137002; clear HO_137003; clear HO_151002; clear HO_151003; clear BK136; clear BK150; clear HB; have HO_137002 := n0_; have HO_137003 := n1_; have HO_151002 := n2_; have HO_151003 := n3_; have BK136 := n4_; have BK150 := n5_; have HB := n6_; clear n0_ n1_ n2_ n3_ n4_ n5_ n6_; (try clear hb); (try clear hkp); (try clear hy0); (try clear hy1); have hcz42_0 : w41.cell? ⟨gb150, 0, none⟩ = some (.int .i64 t137) := (blk_cell BK150.out 0).trans rfl; have hcz42_1 : w41.cell? ⟨gb150, 1, none⟩ = some (.bool t138) := (blk_cell BK150.out 1).trans rfl; have hcz42_2 : w41.cell? ⟨gb150, 2, none⟩ = some (.slice Ao15 t139.length co15) := (blk_cell BK150.out 2).trans rfl; have hcz42_3 : w41.cell? ⟨gb150, 3, none⟩ = some (.slice Ao16 t142.length co16) := (blk_cell BK150.out 3).trans rfl; have hcz42_4 : w41.cell? ⟨gb150, 4, none⟩ = some (.int .i64 t145) := (blk_cell BK150.out 4).trans rfl; have hcz42_5 : w41.cell? ⟨gb150, 5, none⟩ = some (.int .i64 t146) := (blk_cell BK150.out 5).trans rfl; have hcz42_6 : w41.cell? ⟨gb150, 6, none⟩ = some (.int .i64 t147) := (blk_cell BK150.out 6).trans rfl; have hcz42_7 : w41.cell? ⟨gb150, 7, none⟩ = some (.int .i64 t148) := (blk_cell BK150.out 7).trans rfl; have hfz42_0 := blk_frozen BK150.out 0; have hfz42_1 := blk_frozen BK150.out 1; have hfz42_2 := blk_frozen BK150.out 2; have hfz42_3 := blk_frozen BK150.out 3; have hfz42_4 := blk_frozen BK150.out 4; have hfz42_5 := blk_frozen BK150.out 5; have hfz42_6 := blk_frozen BK150.out 6; have hfz42_7 := blk_frozen BK150.out 7) | ((with_reducible refine gate_callee (f := 14) rfl ?_); refine goesL_ (some 39) rfl rfl Try.func14 (by kernel_rfl) rfl #[.agg #[.int .i64 t137, .bool t138, .slice Ao15 t153.length co15, .slice Ao16 t154.length co16, .int .i64 t145, .int .i64 t146, .int .i64 t147, .int .i64 t148], .int .i64 1] rfl (by (try simp only [List.map_toArray, List.map_cons, List.map_nil]); first | done | (rw [show t153.length = t139.length from (Kd.R_reads' HO_151002.out).1.symm, show t154.length = t142.length from (Kd.R_reads' HO_151003.out).1.symm] <;> rfl) | rfl | (simp only [List.length_drop, List.length_take]; rfl)) ?_; (with_reducible refine (laws_heldRing.calls kj4 t137 t138 _ _ t153 _ _ t154 t145 t146 t147 t148 1 t155 _ ?side1 ?side2 ?side3 ?side4 A29.out).mono ?_); (case side1 => repeat (first | exact (Kd.R_reads' HO_151002.out).2.2 | (with_reducible refine Kd.C_alloc ?_ _) | (with_reducible refine Kd.C_drewN ?_ _) | (with_reducible refine Kd.C_drew ?_))); (case side2 => rw [show t153.length = t139.length from (Kd.R_reads' HO_151002.out).1.symm]; exact (Kd.R_reads' HO_151002.out).2.1); (case side3 => repeat (first | exact (Kd.R_reads' HO_151003.out).2.2 | (with_reducible refine Kd.C_alloc ?_ _) | (with_reducible refine Kd.C_drewN ?_ _) | (with_reducible refine Kd.C_drew ?_))); (case side4 => rw [show t154.length = t142.length from (Kd.R_reads' HO_151003.out).1.symm]; exact (Kd.R_reads' HO_151003.out).2.1); rintro e w43 ⟨rfl, hb⟩; refine ⟨_, rfl, ?_⟩; have n0_ := Aside0.mk (Kd.R_below (by (with_reducible repeat (first | apply Kd.R_alloc | apply Kd.R_drewN | apply Kd.R_drew)); exact HO_137002.out) hb); have n1_ := Aside0.mk (Kd.R_below (by (with_reducible repeat (first | apply Kd.R_alloc | apply Kd.R_drewN | apply Kd.R_drew)); exact HO_137003.out) hb); have n2_ := Aside0.mk (Kd.R_below (by (with_reducible repeat (first | apply Kd.R_alloc | apply Kd.R_drewN | apply Kd.R_drew)); exact HO_151002.out) hb); have n3_ := Aside0.mk (Kd.R_below (by (with_reducible repeat (first | apply Kd.R_alloc | apply Kd.R_drewN | apply Kd.R_drew)); exact HO_151003.out) hb); have n4_ := Aside0.mk (blk_below (g := gb136) (o := .cells #[.int .i64 t123, .bool t124, .slice Ao9 t125.length co9, .slice Ao10 t128.length co10, .int .i64 t131, .int .i64 t132, .int .i64 t133, .int .i64 t134] 24 (0, 0)) (by (with_reducible repeat (first | refine blk_drewN ?_ _ | refine blk_drew ?_ | refine blk_alloc ?_ _)); exact BK136.out) hb); have n5_ := Aside0.mk (blk_below (g := gb150) (o := .cells #[.int .i64 t137, .bool t138, .slice Ao15 t139.length co15, .slice Ao16 t142.length co16, .int .i64 t145, .int .i64 t146, .int .i64 t147, .int .i64 t148] 24 (0, 0)) (by (with_reducible repeat (first | refine blk_drewN ?_ _ | refine blk_drew ?_ | refine blk_alloc ?_ _)); exact BK150.out) hb); have n6_ := Aside0.mk (below_step (by repeat (first | (with_reducible first | exact HB.out | apply below_alloc | apply pw_below_drewN | apply below_drew1 | refine below_set ?_ GE136.out | refine below_set ?_ GE150.out) | exact HB.out)) hb); clear HO_137002; clear HO_137003; clear HO_151002; clear HO_151003; clear BK136; clear BK150; clear HB; have HO_137002 := n0_; have HO_137003 := n1_; have HO_151002 := n2_; have HO_151003 := n3_; have BK136 := n4_; have BK150 := n5_; have HB := n6_; clear n0_ n1_ n2_ n3_ n4_ n5_ n6_; (try clear hb); (try clear hb2); (try clear hk); (try clear hi)) | ((with_reducible refine gate_callee (f := 11) rfl ?_); refine goesL_ (some 48) rfl rfl Try.func11 (by kernel_rfl) rfl #[.int .i64 a0, .int .i64 a1] rfl (by (try simp only [List.map_toArray, List.map_cons, List.map_nil]); first | done | rfl | (simp only [List.length_drop, List.length_take]; rfl)) ?_; (with_reducible refine (impl_NewRing.calls a0 a1 t156 t157 t158 t161 t164 t165 t166 t167 t168 _ A37.out).mono ?_); rintro e w44 ⟨v159, v162, rfl, ho0, ho1, hb⟩; refine ⟨_, rfl, ?_⟩; have n0_ := Aside0.mk (Kd.R_mono (Kd.R_told (Kd.R_told (Kd.R_old (by (with_reducible repeat (first | apply Kd.R_alloc | apply Kd.R_drewN | apply Kd.R_drew)); exact HO_137002.out) hb) (Kd.R_base ho0)) (Kd.R_base ho1)) (fun _ h_ => h_.1)); have n1_ := Aside0.mk (Kd.R_mono (Kd.R_told (Kd.R_told (Kd.R_old (by (with_reducible repeat (first | apply Kd.R_alloc | apply Kd.R_drewN | apply Kd.R_drew)); exact HO_137003.out) hb) (Kd.R_base ho0)) (Kd.R_base ho1)) (fun _ h_ => h_.1)); have n2_ := Aside0.mk (Kd.R_mono (Kd.R_told (Kd.R_told (Kd.R_old (by (with_reducible repeat (first | apply Kd.R_alloc | apply Kd.R_drewN | apply Kd.R_drew)); exact HO_151002.out) hb) (Kd.R_base ho0)) (Kd.R_base ho1)) (fun _ h_ => h_.1)); have n3_ := Aside0.mk (Kd.R_mono (Kd.R_told (Kd.R_told (Kd.R_old (by (with_reducible repeat (first | apply Kd.R_alloc | apply Kd.R_drewN | apply Kd.R_drew)); exact HO_151003.out) hb) (Kd.R_base ho0)) (Kd.R_base ho1)) (fun _ h_ => h_.1)); have n4_ := Aside0.mk (Kd.R_lower (Kd.R_new' (Kd.R_new' (Kd.R_new' (Kd.R_new' ho0 (Kd.R_lt (by (with_reducible repeat (first | apply Kd.R_alloc | apply Kd.R_drewN | apply Kd.R_drew)); exact HO_137002.out))) (Kd.R_lt (by (with_reducible repeat (first | apply Kd.R_alloc | apply Kd.R_drewN | apply Kd.R_drew)); exact HO_137003.out))) (Kd.R_lt (by (with_reducible repeat (first | apply Kd.R_alloc | apply Kd.R_drewN | apply Kd.R_drew)); exact HO_151002.out))) (Kd.R_lt (by (with_reducible repeat (first | apply Kd.R_alloc | apply Kd.R_drewN | apply Kd.R_drew)); exact HO_151003.out))) (below_size (by repeat (first | (with_reducible first | exact HB.out | apply below_alloc | apply pw_below_drewN | apply below_drew1 | refine below_set ?_ GE136.out | refine below_set ?_ GE150.out) | exact HB.out)))); have n5_ := Aside0.mk (Kd.R_lower (Kd.R_new' (Kd.R_new' (Kd.R_new' (Kd.R_new' ho1 (Kd.R_lt (by (with_reducible repeat (first | apply Kd.R_alloc | apply Kd.R_drewN | apply Kd.R_drew)); exact HO_137002.out))) (Kd.R_lt (by (with_reducible repeat (first | apply Kd.R_alloc | apply Kd.R_drewN | apply Kd.R_drew)); exact HO_137003.out))) (Kd.R_lt (by (with_reducible repeat (first | apply Kd.R_alloc | apply Kd.R_drewN | apply Kd.R_drew)); exact HO_151002.out))) (Kd.R_lt (by (with_reducible repeat (first | apply Kd.R_alloc | apply Kd.R_drewN | apply Kd.R_drew)); exact HO_151003.out))) (below_size (by repeat (first | (with_reducible first | exact HB.out | apply below_alloc | apply pw_below_drewN | apply below_drew1 | refine below_set ?_ GE136.out | refine below_set ?_ GE150.out) | exact HB.out)))); have n6_ := Aside0.mk (blk_below (g := gb136) (o := .cells #[.int .i64 t123, .bool t124, .slice Ao9 t125.length co9, .slice Ao10 t128.length co10, .int .i64 t131, .int .i64 t132, .int .i64 t133, .int .i64 t134] 24 (0, 0)) (by (with_reducible repeat (first | refine blk_drewN ?_ _ | refine blk_drew ?_ | refine blk_alloc ?_ _)); exact BK136.out) hb); have n7_ := Aside0.mk (blk_below (g := gb150) (o := .cells #[.int .i64 t137, .bool t138, .slice Ao15 t139.length co15, .slice Ao16 t142.length co16, .int .i64 t145, .int .i64 t146, .int .i64 t147, .int .i64 t148] 24 (0, 0)) (by (with_reducible repeat (first | refine blk_drewN ?_ _ | refine blk_drew ?_ | refine blk_alloc ?_ _)); exact BK150.out) hb); have n8_ := Aside0.mk (below_step (by repeat (first | (with_reducible first | exact HB.out | apply below_alloc | apply pw_below_drewN | apply below_drew1 | refine below_set ?_ GE136.out | refine below_set ?_ GE150.out) | exact HB.out)) hb); clear HO_137002; clear HO_137003; clear HO_151002; clear HO_151003; clear BK136; clear BK150; clear HB; have HO_137002 := n0_; have HO_137003 := n1_; have HO_151002 := n2_; have HO_151003 := n3_; have HO160 := n4_; have HO163 := n5_; have BK136 := n6_; have BK150 := n7_; have HB := n8_; clear n0_ n1_ n2_ n3_ n4_ n5_ n6_ n7_ n8_; (try clear hb); (try clear hb2); (try clear hk); (try clear hi); (try clear ho0); (try clear ho1)) | ((with_reducible refine gate_dst (N := 11) rfl ?_); refine box_event ?hg (N := 11) ?hd (cs := #[.int .i64 0, .bool false, .slice none 0 0, .slice none 0 0, .int .i64 0, .int .i64 0, .int .i64 0, .int .i64 0]) (t := 24) ?hr ?_; (case hd => rfl); (case hg => rfl); (case hr => first | (go_simp; done) | (go_simp; rfl)); intro gb169 hg w45 hbox hb; have n0_ := Aside0.mk (Kd.R_below (by (with_reducible repeat (first | apply Kd.R_alloc | apply Kd.R_drewN | apply Kd.R_drew)); exact HO_137002.out) hb); have n1_ := Aside0.mk (Kd.R_below (by (with_reducible repeat (first | apply Kd.R_alloc | apply Kd.R_drewN | apply Kd.R_drew)); exact HO_137003.out) hb); have n2_ := Aside0.mk (Kd.R_below (by (with_reducible repeat (first | apply Kd.R_alloc | apply Kd.R_drewN | apply Kd.R_drew)); exact HO_151002.out) hb); have n3_ := Aside0.mk (Kd.R_below (by (with_reducible repeat (first | apply Kd.R_alloc | apply Kd.R_drewN | apply Kd.R_drew)); exact HO_151003.out) hb); have n4_ := Aside0.mk (Kd.R_below (by (with_reducible repeat (first | apply Kd.R_alloc | apply Kd.R_drewN | apply Kd.R_drew)); exact HO160.out) hb); have n5_ := Aside0.mk (Kd.R_below (by (with_reducible repeat (first | apply Kd.R_alloc | apply Kd.R_drewN | apply Kd.R_drew)); exact HO163.out) hb); have n6_ := Aside0.mk (blk_below (g := gb136) (o := .cells #[.int .i64 t123, .bool t124, .slice Ao9 t125.length co9, .slice Ao10 t128.length co10, .int .i64 t131, .int .i64 t132, .int .i64 t133, .int .i64 t134] 24 (0, 0)) (by (with_reducible repeat (first | refine blk_drewN ?_ _ | refine blk_drew ?_ | refine blk_alloc ?_ _)); exact BK136.out) hb); have n7_ := Aside0.mk (blk_below (g := gb150) (o := .cells #[.int .i64 t137, .bool t138, .slice Ao15 t139.length co15, .slice Ao16 t142.length co16, .int .i64 t145, .int .i64 t146, .int .i64 t147, .int .i64 t148] 24 (0, 0)) (by (with_reducible repeat (first | refine blk_drewN ?_ _ | refine blk_drew ?_ | refine blk_alloc ?_ _)); exact BK150.out) hb); have n8_ := Aside0.mk (below_step (by repeat (first | (with_reducible first | exact HB.out | apply below_alloc | apply pw_below_drewN | apply below_drew1 | refine below_set ?_ GE136.out | refine below_set ?_ GE150.out) | exact HB.out)) hb); have n9_ := Aside0.mk (hbox); have n10_ := Aside0.mk ((by rw [hg]; exact (below_size (by repeat (first | (with_reducible first | exact HB.out | apply below_alloc | apply pw_below_drewN | apply below_drew1 | refine below_set ?_ GE136.out | refine below_set ?_ GE150.out) | exact HB.out))) : w.heap.size ≤ gb169)); have n11_ := Aside0.mk ((by rw [hg]; exact (below_size (by repeat (first | (with_reducible first | exact HB.out | apply below_alloc | apply pw_below_drewN | apply below_drew1 | refine below_set ?_ GE136.out | refine below_set ?_ GE150.out) | exact HB.out))) : w.heap.size ≤ gb169)); have n12_ := Aside0.mk ((by rw [hg]; exact Nat.ne_of_lt (blk_lt (g := gb136) (o := .cells #[.int .i64 t123, .bool t124, .slice Ao9 t125.length co9, .slice Ao10 t128.length co10, .int .i64 t131, .int .i64 t132, .int .i64 t133, .int .i64 t134] 24 (0, 0)) (by (with_reducible repeat (first | refine blk_drewN ?_ _ | refine blk_drew ?_ | refine blk_alloc ?_ _)); exact BK136.out)) : gb136 ≠ gb169)); have n13_ := Aside0.mk ((by rw [hg]; exact Nat.ne_of_gt (blk_lt (g := gb136) (o := .cells #[.int .i64 t123, .bool t124, .slice Ao9 t125.length co9, .slice Ao10 t128.length co10, .int .i64 t131, .int .i64 t132, .int .i64 t133, .int .i64 t134] 24 (0, 0)) (by (with_reducible repeat (first | refine blk_drewN ?_ _ | refine blk_drew ?_ | refine blk_alloc ?_ _)); exact BK136.out)) : gb169 ≠ gb136)); have n14_ := Aside0.mk ((by rw [hg]; exact Nat.ne_of_lt (blk_lt (g := gb150) (o := .cells #[.int .i64 t137, .bool t138, .slice Ao15 t139.length co15, .slice Ao16 t142.length co16, .int .i64 t145, .int .i64 t146, .int .i64 t147, .int .i64 t148] 24 (0, 0)) (by (with_reducible repeat (first | refine blk_drewN ?_ _ | refine blk_drew ?_ | refine blk_alloc ?_ _)); exact BK150.out)) : gb150 ≠ gb169)); have n15_ := Aside0.mk ((by rw [hg]; exact Nat.ne_of_gt (blk_lt (g := gb150) (o := .cells #[.int .i64 t137, .bool t138, .slice Ao15 t139.length co15, .slice Ao16 t142.length co16, .int .i64 t145, .int .i64 t146, .int .i64 t147, .int .i64 t148] 24 (0, 0)) (by (with_reducible repeat (first | refine blk_drewN ?_ _ | refine blk_drew ?_ | refine blk_alloc ?_ _)); exact BK150.out)) : gb169 ≠ gb150)); clear HO_137002; clear HO_137003; clear HO_151002; clear HO_151003; clear HO160; clear HO163; clear BK136; clear BK150; clear HB; have HO_137002 := n0_; have HO_137003 := n1_; have HO_151002 := n2_; have HO_151003 := n3_; have HO160 := n4_; have HO163 := n5_; have BK136 := n6_; have BK150 := n7_; have HB := n8_; have BK169 := n9_; have GW169 := n10_; have GE169 := n11_; have NB136_169 := n12_; have NB169_136 := n13_; have NB150_169 := n14_; have NB169_150 := n15_; clear n0_ n1_ n2_ n3_ n4_ n5_ n6_ n7_ n8_ n9_ n10_ n11_ n12_ n13_ n14_ n15_; clear hb hbox hg; have hnb46 := NB169_136.out; have hnc46 := NB136_169.out; have hnb47 := NB169_150.out; have hnc47 := NB150_169.out; have hcz48_0 : w45.cell? ⟨gb169, 0, none⟩ = some (.int .i64 0) := (blk_cell BK169.out 0).trans rfl; have hcz48_1 : w45.cell? ⟨gb169, 1, none⟩ = some (.bool false) := (blk_cell BK169.out 1).trans rfl; have hcz48_2 : w45.cell? ⟨gb169, 2, none⟩ = some (.slice none 0 0) := (blk_cell BK169.out 2).trans rfl; have hcz48_3 : w45.cell? ⟨gb169, 3, none⟩ = some (.slice none 0 0) := (blk_cell BK169.out 3).trans rfl; have hcz48_4 : w45.cell? ⟨gb169, 4, none⟩ = some (.int .i64 0) := (blk_cell BK169.out 4).trans rfl; have hcz48_5 : w45.cell? ⟨gb169, 5, none⟩ = some (.int .i64 0) := (blk_cell BK169.out 5).trans rfl; have hcz48_6 : w45.cell? ⟨gb169, 6, none⟩ = some (.int .i64 0) := (blk_cell BK169.out 6).trans rfl; have hcz48_7 : w45.cell? ⟨gb169, 7, none⟩ = some (.int .i64 0) := (blk_cell BK169.out 7).trans rfl; have hfz48_0 := blk_frozen BK169.out 0; have hfz48_1 := blk_frozen BK169.out 1; have hfz48_2 := blk_frozen BK169.out 2; have hfz48_3 := blk_frozen BK169.out 3; have hfz48_4 := blk_frozen BK169.out 4; have hfz48_5 := blk_frozen BK169.out 5; have hfz48_6 := blk_frozen BK169.out 6; have hfz48_7 := blk_frozen BK169.out 7; obtain ⟨Ao49, co49, eo49⟩ := Kd.R_slice HO160.out; subst eo49; obtain ⟨Ao50, co50, eo50⟩ := Kd.R_slice HO163.out; subst eo50))
            (try simp only [Act.put, List.setIfInBounds_toArray, List.set_cons_zero, List.set_cons_succ])
            go_cut [59] (fun v59 wc => ∃ (kq : Nat) (x59_37 : Bool), v59 = .bool x59_37 ∧ Aside0 (laws_FnExactNewRing.j1 kq t152 x59_37 t137 t138 t153 t154 t145 t146 t147 t148 = some r) ∧ Aside0 (kq ≤ kj4) ∧ Aside0 (Kd.R (Kd.int .i64) 3 wc w.heap.size (fun k_ => some k_ ≠ ((.slice Ao10 t128.length co10) : Value).ownBlock ∧ some k_ ≠ ((.slice Ao15 t139.length co15) : Value).ownBlock ∧ some k_ ≠ ((.slice Ao16 t142.length co16) : Value).ownBlock ∧ some k_ ≠ ((.slice Ao49 t158.length co49) : Value).ownBlock ∧ some k_ ≠ ((.slice Ao50 t161.length co50) : Value).ownBlock) (.slice Ao9 t125.length co9) t125) ∧ Aside0 (Kd.R (Kd.int .i64) 3 wc w.heap.size (fun k_ => some k_ ≠ ((.slice Ao9 t125.length co9) : Value).ownBlock ∧ some k_ ≠ ((.slice Ao15 t139.length co15) : Value).ownBlock ∧ some k_ ≠ ((.slice Ao16 t142.length co16) : Value).ownBlock ∧ some k_ ≠ ((.slice Ao49 t158.length co49) : Value).ownBlock ∧ some k_ ≠ ((.slice Ao50 t161.length co50) : Value).ownBlock) (.slice Ao10 t128.length co10) t128) ∧ Aside0 (Kd.R (Kd.int .i64) 3 wc w.heap.size (fun k_ => some k_ ≠ ((.slice Ao9 t125.length co9) : Value).ownBlock ∧ some k_ ≠ ((.slice Ao10 t128.length co10) : Value).ownBlock ∧ some k_ ≠ ((.slice Ao16 t142.length co16) : Value).ownBlock ∧ some k_ ≠ ((.slice Ao49 t158.length co49) : Value).ownBlock ∧ some k_ ≠ ((.slice Ao50 t161.length co50) : Value).ownBlock) (.slice Ao15 t139.length co15) t153) ∧ Aside0 (Kd.R (Kd.int .i64) 3 wc w.heap.size (fun k_ => some k_ ≠ ((.slice Ao9 t125.length co9) : Value).ownBlock ∧ some k_ ≠ ((.slice Ao10 t128.length co10) : Value).ownBlock ∧ some k_ ≠ ((.slice Ao15 t139.length co15) : Value).ownBlock ∧ some k_ ≠ ((.slice Ao49 t158.length co49) : Value).ownBlock ∧ some k_ ≠ ((.slice Ao50 t161.length co50) : Value).ownBlock) (.slice Ao16 t142.length co16) t154) ∧ Aside0 (Kd.R (Kd.int .i64) 3 wc w.heap.size (fun k_ => some k_ ≠ ((.slice Ao9 t125.length co9) : Value).ownBlock ∧ some k_ ≠ ((.slice Ao10 t128.length co10) : Value).ownBlock ∧ some k_ ≠ ((.slice Ao15 t139.length co15) : Value).ownBlock ∧ some k_ ≠ ((.slice Ao16 t142.length co16) : Value).ownBlock ∧ some k_ ≠ ((.slice Ao50 t161.length co50) : Value).ownBlock) (.slice Ao49 t158.length co49) t158) ∧ Aside0 (Kd.R (Kd.int .i64) 3 wc w.heap.size (fun k_ => some k_ ≠ ((.slice Ao9 t125.length co9) : Value).ownBlock ∧ some k_ ≠ ((.slice Ao10 t128.length co10) : Value).ownBlock ∧ some k_ ≠ ((.slice Ao15 t139.length co15) : Value).ownBlock ∧ some k_ ≠ ((.slice Ao16 t142.length co16) : Value).ownBlock ∧ some k_ ≠ ((.slice Ao49 t158.length co49) : Value).ownBlock) (.slice Ao50 t161.length co50) t161) ∧ Aside0 (wc.heap[gb136]? = some (.cells #[.int .i64 t123, .bool t124, (.slice Ao9 t125.length co9), (.slice Ao10 t128.length co10), .int .i64 t131, .int .i64 t132, .int .i64 t133, .int .i64 t134] 24 (0, 0))) ∧ Aside0 (wc.heap[gb150]? = some (.cells #[.int .i64 t137, .bool t138, (.slice Ao15 t139.length co15), (.slice Ao16 t142.length co16), .int .i64 t145, .int .i64 t146, .int .i64 t147, .int .i64 t148] 24 (0, 0))) ∧ Aside0 (wc.heap[gb169]? = some (.cells #[.int .i64 t156, .bool t157, (.slice Ao49 t158.length co49), (.slice Ao50 t161.length co50), .int .i64 t164, .int .i64 t165, .int .i64 t166, .int .i64 t167] 24 (0, 0))) ∧ Aside0 (Below w.heap.size w wc))
            case first =>
              have H := HC38.out
              clear HC38
              replace H := Option.bind_eq_some_iff.mp H
              obtain ⟨t170, A510, H⟩ := H
              replace H : (if t170 = true then (laws_FnExactNewRing.j1 kj4 t152 (t168 != t135) t137 t138 t153 t154 t145 t146 t147 t148) else (laws_FnExactNewRing.j1 kj4 t152 true t137 t138 t153 t154 t145 t146 t147 t148)) = some r := H
              have A51 := Aside0.mk A510
              clear A510
              by_cases c52 : t170 = true
              · subst c52
                have H1 : (laws_FnExactNewRing.j1 kj4 t152 (t168 != t135) t137 t138 t153 t154 t145 t146 t147 t148) = some r := by rw [if_pos rfl] at H; exact H
                clear H
                have H := H1
                clear H1
                have H' := Aside0.mk H
                clear H
                have hnb53 := NB169_136.out
                have hnc53 := NB136_169.out
                have hnb54 := NB169_150.out
                have hnc54 := NB150_169.out
                have hcz55_0 : w45.cell? ⟨gb169, 0, none⟩ = some (.int .i64 0) := (blk_cell BK169.out 0).trans rfl
                have hcz55_1 : w45.cell? ⟨gb169, 1, none⟩ = some (.bool false) := (blk_cell BK169.out 1).trans rfl
                have hcz55_2 : w45.cell? ⟨gb169, 2, none⟩ = some (.slice none 0 0) := (blk_cell BK169.out 2).trans rfl
                have hcz55_3 : w45.cell? ⟨gb169, 3, none⟩ = some (.slice none 0 0) := (blk_cell BK169.out 3).trans rfl
                have hcz55_4 : w45.cell? ⟨gb169, 4, none⟩ = some (.int .i64 0) := (blk_cell BK169.out 4).trans rfl
                have hcz55_5 : w45.cell? ⟨gb169, 5, none⟩ = some (.int .i64 0) := (blk_cell BK169.out 5).trans rfl
                have hcz55_6 : w45.cell? ⟨gb169, 6, none⟩ = some (.int .i64 0) := (blk_cell BK169.out 6).trans rfl
                have hcz55_7 : w45.cell? ⟨gb169, 7, none⟩ = some (.int .i64 0) := (blk_cell BK169.out 7).trans rfl
                have hfz55_0 := blk_frozen BK169.out 0
                have hfz55_1 := blk_frozen BK169.out 1
                have hfz55_2 := blk_frozen BK169.out 2
                have hfz55_3 := blk_frozen BK169.out 3
                have hfz55_4 := blk_frozen BK169.out 4
                have hfz55_5 := blk_frozen BK169.out 5
                have hfz55_6 := blk_frozen BK169.out 6
                have hfz55_7 := blk_frozen BK169.out 7
                have hnb56 := NB136_150.out
                have hnc56 := NB150_136.out
                have hcz57_0 : w45.cell? ⟨gb136, 0, none⟩ = some (.int .i64 t123) := (blk_cell BK136.out 0).trans rfl
                have hcz57_1 : w45.cell? ⟨gb136, 1, none⟩ = some (.bool t124) := (blk_cell BK136.out 1).trans rfl
                have hcz57_2 : w45.cell? ⟨gb136, 2, none⟩ = some (.slice Ao9 t125.length co9) := (blk_cell BK136.out 2).trans rfl
                have hcz57_3 : w45.cell? ⟨gb136, 3, none⟩ = some (.slice Ao10 t128.length co10) := (blk_cell BK136.out 3).trans rfl
                have hcz57_4 : w45.cell? ⟨gb136, 4, none⟩ = some (.int .i64 t131) := (blk_cell BK136.out 4).trans rfl
                have hcz57_5 : w45.cell? ⟨gb136, 5, none⟩ = some (.int .i64 t132) := (blk_cell BK136.out 5).trans rfl
                have hcz57_6 : w45.cell? ⟨gb136, 6, none⟩ = some (.int .i64 t133) := (blk_cell BK136.out 6).trans rfl
                have hcz57_7 : w45.cell? ⟨gb136, 7, none⟩ = some (.int .i64 t134) := (blk_cell BK136.out 7).trans rfl
                have hfz57_0 := blk_frozen BK136.out 0
                have hfz57_1 := blk_frozen BK136.out 1
                have hfz57_2 := blk_frozen BK136.out 2
                have hfz57_3 := blk_frozen BK136.out 3
                have hfz57_4 := blk_frozen BK136.out 4
                have hfz57_5 := blk_frozen BK136.out 5
                have hfz57_6 := blk_frozen BK136.out 6
                have hfz57_7 := blk_frozen BK136.out 7
                go_wp2_with (first | ((with_reducible refine gate_callee (f := 12) rfl ?_); refine goesL_ (some 53) rfl rfl Try.func12 (by kernel_rfl) rfl #[.agg #[.int .i64 t156, .bool t157, .slice Ao49 t158.length co49, .slice Ao50 t161.length co50, .int .i64 t164, .int .i64 t165, .int .i64 t166, .int .i64 t167], .agg #[.int .i64 t123, .bool t124, .slice Ao9 t125.length co9, .slice Ao10 t128.length co10, .int .i64 t131, .int .i64 t132, .int .i64 t133, .int .i64 t134]] rfl (by (try simp only [List.map_toArray, List.map_cons, List.map_nil]); first | done | rfl | (simp only [List.length_drop, List.length_take]; rfl)) ?_; (with_reducible refine (laws_eqRing.calls kj4 t156 t157 _ _ t158 _ _ t161 t164 t165 t166 t167 t123 t124 _ _ t125 _ _ t128 t131 t132 t133 t134 true _ ?side1 ?side2 ?side3 ?side4 ?side5 ?side6 ?side7 ?side8 A51.out).mono ?_); (case side1 => refine (Kd.R_reads' (e := 3) (base := w.heap.size) (ok := fun k_ => ((((some k_ ≠ (.slice Ao50 t161.length co50 : Value).ownBlock ∧ some k_ ≠ (.slice Ao9 t125.length co9 : Value).ownBlock) ∧ some k_ ≠ (.slice Ao10 t128.length co10 : Value).ownBlock) ∧ some k_ ≠ (.slice Ao15 t139.length co15 : Value).ownBlock) ∧ some k_ ≠ (.slice Ao16 t142.length co16 : Value).ownBlock)) (n := t158.length) (c := co49) ?_).2.2; exact (by (with_reducible repeat (first | apply Kd.R_alloc | apply Kd.R_drewN | apply Kd.R_drew)); exact (Kd.R_mono (Kd.R_far (p := ⟨gb169, 7, none⟩) (Kd.R_far (p := ⟨gb169, 6, none⟩) (Kd.R_far (p := ⟨gb169, 5, none⟩) (Kd.R_far (p := ⟨gb169, 4, none⟩) (Kd.R_far (p := ⟨gb169, 3, none⟩) (Kd.R_far (p := ⟨gb169, 2, none⟩) (Kd.R_far (p := ⟨gb169, 1, none⟩) (Kd.R_far (p := ⟨gb169, 0, none⟩) (Kd.R_types HO160.out BK169.out (by decide)) (fun _ hk => hk.2) (.int .i64 t156)) (fun _ hk => hk.2) (.bool t157)) (fun _ hk => hk.2) (.slice Ao49 t158.length co49)) (fun _ hk => hk.2) (.slice Ao50 t161.length co50)) (fun _ hk => hk.2) (.int .i64 t164)) (fun _ hk => hk.2) (.int .i64 t165)) (fun _ hk => hk.2) (.int .i64 t166)) (fun _ hk => hk.2) (.int .i64 t167)) (fun _ h_ => h_.1)))); (case side2 => exact (Kd.R_reads' HO160.out).2.1); (case side3 => refine (Kd.R_reads' (e := 3) (base := w.heap.size) (ok := fun k_ => ((((some k_ ≠ (.slice Ao49 t158.length co49 : Value).ownBlock ∧ some k_ ≠ (.slice Ao9 t125.length co9 : Value).ownBlock) ∧ some k_ ≠ (.slice Ao10 t128.length co10 : Value).ownBlock) ∧ some k_ ≠ (.slice Ao15 t139.length co15 : Value).ownBlock) ∧ some k_ ≠ (.slice Ao16 t142.length co16 : Value).ownBlock)) (n := t161.length) (c := co50) ?_).2.2; exact (by (with_reducible repeat (first | apply Kd.R_alloc | apply Kd.R_drewN | apply Kd.R_drew)); exact (Kd.R_mono (Kd.R_far (p := ⟨gb169, 7, none⟩) (Kd.R_far (p := ⟨gb169, 6, none⟩) (Kd.R_far (p := ⟨gb169, 5, none⟩) (Kd.R_far (p := ⟨gb169, 4, none⟩) (Kd.R_far (p := ⟨gb169, 3, none⟩) (Kd.R_far (p := ⟨gb169, 2, none⟩) (Kd.R_far (p := ⟨gb169, 1, none⟩) (Kd.R_far (p := ⟨gb169, 0, none⟩) (Kd.R_types HO163.out BK169.out (by decide)) (fun _ hk => hk.2) (.int .i64 t156)) (fun _ hk => hk.2) (.bool t157)) (fun _ hk => hk.2) (.slice Ao49 t158.length co49)) (fun _ hk => hk.2) (.slice Ao50 t161.length co50)) (fun _ hk => hk.2) (.int .i64 t164)) (fun _ hk => hk.2) (.int .i64 t165)) (fun _ hk => hk.2) (.int .i64 t166)) (fun _ hk => hk.2) (.int .i64 t167)) (fun _ h_ => h_.1)))); (case side4 => exact (Kd.R_reads' HO163.out).2.1); (case side5 => refine (Kd.R_reads' (e := 3) (base := w.heap.size) (ok := fun k_ => (((some k_ ≠ (.slice Ao10 t128.length co10 : Value).ownBlock ∧ (some k_ ≠ (.slice Ao15 t139.length co15 : Value).ownBlock ∧ some k_ ≠ (.slice Ao16 t142.length co16 : Value).ownBlock)) ∧ some k_ ≠ (.slice Ao49 t158.length co49 : Value).ownBlock) ∧ some k_ ≠ (.slice Ao50 t161.length co50 : Value).ownBlock)) (n := t125.length) (c := co9) ?_).2.2; exact (by (with_reducible repeat (first | apply Kd.R_alloc | apply Kd.R_drewN | apply Kd.R_drew)); exact (Kd.R_mono (Kd.R_far (p := ⟨gb169, 7, none⟩) (Kd.R_far (p := ⟨gb169, 6, none⟩) (Kd.R_far (p := ⟨gb169, 5, none⟩) (Kd.R_far (p := ⟨gb169, 4, none⟩) (Kd.R_far (p := ⟨gb169, 3, none⟩) (Kd.R_far (p := ⟨gb169, 2, none⟩) (Kd.R_far (p := ⟨gb169, 1, none⟩) (Kd.R_far (p := ⟨gb169, 0, none⟩) (Kd.R_types HO_137002.out BK169.out (by decide)) (fun _ hk => hk.2) (.int .i64 t156)) (fun _ hk => hk.2) (.bool t157)) (fun _ hk => hk.2) (.slice Ao49 t158.length co49)) (fun _ hk => hk.2) (.slice Ao50 t161.length co50)) (fun _ hk => hk.2) (.int .i64 t164)) (fun _ hk => hk.2) (.int .i64 t165)) (fun _ hk => hk.2) (.int .i64 t166)) (fun _ hk => hk.2) (.int .i64 t167)) (fun _ h_ => h_.1)))); (case side6 => exact (Kd.R_reads' HO_137002.out).2.1); (case side7 => refine (Kd.R_reads' (e := 3) (base := w.heap.size) (ok := fun k_ => (((some k_ ≠ (.slice Ao9 t125.length co9 : Value).ownBlock ∧ (some k_ ≠ (.slice Ao15 t139.length co15 : Value).ownBlock ∧ some k_ ≠ (.slice Ao16 t142.length co16 : Value).ownBlock)) ∧ some k_ ≠ (.slice Ao49 t158.length co49 : Value).ownBlock) ∧ some k_ ≠ (.slice Ao50 t161.length co50 : Value).ownBlock)) (n := t128.length) (c := co10) ?_).2.2; exact (by (with_reducible repeat (first | apply Kd.R_alloc | apply Kd.R_drewN | apply Kd.R_drew)); exact (Kd.R_mono (Kd.R_far (p := ⟨gb169, 7, none⟩) (Kd.R_far (p := ⟨gb169, 6, none⟩) (Kd.R_far (p := ⟨gb169, 5, none⟩) (Kd.R_far (p := ⟨gb169, 4, none⟩) (Kd.R_far (p := ⟨gb169, 3, none⟩) (Kd.R_far (p := ⟨gb169, 2, none⟩) (Kd.R_far (p := ⟨gb169, 1, none⟩) (Kd.R_far (p := ⟨gb169, 0, none⟩) (Kd.R_types HO_137003.out BK169.out (by decide)) (fun _ hk => hk.2) (.int .i64 t156)) (fun _ hk => hk.2) (.bool t157)) (fun _ hk => hk.2) (.slice Ao49 t158.length co49)) (fun _ hk => hk.2) (.slice Ao50 t161.length co50)) (fun _ hk => hk.2) (.int .i64 t164)) (fun _ hk => hk.2) (.int .i64 t165)) (fun _ hk => hk.2) (.int .i64 t166)) (fun _ hk => hk.2) (.int .i64 t167)) (fun _ h_ => h_.1)))); (case side8 => exact (Kd.R_reads' HO_137003.out).2.1); rintro e w58 ⟨rfl, hb⟩; refine ⟨_, rfl, ?_⟩; have n0_ := Aside0.mk (Kd.R_below (by (with_reducible repeat (first | apply Kd.R_alloc | apply Kd.R_drewN | apply Kd.R_drew)); exact (Kd.R_mono (Kd.R_far (p := ⟨gb169, 7, none⟩) (Kd.R_far (p := ⟨gb169, 6, none⟩) (Kd.R_far (p := ⟨gb169, 5, none⟩) (Kd.R_far (p := ⟨gb169, 4, none⟩) (Kd.R_far (p := ⟨gb169, 3, none⟩) (Kd.R_far (p := ⟨gb169, 2, none⟩) (Kd.R_far (p := ⟨gb169, 1, none⟩) (Kd.R_far (p := ⟨gb169, 0, none⟩) (Kd.R_types HO_137002.out BK169.out (by decide)) (fun _ hk => hk.2) (.int .i64 t156)) (fun _ hk => hk.2) (.bool t157)) (fun _ hk => hk.2) (.slice Ao49 t158.length co49)) (fun _ hk => hk.2) (.slice Ao50 t161.length co50)) (fun _ hk => hk.2) (.int .i64 t164)) (fun _ hk => hk.2) (.int .i64 t165)) (fun _ hk => hk.2) (.int .i64 t166)) (fun _ hk => hk.2) (.int .i64 t167)) (fun _ h_ => h_.1))) hb); have n1_ := Aside0.mk (Kd.R_below (by (with_reducible repeat (first | apply Kd.R_alloc | apply Kd.R_drewN | apply Kd.R_drew)); exact (Kd.R_mono (Kd.R_far (p := ⟨gb169, 7, none⟩) (Kd.R_far (p := ⟨gb169, 6, none⟩) (Kd.R_far (p := ⟨gb169, 5, none⟩) (Kd.R_far (p := ⟨gb169, 4, none⟩) (Kd.R_far (p := ⟨gb169, 3, none⟩) (Kd.R_far (p := ⟨gb169, 2, none⟩) (Kd.R_far (p := ⟨gb169, 1, none⟩) (Kd.R_far (p := ⟨gb169, 0, none⟩) (Kd.R_types HO_137003.out BK169.out (by decide)) (fun _ hk => hk.2) (.int .i64 t156)) (fun _ hk => hk.2) (.bool t157)) (fun _ hk => hk.2) (.slice Ao49 t158.length co49)) (fun _ hk => hk.2) (.slice Ao50 t161.length co50)) (fun _ hk => hk.2) (.int .i64 t164)) (fun _ hk => hk.2) (.int .i64 t165)) (fun _ hk => hk.2) (.int .i64 t166)) (fun _ hk => hk.2) (.int .i64 t167)) (fun _ h_ => h_.1))) hb); have n2_ := Aside0.mk (Kd.R_below (by (with_reducible repeat (first | apply Kd.R_alloc | apply Kd.R_drewN | apply Kd.R_drew)); exact (Kd.R_mono (Kd.R_far (p := ⟨gb169, 7, none⟩) (Kd.R_far (p := ⟨gb169, 6, none⟩) (Kd.R_far (p := ⟨gb169, 5, none⟩) (Kd.R_far (p := ⟨gb169, 4, none⟩) (Kd.R_far (p := ⟨gb169, 3, none⟩) (Kd.R_far (p := ⟨gb169, 2, none⟩) (Kd.R_far (p := ⟨gb169, 1, none⟩) (Kd.R_far (p := ⟨gb169, 0, none⟩) (Kd.R_types HO_151002.out BK169.out (by decide)) (fun _ hk => hk.2) (.int .i64 t156)) (fun _ hk => hk.2) (.bool t157)) (fun _ hk => hk.2) (.slice Ao49 t158.length co49)) (fun _ hk => hk.2) (.slice Ao50 t161.length co50)) (fun _ hk => hk.2) (.int .i64 t164)) (fun _ hk => hk.2) (.int .i64 t165)) (fun _ hk => hk.2) (.int .i64 t166)) (fun _ hk => hk.2) (.int .i64 t167)) (fun _ h_ => h_.1))) hb); have n3_ := Aside0.mk (Kd.R_below (by (with_reducible repeat (first | apply Kd.R_alloc | apply Kd.R_drewN | apply Kd.R_drew)); exact (Kd.R_mono (Kd.R_far (p := ⟨gb169, 7, none⟩) (Kd.R_far (p := ⟨gb169, 6, none⟩) (Kd.R_far (p := ⟨gb169, 5, none⟩) (Kd.R_far (p := ⟨gb169, 4, none⟩) (Kd.R_far (p := ⟨gb169, 3, none⟩) (Kd.R_far (p := ⟨gb169, 2, none⟩) (Kd.R_far (p := ⟨gb169, 1, none⟩) (Kd.R_far (p := ⟨gb169, 0, none⟩) (Kd.R_types HO_151003.out BK169.out (by decide)) (fun _ hk => hk.2) (.int .i64 t156)) (fun _ hk => hk.2) (.bool t157)) (fun _ hk => hk.2) (.slice Ao49 t158.length co49)) (fun _ hk => hk.2) (.slice Ao50 t161.length co50)) (fun _ hk => hk.2) (.int .i64 t164)) (fun _ hk => hk.2) (.int .i64 t165)) (fun _ hk => hk.2) (.int .i64 t166)) (fun _ hk => hk.2) (.int .i64 t167)) (fun _ h_ => h_.1))) hb); have n4_ := Aside0.mk (Kd.R_below (by (with_reducible repeat (first | apply Kd.R_alloc | apply Kd.R_drewN | apply Kd.R_drew)); exact (Kd.R_mono (Kd.R_far (p := ⟨gb169, 7, none⟩) (Kd.R_far (p := ⟨gb169, 6, none⟩) (Kd.R_far (p := ⟨gb169, 5, none⟩) (Kd.R_far (p := ⟨gb169, 4, none⟩) (Kd.R_far (p := ⟨gb169, 3, none⟩) (Kd.R_far (p := ⟨gb169, 2, none⟩) (Kd.R_far (p := ⟨gb169, 1, none⟩) (Kd.R_far (p := ⟨gb169, 0, none⟩) (Kd.R_types HO160.out BK169.out (by decide)) (fun _ hk => hk.2) (.int .i64 t156)) (fun _ hk => hk.2) (.bool t157)) (fun _ hk => hk.2) (.slice Ao49 t158.length co49)) (fun _ hk => hk.2) (.slice Ao50 t161.length co50)) (fun _ hk => hk.2) (.int .i64 t164)) (fun _ hk => hk.2) (.int .i64 t165)) (fun _ hk => hk.2) (.int .i64 t166)) (fun _ hk => hk.2) (.int .i64 t167)) (fun _ h_ => h_.1))) hb); have n5_ := Aside0.mk (Kd.R_below (by (with_reducible repeat (first | apply Kd.R_alloc | apply Kd.R_drewN | apply Kd.R_drew)); exact (Kd.R_mono (Kd.R_far (p := ⟨gb169, 7, none⟩) (Kd.R_far (p := ⟨gb169, 6, none⟩) (Kd.R_far (p := ⟨gb169, 5, none⟩) (Kd.R_far (p := ⟨gb169, 4, none⟩) (Kd.R_far (p := ⟨gb169, 3, none⟩) (Kd.R_far (p := ⟨gb169, 2, none⟩) (Kd.R_far (p := ⟨gb169, 1, none⟩) (Kd.R_far (p := ⟨gb169, 0, none⟩) (Kd.R_types HO163.out BK169.out (by decide)) (fun _ hk => hk.2) (.int .i64 t156)) (fun _ hk => hk.2) (.bool t157)) (fun _ hk => hk.2) (.slice Ao49 t158.length co49)) (fun _ hk => hk.2) (.slice Ao50 t161.length co50)) (fun _ hk => hk.2) (.int .i64 t164)) (fun _ hk => hk.2) (.int .i64 t165)) (fun _ hk => hk.2) (.int .i64 t166)) (fun _ hk => hk.2) (.int .i64 t167)) (fun _ h_ => h_.1))) hb); have n6_ := Aside0.mk (blk_below (g := gb136) (o := .cells #[.int .i64 t123, .bool t124, .slice Ao9 t125.length co9, .slice Ao10 t128.length co10, .int .i64 t131, .int .i64 t132, .int .i64 t133, .int .i64 t134] 24 (0, 0)) (by (with_reducible repeat (first | refine blk_drewN ?_ _ | refine blk_drew ?_ | refine blk_alloc ?_ _)); refine blk_far ?_ NB136_169.out _; (with_reducible repeat (first | refine blk_drewN ?_ _ | refine blk_drew ?_ | refine blk_alloc ?_ _)); refine blk_far ?_ NB136_169.out _; (with_reducible repeat (first | refine blk_drewN ?_ _ | refine blk_drew ?_ | refine blk_alloc ?_ _)); refine blk_far ?_ NB136_169.out _; (with_reducible repeat (first | refine blk_drewN ?_ _ | refine blk_drew ?_ | refine blk_alloc ?_ _)); refine blk_far ?_ NB136_169.out _; (with_reducible repeat (first | refine blk_drewN ?_ _ | refine blk_drew ?_ | refine blk_alloc ?_ _)); refine blk_far ?_ NB136_169.out _; (with_reducible repeat (first | refine blk_drewN ?_ _ | refine blk_drew ?_ | refine blk_alloc ?_ _)); refine blk_far ?_ NB136_169.out _; (with_reducible repeat (first | refine blk_drewN ?_ _ | refine blk_drew ?_ | refine blk_alloc ?_ _)); refine blk_far ?_ NB136_169.out _; (with_reducible repeat (first | refine blk_drewN ?_ _ | refine blk_drew ?_ | refine blk_alloc ?_ _)); refine blk_far ?_ NB136_169.out _; (with_reducible repeat (first | refine blk_drewN ?_ _ | refine blk_drew ?_ | refine blk_alloc ?_ _)); exact BK136.out) hb); have n7_ := Aside0.mk (blk_below (g := gb150) (o := .cells #[.int .i64 t137, .bool t138, .slice Ao15 t139.length co15, .slice Ao16 t142.length co16, .int .i64 t145, .int .i64 t146, .int .i64 t147, .int .i64 t148] 24 (0, 0)) (by (with_reducible repeat (first | refine blk_drewN ?_ _ | refine blk_drew ?_ | refine blk_alloc ?_ _)); refine blk_far ?_ NB150_169.out _; (with_reducible repeat (first | refine blk_drewN ?_ _ | refine blk_drew ?_ | refine blk_alloc ?_ _)); refine blk_far ?_ NB150_169.out _; (with_reducible repeat (first | refine blk_drewN ?_ _ | refine blk_drew ?_ | refine blk_alloc ?_ _)); refine blk_far ?_ NB150_169.out _; (with_reducible repeat (first | refine blk_drewN ?_ _ | refine blk_drew ?_ | refine blk_alloc ?_ _)); refine blk_far ?_ NB150_169.out _; (with_reducible repeat (first | refine blk_drewN ?_ _ | refine blk_drew ?_ | refine blk_alloc ?_ _)); refine blk_far ?_ NB150_169.out _; (with_reducible repeat (first | refine blk_drewN ?_ _ | refine blk_drew ?_ | refine blk_alloc ?_ _)); refine blk_far ?_ NB150_169.out _; (with_reducible repeat (first | refine blk_drewN ?_ _ | refine blk_drew ?_ | refine blk_alloc ?_ _)); refine blk_far ?_ NB150_169.out _; (with_reducible repeat (first | refine blk_drewN ?_ _ | refine blk_drew ?_ | refine blk_alloc ?_ _)); refine blk_far ?_ NB150_169.out _; (with_reducible repeat (first | refine blk_drewN ?_ _ | refine blk_drew ?_ | refine blk_alloc ?_ _)); exact BK150.out) hb); have n8_ := Aside0.mk (blk_below (g := gb169) (o := .cells #[.int .i64 t156, .bool t157, .slice Ao49 t158.length co49, .slice Ao50 t161.length co50, .int .i64 t164, .int .i64 t165, .int .i64 t166, .int .i64 t167] 24 (0, 0)) (by (with_reducible repeat (first | refine blk_drewN ?_ _ | refine blk_drew ?_ | refine blk_alloc ?_ _)); refine blk_put (cs := #[.int .i64 t156, .bool t157, .slice Ao49 t158.length co49, .slice Ao50 t161.length co50, .int .i64 t164, .int .i64 t165, .int .i64 t166, .int .i64 0]) ?_ 7 _ rfl; (with_reducible repeat (first | refine blk_drewN ?_ _ | refine blk_drew ?_ | refine blk_alloc ?_ _)); refine blk_put (cs := #[.int .i64 t156, .bool t157, .slice Ao49 t158.length co49, .slice Ao50 t161.length co50, .int .i64 t164, .int .i64 t165, .int .i64 0, .int .i64 0]) ?_ 6 _ rfl; (with_reducible repeat (first | refine blk_drewN ?_ _ | refine blk_drew ?_ | refine blk_alloc ?_ _)); refine blk_put (cs := #[.int .i64 t156, .bool t157, .slice Ao49 t158.length co49, .slice Ao50 t161.length co50, .int .i64 t164, .int .i64 0, .int .i64 0, .int .i64 0]) ?_ 5 _ rfl; (with_reducible repeat (first | refine blk_drewN ?_ _ | refine blk_drew ?_ | refine blk_alloc ?_ _)); refine blk_put (cs := #[.int .i64 t156, .bool t157, .slice Ao49 t158.length co49, .slice Ao50 t161.length co50, .int .i64 0, .int .i64 0, .int .i64 0, .int .i64 0]) ?_ 4 _ rfl; (with_reducible repeat (first | refine blk_drewN ?_ _ | refine blk_drew ?_ | refine blk_alloc ?_ _)); refine blk_put (cs := #[.int .i64 t156, .bool t157, .slice Ao49 t158.length co49, .slice none 0 0, .int .i64 0, .int .i64 0, .int .i64 0, .int .i64 0]) ?_ 3 _ rfl; (with_reducible repeat (first | refine blk_drewN ?_ _ | refine blk_drew ?_ | refine blk_alloc ?_ _)); refine blk_put (cs := #[.int .i64 t156, .bool t157, .slice none 0 0, .slice none 0 0, .int .i64 0, .int .i64 0, .int .i64 0, .int .i64 0]) ?_ 2 _ rfl; (with_reducible repeat (first | refine blk_drewN ?_ _ | refine blk_drew ?_ | refine blk_alloc ?_ _)); refine blk_put (cs := #[.int .i64 t156, .bool false, .slice none 0 0, .slice none 0 0, .int .i64 0, .int .i64 0, .int .i64 0, .int .i64 0]) ?_ 1 _ rfl; (with_reducible repeat (first | refine blk_drewN ?_ _ | refine blk_drew ?_ | refine blk_alloc ?_ _)); refine blk_put (cs := #[.int .i64 0, .bool false, .slice none 0 0, .slice none 0 0, .int .i64 0, .int .i64 0, .int .i64 0, .int .i64 0]) ?_ 0 _ rfl; (with_reducible repeat (first | refine blk_drewN ?_ _ | refine blk_drew ?_ | refine blk_alloc ?_ _)); exact BK169.out) hb); have n9_ := Aside0.mk (below_step (by repeat (first | (with_reducible first | exact HB.out | apply below_alloc | apply pw_below_drewN | apply below_drew1 | refine below_set ?_ GE136.out | refine below_set ?_ GE150.out | refine below_set ?_ GE169.out) | exact HB.out)) hb); clear HO_137002; clear HO_137003; clear HO_151002; clear HO_151003; clear HO160; clear HO163; clear BK136; clear BK150; clear BK169; clear HB; have HO_137002 := n0_; have HO_137003 := n1_; have HO_151002 := n2_; have HO_151003 := n3_; have HO160 := n4_; have HO163 := n5_; have BK136 := n6_; have BK150 := n7_; have BK169 := n8_; have HB := n9_; clear n0_ n1_ n2_ n3_ n4_ n5_ n6_ n7_ n8_ n9_; (try clear hb); (try clear hb2); (try clear hk); (try clear hi)))
                go_meet
                case rel => exact ⟨_, ((t168 != t135)), (by first | rfl | (simp; done) | (simp [*]; done)), H', ⟨by have := HJ4.out; first | omega | exact Nat.le_refl _⟩, ⟨by (with_reducible repeat (first | apply Kd.R_alloc | apply Kd.R_drewN | apply Kd.R_drew)); exact Kd.R_mono HO_137002.out (fun _ hk => ⟨hk.1.1.1, ⟨hk.1.1.2.1, ⟨hk.1.1.2.2, ⟨hk.1.2, hk.2⟩⟩⟩⟩)⟩, ⟨by (with_reducible repeat (first | apply Kd.R_alloc | apply Kd.R_drewN | apply Kd.R_drew)); exact Kd.R_mono HO_137003.out (fun _ hk => ⟨hk.1.1.1, ⟨hk.1.1.2.1, ⟨hk.1.1.2.2, ⟨hk.1.2, hk.2⟩⟩⟩⟩)⟩, ⟨by (with_reducible repeat (first | apply Kd.R_alloc | apply Kd.R_drewN | apply Kd.R_drew)); exact Kd.R_mono HO_151002.out (fun _ hk => ⟨hk.1.1.1, ⟨hk.1.1.2.1, ⟨hk.1.1.2.2, ⟨hk.1.2, hk.2⟩⟩⟩⟩)⟩, ⟨by (with_reducible repeat (first | apply Kd.R_alloc | apply Kd.R_drewN | apply Kd.R_drew)); exact Kd.R_mono HO_151003.out (fun _ hk => ⟨hk.1.1.1, ⟨hk.1.1.2.1, ⟨hk.1.1.2.2, ⟨hk.1.2, hk.2⟩⟩⟩⟩)⟩, ⟨by (with_reducible repeat (first | apply Kd.R_alloc | apply Kd.R_drewN | apply Kd.R_drew)); exact Kd.R_mono HO160.out (fun _ hk => ⟨hk.1.1.1.2, ⟨hk.1.1.2, ⟨hk.1.2, ⟨hk.2, hk.1.1.1.1⟩⟩⟩⟩)⟩, ⟨by (with_reducible repeat (first | apply Kd.R_alloc | apply Kd.R_drewN | apply Kd.R_drew)); exact Kd.R_mono HO163.out (fun _ hk => ⟨hk.1.1.1.2, ⟨hk.1.1.2, ⟨hk.1.2, ⟨hk.2, hk.1.1.1.1⟩⟩⟩⟩)⟩, ⟨by (with_reducible repeat (first | refine blk_drewN ?_ _ | refine blk_drew ?_ | refine blk_alloc ?_ _)); exact BK136.out⟩, ⟨by (with_reducible repeat (first | refine blk_drewN ?_ _ | refine blk_drew ?_ | refine blk_alloc ?_ _)); exact BK150.out⟩, ⟨by (with_reducible repeat (first | refine blk_drewN ?_ _ | refine blk_drew ?_ | refine blk_alloc ?_ _)); exact BK169.out⟩, ⟨by repeat (first | (with_reducible first | exact HB.out | apply below_alloc | apply pw_below_drewN | apply below_drew1 | refine below_set ?_ GE136.out | refine below_set ?_ GE150.out | refine below_set ?_ GE169.out) | exact HB.out)⟩⟩
              · replace c52 := Bool.eq_false_iff.mpr c52
                subst c52
                have H1 : (laws_FnExactNewRing.j1 kj4 t152 true t137 t138 t153 t154 t145 t146 t147 t148) = some r := by rw [if_neg (show ¬ (false = true) by decide)] at H; exact H
                clear H
                have H := H1
                clear H1
                have H' := Aside0.mk H
                clear H
                have hnb59 := NB169_136.out
                have hnc59 := NB136_169.out
                have hnb60 := NB169_150.out
                have hnc60 := NB150_169.out
                have hcz61_0 : w45.cell? ⟨gb169, 0, none⟩ = some (.int .i64 0) := (blk_cell BK169.out 0).trans rfl
                have hcz61_1 : w45.cell? ⟨gb169, 1, none⟩ = some (.bool false) := (blk_cell BK169.out 1).trans rfl
                have hcz61_2 : w45.cell? ⟨gb169, 2, none⟩ = some (.slice none 0 0) := (blk_cell BK169.out 2).trans rfl
                have hcz61_3 : w45.cell? ⟨gb169, 3, none⟩ = some (.slice none 0 0) := (blk_cell BK169.out 3).trans rfl
                have hcz61_4 : w45.cell? ⟨gb169, 4, none⟩ = some (.int .i64 0) := (blk_cell BK169.out 4).trans rfl
                have hcz61_5 : w45.cell? ⟨gb169, 5, none⟩ = some (.int .i64 0) := (blk_cell BK169.out 5).trans rfl
                have hcz61_6 : w45.cell? ⟨gb169, 6, none⟩ = some (.int .i64 0) := (blk_cell BK169.out 6).trans rfl
                have hcz61_7 : w45.cell? ⟨gb169, 7, none⟩ = some (.int .i64 0) := (blk_cell BK169.out 7).trans rfl
                have hfz61_0 := blk_frozen BK169.out 0
                have hfz61_1 := blk_frozen BK169.out 1
                have hfz61_2 := blk_frozen BK169.out 2
                have hfz61_3 := blk_frozen BK169.out 3
                have hfz61_4 := blk_frozen BK169.out 4
                have hfz61_5 := blk_frozen BK169.out 5
                have hfz61_6 := blk_frozen BK169.out 6
                have hfz61_7 := blk_frozen BK169.out 7
                have hnb62 := NB136_150.out
                have hnc62 := NB150_136.out
                have hcz63_0 : w45.cell? ⟨gb136, 0, none⟩ = some (.int .i64 t123) := (blk_cell BK136.out 0).trans rfl
                have hcz63_1 : w45.cell? ⟨gb136, 1, none⟩ = some (.bool t124) := (blk_cell BK136.out 1).trans rfl
                have hcz63_2 : w45.cell? ⟨gb136, 2, none⟩ = some (.slice Ao9 t125.length co9) := (blk_cell BK136.out 2).trans rfl
                have hcz63_3 : w45.cell? ⟨gb136, 3, none⟩ = some (.slice Ao10 t128.length co10) := (blk_cell BK136.out 3).trans rfl
                have hcz63_4 : w45.cell? ⟨gb136, 4, none⟩ = some (.int .i64 t131) := (blk_cell BK136.out 4).trans rfl
                have hcz63_5 : w45.cell? ⟨gb136, 5, none⟩ = some (.int .i64 t132) := (blk_cell BK136.out 5).trans rfl
                have hcz63_6 : w45.cell? ⟨gb136, 6, none⟩ = some (.int .i64 t133) := (blk_cell BK136.out 6).trans rfl
                have hcz63_7 : w45.cell? ⟨gb136, 7, none⟩ = some (.int .i64 t134) := (blk_cell BK136.out 7).trans rfl
                have hfz63_0 := blk_frozen BK136.out 0
                have hfz63_1 := blk_frozen BK136.out 1
                have hfz63_2 := blk_frozen BK136.out 2
                have hfz63_3 := blk_frozen BK136.out 3
                have hfz63_4 := blk_frozen BK136.out 4
                have hfz63_5 := blk_frozen BK136.out 5
                have hfz63_6 := blk_frozen BK136.out 6
                have hfz63_7 := blk_frozen BK136.out 7
                go_wp2_with (first | ((with_reducible refine gate_callee (f := 12) rfl ?_); refine goesL_ (some 53) rfl rfl Try.func12 (by kernel_rfl) rfl #[.agg #[.int .i64 t156, .bool t157, .slice Ao49 t158.length co49, .slice Ao50 t161.length co50, .int .i64 t164, .int .i64 t165, .int .i64 t166, .int .i64 t167], .agg #[.int .i64 t123, .bool t124, .slice Ao9 t125.length co9, .slice Ao10 t128.length co10, .int .i64 t131, .int .i64 t132, .int .i64 t133, .int .i64 t134]] rfl (by (try simp only [List.map_toArray, List.map_cons, List.map_nil]); first | done | rfl | (simp only [List.length_drop, List.length_take]; rfl)) ?_; (with_reducible refine (laws_eqRing.calls kj4 t156 t157 _ _ t158 _ _ t161 t164 t165 t166 t167 t123 t124 _ _ t125 _ _ t128 t131 t132 t133 t134 false _ ?side1 ?side2 ?side3 ?side4 ?side5 ?side6 ?side7 ?side8 A51.out).mono ?_); (case side1 => refine (Kd.R_reads' (e := 3) (base := w.heap.size) (ok := fun k_ => ((((some k_ ≠ (.slice Ao50 t161.length co50 : Value).ownBlock ∧ some k_ ≠ (.slice Ao9 t125.length co9 : Value).ownBlock) ∧ some k_ ≠ (.slice Ao10 t128.length co10 : Value).ownBlock) ∧ some k_ ≠ (.slice Ao15 t139.length co15 : Value).ownBlock) ∧ some k_ ≠ (.slice Ao16 t142.length co16 : Value).ownBlock)) (n := t158.length) (c := co49) ?_).2.2; exact (by (with_reducible repeat (first | apply Kd.R_alloc | apply Kd.R_drewN | apply Kd.R_drew)); exact (Kd.R_mono (Kd.R_far (p := ⟨gb169, 7, none⟩) (Kd.R_far (p := ⟨gb169, 6, none⟩) (Kd.R_far (p := ⟨gb169, 5, none⟩) (Kd.R_far (p := ⟨gb169, 4, none⟩) (Kd.R_far (p := ⟨gb169, 3, none⟩) (Kd.R_far (p := ⟨gb169, 2, none⟩) (Kd.R_far (p := ⟨gb169, 1, none⟩) (Kd.R_far (p := ⟨gb169, 0, none⟩) (Kd.R_types HO160.out BK169.out (by decide)) (fun _ hk => hk.2) (.int .i64 t156)) (fun _ hk => hk.2) (.bool t157)) (fun _ hk => hk.2) (.slice Ao49 t158.length co49)) (fun _ hk => hk.2) (.slice Ao50 t161.length co50)) (fun _ hk => hk.2) (.int .i64 t164)) (fun _ hk => hk.2) (.int .i64 t165)) (fun _ hk => hk.2) (.int .i64 t166)) (fun _ hk => hk.2) (.int .i64 t167)) (fun _ h_ => h_.1)))); (case side2 => exact (Kd.R_reads' HO160.out).2.1); (case side3 => refine (Kd.R_reads' (e := 3) (base := w.heap.size) (ok := fun k_ => ((((some k_ ≠ (.slice Ao49 t158.length co49 : Value).ownBlock ∧ some k_ ≠ (.slice Ao9 t125.length co9 : Value).ownBlock) ∧ some k_ ≠ (.slice Ao10 t128.length co10 : Value).ownBlock) ∧ some k_ ≠ (.slice Ao15 t139.length co15 : Value).ownBlock) ∧ some k_ ≠ (.slice Ao16 t142.length co16 : Value).ownBlock)) (n := t161.length) (c := co50) ?_).2.2; exact (by (with_reducible repeat (first | apply Kd.R_alloc | apply Kd.R_drewN | apply Kd.R_drew)); exact (Kd.R_mono (Kd.R_far (p := ⟨gb169, 7, none⟩) (Kd.R_far (p := ⟨gb169, 6, none⟩) (Kd.R_far (p := ⟨gb169, 5, none⟩) (Kd.R_far (p := ⟨gb169, 4, none⟩) (Kd.R_far (p := ⟨gb169, 3, none⟩) (Kd.R_far (p := ⟨gb169, 2, none⟩) (Kd.R_far (p := ⟨gb169, 1, none⟩) (Kd.R_far (p := ⟨gb169, 0, none⟩) (Kd.R_types HO163.out BK169.out (by decide)) (fun _ hk => hk.2) (.int .i64 t156)) (fun _ hk => hk.2) (.bool t157)) (fun _ hk => hk.2) (.slice Ao49 t158.length co49)) (fun _ hk => hk.2) (.slice Ao50 t161.length co50)) (fun _ hk => hk.2) (.int .i64 t164)) (fun _ hk => hk.2) (.int .i64 t165)) (fun _ hk => hk.2) (.int .i64 t166)) (fun _ hk => hk.2) (.int .i64 t167)) (fun _ h_ => h_.1)))); (case side4 => exact (Kd.R_reads' HO163.out).2.1); (case side5 => refine (Kd.R_reads' (e := 3) (base := w.heap.size) (ok := fun k_ => (((some k_ ≠ (.slice Ao10 t128.length co10 : Value).ownBlock ∧ (some k_ ≠ (.slice Ao15 t139.length co15 : Value).ownBlock ∧ some k_ ≠ (.slice Ao16 t142.length co16 : Value).ownBlock)) ∧ some k_ ≠ (.slice Ao49 t158.length co49 : Value).ownBlock) ∧ some k_ ≠ (.slice Ao50 t161.length co50 : Value).ownBlock)) (n := t125.length) (c := co9) ?_).2.2; exact (by (with_reducible repeat (first | apply Kd.R_alloc | apply Kd.R_drewN | apply Kd.R_drew)); exact (Kd.R_mono (Kd.R_far (p := ⟨gb169, 7, none⟩) (Kd.R_far (p := ⟨gb169, 6, none⟩) (Kd.R_far (p := ⟨gb169, 5, none⟩) (Kd.R_far (p := ⟨gb169, 4, none⟩) (Kd.R_far (p := ⟨gb169, 3, none⟩) (Kd.R_far (p := ⟨gb169, 2, none⟩) (Kd.R_far (p := ⟨gb169, 1, none⟩) (Kd.R_far (p := ⟨gb169, 0, none⟩) (Kd.R_types HO_137002.out BK169.out (by decide)) (fun _ hk => hk.2) (.int .i64 t156)) (fun _ hk => hk.2) (.bool t157)) (fun _ hk => hk.2) (.slice Ao49 t158.length co49)) (fun _ hk => hk.2) (.slice Ao50 t161.length co50)) (fun _ hk => hk.2) (.int .i64 t164)) (fun _ hk => hk.2) (.int .i64 t165)) (fun _ hk => hk.2) (.int .i64 t166)) (fun _ hk => hk.2) (.int .i64 t167)) (fun _ h_ => h_.1)))); (case side6 => exact (Kd.R_reads' HO_137002.out).2.1); (case side7 => refine (Kd.R_reads' (e := 3) (base := w.heap.size) (ok := fun k_ => (((some k_ ≠ (.slice Ao9 t125.length co9 : Value).ownBlock ∧ (some k_ ≠ (.slice Ao15 t139.length co15 : Value).ownBlock ∧ some k_ ≠ (.slice Ao16 t142.length co16 : Value).ownBlock)) ∧ some k_ ≠ (.slice Ao49 t158.length co49 : Value).ownBlock) ∧ some k_ ≠ (.slice Ao50 t161.length co50 : Value).ownBlock)) (n := t128.length) (c := co10) ?_).2.2; exact (by (with_reducible repeat (first | apply Kd.R_alloc | apply Kd.R_drewN | apply Kd.R_drew)); exact (Kd.R_mono (Kd.R_far (p := ⟨gb169, 7, none⟩) (Kd.R_far (p := ⟨gb169, 6, none⟩) (Kd.R_far (p := ⟨gb169, 5, none⟩) (Kd.R_far (p := ⟨gb169, 4, none⟩) (Kd.R_far (p := ⟨gb169, 3, none⟩) (Kd.R_far (p := ⟨gb169, 2, none⟩) (Kd.R_far (p := ⟨gb169, 1, none⟩) (Kd.R_far (p := ⟨gb169, 0, none⟩) (Kd.R_types HO_137003.out BK169.out (by decide)) (fun _ hk => hk.2) (.int .i64 t156)) (fun _ hk => hk.2) (.bool t157)) (fun _ hk => hk.2) (.slice Ao49 t158.length co49)) (fun _ hk => hk.2) (.slice Ao50 t161.length co50)) (fun _ hk => hk.2) (.int .i64 t164)) (fun _ hk => hk.2) (.int .i64 t165)) (fun _ hk => hk.2) (.int .i64 t166)) (fun _ hk => hk.2) (.int .i64 t167)) (fun _ h_ => h_.1)))); (case side8 => exact (Kd.R_reads' HO_137003.out).2.1); rintro e w64 ⟨rfl, hb⟩; refine ⟨_, rfl, ?_⟩; have n0_ := Aside0.mk (Kd.R_below (by (with_reducible repeat (first | apply Kd.R_alloc | apply Kd.R_drewN | apply Kd.R_drew)); exact (Kd.R_mono (Kd.R_far (p := ⟨gb169, 7, none⟩) (Kd.R_far (p := ⟨gb169, 6, none⟩) (Kd.R_far (p := ⟨gb169, 5, none⟩) (Kd.R_far (p := ⟨gb169, 4, none⟩) (Kd.R_far (p := ⟨gb169, 3, none⟩) (Kd.R_far (p := ⟨gb169, 2, none⟩) (Kd.R_far (p := ⟨gb169, 1, none⟩) (Kd.R_far (p := ⟨gb169, 0, none⟩) (Kd.R_types HO_137002.out BK169.out (by decide)) (fun _ hk => hk.2) (.int .i64 t156)) (fun _ hk => hk.2) (.bool t157)) (fun _ hk => hk.2) (.slice Ao49 t158.length co49)) (fun _ hk => hk.2) (.slice Ao50 t161.length co50)) (fun _ hk => hk.2) (.int .i64 t164)) (fun _ hk => hk.2) (.int .i64 t165)) (fun _ hk => hk.2) (.int .i64 t166)) (fun _ hk => hk.2) (.int .i64 t167)) (fun _ h_ => h_.1))) hb); have n1_ := Aside0.mk (Kd.R_below (by (with_reducible repeat (first | apply Kd.R_alloc | apply Kd.R_drewN | apply Kd.R_drew)); exact (Kd.R_mono (Kd.R_far (p := ⟨gb169, 7, none⟩) (Kd.R_far (p := ⟨gb169, 6, none⟩) (Kd.R_far (p := ⟨gb169, 5, none⟩) (Kd.R_far (p := ⟨gb169, 4, none⟩) (Kd.R_far (p := ⟨gb169, 3, none⟩) (Kd.R_far (p := ⟨gb169, 2, none⟩) (Kd.R_far (p := ⟨gb169, 1, none⟩) (Kd.R_far (p := ⟨gb169, 0, none⟩) (Kd.R_types HO_137003.out BK169.out (by decide)) (fun _ hk => hk.2) (.int .i64 t156)) (fun _ hk => hk.2) (.bool t157)) (fun _ hk => hk.2) (.slice Ao49 t158.length co49)) (fun _ hk => hk.2) (.slice Ao50 t161.length co50)) (fun _ hk => hk.2) (.int .i64 t164)) (fun _ hk => hk.2) (.int .i64 t165)) (fun _ hk => hk.2) (.int .i64 t166)) (fun _ hk => hk.2) (.int .i64 t167)) (fun _ h_ => h_.1))) hb); have n2_ := Aside0.mk (Kd.R_below (by (with_reducible repeat (first | apply Kd.R_alloc | apply Kd.R_drewN | apply Kd.R_drew)); exact (Kd.R_mono (Kd.R_far (p := ⟨gb169, 7, none⟩) (Kd.R_far (p := ⟨gb169, 6, none⟩) (Kd.R_far (p := ⟨gb169, 5, none⟩) (Kd.R_far (p := ⟨gb169, 4, none⟩) (Kd.R_far (p := ⟨gb169, 3, none⟩) (Kd.R_far (p := ⟨gb169, 2, none⟩) (Kd.R_far (p := ⟨gb169, 1, none⟩) (Kd.R_far (p := ⟨gb169, 0, none⟩) (Kd.R_types HO_151002.out BK169.out (by decide)) (fun _ hk => hk.2) (.int .i64 t156)) (fun _ hk => hk.2) (.bool t157)) (fun _ hk => hk.2) (.slice Ao49 t158.length co49)) (fun _ hk => hk.2) (.slice Ao50 t161.length co50)) (fun _ hk => hk.2) (.int .i64 t164)) (fun _ hk => hk.2) (.int .i64 t165)) (fun _ hk => hk.2) (.int .i64 t166)) (fun _ hk => hk.2) (.int .i64 t167)) (fun _ h_ => h_.1))) hb); have n3_ := Aside0.mk (Kd.R_below (by (with_reducible repeat (first | apply Kd.R_alloc | apply Kd.R_drewN | apply Kd.R_drew)); exact (Kd.R_mono (Kd.R_far (p := ⟨gb169, 7, none⟩) (Kd.R_far (p := ⟨gb169, 6, none⟩) (Kd.R_far (p := ⟨gb169, 5, none⟩) (Kd.R_far (p := ⟨gb169, 4, none⟩) (Kd.R_far (p := ⟨gb169, 3, none⟩) (Kd.R_far (p := ⟨gb169, 2, none⟩) (Kd.R_far (p := ⟨gb169, 1, none⟩) (Kd.R_far (p := ⟨gb169, 0, none⟩) (Kd.R_types HO_151003.out BK169.out (by decide)) (fun _ hk => hk.2) (.int .i64 t156)) (fun _ hk => hk.2) (.bool t157)) (fun _ hk => hk.2) (.slice Ao49 t158.length co49)) (fun _ hk => hk.2) (.slice Ao50 t161.length co50)) (fun _ hk => hk.2) (.int .i64 t164)) (fun _ hk => hk.2) (.int .i64 t165)) (fun _ hk => hk.2) (.int .i64 t166)) (fun _ hk => hk.2) (.int .i64 t167)) (fun _ h_ => h_.1))) hb); have n4_ := Aside0.mk (Kd.R_below (by (with_reducible repeat (first | apply Kd.R_alloc | apply Kd.R_drewN | apply Kd.R_drew)); exact (Kd.R_mono (Kd.R_far (p := ⟨gb169, 7, none⟩) (Kd.R_far (p := ⟨gb169, 6, none⟩) (Kd.R_far (p := ⟨gb169, 5, none⟩) (Kd.R_far (p := ⟨gb169, 4, none⟩) (Kd.R_far (p := ⟨gb169, 3, none⟩) (Kd.R_far (p := ⟨gb169, 2, none⟩) (Kd.R_far (p := ⟨gb169, 1, none⟩) (Kd.R_far (p := ⟨gb169, 0, none⟩) (Kd.R_types HO160.out BK169.out (by decide)) (fun _ hk => hk.2) (.int .i64 t156)) (fun _ hk => hk.2) (.bool t157)) (fun _ hk => hk.2) (.slice Ao49 t158.length co49)) (fun _ hk => hk.2) (.slice Ao50 t161.length co50)) (fun _ hk => hk.2) (.int .i64 t164)) (fun _ hk => hk.2) (.int .i64 t165)) (fun _ hk => hk.2) (.int .i64 t166)) (fun _ hk => hk.2) (.int .i64 t167)) (fun _ h_ => h_.1))) hb); have n5_ := Aside0.mk (Kd.R_below (by (with_reducible repeat (first | apply Kd.R_alloc | apply Kd.R_drewN | apply Kd.R_drew)); exact (Kd.R_mono (Kd.R_far (p := ⟨gb169, 7, none⟩) (Kd.R_far (p := ⟨gb169, 6, none⟩) (Kd.R_far (p := ⟨gb169, 5, none⟩) (Kd.R_far (p := ⟨gb169, 4, none⟩) (Kd.R_far (p := ⟨gb169, 3, none⟩) (Kd.R_far (p := ⟨gb169, 2, none⟩) (Kd.R_far (p := ⟨gb169, 1, none⟩) (Kd.R_far (p := ⟨gb169, 0, none⟩) (Kd.R_types HO163.out BK169.out (by decide)) (fun _ hk => hk.2) (.int .i64 t156)) (fun _ hk => hk.2) (.bool t157)) (fun _ hk => hk.2) (.slice Ao49 t158.length co49)) (fun _ hk => hk.2) (.slice Ao50 t161.length co50)) (fun _ hk => hk.2) (.int .i64 t164)) (fun _ hk => hk.2) (.int .i64 t165)) (fun _ hk => hk.2) (.int .i64 t166)) (fun _ hk => hk.2) (.int .i64 t167)) (fun _ h_ => h_.1))) hb); have n6_ := Aside0.mk (blk_below (g := gb136) (o := .cells #[.int .i64 t123, .bool t124, .slice Ao9 t125.length co9, .slice Ao10 t128.length co10, .int .i64 t131, .int .i64 t132, .int .i64 t133, .int .i64 t134] 24 (0, 0)) (by (with_reducible repeat (first | refine blk_drewN ?_ _ | refine blk_drew ?_ | refine blk_alloc ?_ _)); refine blk_far ?_ NB136_169.out _; (with_reducible repeat (first | refine blk_drewN ?_ _ | refine blk_drew ?_ | refine blk_alloc ?_ _)); refine blk_far ?_ NB136_169.out _; (with_reducible repeat (first | refine blk_drewN ?_ _ | refine blk_drew ?_ | refine blk_alloc ?_ _)); refine blk_far ?_ NB136_169.out _; (with_reducible repeat (first | refine blk_drewN ?_ _ | refine blk_drew ?_ | refine blk_alloc ?_ _)); refine blk_far ?_ NB136_169.out _; (with_reducible repeat (first | refine blk_drewN ?_ _ | refine blk_drew ?_ | refine blk_alloc ?_ _)); refine blk_far ?_ NB136_169.out _; (with_reducible repeat (first | refine blk_drewN ?_ _ | refine blk_drew ?_ | refine blk_alloc ?_ _)); refine blk_far ?_ NB136_169.out _; (with_reducible repeat (first | refine blk_drewN ?_ _ | refine blk_drew ?_ | refine blk_alloc ?_ _)); refine blk_far ?_ NB136_169.out _; (with_reducible repeat (first | refine blk_drewN ?_ _ | refine blk_drew ?_ | refine blk_alloc ?_ _)); refine blk_far ?_ NB136_169.out _; (with_reducible repeat (first | refine blk_drewN ?_ _ | refine blk_drew ?_ | refine blk_alloc ?_ _)); exact BK136.out) hb); have n7_ := Aside0.mk (blk_below (g := gb150) (o := .cells #[.int .i64 t137, .bool t138, .slice Ao15 t139.length co15, .slice Ao16 t142.length co16, .int .i64 t145, .int .i64 t146, .int .i64 t147, .int .i64 t148] 24 (0, 0)) (by (with_reducible repeat (first | refine blk_drewN ?_ _ | refine blk_drew ?_ | refine blk_alloc ?_ _)); refine blk_far ?_ NB150_169.out _; (with_reducible repeat (first | refine blk_drewN ?_ _ | refine blk_drew ?_ | refine blk_alloc ?_ _)); refine blk_far ?_ NB150_169.out _; (with_reducible repeat (first | refine blk_drewN ?_ _ | refine blk_drew ?_ | refine blk_alloc ?_ _)); refine blk_far ?_ NB150_169.out _; (with_reducible repeat (first | refine blk_drewN ?_ _ | refine blk_drew ?_ | refine blk_alloc ?_ _)); refine blk_far ?_ NB150_169.out _; (with_reducible repeat (first | refine blk_drewN ?_ _ | refine blk_drew ?_ | refine blk_alloc ?_ _)); refine blk_far ?_ NB150_169.out _; (with_reducible repeat (first | refine blk_drewN ?_ _ | refine blk_drew ?_ | refine blk_alloc ?_ _)); refine blk_far ?_ NB150_169.out _; (with_reducible repeat (first | refine blk_drewN ?_ _ | refine blk_drew ?_ | refine blk_alloc ?_ _)); refine blk_far ?_ NB150_169.out _; (with_reducible repeat (first | refine blk_drewN ?_ _ | refine blk_drew ?_ | refine blk_alloc ?_ _)); refine blk_far ?_ NB150_169.out _; (with_reducible repeat (first | refine blk_drewN ?_ _ | refine blk_drew ?_ | refine blk_alloc ?_ _)); exact BK150.out) hb); have n8_ := Aside0.mk (blk_below (g := gb169) (o := .cells #[.int .i64 t156, .bool t157, .slice Ao49 t158.length co49, .slice Ao50 t161.length co50, .int .i64 t164, .int .i64 t165, .int .i64 t166, .int .i64 t167] 24 (0, 0)) (by (with_reducible repeat (first | refine blk_drewN ?_ _ | refine blk_drew ?_ | refine blk_alloc ?_ _)); refine blk_put (cs := #[.int .i64 t156, .bool t157, .slice Ao49 t158.length co49, .slice Ao50 t161.length co50, .int .i64 t164, .int .i64 t165, .int .i64 t166, .int .i64 0]) ?_ 7 _ rfl; (with_reducible repeat (first | refine blk_drewN ?_ _ | refine blk_drew ?_ | refine blk_alloc ?_ _)); refine blk_put (cs := #[.int .i64 t156, .bool t157, .slice Ao49 t158.length co49, .slice Ao50 t161.length co50, .int .i64 t164, .int .i64 t165, .int .i64 0, .int .i64 0]) ?_ 6 _ rfl; (with_reducible repeat (first | refine blk_drewN ?_ _ | refine blk_drew ?_ | refine blk_alloc ?_ _)); refine blk_put (cs := #[.int .i64 t156, .bool t157, .slice Ao49 t158.length co49, .slice Ao50 t161.length co50, .int .i64 t164, .int .i64 0, .int .i64 0, .int .i64 0]) ?_ 5 _ rfl; (with_reducible repeat (first | refine blk_drewN ?_ _ | refine blk_drew ?_ | refine blk_alloc ?_ _)); refine blk_put (cs := #[.int .i64 t156, .bool t157, .slice Ao49 t158.length co49, .slice Ao50 t161.length co50, .int .i64 0, .int .i64 0, .int .i64 0, .int .i64 0]) ?_ 4 _ rfl; (with_reducible repeat (first | refine blk_drewN ?_ _ | refine blk_drew ?_ | refine blk_alloc ?_ _)); refine blk_put (cs := #[.int .i64 t156, .bool t157, .slice Ao49 t158.length co49, .slice none 0 0, .int .i64 0, .int .i64 0, .int .i64 0, .int .i64 0]) ?_ 3 _ rfl; (with_reducible repeat (first | refine blk_drewN ?_ _ | refine blk_drew ?_ | refine blk_alloc ?_ _)); refine blk_put (cs := #[.int .i64 t156, .bool t157, .slice none 0 0, .slice none 0 0, .int .i64 0, .int .i64 0, .int .i64 0, .int .i64 0]) ?_ 2 _ rfl; (with_reducible repeat (first | refine blk_drewN ?_ _ | refine blk_drew ?_ | refine blk_alloc ?_ _)); refine blk_put (cs := #[.int .i64 t156, .bool false, .slice none 0 0, .slice none 0 0, .int .i64 0, .int .i64 0, .int .i64 0, .int .i64 0]) ?_ 1 _ rfl; (with_reducible repeat (first | refine blk_drewN ?_ _ | refine blk_drew ?_ | refine blk_alloc ?_ _)); refine blk_put (cs := #[.int .i64 0, .bool false, .slice none 0 0, .slice none 0 0, .int .i64 0, .int .i64 0, .int .i64 0, .int .i64 0]) ?_ 0 _ rfl; (with_reducible repeat (first | refine blk_drewN ?_ _ | refine blk_drew ?_ | refine blk_alloc ?_ _)); exact BK169.out) hb); have n9_ := Aside0.mk (below_step (by repeat (first | (with_reducible first | exact HB.out | apply below_alloc | apply pw_below_drewN | apply below_drew1 | refine below_set ?_ GE136.out | refine below_set ?_ GE150.out | refine below_set ?_ GE169.out) | exact HB.out)) hb); clear HO_137002; clear HO_137003; clear HO_151002; clear HO_151003; clear HO160; clear HO163; clear BK136; clear BK150; clear BK169; clear HB; have HO_137002 := n0_; have HO_137003 := n1_; have HO_151002 := n2_; have HO_151003 := n3_; have HO160 := n4_; have HO163 := n5_; have BK136 := n6_; have BK150 := n7_; have BK169 := n8_; have HB := n9_; clear n0_ n1_ n2_ n3_ n4_ n5_ n6_ n7_ n8_ n9_; (try clear hb); (try clear hb2); (try clear hk); (try clear hi)))
                go_meet
                case rel => exact ⟨_, (true), (by first | rfl | (simp; done) | (simp [*]; done)), H', ⟨by have := HJ4.out; first | omega | exact Nat.le_refl _⟩, ⟨by (with_reducible repeat (first | apply Kd.R_alloc | apply Kd.R_drewN | apply Kd.R_drew)); exact Kd.R_mono HO_137002.out (fun _ hk => ⟨hk.1.1.1, ⟨hk.1.1.2.1, ⟨hk.1.1.2.2, ⟨hk.1.2, hk.2⟩⟩⟩⟩)⟩, ⟨by (with_reducible repeat (first | apply Kd.R_alloc | apply Kd.R_drewN | apply Kd.R_drew)); exact Kd.R_mono HO_137003.out (fun _ hk => ⟨hk.1.1.1, ⟨hk.1.1.2.1, ⟨hk.1.1.2.2, ⟨hk.1.2, hk.2⟩⟩⟩⟩)⟩, ⟨by (with_reducible repeat (first | apply Kd.R_alloc | apply Kd.R_drewN | apply Kd.R_drew)); exact Kd.R_mono HO_151002.out (fun _ hk => ⟨hk.1.1.1, ⟨hk.1.1.2.1, ⟨hk.1.1.2.2, ⟨hk.1.2, hk.2⟩⟩⟩⟩)⟩, ⟨by (with_reducible repeat (first | apply Kd.R_alloc | apply Kd.R_drewN | apply Kd.R_drew)); exact Kd.R_mono HO_151003.out (fun _ hk => ⟨hk.1.1.1, ⟨hk.1.1.2.1, ⟨hk.1.1.2.2, ⟨hk.1.2, hk.2⟩⟩⟩⟩)⟩, ⟨by (with_reducible repeat (first | apply Kd.R_alloc | apply Kd.R_drewN | apply Kd.R_drew)); exact Kd.R_mono HO160.out (fun _ hk => ⟨hk.1.1.1.2, ⟨hk.1.1.2, ⟨hk.1.2, ⟨hk.2, hk.1.1.1.1⟩⟩⟩⟩)⟩, ⟨by (with_reducible repeat (first | apply Kd.R_alloc | apply Kd.R_drewN | apply Kd.R_drew)); exact Kd.R_mono HO163.out (fun _ hk => ⟨hk.1.1.1.2, ⟨hk.1.1.2, ⟨hk.1.2, ⟨hk.2, hk.1.1.1.1⟩⟩⟩⟩)⟩, ⟨by (with_reducible repeat (first | refine blk_drewN ?_ _ | refine blk_drew ?_ | refine blk_alloc ?_ _)); exact BK136.out⟩, ⟨by (with_reducible repeat (first | refine blk_drewN ?_ _ | refine blk_drew ?_ | refine blk_alloc ?_ _)); exact BK150.out⟩, ⟨by (with_reducible repeat (first | refine blk_drewN ?_ _ | refine blk_drew ?_ | refine blk_alloc ?_ _)); exact BK169.out⟩, ⟨by repeat (first | (with_reducible first | exact HB.out | apply below_alloc | apply pw_below_drewN | apply below_drew1 | refine below_set ?_ GE136.out | refine below_set ?_ GE150.out | refine below_set ?_ GE169.out) | exact HB.out)⟩⟩
            case rest =>
              clear HC38
              try clear c1
              try clear c2
              try clear p2
              try clear c3
              try clear c4
              try clear c5
              try clear c6
              try clear c10
              try clear c11
              try clear c12
              try clear c13
              try clear c14
              try clear c18
              try clear c19
              try clear c23
              try clear c27
              try clear c30
              try clear c30b0
              try clear c31
              try clear c36
              try clear c36b0
              try clear c36b1
              try clear c39
              try clear c46
              try clear c47
              try clear c52
              try clear c53
              try clear c54
              try clear c56
              try clear c59
              try clear c60
              try clear c62
              try clear hcz14_0
              try clear hcz14_1
              try clear hcz14_2
              try clear hcz14_3
              try clear hcz14_4
              try clear hcz14_5
              try clear hcz14_6
              try clear hcz14_7
              try clear hcz20_0
              try clear hcz20_1
              try clear hcz20_2
              try clear hcz20_3
              try clear hcz20_4
              try clear hcz20_5
              try clear hcz20_6
              try clear hcz20_7
              try clear hcz21_0
              try clear hcz21_1
              try clear hcz21_2
              try clear hcz21_3
              try clear hcz21_4
              try clear hcz21_5
              try clear hcz21_6
              try clear hcz21_7
              try clear hcz24_0
              try clear hcz24_1
              try clear hcz24_2
              try clear hcz24_3
              try clear hcz24_4
              try clear hcz24_5
              try clear hcz24_6
              try clear hcz24_7
              try clear hcz25_0
              try clear hcz25_1
              try clear hcz25_2
              try clear hcz25_3
              try clear hcz25_4
              try clear hcz25_5
              try clear hcz25_6
              try clear hcz25_7
              try clear hcz32_0
              try clear hcz32_1
              try clear hcz32_2
              try clear hcz32_3
              try clear hcz32_4
              try clear hcz32_5
              try clear hcz32_6
              try clear hcz32_7
              try clear hcz34_0
              try clear hcz34_1
              try clear hcz34_2
              try clear hcz34_3
              try clear hcz34_4
              try clear hcz34_5
              try clear hcz34_6
              try clear hcz34_7
              try clear hcz40_0
              try clear hcz40_1
              try clear hcz40_2
              try clear hcz40_3
              try clear hcz40_4
              try clear hcz40_5
              try clear hcz40_6
              try clear hcz40_7
              try clear hcz42_0
              try clear hcz42_1
              try clear hcz42_2
              try clear hcz42_3
              try clear hcz42_4
              try clear hcz42_5
              try clear hcz42_6
              try clear hcz42_7
              try clear hcz48_0
              try clear hcz48_1
              try clear hcz48_2
              try clear hcz48_3
              try clear hcz48_4
              try clear hcz48_5
              try clear hcz48_6
              try clear hcz48_7
              try clear hcz55_0
              try clear hcz55_1
              try clear hcz55_2
              try clear hcz55_3
              try clear hcz55_4
              try clear hcz55_5
              try clear hcz55_6
              try clear hcz55_7
              try clear hcz57_0
              try clear hcz57_1
              try clear hcz57_2
              try clear hcz57_3
              try clear hcz57_4
              try clear hcz57_5
              try clear hcz57_6
              try clear hcz57_7
              try clear hcz61_0
              try clear hcz61_1
              try clear hcz61_2
              try clear hcz61_3
              try clear hcz61_4
              try clear hcz61_5
              try clear hcz61_6
              try clear hcz61_7
              try clear hcz63_0
              try clear hcz63_1
              try clear hcz63_2
              try clear hcz63_3
              try clear hcz63_4
              try clear hcz63_5
              try clear hcz63_6
              try clear hcz63_7
              try clear hcz8_0
              try clear hcz8_1
              try clear hcz8_2
              try clear hcz8_3
              try clear hcz8_4
              try clear hcz8_5
              try clear hcz8_6
              try clear hcz8_7
              try clear hfz14_0
              try clear hfz14_1
              try clear hfz14_2
              try clear hfz14_3
              try clear hfz14_4
              try clear hfz14_5
              try clear hfz14_6
              try clear hfz14_7
              try clear hfz20_0
              try clear hfz20_1
              try clear hfz20_2
              try clear hfz20_3
              try clear hfz20_4
              try clear hfz20_5
              try clear hfz20_6
              try clear hfz20_7
              try clear hfz21_0
              try clear hfz21_1
              try clear hfz21_2
              try clear hfz21_3
              try clear hfz21_4
              try clear hfz21_5
              try clear hfz21_6
              try clear hfz21_7
              try clear hfz24_0
              try clear hfz24_1
              try clear hfz24_2
              try clear hfz24_3
              try clear hfz24_4
              try clear hfz24_5
              try clear hfz24_6
              try clear hfz24_7
              try clear hfz25_0
              try clear hfz25_1
              try clear hfz25_2
              try clear hfz25_3
              try clear hfz25_4
              try clear hfz25_5
              try clear hfz25_6
              try clear hfz25_7
              try clear hfz32_0
              try clear hfz32_1
              try clear hfz32_2
              try clear hfz32_3
              try clear hfz32_4
              try clear hfz32_5
              try clear hfz32_6
              try clear hfz32_7
              try clear hfz34_0
              try clear hfz34_1
              try clear hfz34_2
              try clear hfz34_3
              try clear hfz34_4
              try clear hfz34_5
              try clear hfz34_6
              try clear hfz34_7
              try clear hfz40_0
              try clear hfz40_1
              try clear hfz40_2
              try clear hfz40_3
              try clear hfz40_4
              try clear hfz40_5
              try clear hfz40_6
              try clear hfz40_7
              try clear hfz42_0
              try clear hfz42_1
              try clear hfz42_2
              try clear hfz42_3
              try clear hfz42_4
              try clear hfz42_5
              try clear hfz42_6
              try clear hfz42_7
              try clear hfz48_0
              try clear hfz48_1
              try clear hfz48_2
              try clear hfz48_3
              try clear hfz48_4
              try clear hfz48_5
              try clear hfz48_6
              try clear hfz48_7
              try clear hfz55_0
              try clear hfz55_1
              try clear hfz55_2
              try clear hfz55_3
              try clear hfz55_4
              try clear hfz55_5
              try clear hfz55_6
              try clear hfz55_7
              try clear hfz57_0
              try clear hfz57_1
              try clear hfz57_2
              try clear hfz57_3
              try clear hfz57_4
              try clear hfz57_5
              try clear hfz57_6
              try clear hfz57_7
              try clear hfz61_0
              try clear hfz61_1
              try clear hfz61_2
              try clear hfz61_3
              try clear hfz61_4
              try clear hfz61_5
              try clear hfz61_6
              try clear hfz61_7
              try clear hfz63_0
              try clear hfz63_1
              try clear hfz63_2
              try clear hfz63_3
              try clear hfz63_4
              try clear hfz63_5
              try clear hfz63_6
              try clear hfz63_7
              try clear hfz8_0
              try clear hfz8_1
              try clear hfz8_2
              try clear hfz8_3
              try clear hfz8_4
              try clear hfz8_5
              try clear hfz8_6
              try clear hfz8_7
              try clear p2
              obtain ⟨kq, x59_37, rfl, HA, HJ37, HO_137002, HO_137003, HO_151002, HO_151003, HO_170002, HO_170003, BK136, BK150, BK169, HB⟩ := hcut
              have hl151002_37 := (Kd.R_reads' HO_151002.out).1
              rw [hl151002_37] at HO_151002
              (try simp only [hl151002_37])
              (try simp only [hl151002_37] at BK136)
              (try simp only [hl151002_37] at BK150)
              (try simp only [hl151002_37] at BK169)
              (try simp only [hl151002_37] at HO_137002)
              (try simp only [hl151002_37] at HO_137003)
              (try simp only [hl151002_37] at HO_151003)
              (try simp only [hl151002_37] at HO_170002)
              (try simp only [hl151002_37] at HO_170003)
              have hl151003_37 := (Kd.R_reads' HO_151003.out).1
              rw [hl151003_37] at HO_151003
              (try simp only [hl151003_37])
              (try simp only [hl151003_37] at BK136)
              (try simp only [hl151003_37] at BK150)
              (try simp only [hl151003_37] at BK169)
              (try simp only [hl151003_37] at HO_137002)
              (try simp only [hl151003_37] at HO_137003)
              (try simp only [hl151003_37] at HO_151002)
              (try simp only [hl151003_37] at HO_170002)
              (try simp only [hl151003_37] at HO_170003)
              cases kq with
              | zero => exact absurd HA.out (by simp [laws_FnExactNewRing.j1])
              | succ kj37 =>
                have H := HA.out
                clear HA
                simp only [laws_FnExactNewRing.j1] at H
                by_cases c65 : x59_37 = true
                · subst c65
                  have H1 : (some false) = some r := by rw [if_pos rfl] at H; exact H
                  clear H
                  have H := H1
                  clear H1
                  obtain rfl := Option.some.inj H
                  go_wp2
                  go_ret
                  exact ⟨by first | rfl | (simp [errW_none, errW_some] <;> rfl) | (simp [*, errW_none, errW_some] <;> rfl), by repeat (first | (with_reducible first | exact HB.out | apply below_alloc | apply pw_below_drewN | apply below_drew1 | refine below_set ?_ GE136.out | refine below_set ?_ GE150.out | refine below_set ?_ GE169.out) | exact HB.out)⟩
                · replace c65 := Bool.eq_false_iff.mpr c65
                  subst c65
                  have H1 : ((laws_heldRing.f kj37 t137 t138 t153 t154 t145 t146 t147 t148 1).bind fun t171 => (if t171 < 0 then (some false) else (if t171 = t152 then (some true) else (some false)))) = some r := by rw [if_neg (show ¬ (false = true) by decide)] at H; exact H
                  clear H
                  have H := H1
                  clear H1
                  replace H := Option.bind_eq_some_iff.mp H
                  obtain ⟨t171, A660, H⟩ := H
                  replace H : (if t171 < 0 then (some false) else (if t171 = t152 then (some true) else (some false))) = some r := H
                  have A66 := Aside0.mk A660
                  clear A660
                  by_cases c67 : t171 < 0
                  · rw [if_pos c67] at H
                    have c67b0 : decide (t171 < 0) = true := decide_eq_true c67
                    clear c67
                    obtain rfl := Option.some.inj H
                    have hnb68 := NB150_136.out
                    have hnc68 := NB136_150.out
                    have hnb69 := NB150_169.out
                    have hnc69 := NB169_150.out
                    have hcz70_0 : wc.cell? ⟨gb150, 0, none⟩ = some (.int .i64 t137) := (blk_cell BK150.out 0).trans rfl
                    have hcz70_1 : wc.cell? ⟨gb150, 1, none⟩ = some (.bool t138) := (blk_cell BK150.out 1).trans rfl
                    have hcz70_2 : wc.cell? ⟨gb150, 2, none⟩ = some (.slice Ao15 t153.length co15) := (blk_cell BK150.out 2).trans rfl
                    have hcz70_3 : wc.cell? ⟨gb150, 3, none⟩ = some (.slice Ao16 t154.length co16) := (blk_cell BK150.out 3).trans rfl
                    have hcz70_4 : wc.cell? ⟨gb150, 4, none⟩ = some (.int .i64 t145) := (blk_cell BK150.out 4).trans rfl
                    have hcz70_5 : wc.cell? ⟨gb150, 5, none⟩ = some (.int .i64 t146) := (blk_cell BK150.out 5).trans rfl
                    have hcz70_6 : wc.cell? ⟨gb150, 6, none⟩ = some (.int .i64 t147) := (blk_cell BK150.out 6).trans rfl
                    have hcz70_7 : wc.cell? ⟨gb150, 7, none⟩ = some (.int .i64 t148) := (blk_cell BK150.out 7).trans rfl
                    have hfz70_0 := blk_frozen BK150.out 0
                    have hfz70_1 := blk_frozen BK150.out 1
                    have hfz70_2 := blk_frozen BK150.out 2
                    have hfz70_3 := blk_frozen BK150.out 3
                    have hfz70_4 := blk_frozen BK150.out 4
                    have hfz70_5 := blk_frozen BK150.out 5
                    have hfz70_6 := blk_frozen BK150.out 6
                    have hfz70_7 := blk_frozen BK150.out 7
                    go_wp2_with (first | ((with_reducible refine gate_callee (f := 14) rfl ?_); refine goesL_ (some 62) rfl rfl Try.func14 (by kernel_rfl) rfl #[.agg #[.int .i64 t137, .bool t138, .slice Ao15 t153.length co15, .slice Ao16 t154.length co16, .int .i64 t145, .int .i64 t146, .int .i64 t147, .int .i64 t148], .int .i64 1] rfl (by (try simp only [List.map_toArray, List.map_cons, List.map_nil]); first | done | rfl | (simp only [List.length_drop, List.length_take]; rfl)) ?_; (with_reducible refine (laws_heldRing.calls kj37 t137 t138 _ _ t153 _ _ t154 t145 t146 t147 t148 1 t171 _ ?side1 ?side2 ?side3 ?side4 A66.out).mono ?_); (case side1 => repeat (first | exact (Kd.R_reads' HO_151002.out).2.2 | (with_reducible refine Kd.C_alloc ?_ _) | (with_reducible refine Kd.C_drewN ?_ _) | (with_reducible refine Kd.C_drew ?_))); (case side2 => exact (Kd.R_reads' HO_151002.out).2.1); (case side3 => repeat (first | exact (Kd.R_reads' HO_151003.out).2.2 | (with_reducible refine Kd.C_alloc ?_ _) | (with_reducible refine Kd.C_drewN ?_ _) | (with_reducible refine Kd.C_drew ?_))); (case side4 => exact (Kd.R_reads' HO_151003.out).2.1); rintro e w71 ⟨rfl, hb⟩; refine ⟨_, rfl, ?_⟩; have n0_ := Aside0.mk (Kd.R_below (by (with_reducible repeat (first | apply Kd.R_alloc | apply Kd.R_drewN | apply Kd.R_drew)); exact HO_137002.out) hb); have n1_ := Aside0.mk (Kd.R_below (by (with_reducible repeat (first | apply Kd.R_alloc | apply Kd.R_drewN | apply Kd.R_drew)); exact HO_137003.out) hb); have n2_ := Aside0.mk (Kd.R_below (by (with_reducible repeat (first | apply Kd.R_alloc | apply Kd.R_drewN | apply Kd.R_drew)); exact HO_151002.out) hb); have n3_ := Aside0.mk (Kd.R_below (by (with_reducible repeat (first | apply Kd.R_alloc | apply Kd.R_drewN | apply Kd.R_drew)); exact HO_151003.out) hb); have n4_ := Aside0.mk (Kd.R_below (by (with_reducible repeat (first | apply Kd.R_alloc | apply Kd.R_drewN | apply Kd.R_drew)); exact HO_170002.out) hb); have n5_ := Aside0.mk (Kd.R_below (by (with_reducible repeat (first | apply Kd.R_alloc | apply Kd.R_drewN | apply Kd.R_drew)); exact HO_170003.out) hb); have n6_ := Aside0.mk (blk_below (g := gb136) (o := .cells #[.int .i64 t123, .bool t124, .slice Ao9 t125.length co9, .slice Ao10 t128.length co10, .int .i64 t131, .int .i64 t132, .int .i64 t133, .int .i64 t134] 24 (0, 0)) (by (with_reducible repeat (first | refine blk_drewN ?_ _ | refine blk_drew ?_ | refine blk_alloc ?_ _)); exact BK136.out) hb); have n7_ := Aside0.mk (blk_below (g := gb150) (o := .cells #[.int .i64 t137, .bool t138, .slice Ao15 t153.length co15, .slice Ao16 t154.length co16, .int .i64 t145, .int .i64 t146, .int .i64 t147, .int .i64 t148] 24 (0, 0)) (by (with_reducible repeat (first | refine blk_drewN ?_ _ | refine blk_drew ?_ | refine blk_alloc ?_ _)); exact BK150.out) hb); have n8_ := Aside0.mk (blk_below (g := gb169) (o := .cells #[.int .i64 t156, .bool t157, .slice Ao49 t158.length co49, .slice Ao50 t161.length co50, .int .i64 t164, .int .i64 t165, .int .i64 t166, .int .i64 t167] 24 (0, 0)) (by (with_reducible repeat (first | refine blk_drewN ?_ _ | refine blk_drew ?_ | refine blk_alloc ?_ _)); exact BK169.out) hb); have n9_ := Aside0.mk (below_step (by repeat (first | (with_reducible first | exact HB.out | apply below_alloc | apply pw_below_drewN | apply below_drew1 | refine below_set ?_ GE136.out | refine below_set ?_ GE150.out | refine below_set ?_ GE169.out) | exact HB.out)) hb); clear HO_137002; clear HO_137003; clear HO_151002; clear HO_151003; clear HO_170002; clear HO_170003; clear BK136; clear BK150; clear BK169; clear HB; have HO_137002 := n0_; have HO_137003 := n1_; have HO_151002 := n2_; have HO_151003 := n3_; have HO_170002 := n4_; have HO_170003 := n5_; have BK136 := n6_; have BK150 := n7_; have BK169 := n8_; have HB := n9_; clear n0_ n1_ n2_ n3_ n4_ n5_ n6_ n7_ n8_ n9_; (try clear hb); (try clear hb2); (try clear hk); (try clear hi)))
                    go_ret
                    exact ⟨by first | rfl | (simp [errW_none, errW_some] <;> rfl) | (simp [*, errW_none, errW_some] <;> rfl), by repeat (first | (with_reducible first | exact HB.out | apply below_alloc | apply pw_below_drewN | apply below_drew1 | refine below_set ?_ GE136.out | refine below_set ?_ GE150.out | refine below_set ?_ GE169.out) | exact HB.out)⟩
                  · rw [if_neg c67] at H
                    have c67b0 : decide (t171 < 0) = false := decide_eq_false c67
                    clear c67
                    by_cases c72 : t171 = t152
                    · rw [if_pos c72] at H
                      have c72b0 : (t171 == t152) = true := beq_iff_eq.mpr c72
                      have c72b1 : (t171 != t152) = false := bne_eq_false_iff_eq.mpr c72
                      clear c72
                      obtain rfl := Option.some.inj H
                      have hnb73 := NB150_136.out
                      have hnc73 := NB136_150.out
                      have hnb74 := NB150_169.out
                      have hnc74 := NB169_150.out
                      have hcz75_0 : wc.cell? ⟨gb150, 0, none⟩ = some (.int .i64 t137) := (blk_cell BK150.out 0).trans rfl
                      have hcz75_1 : wc.cell? ⟨gb150, 1, none⟩ = some (.bool t138) := (blk_cell BK150.out 1).trans rfl
                      have hcz75_2 : wc.cell? ⟨gb150, 2, none⟩ = some (.slice Ao15 t153.length co15) := (blk_cell BK150.out 2).trans rfl
                      have hcz75_3 : wc.cell? ⟨gb150, 3, none⟩ = some (.slice Ao16 t154.length co16) := (blk_cell BK150.out 3).trans rfl
                      have hcz75_4 : wc.cell? ⟨gb150, 4, none⟩ = some (.int .i64 t145) := (blk_cell BK150.out 4).trans rfl
                      have hcz75_5 : wc.cell? ⟨gb150, 5, none⟩ = some (.int .i64 t146) := (blk_cell BK150.out 5).trans rfl
                      have hcz75_6 : wc.cell? ⟨gb150, 6, none⟩ = some (.int .i64 t147) := (blk_cell BK150.out 6).trans rfl
                      have hcz75_7 : wc.cell? ⟨gb150, 7, none⟩ = some (.int .i64 t148) := (blk_cell BK150.out 7).trans rfl
                      have hfz75_0 := blk_frozen BK150.out 0
                      have hfz75_1 := blk_frozen BK150.out 1
                      have hfz75_2 := blk_frozen BK150.out 2
                      have hfz75_3 := blk_frozen BK150.out 3
                      have hfz75_4 := blk_frozen BK150.out 4
                      have hfz75_5 := blk_frozen BK150.out 5
                      have hfz75_6 := blk_frozen BK150.out 6
                      have hfz75_7 := blk_frozen BK150.out 7
                      go_wp2_with (first | ((with_reducible refine gate_callee (f := 14) rfl ?_); refine goesL_ (some 62) rfl rfl Try.func14 (by kernel_rfl) rfl #[.agg #[.int .i64 t137, .bool t138, .slice Ao15 t153.length co15, .slice Ao16 t154.length co16, .int .i64 t145, .int .i64 t146, .int .i64 t147, .int .i64 t148], .int .i64 1] rfl (by (try simp only [List.map_toArray, List.map_cons, List.map_nil]); first | done | rfl | (simp only [List.length_drop, List.length_take]; rfl)) ?_; (with_reducible refine (laws_heldRing.calls kj37 t137 t138 _ _ t153 _ _ t154 t145 t146 t147 t148 1 t171 _ ?side1 ?side2 ?side3 ?side4 A66.out).mono ?_); (case side1 => repeat (first | exact (Kd.R_reads' HO_151002.out).2.2 | (with_reducible refine Kd.C_alloc ?_ _) | (with_reducible refine Kd.C_drewN ?_ _) | (with_reducible refine Kd.C_drew ?_))); (case side2 => exact (Kd.R_reads' HO_151002.out).2.1); (case side3 => repeat (first | exact (Kd.R_reads' HO_151003.out).2.2 | (with_reducible refine Kd.C_alloc ?_ _) | (with_reducible refine Kd.C_drewN ?_ _) | (with_reducible refine Kd.C_drew ?_))); (case side4 => exact (Kd.R_reads' HO_151003.out).2.1); rintro e w76 ⟨rfl, hb⟩; refine ⟨_, rfl, ?_⟩; have n0_ := Aside0.mk (Kd.R_below (by (with_reducible repeat (first | apply Kd.R_alloc | apply Kd.R_drewN | apply Kd.R_drew)); exact HO_137002.out) hb); have n1_ := Aside0.mk (Kd.R_below (by (with_reducible repeat (first | apply Kd.R_alloc | apply Kd.R_drewN | apply Kd.R_drew)); exact HO_137003.out) hb); have n2_ := Aside0.mk (Kd.R_below (by (with_reducible repeat (first | apply Kd.R_alloc | apply Kd.R_drewN | apply Kd.R_drew)); exact HO_151002.out) hb); have n3_ := Aside0.mk (Kd.R_below (by (with_reducible repeat (first | apply Kd.R_alloc | apply Kd.R_drewN | apply Kd.R_drew)); exact HO_151003.out) hb); have n4_ := Aside0.mk (Kd.R_below (by (with_reducible repeat (first | apply Kd.R_alloc | apply Kd.R_drewN | apply Kd.R_drew)); exact HO_170002.out) hb); have n5_ := Aside0.mk (Kd.R_below (by (with_reducible repeat (first | apply Kd.R_alloc | apply Kd.R_drewN | apply Kd.R_drew)); exact HO_170003.out) hb); have n6_ := Aside0.mk (blk_below (g := gb136) (o := .cells #[.int .i64 t123, .bool t124, .slice Ao9 t125.length co9, .slice Ao10 t128.length co10, .int .i64 t131, .int .i64 t132, .int .i64 t133, .int .i64 t134] 24 (0, 0)) (by (with_reducible repeat (first | refine blk_drewN ?_ _ | refine blk_drew ?_ | refine blk_alloc ?_ _)); exact BK136.out) hb); have n7_ := Aside0.mk (blk_below (g := gb150) (o := .cells #[.int .i64 t137, .bool t138, .slice Ao15 t153.length co15, .slice Ao16 t154.length co16, .int .i64 t145, .int .i64 t146, .int .i64 t147, .int .i64 t148] 24 (0, 0)) (by (with_reducible repeat (first | refine blk_drewN ?_ _ | refine blk_drew ?_ | refine blk_alloc ?_ _)); exact BK150.out) hb); have n8_ := Aside0.mk (blk_below (g := gb169) (o := .cells #[.int .i64 t156, .bool t157, .slice Ao49 t158.length co49, .slice Ao50 t161.length co50, .int .i64 t164, .int .i64 t165, .int .i64 t166, .int .i64 t167] 24 (0, 0)) (by (with_reducible repeat (first | refine blk_drewN ?_ _ | refine blk_drew ?_ | refine blk_alloc ?_ _)); exact BK169.out) hb); have n9_ := Aside0.mk (below_step (by repeat (first | (with_reducible first | exact HB.out | apply below_alloc | apply pw_below_drewN | apply below_drew1 | refine below_set ?_ GE136.out | refine below_set ?_ GE150.out | refine below_set ?_ GE169.out) | exact HB.out)) hb); clear HO_137002; clear HO_137003; clear HO_151002; clear HO_151003; clear HO_170002; clear HO_170003; clear BK136; clear BK150; clear BK169; clear HB; have HO_137002 := n0_; have HO_137003 := n1_; have HO_151002 := n2_; have HO_151003 := n3_; have HO_170002 := n4_; have HO_170003 := n5_; have BK136 := n6_; have BK150 := n7_; have BK169 := n8_; have HB := n9_; clear n0_ n1_ n2_ n3_ n4_ n5_ n6_ n7_ n8_ n9_; (try clear hb); (try clear hb2); (try clear hk); (try clear hi)))
                      go_ret
                      exact ⟨by first | rfl | (simp [errW_none, errW_some] <;> rfl) | (simp [*, errW_none, errW_some] <;> rfl), by repeat (first | (with_reducible first | exact HB.out | apply below_alloc | apply pw_below_drewN | apply below_drew1 | refine below_set ?_ GE136.out | refine below_set ?_ GE150.out | refine below_set ?_ GE169.out) | exact HB.out)⟩
                    · rw [if_neg c72] at H
                      have c72b0 : (t171 == t152) = false := beq_eq_false_iff_ne.mpr c72
                      have c72b1 : (t171 != t152) = true := bne_iff_ne.mpr c72
                      obtain rfl := Option.some.inj H
                      have hnb77 := NB150_136.out
                      have hnc77 := NB136_150.out
                      have hnb78 := NB150_169.out
                      have hnc78 := NB169_150.out
                      have hcz79_0 : wc.cell? ⟨gb150, 0, none⟩ = some (.int .i64 t137) := (blk_cell BK150.out 0).trans rfl
                      have hcz79_1 : wc.cell? ⟨gb150, 1, none⟩ = some (.bool t138) := (blk_cell BK150.out 1).trans rfl
                      have hcz79_2 : wc.cell? ⟨gb150, 2, none⟩ = some (.slice Ao15 t153.length co15) := (blk_cell BK150.out 2).trans rfl
                      have hcz79_3 : wc.cell? ⟨gb150, 3, none⟩ = some (.slice Ao16 t154.length co16) := (blk_cell BK150.out 3).trans rfl
                      have hcz79_4 : wc.cell? ⟨gb150, 4, none⟩ = some (.int .i64 t145) := (blk_cell BK150.out 4).trans rfl
                      have hcz79_5 : wc.cell? ⟨gb150, 5, none⟩ = some (.int .i64 t146) := (blk_cell BK150.out 5).trans rfl
                      have hcz79_6 : wc.cell? ⟨gb150, 6, none⟩ = some (.int .i64 t147) := (blk_cell BK150.out 6).trans rfl
                      have hcz79_7 : wc.cell? ⟨gb150, 7, none⟩ = some (.int .i64 t148) := (blk_cell BK150.out 7).trans rfl
                      have hfz79_0 := blk_frozen BK150.out 0
                      have hfz79_1 := blk_frozen BK150.out 1
                      have hfz79_2 := blk_frozen BK150.out 2
                      have hfz79_3 := blk_frozen BK150.out 3
                      have hfz79_4 := blk_frozen BK150.out 4
                      have hfz79_5 := blk_frozen BK150.out 5
                      have hfz79_6 := blk_frozen BK150.out 6
                      have hfz79_7 := blk_frozen BK150.out 7
                      go_wp2_with (first | ((with_reducible refine gate_callee (f := 14) rfl ?_); refine goesL_ (some 62) rfl rfl Try.func14 (by kernel_rfl) rfl #[.agg #[.int .i64 t137, .bool t138, .slice Ao15 t153.length co15, .slice Ao16 t154.length co16, .int .i64 t145, .int .i64 t146, .int .i64 t147, .int .i64 t148], .int .i64 1] rfl (by (try simp only [List.map_toArray, List.map_cons, List.map_nil]); first | done | rfl | (simp only [List.length_drop, List.length_take]; rfl)) ?_; (with_reducible refine (laws_heldRing.calls kj37 t137 t138 _ _ t153 _ _ t154 t145 t146 t147 t148 1 t171 _ ?side1 ?side2 ?side3 ?side4 A66.out).mono ?_); (case side1 => repeat (first | exact (Kd.R_reads' HO_151002.out).2.2 | (with_reducible refine Kd.C_alloc ?_ _) | (with_reducible refine Kd.C_drewN ?_ _) | (with_reducible refine Kd.C_drew ?_))); (case side2 => exact (Kd.R_reads' HO_151002.out).2.1); (case side3 => repeat (first | exact (Kd.R_reads' HO_151003.out).2.2 | (with_reducible refine Kd.C_alloc ?_ _) | (with_reducible refine Kd.C_drewN ?_ _) | (with_reducible refine Kd.C_drew ?_))); (case side4 => exact (Kd.R_reads' HO_151003.out).2.1); rintro e w80 ⟨rfl, hb⟩; refine ⟨_, rfl, ?_⟩; have n0_ := Aside0.mk (Kd.R_below (by (with_reducible repeat (first | apply Kd.R_alloc | apply Kd.R_drewN | apply Kd.R_drew)); exact HO_137002.out) hb); have n1_ := Aside0.mk (Kd.R_below (by (with_reducible repeat (first | apply Kd.R_alloc | apply Kd.R_drewN | apply Kd.R_drew)); exact HO_137003.out) hb); have n2_ := Aside0.mk (Kd.R_below (by (with_reducible repeat (first | apply Kd.R_alloc | apply Kd.R_drewN | apply Kd.R_drew)); exact HO_151002.out) hb); have n3_ := Aside0.mk (Kd.R_below (by (with_reducible repeat (first | apply Kd.R_alloc | apply Kd.R_drewN | apply Kd.R_drew)); exact HO_151003.out) hb); have n4_ := Aside0.mk (Kd.R_below (by (with_reducible repeat (first | apply Kd.R_alloc | apply Kd.R_drewN | apply Kd.R_drew)); exact HO_170002.out) hb); have n5_ := Aside0.mk (Kd.R_below (by (with_reducible repeat (first | apply Kd.R_alloc | apply Kd.R_drewN | apply Kd.R_drew)); exact HO_170003.out) hb); have n6_ := Aside0.mk (blk_below (g := gb136) (o := .cells #[.int .i64 t123, .bool t124, .slice Ao9 t125.length co9, .slice Ao10 t128.length co10, .int .i64 t131, .int .i64 t132, .int .i64 t133, .int .i64 t134] 24 (0, 0)) (by (with_reducible repeat (first | refine blk_drewN ?_ _ | refine blk_drew ?_ | refine blk_alloc ?_ _)); exact BK136.out) hb); have n7_ := Aside0.mk (blk_below (g := gb150) (o := .cells #[.int .i64 t137, .bool t138, .slice Ao15 t153.length co15, .slice Ao16 t154.length co16, .int .i64 t145, .int .i64 t146, .int .i64 t147, .int .i64 t148] 24 (0, 0)) (by (with_reducible repeat (first | refine blk_drewN ?_ _ | refine blk_drew ?_ | refine blk_alloc ?_ _)); exact BK150.out) hb); have n8_ := Aside0.mk (blk_below (g := gb169) (o := .cells #[.int .i64 t156, .bool t157, .slice Ao49 t158.length co49, .slice Ao50 t161.length co50, .int .i64 t164, .int .i64 t165, .int .i64 t166, .int .i64 t167] 24 (0, 0)) (by (with_reducible repeat (first | refine blk_drewN ?_ _ | refine blk_drew ?_ | refine blk_alloc ?_ _)); exact BK169.out) hb); have n9_ := Aside0.mk (below_step (by repeat (first | (with_reducible first | exact HB.out | apply below_alloc | apply pw_below_drewN | apply below_drew1 | refine below_set ?_ GE136.out | refine below_set ?_ GE150.out | refine below_set ?_ GE169.out) | exact HB.out)) hb); clear HO_137002; clear HO_137003; clear HO_151002; clear HO_151003; clear HO_170002; clear HO_170003; clear BK136; clear BK150; clear BK169; clear HB; have HO_137002 := n0_; have HO_137003 := n1_; have HO_151002 := n2_; have HO_151003 := n3_; have HO_170002 := n4_; have HO_170003 := n5_; have BK136 := n6_; have BK150 := n7_; have BK169 := n8_; have HB := n9_; clear n0_ n1_ n2_ n3_ n4_ n5_ n6_ n7_ n8_ n9_; (try clear hb); (try clear hb2); (try clear hk); (try clear hi)))
                      go_ret
                      exact ⟨by first | rfl | (simp [errW_none, errW_some] <;> rfl) | (simp [*, errW_none, errW_some] <;> rfl), by repeat (first | (with_reducible first | exact HB.out | apply below_alloc | apply pw_below_drewN | apply below_drew1 | refine below_set ?_ GE136.out | refine below_set ?_ GE150.out | refine below_set ?_ GE169.out) | exact HB.out)⟩
          · rw [if_neg c36] at H
            have c36b0 : (t155 == t152) = false := beq_eq_false_iff_ne.mpr c36
            have c36b1 : (t155 != t152) = true := bne_iff_ne.mpr c36
            obtain rfl := Option.some.inj H
            have hnb81 := NB150_136.out
            have hnc81 := NB136_150.out
            have hcz82_0 : wc.cell? ⟨gb150, 0, none⟩ = some (.int .i64 t137) := (blk_cell BK150.out 0).trans rfl
            have hcz82_1 : wc.cell? ⟨gb150, 1, none⟩ = some (.bool t138) := (blk_cell BK150.out 1).trans rfl
            have hcz82_2 : wc.cell? ⟨gb150, 2, none⟩ = some (.slice Ao15 t139.length co15) := (blk_cell BK150.out 2).trans rfl
            have hcz82_3 : wc.cell? ⟨gb150, 3, none⟩ = some (.slice Ao16 t142.length co16) := (blk_cell BK150.out 3).trans rfl
            have hcz82_4 : wc.cell? ⟨gb150, 4, none⟩ = some (.int .i64 t145) := (blk_cell BK150.out 4).trans rfl
            have hcz82_5 : wc.cell? ⟨gb150, 5, none⟩ = some (.int .i64 t146) := (blk_cell BK150.out 5).trans rfl
            have hcz82_6 : wc.cell? ⟨gb150, 6, none⟩ = some (.int .i64 t147) := (blk_cell BK150.out 6).trans rfl
            have hcz82_7 : wc.cell? ⟨gb150, 7, none⟩ = some (.int .i64 t148) := (blk_cell BK150.out 7).trans rfl
            have hfz82_0 := blk_frozen BK150.out 0
            have hfz82_1 := blk_frozen BK150.out 1
            have hfz82_2 := blk_frozen BK150.out 2
            have hfz82_3 := blk_frozen BK150.out 3
            have hfz82_4 := blk_frozen BK150.out 4
            have hfz82_5 := blk_frozen BK150.out 5
            have hfz82_6 := blk_frozen BK150.out 6
            have hfz82_7 := blk_frozen BK150.out 7
            go_wp2_with (first | ((with_reducible refine gate_callee (f := 13) rfl ?_); refine goesL_ (some 36) rfl rfl Try.func13 (by kernel_rfl) rfl #[.agg #[.int .i64 t137, .bool t138, .slice Ao15 t139.length co15, .slice Ao16 t142.length co16, .int .i64 t145, .int .i64 t146, .int .i64 t147, .int .i64 t148], .int .i64 1] rfl (by (try simp only [List.map_toArray, List.map_cons, List.map_nil]); first | done | rfl | (simp only [List.length_drop, List.length_take]; rfl)) ?_; (with_reducible refine (laws_markRing.calls kj4 t137 t138 (fun k_ => some k_ = (.slice Ao15 t139.length co15 : Value).ownBlock) (.slice Ao15 t139.length co15) t139 (fun k_ => some k_ = (.slice Ao16 t142.length co16 : Value).ownBlock) (.slice Ao16 t142.length co16) t142 t145 t146 t147 t148 1 t152 t153 t154 w _ ?side1 ?side2 ?side3 ?side4 ?side5 A28.out).mono ?_); (case side1 => repeat (first | (with_reducible first | exact HB.out | apply below_alloc | apply pw_below_drewN | apply below_drew1 | refine below_set ?_ GE136.out | refine below_set ?_ GE150.out) | exact HB.out)); (case side2 => exact Kd.R_tight rfl HO_151002.out); (case side3 => exact fun k_ e_ => (HO_151002.out.1 k_ e_.symm).2.2); (case side4 => exact Kd.R_tight rfl HO_151003.out); (case side5 => exact fun k_ e_ => (HO_151003.out.1 k_ e_.symm).2.2); rintro e w83 ⟨rfl, hy0, hy1, hb, hkp⟩; refine ⟨_, rfl, ?_⟩; have n0_ := Aside0.mk (Kd.R_mono (ok' := fun k_ => some k_ ≠ (.slice Ao10 t128.length co10 : Value).ownBlock ∧ some k_ ≠ (.slice Ao15 t139.length co15 : Value).ownBlock ∧ some k_ ≠ (.slice Ao16 t142.length co16 : Value).ownBlock) (Kd.R_keptB (HO_137002.out) hkp (fun k_ hk_ hs_ => Or.elim hs_ (fun e_ => (hk_.2.1) e_) (fun e_ => (hk_.2.2) e_))) (fun k_ hk_ => ⟨hk_.1.1, hk_.1.2.1, hk_.1.2.2⟩)); have n1_ := Aside0.mk (Kd.R_mono (ok' := fun k_ => some k_ ≠ (.slice Ao9 t125.length co9 : Value).ownBlock ∧ some k_ ≠ (.slice Ao15 t139.length co15 : Value).ownBlock ∧ some k_ ≠ (.slice Ao16 t142.length co16 : Value).ownBlock) (Kd.R_keptB (HO_137003.out) hkp (fun k_ hk_ hs_ => Or.elim hs_ (fun e_ => (hk_.2.1) e_) (fun e_ => (hk_.2.2) e_))) (fun k_ hk_ => ⟨hk_.1.1, hk_.1.2.1, hk_.1.2.2⟩)); have n2_ := Aside0.mk (Kd.R_reok rfl hy0 (fun k_ e_ => HO_151002.out.1 k_ e_)); have n3_ := Aside0.mk (Kd.R_reok rfl hy1 (fun k_ e_ => HO_151003.out.1 k_ e_)); have n4_ := Aside0.mk (blk_kept (by (with_reducible repeat (first | refine blk_drewN ?_ _ | refine blk_drew ?_ | refine blk_alloc ?_ _)); exact BK136.out) hkp (fun hs_ => Or.elim hs_ (fun e_ => (fun e_ => (Kd.R_ne HO_151002.out BK136.out (by decide)) e_) e_) (fun e_ => (fun e_ => (Kd.R_ne HO_151003.out BK136.out (by decide)) e_) e_))); have n5_ := Aside0.mk (blk_kept (by (with_reducible repeat (first | refine blk_drewN ?_ _ | refine blk_drew ?_ | refine blk_alloc ?_ _)); exact BK150.out) hkp (fun hs_ => Or.elim hs_ (fun e_ => (fun e_ => (Kd.R_ne HO_151002.out BK150.out (by decide)) e_) e_) (fun e_ => (fun e_ => (Kd.R_ne HO_151003.out BK150.out (by decide)) e_) e_))); have n6_ := Aside0.mk (hb); clear HO_137002; clear HO_137003; clear HO_151002; clear HO_151003; clear BK136; clear BK150; clear HB; have HO_137002 := n0_; have HO_137003 := n1_; have HO_151002 := n2_; have HO_151003 := n3_; have BK136 := n4_; have BK150 := n5_; have HB := n6_; clear n0_ n1_ n2_ n3_ n4_ n5_ n6_; (try clear hb); (try clear hkp); (try clear hy0); (try clear hy1); have hcz84_0 : w83.cell? ⟨gb150, 0, none⟩ = some (.int .i64 t137) := (blk_cell BK150.out 0).trans rfl; have hcz84_1 : w83.cell? ⟨gb150, 1, none⟩ = some (.bool t138) := (blk_cell BK150.out 1).trans rfl; have hcz84_2 : w83.cell? ⟨gb150, 2, none⟩ = some (.slice Ao15 t139.length co15) := (blk_cell BK150.out 2).trans rfl; have hcz84_3 : w83.cell? ⟨gb150, 3, none⟩ = some (.slice Ao16 t142.length co16) := (blk_cell BK150.out 3).trans rfl; have hcz84_4 : w83.cell? ⟨gb150, 4, none⟩ = some (.int .i64 t145) := (blk_cell BK150.out 4).trans rfl; have hcz84_5 : w83.cell? ⟨gb150, 5, none⟩ = some (.int .i64 t146) := (blk_cell BK150.out 5).trans rfl; have hcz84_6 : w83.cell? ⟨gb150, 6, none⟩ = some (.int .i64 t147) := (blk_cell BK150.out 6).trans rfl; have hcz84_7 : w83.cell? ⟨gb150, 7, none⟩ = some (.int .i64 t148) := (blk_cell BK150.out 7).trans rfl; have hfz84_0 := blk_frozen BK150.out 0; have hfz84_1 := blk_frozen BK150.out 1; have hfz84_2 := blk_frozen BK150.out 2; have hfz84_3 := blk_frozen BK150.out 3; have hfz84_4 := blk_frozen BK150.out 4; have hfz84_5 := blk_frozen BK150.out 5; have hfz84_6 := blk_frozen BK150.out 6; have hfz84_7 := blk_frozen BK150.out 7) | ((with_reducible refine gate_callee (f := 14) rfl ?_); refine goesL_ (some 39) rfl rfl Try.func14 (by kernel_rfl) rfl #[.agg #[.int .i64 t137, .bool t138, .slice Ao15 t153.length co15, .slice Ao16 t154.length co16, .int .i64 t145, .int .i64 t146, .int .i64 t147, .int .i64 t148], .int .i64 1] rfl (by (try simp only [List.map_toArray, List.map_cons, List.map_nil]); first | done | (rw [show t153.length = t139.length from (Kd.R_reads' HO_151002.out).1.symm, show t154.length = t142.length from (Kd.R_reads' HO_151003.out).1.symm] <;> rfl) | rfl | (simp only [List.length_drop, List.length_take]; rfl)) ?_; (with_reducible refine (laws_heldRing.calls kj4 t137 t138 _ _ t153 _ _ t154 t145 t146 t147 t148 1 t155 _ ?side1 ?side2 ?side3 ?side4 A29.out).mono ?_); (case side1 => repeat (first | exact (Kd.R_reads' HO_151002.out).2.2 | (with_reducible refine Kd.C_alloc ?_ _) | (with_reducible refine Kd.C_drewN ?_ _) | (with_reducible refine Kd.C_drew ?_))); (case side2 => rw [show t153.length = t139.length from (Kd.R_reads' HO_151002.out).1.symm]; exact (Kd.R_reads' HO_151002.out).2.1); (case side3 => repeat (first | exact (Kd.R_reads' HO_151003.out).2.2 | (with_reducible refine Kd.C_alloc ?_ _) | (with_reducible refine Kd.C_drewN ?_ _) | (with_reducible refine Kd.C_drew ?_))); (case side4 => rw [show t154.length = t142.length from (Kd.R_reads' HO_151003.out).1.symm]; exact (Kd.R_reads' HO_151003.out).2.1); rintro e w85 ⟨rfl, hb⟩; refine ⟨_, rfl, ?_⟩; have n0_ := Aside0.mk (Kd.R_below (by (with_reducible repeat (first | apply Kd.R_alloc | apply Kd.R_drewN | apply Kd.R_drew)); exact HO_137002.out) hb); have n1_ := Aside0.mk (Kd.R_below (by (with_reducible repeat (first | apply Kd.R_alloc | apply Kd.R_drewN | apply Kd.R_drew)); exact HO_137003.out) hb); have n2_ := Aside0.mk (Kd.R_below (by (with_reducible repeat (first | apply Kd.R_alloc | apply Kd.R_drewN | apply Kd.R_drew)); exact HO_151002.out) hb); have n3_ := Aside0.mk (Kd.R_below (by (with_reducible repeat (first | apply Kd.R_alloc | apply Kd.R_drewN | apply Kd.R_drew)); exact HO_151003.out) hb); have n4_ := Aside0.mk (blk_below (g := gb136) (o := .cells #[.int .i64 t123, .bool t124, .slice Ao9 t125.length co9, .slice Ao10 t128.length co10, .int .i64 t131, .int .i64 t132, .int .i64 t133, .int .i64 t134] 24 (0, 0)) (by (with_reducible repeat (first | refine blk_drewN ?_ _ | refine blk_drew ?_ | refine blk_alloc ?_ _)); exact BK136.out) hb); have n5_ := Aside0.mk (blk_below (g := gb150) (o := .cells #[.int .i64 t137, .bool t138, .slice Ao15 t139.length co15, .slice Ao16 t142.length co16, .int .i64 t145, .int .i64 t146, .int .i64 t147, .int .i64 t148] 24 (0, 0)) (by (with_reducible repeat (first | refine blk_drewN ?_ _ | refine blk_drew ?_ | refine blk_alloc ?_ _)); exact BK150.out) hb); have n6_ := Aside0.mk (below_step (by repeat (first | (with_reducible first | exact HB.out | apply below_alloc | apply pw_below_drewN | apply below_drew1 | refine below_set ?_ GE136.out | refine below_set ?_ GE150.out) | exact HB.out)) hb); clear HO_137002; clear HO_137003; clear HO_151002; clear HO_151003; clear BK136; clear BK150; clear HB; have HO_137002 := n0_; have HO_137003 := n1_; have HO_151002 := n2_; have HO_151003 := n3_; have BK136 := n4_; have BK150 := n5_; have HB := n6_; clear n0_ n1_ n2_ n3_ n4_ n5_ n6_; (try clear hb); (try clear hb2); (try clear hk); (try clear hi)))
            go_ret
            exact ⟨by first | rfl | (simp [errW_none, errW_some] <;> rfl) | (simp [*, errW_none, errW_some] <;> rfl), by repeat (first | (with_reducible first | exact HB.out | apply below_alloc | apply pw_below_drewN | apply below_drew1 | refine below_set ?_ GE136.out | refine below_set ?_ GE150.out) | exact HB.out)⟩

/-- THE ONE PURE STATEMENT of laws_FnExactNewRing: yours. -/
def laws_FnExactNewRing.Pure : Prop := ∀ (a0 : Int) (a1 : Int), (Lit.int .i64 a0).wf = true → (Lit.int .i64 a1).wf = true → ∃ k, laws_FnExactNewRing.f k a0 a1 = some true
theorem laws_FnExactNewRing.walk (P : laws_FnExactNewRing.Pure) (a0 : Int) (a1 : Int) (w : World) (w0 : (Lit.int .i64 a0).wf = true) (w1 : (Lit.int .i64 a1).wf = true) :
    Calls Try.prog 3 #[.int .i64 a0, .int .i64 a1] w fun e w' => e = .returned (.bool true) ∧ Below w.heap.size w w' := by
  obtain ⟨k, h⟩ := P a0 a1 w0 w1
  refine (laws_FnExactNewRing.calls k a0 a1 true w h).mono ?_
  rintro e w' ⟨rfl, hd⟩
  exact ⟨rfl, hd⟩

end Go.Proofs.Ythcohaeafdcokaa.PFnExactNewRing
