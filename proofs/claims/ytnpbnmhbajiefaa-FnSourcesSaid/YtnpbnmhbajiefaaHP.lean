/- spec.l14Prefix, by hand. -/
import Derived.Test.YtnpbnmhbajiefaaHD
import Derived.StillTailTactics
import Derived.Test.YtnpbnmhbajiefaaGFnSourcesx1
import Derived.Test.YtnpbnmhbajiefaaGFnSourcesx2
namespace Go.Proofs.Ytnpbnmhbajiefaa.PFnSources
open Go.RowKit Go.Proofs.YtnpbnmhbajiefaaW.PrintWords Go.Proofs.YtnpbnmhbajiefaaW.PrintLast Go.Proofs.YtnpbnmhbajiefaaW.PrintMore
set_option linter.unusedVariables false
set_option linter.unusedSimpArgs false
attribute [local go_sem] max2_int min2_int max_two min_two max_three min_three max_four min_four
set_option maxHeartbeats 8000000 in
set_option maxRecDepth 100000 in
theorem prefix_bad (link : ByteArray) (A1 A2 B1 B2 B3 B4 : Option Addr) (c1 c2 d1 d2 d3 d4 : Nat) (n1 n2 n3 n4 : Nat) (l1 : List S39) (l2 m1 m2 m3 m4 : List ByteArray) (x : S58) (cd : Int) (w : World) (addr : ByteArray) (t : Int) (kf : Nat) (he : spec_l14Eui.f x.f2 link = some addr) (hf : spec_l14Find.f kf l1 addr = some t) (ht : spec_l14Text.f kf l2 addr = some true) (hw : spec_l14Own.f link l1 l2 = some (link, l1, l2))
  (n : Nat) (hn : m1.length ≤ n ∧ m2.length ≤ n ∧ m3.length ≤ n ∧ m4.length ≤ n) (hr : Rows4 w (.slice B1 n1 d1) (.slice B2 n2 d2) (.slice B3 n3 d3) (.slice B4 n4 d4) m1 m2 m3 m4) (ha : AR w (fun k => ¬ Own4 (.slice B1 n1 d1) (.slice B2 n2 d2) (.slice B3 n3 d3) (.slice B4 n4 d4) k) (.slice A1 l1.length c1) l1) (hb : SR w (fun k => ¬ Own4 (.slice B1 n1 d1) (.slice B2 n2 d2) (.slice B3 n3 d3) (.slice B4 n4 d4) k) (.slice A2 l2.length c2) l2) :
  Calls Try.prog 47 #[.agg #[.string link, .slice A1 l1.length c1, .slice A2 l2.length c2], .agg #[.int .i64 x.f0, .int .i64 x.f1, .string x.f2, .string x.f3, .int .i64 x.f4, .int .i64 x.f5], .agg #[.int .i64 cd, .slice B1 n1 d1, .slice B2 n2 d2, .slice B3 n3 d3, .slice B4 n4 d4]] w (Post w (.slice B1 n1 d1) (.slice B2 n2 d2) (.slice B3 n3 d3) (.slice B4 n4 d4) n link l1 l2) := by
 have hu27 := Try.underlying27
 have hu54 := Try.underlying54
 have hu58 := Try.underlying58
 have HE := Aside0.mk he
 have HF := Aside0.mk hf
 have HT := Aside0.mk ht
 have HW := Aside0.mk hw
 have HR := Aside0.mk hr
 have HA := Aside0.mk ha
 have HQ := Aside0.mk hb
 have HB := Aside0.mk hn
 clear he hf ht hw hr ha hb hn
 obtain ⟨N, hN⟩ : ∃ N, N = Own4 (.slice B1 n1 d1) (.slice B2 n2 d2) (.slice B3 n3 d3) (.slice B4 n4 d4) := ⟨_, rfl⟩
 have HN := Aside0.mk hN
 clear hN
 go_enter Try.func47, Try.ntmps47
 go_upto_region 1 with (fail)
 refine at_world (fun W hW => ?_)
 obtain ⟨q0, q1, q2, q3, q4, qb, qz⟩ := boxes5 hW
 clear hW
 obtain ⟨g0, e0⟩ : ∃ g, g = w.heap.size := ⟨_, rfl⟩
 obtain ⟨g1, e1⟩ : ∃ g, g = w.heap.size + 1 := ⟨_, rfl⟩
 obtain ⟨g2, e2⟩ : ∃ g, g = w.heap.size + 1 + 1 := ⟨_, rfl⟩
 obtain ⟨g3, e3⟩ : ∃ g, g = w.heap.size + 1 + 1 + 1 := ⟨_, rfl⟩
 obtain ⟨g4, e4⟩ : ∃ g, g = w.heap.size + 1 + 1 + 1 + 1 := ⟨_, rfl⟩
 simp only [← e4]; simp only [← e3]; simp only [← e2]; simp only [← e1]; simp only [← e0]
 rw [← e4] at q4; rw [← e3] at q3; rw [← e2] at q2; rw [← e1] at q1; rw [← e0] at q0
 have HX := Aside0.mk (HS.start5 (N := N) qb q0 q1 q2 q3 q4 (by omega))
 replace HR := Aside0.mk (HR.out.below qb)
 replace HA := Aside0.mk (Kd.R_below HA.out qb)
 replace HQ := Aside0.mk (Kd.R_below HQ.out qb)
 clear q0 q1 q2 q3 q4 qb qz e0 e1 e2 e3 e4
 have x0_0 := HX.out.cell 0 rfl 0 rfl
 have x1_2 := HX.out.cell 1 rfl 2 rfl
 go_upto_region 2 with (go_at_call 60; (with_reducible refine (spec_l14Eui.calls _ _ addr _ HE.out).mono ?_); rintro e w1 ⟨rfl, hb⟩; have n0_ := Aside0.mk (HX.out.below hb); have n1_ := Aside0.mk (HR.out.below hb); have n2_ := Aside0.mk (Kd.R_below HA.out hb); have n3_ := Aside0.mk (Kd.R_below HQ.out hb); clear HX HR HA HQ hb x0_0 x1_2; have HX := n0_; have HR := n1_; have HA := n2_; have HQ := n3_; clear n0_ n1_ n2_ n3_)
 have x0_1 := HX.out.cell 0 rfl 1 rfl
 go_upto_region 3 with (go_at_call 36; (with_reducible refine (spec_l14Find.calls kf _ _ l1 addr t _ (Kd.R_reads' HA.out).2.2 (Kd.R_reads' HA.out).2.1 HF.out).mono ?_); rintro e w2 ⟨rfl, ⟨nd, rfl⟩⟩; have n0_ := Aside0.mk (HX.out.drewN nd); have n1_ := Aside0.mk (HR.out.below (pw_below_drewN (Below.refl _ _) nd)); have n2_ := Aside0.mk (Kd.R_drewN HA.out nd); have n3_ := Aside0.mk (Kd.R_drewN HQ.out nd); clear HX HR HA HQ x0_1; have HX := n0_; have HR := n1_; have HA := n2_; have HQ := n3_; clear n0_ n1_ n2_ n3_; generalize w1.drewN nd = w2 at HX HR HA HQ ⊢)
 have x0_0 := HX.out.cell 0 rfl 0 rfl
 have x0_1 := HX.out.cell 0 rfl 1 rfl
 have x0_2 := HX.out.cell 0 rfl 2 rfl
 go_upto_region 4 with (go_at_call 23; (with_reducible refine (spec_l14Own.calls link _ _ l1 _ _ l2 link l1 l2 _ (Kd.R_reads' HA.out).2.2 (Kd.R_reads' HA.out).2.1 (Kd.R_reads' HQ.out).2.2 (Kd.R_reads' HQ.out).2.1 HW.out).mono ?_); rintro e w3 ⟨y1, y2, rfl, hy1, hy2, hb⟩; obtain ⟨Y1, k1, rfl⟩ := Kd.R_slice hy1; obtain ⟨Y2, k2, rfl⟩ := Kd.R_slice hy2; have n0_ := Aside0.mk (HX.out.below hb); have n1_ := Aside0.mk (HR.out.below hb); have n2_ := Aside0.mk (Kd.R_below HA.out hb); have n3_ := Aside0.mk (Kd.R_below HQ.out hb); have HYB := Aside0.mk (fun k hk => Nat.le_trans HX.out.kept.1 (Kd.R_base hy1 k hk)); have HY1 := Aside0.mk (R_newN hy1 (fun k hk => (HR.out.lt k hk))); have HY2 := Aside0.mk (R_newN hy2 (fun k hk => (HR.out.lt k hk))); clear HX HR HA HQ hb x0_0 x0_1 x0_2 hy1 hy2; have HX := n0_; have HR := n1_; have HA := n2_; have HQ := n3_; clear n0_ n1_ n2_ n3_)
 refine at_world (fun W hW => ?_)
 have hb := below_alloc (Below.refl w3.heap.size w3) (Obj.cells #[.string link, .slice Y1 l1.length k1, .slice Y2 l2.length k2] 27)
 rw [← hW] at hb
 obtain ⟨g5, e5⟩ : ∃ g, g = w3.heap.size := ⟨_, rfl⟩
 have n0_ := Aside0.mk (HX.out.add (g := g5) (t := 27) (cs := #[.string link, .slice Y1 l1.length k1, .slice Y2 l2.length k2]) hb (by rw [hW, e5]; exact blk_new _ _) (by omega)); have n1_ := Aside0.mk (HR.out.below hb); have n2_ := Aside0.mk (Kd.R_below HA.out hb); have n3_ := Aside0.mk (Kd.R_below HQ.out hb); have n4_ := Aside0.mk (Kd.R_below HY1.out hb); have n5_ := Aside0.mk (Kd.R_below HY2.out hb); simp only [← e5]; clear HX HR HA HQ HY1 HY2 hb hW e5; have HX := n0_; have HR := n1_; have HA := n2_; have HQ := n3_; have HY1 := n4_; have HY2 := n5_; clear n0_ n1_ n2_ n3_ n4_ n5_
 have x1_2 := HX.out.cell 1 rfl 2 rfl
 go_upto_region 5 with (go_at_call 35; (with_reducible refine (spec_l14Text.calls kf _ _ l2 addr true _ (Kd.R_reads' HQ.out).2.2 (Kd.R_reads' HQ.out).2.1 HT.out).mono ?_); rintro e w2 ⟨rfl, ⟨nd, rfl⟩⟩; have n0_ := Aside0.mk (HX.out.drewN nd); have n1_ := Aside0.mk (HR.out.below (pw_below_drewN (Below.refl _ _) nd)); have n2_ := Aside0.mk (Kd.R_drewN HA.out nd); have n3_ := Aside0.mk (Kd.R_drewN HQ.out nd); have n4_ := Aside0.mk (Kd.R_drewN HY1.out nd); have n5_ := Aside0.mk (Kd.R_drewN HY2.out nd); clear HX HR HA HQ HY1 HY2 x1_2; have HX := n0_; have HR := n1_; have HA := n2_; have HQ := n3_; have HY1 := n4_; have HY2 := n5_; clear n0_ n1_ n2_ n3_ n4_ n5_; generalize W.drewN nd = w2 at HX HR HA HQ HY1 HY2 ⊢)
 have x3_0 := HX.out.cell 3 rfl 0 rfl
 have f3_0 := HX.out.free 3 rfl 0
 go_upto_region 6 with (fail)
 have n0_ := Aside0.mk (HX.out.set (P := [_, _, _]) 0 (.int .i64 9) rfl); have n1_ := Aside0.mk (HR.out.set (HX.out.at 3 rfl) (by decide) 0 (.int .i64 9)); have n2_ := Aside0.mk (Kd.R_set HA.out (HX.out.at 3 rfl) (fun q hq => by rw [e39 q hq]; decide) 0 (.int .i64 9)); have n3_ := Aside0.mk (Kd.R_set HQ.out (HX.out.at 3 rfl) (fun q hq => by rw [e9 q hq]; decide) 0 (.int .i64 9)); have n4_ := Aside0.mk (Kd.R_set HY1.out (HX.out.at 3 rfl) (fun q hq => by rw [e39 q hq]; decide) 0 (.int .i64 9)); have n5_ := Aside0.mk (Kd.R_set HY2.out (HX.out.at 3 rfl) (fun q hq => by rw [e9 q hq]; decide) 0 (.int .i64 9)); clear HX HR HA HQ HY1 HY2 x3_0 f3_0; have HX := n0_; have HR := n1_; have HA := n2_; have HQ := n3_; have HY1 := n4_; have HY2 := n5_; clear n0_ n1_ n2_ n3_ n4_ n5_
 generalize w2.setCell ⟨g2, 0, none⟩ (.int .i64 9) = w3 at HX HR HA HQ HY1 HY2 ⊢
 refine ret2 (p := 3) (q := 5) (r := 6) (s := 7) (d1 := 29) (d2 := 30) rfl (by kernel_rfl) (by kernel_rfl) (by kernel_rfl) (by kernel_rfl) (by kernel_rfl) (fun _ _ _ _ _ h => h) rfl rfl rfl rfl (show (29 : Nat) < 135 by decide) (show (30 : Nat) < 135 by decide) (by decide) (HX.out.at 1 rfl) (HX.out.at 3 rfl) (HX.out.at 4 rfl) (HX.out.at 5 rfl) ?_ (fun w4 bR bS hk hb => ?_)
 ·
  have := HX.out.nd
  simp at this
  omega
 have HP := Aside0.mk (post_done (n := n) (link := link) (cd := 9) HR.out HB.out HA.out HQ.out (by rw [← HN.out]; exact HX.out.kept) HX.out.b0 (fun k _ h => h) (HX.out.at 4 rfl) (HX.out.at 5 rfl) (HX.out.new (_, _, _) (List.mem_of_getElem? (i := 4) rfl)) (HX.out.new (_, _, _) (List.mem_of_getElem? (i := 5) rfl)) hk hb)
 go_wp2
 all_goals exact bodyPost_ret (results_cc rfl _ _ _ _ 27 54 _ _ (0, 0) (0, 0) _ _ rfl bR Try.underlying27 rfl (by kernel_rfl) rfl bS Try.underlying54 rfl (by kernel_rfl)) rfl HP.out
set_option maxHeartbeats 8000000 in
set_option maxRecDepth 100000 in
theorem prefix_none (link : ByteArray) (A1 A2 B1 B2 B3 B4 : Option Addr) (c1 c2 d1 d2 d3 d4 : Nat) (n1 n2 n3 n4 : Nat) (l1 : List S39) (l2 m1 m2 m3 m4 : List ByteArray) (x : S58) (cd : Int) (w : World) (addr : ByteArray) (t : Int) (kf : Nat) (he : spec_l14Eui.f x.f2 link = some addr) (hf : spec_l14Find.f kf l1 addr = some t) (ht : spec_l14Text.f kf l2 addr = some false) (hw : spec_l14Own.f link l1 l2 = some (link, l1, l2))
  (n : Nat) (hn : m1.length ≤ n ∧ m2.length ≤ n ∧ m3.length ≤ n ∧ m4.length ≤ n) (hr : Rows4 w (.slice B1 n1 d1) (.slice B2 n2 d2) (.slice B3 n3 d3) (.slice B4 n4 d4) m1 m2 m3 m4) (ha : AR w (fun k => ¬ Own4 (.slice B1 n1 d1) (.slice B2 n2 d2) (.slice B3 n3 d3) (.slice B4 n4 d4) k) (.slice A1 l1.length c1) l1) (hb : SR w (fun k => ¬ Own4 (.slice B1 n1 d1) (.slice B2 n2 d2) (.slice B3 n3 d3) (.slice B4 n4 d4) k) (.slice A2 l2.length c2) l2) (h1 : t < 0) (h2 : x.f4 = 0) :
  Calls Try.prog 47 #[.agg #[.string link, .slice A1 l1.length c1, .slice A2 l2.length c2], .agg #[.int .i64 x.f0, .int .i64 x.f1, .string x.f2, .string x.f3, .int .i64 x.f4, .int .i64 x.f5], .agg #[.int .i64 cd, .slice B1 n1 d1, .slice B2 n2 d2, .slice B3 n3 d3, .slice B4 n4 d4]] w (Post w (.slice B1 n1 d1) (.slice B2 n2 d2) (.slice B3 n3 d3) (.slice B4 n4 d4) n link l1 l2) := by
 have HH := Aside0.mk (And.intro h1 h2)
 clear h1 h2
 have hu27 := Try.underlying27
 have hu54 := Try.underlying54
 have hu58 := Try.underlying58
 have HE := Aside0.mk he
 have HF := Aside0.mk hf
 have HT := Aside0.mk ht
 have HW := Aside0.mk hw
 have HR := Aside0.mk hr
 have HA := Aside0.mk ha
 have HQ := Aside0.mk hb
 have HB := Aside0.mk hn
 clear he hf ht hw hr ha hb hn
 obtain ⟨N, hN⟩ : ∃ N, N = Own4 (.slice B1 n1 d1) (.slice B2 n2 d2) (.slice B3 n3 d3) (.slice B4 n4 d4) := ⟨_, rfl⟩
 have HN := Aside0.mk hN
 clear hN
 go_enter Try.func47, Try.ntmps47
 go_upto_region 1 with (fail)
 refine at_world (fun W hW => ?_)
 obtain ⟨q0, q1, q2, q3, q4, qb, qz⟩ := boxes5 hW
 clear hW
 obtain ⟨g0, e0⟩ : ∃ g, g = w.heap.size := ⟨_, rfl⟩
 obtain ⟨g1, e1⟩ : ∃ g, g = w.heap.size + 1 := ⟨_, rfl⟩
 obtain ⟨g2, e2⟩ : ∃ g, g = w.heap.size + 1 + 1 := ⟨_, rfl⟩
 obtain ⟨g3, e3⟩ : ∃ g, g = w.heap.size + 1 + 1 + 1 := ⟨_, rfl⟩
 obtain ⟨g4, e4⟩ : ∃ g, g = w.heap.size + 1 + 1 + 1 + 1 := ⟨_, rfl⟩
 simp only [← e4]; simp only [← e3]; simp only [← e2]; simp only [← e1]; simp only [← e0]
 rw [← e4] at q4; rw [← e3] at q3; rw [← e2] at q2; rw [← e1] at q1; rw [← e0] at q0
 have HX := Aside0.mk (HS.start5 (N := N) qb q0 q1 q2 q3 q4 (by omega))
 replace HR := Aside0.mk (HR.out.below qb)
 replace HA := Aside0.mk (Kd.R_below HA.out qb)
 replace HQ := Aside0.mk (Kd.R_below HQ.out qb)
 clear q0 q1 q2 q3 q4 qb qz e0 e1 e2 e3 e4
 have x0_0 := HX.out.cell 0 rfl 0 rfl
 have x1_2 := HX.out.cell 1 rfl 2 rfl
 go_upto_region 2 with (go_at_call 60; (with_reducible refine (spec_l14Eui.calls _ _ addr _ HE.out).mono ?_); rintro e w1 ⟨rfl, hb⟩; have n0_ := Aside0.mk (HX.out.below hb); have n1_ := Aside0.mk (HR.out.below hb); have n2_ := Aside0.mk (Kd.R_below HA.out hb); have n3_ := Aside0.mk (Kd.R_below HQ.out hb); clear HX HR HA HQ hb x0_0 x1_2; have HX := n0_; have HR := n1_; have HA := n2_; have HQ := n3_; clear n0_ n1_ n2_ n3_)
 have x0_1 := HX.out.cell 0 rfl 1 rfl
 go_upto_region 3 with (go_at_call 36; (with_reducible refine (spec_l14Find.calls kf _ _ l1 addr t _ (Kd.R_reads' HA.out).2.2 (Kd.R_reads' HA.out).2.1 HF.out).mono ?_); rintro e w2 ⟨rfl, ⟨nd, rfl⟩⟩; have n0_ := Aside0.mk (HX.out.drewN nd); have n1_ := Aside0.mk (HR.out.below (pw_below_drewN (Below.refl _ _) nd)); have n2_ := Aside0.mk (Kd.R_drewN HA.out nd); have n3_ := Aside0.mk (Kd.R_drewN HQ.out nd); clear HX HR HA HQ x0_1; have HX := n0_; have HR := n1_; have HA := n2_; have HQ := n3_; clear n0_ n1_ n2_ n3_; generalize w1.drewN nd = w2 at HX HR HA HQ ⊢)
 have x0_0 := HX.out.cell 0 rfl 0 rfl
 have x0_1 := HX.out.cell 0 rfl 1 rfl
 have x0_2 := HX.out.cell 0 rfl 2 rfl
 go_upto_region 4 with (go_at_call 23; (with_reducible refine (spec_l14Own.calls link _ _ l1 _ _ l2 link l1 l2 _ (Kd.R_reads' HA.out).2.2 (Kd.R_reads' HA.out).2.1 (Kd.R_reads' HQ.out).2.2 (Kd.R_reads' HQ.out).2.1 HW.out).mono ?_); rintro e w3 ⟨y1, y2, rfl, hy1, hy2, hb⟩; obtain ⟨Y1, k1, rfl⟩ := Kd.R_slice hy1; obtain ⟨Y2, k2, rfl⟩ := Kd.R_slice hy2; have n0_ := Aside0.mk (HX.out.below hb); have n1_ := Aside0.mk (HR.out.below hb); have n2_ := Aside0.mk (Kd.R_below HA.out hb); have n3_ := Aside0.mk (Kd.R_below HQ.out hb); have HYB := Aside0.mk (fun k hk => Nat.le_trans HX.out.kept.1 (Kd.R_base hy1 k hk)); have HY1 := Aside0.mk (R_newN hy1 (fun k hk => (HR.out.lt k hk))); have HY2 := Aside0.mk (R_newN hy2 (fun k hk => (HR.out.lt k hk))); clear HX HR HA HQ hb x0_0 x0_1 x0_2 hy1 hy2; have HX := n0_; have HR := n1_; have HA := n2_; have HQ := n3_; clear n0_ n1_ n2_ n3_)
 refine at_world (fun W hW => ?_)
 have hb := below_alloc (Below.refl w3.heap.size w3) (Obj.cells #[.string link, .slice Y1 l1.length k1, .slice Y2 l2.length k2] 27)
 rw [← hW] at hb
 obtain ⟨g5, e5⟩ : ∃ g, g = w3.heap.size := ⟨_, rfl⟩
 have n0_ := Aside0.mk (HX.out.add (g := g5) (t := 27) (cs := #[.string link, .slice Y1 l1.length k1, .slice Y2 l2.length k2]) hb (by rw [hW, e5]; exact blk_new _ _) (by omega)); have n1_ := Aside0.mk (HR.out.below hb); have n2_ := Aside0.mk (Kd.R_below HA.out hb); have n3_ := Aside0.mk (Kd.R_below HQ.out hb); have n4_ := Aside0.mk (Kd.R_below HY1.out hb); have n5_ := Aside0.mk (Kd.R_below HY2.out hb); simp only [← e5]; clear HX HR HA HQ HY1 HY2 hb hW e5; have HX := n0_; have HR := n1_; have HA := n2_; have HQ := n3_; have HY1 := n4_; have HY2 := n5_; clear n0_ n1_ n2_ n3_ n4_ n5_
 have x1_2 := HX.out.cell 1 rfl 2 rfl
 go_upto_region 7 with (go_at_call 35; (with_reducible refine (spec_l14Text.calls kf _ _ l2 addr false _ (Kd.R_reads' HQ.out).2.2 (Kd.R_reads' HQ.out).2.1 HT.out).mono ?_); rintro e w2 ⟨rfl, ⟨nd, rfl⟩⟩; have n0_ := Aside0.mk (HX.out.drewN nd); have n1_ := Aside0.mk (HR.out.below (pw_below_drewN (Below.refl _ _) nd)); have n2_ := Aside0.mk (Kd.R_drewN HA.out nd); have n3_ := Aside0.mk (Kd.R_drewN HQ.out nd); have n4_ := Aside0.mk (Kd.R_drewN HY1.out nd); have n5_ := Aside0.mk (Kd.R_drewN HY2.out nd); clear HX HR HA HQ HY1 HY2 x1_2; have HX := n0_; have HR := n1_; have HA := n2_; have HQ := n3_; have HY1 := n4_; have HY2 := n5_; clear n0_ n1_ n2_ n3_ n4_ n5_; generalize W.drewN nd = w2 at HX HR HA HQ HY1 HY2 ⊢)
 have t1 : decide (t < 0) = true := decide_eq_true HH.out.1
 have t2 : (x.f4 == 0) = true := by simp [HH.out.2]
 have x2_4 := HX.out.cell 2 rfl 4 rfl
 go_upto_region 8 with (fail)
 clear x2_4
 have x3_0 := HX.out.cell 3 rfl 0 rfl
 have f3_0 := HX.out.free 3 rfl 0
 go_upto_region 9 with (fail)
 have n0_ := Aside0.mk (HX.out.set (P := [_, _, _]) 0 (.int .i64 5) rfl); have n1_ := Aside0.mk (HR.out.set (HX.out.at 3 rfl) (by decide) 0 (.int .i64 5)); have n2_ := Aside0.mk (Kd.R_set HA.out (HX.out.at 3 rfl) (fun q hq => by rw [e39 q hq]; decide) 0 (.int .i64 5)); have n3_ := Aside0.mk (Kd.R_set HQ.out (HX.out.at 3 rfl) (fun q hq => by rw [e9 q hq]; decide) 0 (.int .i64 5)); have n4_ := Aside0.mk (Kd.R_set HY1.out (HX.out.at 3 rfl) (fun q hq => by rw [e39 q hq]; decide) 0 (.int .i64 5)); have n5_ := Aside0.mk (Kd.R_set HY2.out (HX.out.at 3 rfl) (fun q hq => by rw [e9 q hq]; decide) 0 (.int .i64 5)); clear HX HR HA HQ HY1 HY2 x3_0 f3_0; have HX := n0_; have HR := n1_; have HA := n2_; have HQ := n3_; have HY1 := n4_; have HY2 := n5_; clear n0_ n1_ n2_ n3_ n4_ n5_
 generalize w2.setCell ⟨g2, 0, none⟩ (.int .i64 5) = w3 at HX HR HA HQ HY1 HY2 ⊢
 refine ret2 (p := 3) (q := 5) (r := 6) (s := 7) (d1 := 40) (d2 := 41) rfl (by kernel_rfl) (by kernel_rfl) (by kernel_rfl) (by kernel_rfl) (by kernel_rfl) (fun _ _ _ _ _ h => h) rfl rfl rfl rfl (show (40 : Nat) < 135 by decide) (show (41 : Nat) < 135 by decide) (by decide) (HX.out.at 1 rfl) (HX.out.at 3 rfl) (HX.out.at 4 rfl) (HX.out.at 5 rfl) ?_ (fun w4 bR bS hk hb => ?_)
 ·
  have := HX.out.nd
  simp at this
  omega
 have HP := Aside0.mk (post_done (n := n) (link := link) (cd := 5) HR.out HB.out HA.out HQ.out (by rw [← HN.out]; exact HX.out.kept) HX.out.b0 (fun k _ h => h) (HX.out.at 4 rfl) (HX.out.at 5 rfl) (HX.out.new (_, _, _) (List.mem_of_getElem? (i := 4) rfl)) (HX.out.new (_, _, _) (List.mem_of_getElem? (i := 5) rfl)) hk hb)
 go_wp2
 all_goals exact bodyPost_ret (results_cc rfl _ _ _ _ 27 54 _ _ (0, 0) (0, 0) _ _ rfl bR Try.underlying27 rfl (by kernel_rfl) rfl bS Try.underlying54 rfl (by kernel_rfl)) rfl HP.out
set_option maxHeartbeats 8000000 in
set_option maxRecDepth 100000 in
theorem prefix_full (link : ByteArray) (A1 A2 B1 B2 B3 B4 : Option Addr) (c1 c2 d1 d2 d3 d4 : Nat) (n1 n2 n3 n4 : Nat) (l1 : List S39) (l2 m1 m2 m3 m4 : List ByteArray) (x : S58) (cd : Int) (w : World) (addr : ByteArray) (t : Int) (kf : Nat) (he : spec_l14Eui.f x.f2 link = some addr) (hf : spec_l14Find.f kf l1 addr = some t) (ht : spec_l14Text.f kf l2 addr = some false) (hw : spec_l14Own.f link l1 l2 = some (link, l1, l2))
  (n : Nat) (hn : m1.length ≤ n ∧ m2.length ≤ n ∧ m3.length ≤ n ∧ m4.length ≤ n) (hr : Rows4 w (.slice B1 n1 d1) (.slice B2 n2 d2) (.slice B3 n3 d3) (.slice B4 n4 d4) m1 m2 m3 m4) (ha : AR w (fun k => ¬ Own4 (.slice B1 n1 d1) (.slice B2 n2 d2) (.slice B3 n3 d3) (.slice B4 n4 d4) k) (.slice A1 l1.length c1) l1) (hb : SR w (fun k => ¬ Own4 (.slice B1 n1 d1) (.slice B2 n2 d2) (.slice B3 n3 d3) (.slice B4 n4 d4) k) (.slice A2 l2.length c2) l2) (h1 : t < 0) (h2 : x.f4 ≠ 0) (h3 : l1.length = 6) :
  Calls Try.prog 47 #[.agg #[.string link, .slice A1 l1.length c1, .slice A2 l2.length c2], .agg #[.int .i64 x.f0, .int .i64 x.f1, .string x.f2, .string x.f3, .int .i64 x.f4, .int .i64 x.f5], .agg #[.int .i64 cd, .slice B1 n1 d1, .slice B2 n2 d2, .slice B3 n3 d3, .slice B4 n4 d4]] w (Post w (.slice B1 n1 d1) (.slice B2 n2 d2) (.slice B3 n3 d3) (.slice B4 n4 d4) n link l1 l2) := by
 have HH := Aside0.mk (And.intro h1 (And.intro h2 h3))
 clear h1 h2 h3
 have hu27 := Try.underlying27
 have hu54 := Try.underlying54
 have hu58 := Try.underlying58
 have HE := Aside0.mk he
 have HF := Aside0.mk hf
 have HT := Aside0.mk ht
 have HW := Aside0.mk hw
 have HR := Aside0.mk hr
 have HA := Aside0.mk ha
 have HQ := Aside0.mk hb
 have HB := Aside0.mk hn
 clear he hf ht hw hr ha hb hn
 obtain ⟨N, hN⟩ : ∃ N, N = Own4 (.slice B1 n1 d1) (.slice B2 n2 d2) (.slice B3 n3 d3) (.slice B4 n4 d4) := ⟨_, rfl⟩
 have HN := Aside0.mk hN
 clear hN
 go_enter Try.func47, Try.ntmps47
 go_upto_region 1 with (fail)
 refine at_world (fun W hW => ?_)
 obtain ⟨q0, q1, q2, q3, q4, qb, qz⟩ := boxes5 hW
 clear hW
 obtain ⟨g0, e0⟩ : ∃ g, g = w.heap.size := ⟨_, rfl⟩
 obtain ⟨g1, e1⟩ : ∃ g, g = w.heap.size + 1 := ⟨_, rfl⟩
 obtain ⟨g2, e2⟩ : ∃ g, g = w.heap.size + 1 + 1 := ⟨_, rfl⟩
 obtain ⟨g3, e3⟩ : ∃ g, g = w.heap.size + 1 + 1 + 1 := ⟨_, rfl⟩
 obtain ⟨g4, e4⟩ : ∃ g, g = w.heap.size + 1 + 1 + 1 + 1 := ⟨_, rfl⟩
 simp only [← e4]; simp only [← e3]; simp only [← e2]; simp only [← e1]; simp only [← e0]
 rw [← e4] at q4; rw [← e3] at q3; rw [← e2] at q2; rw [← e1] at q1; rw [← e0] at q0
 have HX := Aside0.mk (HS.start5 (N := N) qb q0 q1 q2 q3 q4 (by omega))
 replace HR := Aside0.mk (HR.out.below qb)
 replace HA := Aside0.mk (Kd.R_below HA.out qb)
 replace HQ := Aside0.mk (Kd.R_below HQ.out qb)
 clear q0 q1 q2 q3 q4 qb qz e0 e1 e2 e3 e4
 have x0_0 := HX.out.cell 0 rfl 0 rfl
 have x1_2 := HX.out.cell 1 rfl 2 rfl
 go_upto_region 2 with (go_at_call 60; (with_reducible refine (spec_l14Eui.calls _ _ addr _ HE.out).mono ?_); rintro e w1 ⟨rfl, hb⟩; have n0_ := Aside0.mk (HX.out.below hb); have n1_ := Aside0.mk (HR.out.below hb); have n2_ := Aside0.mk (Kd.R_below HA.out hb); have n3_ := Aside0.mk (Kd.R_below HQ.out hb); clear HX HR HA HQ hb x0_0 x1_2; have HX := n0_; have HR := n1_; have HA := n2_; have HQ := n3_; clear n0_ n1_ n2_ n3_)
 have x0_1 := HX.out.cell 0 rfl 1 rfl
 go_upto_region 3 with (go_at_call 36; (with_reducible refine (spec_l14Find.calls kf _ _ l1 addr t _ (Kd.R_reads' HA.out).2.2 (Kd.R_reads' HA.out).2.1 HF.out).mono ?_); rintro e w2 ⟨rfl, ⟨nd, rfl⟩⟩; have n0_ := Aside0.mk (HX.out.drewN nd); have n1_ := Aside0.mk (HR.out.below (pw_below_drewN (Below.refl _ _) nd)); have n2_ := Aside0.mk (Kd.R_drewN HA.out nd); have n3_ := Aside0.mk (Kd.R_drewN HQ.out nd); clear HX HR HA HQ x0_1; have HX := n0_; have HR := n1_; have HA := n2_; have HQ := n3_; clear n0_ n1_ n2_ n3_; generalize w1.drewN nd = w2 at HX HR HA HQ ⊢)
 have x0_0 := HX.out.cell 0 rfl 0 rfl
 have x0_1 := HX.out.cell 0 rfl 1 rfl
 have x0_2 := HX.out.cell 0 rfl 2 rfl
 go_upto_region 4 with (go_at_call 23; (with_reducible refine (spec_l14Own.calls link _ _ l1 _ _ l2 link l1 l2 _ (Kd.R_reads' HA.out).2.2 (Kd.R_reads' HA.out).2.1 (Kd.R_reads' HQ.out).2.2 (Kd.R_reads' HQ.out).2.1 HW.out).mono ?_); rintro e w3 ⟨y1, y2, rfl, hy1, hy2, hb⟩; obtain ⟨Y1, k1, rfl⟩ := Kd.R_slice hy1; obtain ⟨Y2, k2, rfl⟩ := Kd.R_slice hy2; have n0_ := Aside0.mk (HX.out.below hb); have n1_ := Aside0.mk (HR.out.below hb); have n2_ := Aside0.mk (Kd.R_below HA.out hb); have n3_ := Aside0.mk (Kd.R_below HQ.out hb); have HYB := Aside0.mk (fun k hk => Nat.le_trans HX.out.kept.1 (Kd.R_base hy1 k hk)); have HY1 := Aside0.mk (R_newN hy1 (fun k hk => (HR.out.lt k hk))); have HY2 := Aside0.mk (R_newN hy2 (fun k hk => (HR.out.lt k hk))); clear HX HR HA HQ hb x0_0 x0_1 x0_2 hy1 hy2; have HX := n0_; have HR := n1_; have HA := n2_; have HQ := n3_; clear n0_ n1_ n2_ n3_)
 refine at_world (fun W hW => ?_)
 have hb := below_alloc (Below.refl w3.heap.size w3) (Obj.cells #[.string link, .slice Y1 l1.length k1, .slice Y2 l2.length k2] 27)
 rw [← hW] at hb
 obtain ⟨g5, e5⟩ : ∃ g, g = w3.heap.size := ⟨_, rfl⟩
 have n0_ := Aside0.mk (HX.out.add (g := g5) (t := 27) (cs := #[.string link, .slice Y1 l1.length k1, .slice Y2 l2.length k2]) hb (by rw [hW, e5]; exact blk_new _ _) (by omega)); have n1_ := Aside0.mk (HR.out.below hb); have n2_ := Aside0.mk (Kd.R_below HA.out hb); have n3_ := Aside0.mk (Kd.R_below HQ.out hb); have n4_ := Aside0.mk (Kd.R_below HY1.out hb); have n5_ := Aside0.mk (Kd.R_below HY2.out hb); simp only [← e5]; clear HX HR HA HQ HY1 HY2 hb hW e5; have HX := n0_; have HR := n1_; have HA := n2_; have HQ := n3_; have HY1 := n4_; have HY2 := n5_; clear n0_ n1_ n2_ n3_ n4_ n5_
 have x1_2 := HX.out.cell 1 rfl 2 rfl
 go_upto_region 7 with (go_at_call 35; (with_reducible refine (spec_l14Text.calls kf _ _ l2 addr false _ (Kd.R_reads' HQ.out).2.2 (Kd.R_reads' HQ.out).2.1 HT.out).mono ?_); rintro e w2 ⟨rfl, ⟨nd, rfl⟩⟩; have n0_ := Aside0.mk (HX.out.drewN nd); have n1_ := Aside0.mk (HR.out.below (pw_below_drewN (Below.refl _ _) nd)); have n2_ := Aside0.mk (Kd.R_drewN HA.out nd); have n3_ := Aside0.mk (Kd.R_drewN HQ.out nd); have n4_ := Aside0.mk (Kd.R_drewN HY1.out nd); have n5_ := Aside0.mk (Kd.R_drewN HY2.out nd); clear HX HR HA HQ HY1 HY2 x1_2; have HX := n0_; have HR := n1_; have HA := n2_; have HQ := n3_; have HY1 := n4_; have HY2 := n5_; clear n0_ n1_ n2_ n3_ n4_ n5_; generalize W.drewN nd = w2 at HX HR HA HQ HY1 HY2 ⊢)
 have t1 : decide (t < 0) = true := decide_eq_true HH.out.1
 have t2 : (x.f4 == 0) = false := by simp [HH.out.2.1]
 have x2_4 := HX.out.cell 2 rfl 4 rfl
 go_upto_region 10 with (fail)
 clear x2_4 t2
 have x1_1 := HX.out.cell 1 rfl 1 rfl
 have t2 : ((l1.length : Int) == 6) = true := by simp; have := HH.out.2.2; omega
 go_upto_region 11 with (fail)
 clear x1_1
 have x3_0 := HX.out.cell 3 rfl 0 rfl
 have f3_0 := HX.out.free 3 rfl 0
 go_upto_region 12 with (fail)
 have n0_ := Aside0.mk (HX.out.set (P := [_, _, _]) 0 (.int .i64 7) rfl); have n1_ := Aside0.mk (HR.out.set (HX.out.at 3 rfl) (by decide) 0 (.int .i64 7)); have n2_ := Aside0.mk (Kd.R_set HA.out (HX.out.at 3 rfl) (fun q hq => by rw [e39 q hq]; decide) 0 (.int .i64 7)); have n3_ := Aside0.mk (Kd.R_set HQ.out (HX.out.at 3 rfl) (fun q hq => by rw [e9 q hq]; decide) 0 (.int .i64 7)); have n4_ := Aside0.mk (Kd.R_set HY1.out (HX.out.at 3 rfl) (fun q hq => by rw [e39 q hq]; decide) 0 (.int .i64 7)); have n5_ := Aside0.mk (Kd.R_set HY2.out (HX.out.at 3 rfl) (fun q hq => by rw [e9 q hq]; decide) 0 (.int .i64 7)); clear HX HR HA HQ HY1 HY2 x3_0 f3_0; have HX := n0_; have HR := n1_; have HA := n2_; have HQ := n3_; have HY1 := n4_; have HY2 := n5_; clear n0_ n1_ n2_ n3_ n4_ n5_
 generalize w2.setCell ⟨g2, 0, none⟩ (.int .i64 7) = w3 at HX HR HA HQ HY1 HY2 ⊢
 refine ret2 (p := 3) (q := 5) (r := 6) (s := 7) (d1 := 52) (d2 := 53) rfl (by kernel_rfl) (by kernel_rfl) (by kernel_rfl) (by kernel_rfl) (by kernel_rfl) (fun _ _ _ _ _ h => h) rfl rfl rfl rfl (show (52 : Nat) < 135 by decide) (show (53 : Nat) < 135 by decide) (by decide) (HX.out.at 1 rfl) (HX.out.at 3 rfl) (HX.out.at 4 rfl) (HX.out.at 5 rfl) ?_ (fun w4 bR bS hk hb => ?_)
 ·
  have := HX.out.nd
  simp at this
  omega
 have HP := Aside0.mk (post_done (n := n) (link := link) (cd := 7) HR.out HB.out HA.out HQ.out (by rw [← HN.out]; exact HX.out.kept) HX.out.b0 (fun k _ h => h) (HX.out.at 4 rfl) (HX.out.at 5 rfl) (HX.out.new (_, _, _) (List.mem_of_getElem? (i := 4) rfl)) (HX.out.new (_, _, _) (List.mem_of_getElem? (i := 5) rfl)) hk hb)
 go_wp2
 all_goals exact bodyPost_ret (results_cc rfl _ _ _ _ 27 54 _ _ (0, 0) (0, 0) _ _ rfl bR Try.underlying27 rfl (by kernel_rfl) rfl bS Try.underlying54 rfl (by kernel_rfl)) rfl HP.out
set_option maxHeartbeats 8000000 in
set_option maxRecDepth 100000 in
theorem prefix_add (link : ByteArray) (A1 A2 B1 B2 B3 B4 : Option Addr) (c1 c2 d1 d2 d3 d4 : Nat) (n1 n2 n3 n4 : Nat) (l1 : List S39) (l2 m1 m2 m3 m4 : List ByteArray) (x : S58) (cd : Int) (w : World) (addr : ByteArray) (t : Int) (kf : Nat) (he : spec_l14Eui.f x.f2 link = some addr) (hf : spec_l14Find.f kf l1 addr = some t) (ht : spec_l14Text.f kf l2 addr = some false) (hw : spec_l14Own.f link l1 l2 = some (link, l1, l2))
  (n : Nat) (hn : m1.length ≤ n ∧ m2.length ≤ n ∧ m3.length ≤ n ∧ m4.length ≤ n) (hr : Rows4 w (.slice B1 n1 d1) (.slice B2 n2 d2) (.slice B3 n3 d3) (.slice B4 n4 d4) m1 m2 m3 m4) (ha : AR w (fun k => ¬ Own4 (.slice B1 n1 d1) (.slice B2 n2 d2) (.slice B3 n3 d3) (.slice B4 n4 d4) k) (.slice A1 l1.length c1) l1) (hb : SR w (fun k => ¬ Own4 (.slice B1 n1 d1) (.slice B2 n2 d2) (.slice B3 n3 d3) (.slice B4 n4 d4) k) (.slice A2 l2.length c2) l2) (h1 : t < 0) (h2 : x.f4 ≠ 0) (h3 : l1.length < 6) (h4 : n ≤ 1000000) (L1 : List S39) (h5 : L1 = l1 ++ [(⟨addr, 1, 3, x.f4, x.f5⟩ : S39)]) :
  Calls Try.prog 47 #[.agg #[.string link, .slice A1 l1.length c1, .slice A2 l2.length c2], .agg #[.int .i64 x.f0, .int .i64 x.f1, .string x.f2, .string x.f3, .int .i64 x.f4, .int .i64 x.f5], .agg #[.int .i64 cd, .slice B1 n1 d1, .slice B2 n2 d2, .slice B3 n3 d3, .slice B4 n4 d4]] w (Post w (.slice B1 n1 d1) (.slice B2 n2 d2) (.slice B3 n3 d3) (.slice B4 n4 d4) (n + 1) link L1 l2) := by
 have HH := Aside0.mk (And.intro h1 (And.intro h2 (And.intro h3 h4)))
 have HL := Aside0.mk h5
 clear h1 h2 h3 h4 h5
 obtain ⟨M1, hM⟩ : ∃ M, M = m1 ++ [addr] := ⟨_, rfl⟩
 have HM := Aside0.mk hM
 clear hM
 have hu27 := Try.underlying27
 have hu54 := Try.underlying54
 have hu58 := Try.underlying58
 have HE := Aside0.mk he
 have HF := Aside0.mk hf
 have HT := Aside0.mk ht
 have HW := Aside0.mk hw
 have HR := Aside0.mk hr
 have HA := Aside0.mk ha
 have HQ := Aside0.mk hb
 have HB := Aside0.mk hn
 clear he hf ht hw hr ha hb hn
 obtain ⟨N, hN⟩ : ∃ N, N = Own4 (.slice B1 n1 d1) (.slice B2 n2 d2) (.slice B3 n3 d3) (.slice B4 n4 d4) := ⟨_, rfl⟩
 have HN := Aside0.mk hN
 clear hN
 go_enter Try.func47, Try.ntmps47
 go_upto_region 1 with (fail)
 refine at_world (fun W hW => ?_)
 obtain ⟨q0, q1, q2, q3, q4, qb, qz⟩ := boxes5 hW
 clear hW
 obtain ⟨g0, e0⟩ : ∃ g, g = w.heap.size := ⟨_, rfl⟩
 obtain ⟨g1, e1⟩ : ∃ g, g = w.heap.size + 1 := ⟨_, rfl⟩
 obtain ⟨g2, e2⟩ : ∃ g, g = w.heap.size + 1 + 1 := ⟨_, rfl⟩
 obtain ⟨g3, e3⟩ : ∃ g, g = w.heap.size + 1 + 1 + 1 := ⟨_, rfl⟩
 obtain ⟨g4, e4⟩ : ∃ g, g = w.heap.size + 1 + 1 + 1 + 1 := ⟨_, rfl⟩
 simp only [← e4]; simp only [← e3]; simp only [← e2]; simp only [← e1]; simp only [← e0]
 rw [← e4] at q4; rw [← e3] at q3; rw [← e2] at q2; rw [← e1] at q1; rw [← e0] at q0
 have HX := Aside0.mk (HS.start5 (N := N) qb q0 q1 q2 q3 q4 (by omega))
 replace HR := Aside0.mk (HR.out.below qb)
 replace HA := Aside0.mk (Kd.R_below HA.out qb)
 replace HQ := Aside0.mk (Kd.R_below HQ.out qb)
 clear q0 q1 q2 q3 q4 qb qz e0 e1 e2 e3 e4
 have x0_0 := HX.out.cell 0 rfl 0 rfl
 have x1_2 := HX.out.cell 1 rfl 2 rfl
 go_upto_region 2 with (go_at_call 60; (with_reducible refine (spec_l14Eui.calls _ _ addr _ HE.out).mono ?_); rintro e w1 ⟨rfl, hb⟩; have n0_ := Aside0.mk (HX.out.below hb); have n1_ := Aside0.mk (HR.out.below hb); have n2_ := Aside0.mk (Kd.R_below HA.out hb); have n3_ := Aside0.mk (Kd.R_below HQ.out hb); clear HX HR HA HQ hb x0_0 x1_2; have HX := n0_; have HR := n1_; have HA := n2_; have HQ := n3_; clear n0_ n1_ n2_ n3_)
 have x0_1 := HX.out.cell 0 rfl 1 rfl
 go_upto_region 3 with (go_at_call 36; (with_reducible refine (spec_l14Find.calls kf _ _ l1 addr t _ (Kd.R_reads' HA.out).2.2 (Kd.R_reads' HA.out).2.1 HF.out).mono ?_); rintro e w2 ⟨rfl, ⟨nd, rfl⟩⟩; have n0_ := Aside0.mk (HX.out.drewN nd); have n1_ := Aside0.mk (HR.out.below (pw_below_drewN (Below.refl _ _) nd)); have n2_ := Aside0.mk (Kd.R_drewN HA.out nd); have n3_ := Aside0.mk (Kd.R_drewN HQ.out nd); clear HX HR HA HQ x0_1; have HX := n0_; have HR := n1_; have HA := n2_; have HQ := n3_; clear n0_ n1_ n2_ n3_; generalize w1.drewN nd = w2 at HX HR HA HQ ⊢)
 have x0_0 := HX.out.cell 0 rfl 0 rfl
 have x0_1 := HX.out.cell 0 rfl 1 rfl
 have x0_2 := HX.out.cell 0 rfl 2 rfl
 go_upto_region 4 with (go_at_call 23; (with_reducible refine (spec_l14Own.calls link _ _ l1 _ _ l2 link l1 l2 _ (Kd.R_reads' HA.out).2.2 (Kd.R_reads' HA.out).2.1 (Kd.R_reads' HQ.out).2.2 (Kd.R_reads' HQ.out).2.1 HW.out).mono ?_); rintro e w3 ⟨y1, y2, rfl, hy1, hy2, hb⟩; obtain ⟨Y1, k1, rfl⟩ := Kd.R_slice hy1; obtain ⟨Y2, k2, rfl⟩ := Kd.R_slice hy2; have n0_ := Aside0.mk (HX.out.below hb); have n1_ := Aside0.mk (HR.out.below hb); have n2_ := Aside0.mk (Kd.R_below HA.out hb); have n3_ := Aside0.mk (Kd.R_below HQ.out hb); have HYB := Aside0.mk (fun k hk => Nat.le_trans HX.out.kept.1 (Kd.R_base hy1 k hk)); have HY1 := Aside0.mk (R_newN hy1 (fun k hk => (HR.out.lt k hk))); have HY2 := Aside0.mk (R_newN hy2 (fun k hk => (HR.out.lt k hk))); clear HX HR HA HQ hb x0_0 x0_1 x0_2 hy1 hy2; have HX := n0_; have HR := n1_; have HA := n2_; have HQ := n3_; clear n0_ n1_ n2_ n3_)
 refine at_world (fun W hW => ?_)
 have hb := below_alloc (Below.refl w3.heap.size w3) (Obj.cells #[.string link, .slice Y1 l1.length k1, .slice Y2 l2.length k2] 27)
 rw [← hW] at hb
 obtain ⟨g5, e5⟩ : ∃ g, g = w3.heap.size := ⟨_, rfl⟩
 have n0_ := Aside0.mk (HX.out.add (g := g5) (t := 27) (cs := #[.string link, .slice Y1 l1.length k1, .slice Y2 l2.length k2]) hb (by rw [hW, e5]; exact blk_new _ _) (by omega)); have n1_ := Aside0.mk (HR.out.below hb); have n2_ := Aside0.mk (Kd.R_below HA.out hb); have n3_ := Aside0.mk (Kd.R_below HQ.out hb); have n4_ := Aside0.mk (Kd.R_below HY1.out hb); have n5_ := Aside0.mk (Kd.R_below HY2.out hb); simp only [← e5]; clear HX HR HA HQ HY1 HY2 hb hW e5; have HX := n0_; have HR := n1_; have HA := n2_; have HQ := n3_; have HY1 := n4_; have HY2 := n5_; clear n0_ n1_ n2_ n3_ n4_ n5_
 have x1_2 := HX.out.cell 1 rfl 2 rfl
 go_upto_region 7 with (go_at_call 35; (with_reducible refine (spec_l14Text.calls kf _ _ l2 addr false _ (Kd.R_reads' HQ.out).2.2 (Kd.R_reads' HQ.out).2.1 HT.out).mono ?_); rintro e w2 ⟨rfl, ⟨nd, rfl⟩⟩; have n0_ := Aside0.mk (HX.out.drewN nd); have n1_ := Aside0.mk (HR.out.below (pw_below_drewN (Below.refl _ _) nd)); have n2_ := Aside0.mk (Kd.R_drewN HA.out nd); have n3_ := Aside0.mk (Kd.R_drewN HQ.out nd); have n4_ := Aside0.mk (Kd.R_drewN HY1.out nd); have n5_ := Aside0.mk (Kd.R_drewN HY2.out nd); clear HX HR HA HQ HY1 HY2 x1_2; have HX := n0_; have HR := n1_; have HA := n2_; have HQ := n3_; have HY1 := n4_; have HY2 := n5_; clear n0_ n1_ n2_ n3_ n4_ n5_; generalize W.drewN nd = w2 at HX HR HA HQ HY1 HY2 ⊢)
 have t1 : decide (t < 0) = true := decide_eq_true HH.out.1
 have t2 : (x.f4 == 0) = false := by simp [HH.out.2.1]
 have x2_4 := HX.out.cell 2 rfl 4 rfl
 go_upto_region 10 with (fail)
 clear x2_4 t2
 have x1_1 := HX.out.cell 1 rfl 1 rfl
 have t2 : ((l1.length : Int) == 6) = false := by simp; have := HH.out.2.2.1; omega
 go_upto_region 14 with (fail)
 clear x1_1 t1 t2
 have x0_1 := HX.out.cell 0 rfl 1 rfl
 have x2_4 := HX.out.cell 2 rfl 4 rfl
 have x2_5 := HX.out.cell 2 rfl 5 rfl
 have x1_4 := True.intro; have x1_5 := True.intro
 go_upto_region 15 with ((with_reducible refine gate_builtin (b := .append) (xs := #[.tmp 58, .tmp 65]) rfl ?_); at_builtin; refine Kd.R_append k39 (w0 := w2) 0 rfl (.tmp 58) (.tmp 65) 24 39 (.agg #[(.string ⟨#[]⟩), (.int .i64 0), (.int .i64 0), (.int .i64 0), (.int .i64 0)]) 48 rfl Try.underlying24 info39 rfl (by decide) (by omega) _ l1 (⟨addr, 1, 3, x.f4, x.f5⟩ : S39) [.string addr, .int .i64 1, .int .i64 3, .int .i64 x.f4, .int .i64 x.f5] _ (fun _ => False) rfl (by (go_simp; done)) (k39_mkM _ _ _ (⟨addr, 1, 3, x.f4, x.f5⟩ : S39)) (fun _ hk => hk.elim) (fun k hk hN => by have := HR.out.lt k hN; omega) HY1.out (Below.refl _ _) (Nat.zero_le _) (by have := HH.out.2.2.1; omega) ?_; intro v1 w3 ho hb hg hat; rw [← HL.out] at ho; obtain ⟨Z1, k3, rfl⟩ := Kd.R_slice ho; have n0_ := Aside0.mk (HX.out.app HY1.out (by simp only [List.nil_append, List.cons_append, List.mem_cons, List.not_mem_nil, or_false]; rintro p (rfl | rfl | rfl | rfl | rfl | rfl) <;> simp) hg (fun k hk => .inr (HYB.out k hk))); have n1_ := Aside0.mk (HR.out.grown hg (fun k hk hN => HY1.out.1 k hk hN)); have n3_ := Aside0.mk (Kd.R_over HQ.out HY1.out (fun q hq => by rw [e9 q hq]; decide) hg); have n5_ := Aside0.mk (Kd.R_over HY2.out HY1.out (fun q hq => by rw [e9 q hq]; decide) hg); clear HX HR HA HQ HY1 HY2 HYB x0_1 x1_4 x1_5 hb hg hat x2_4 x2_5; have HX := n0_; have HR := n1_; have HQ := n3_; have HY1 := Aside0.mk ho; have HY2 := n5_; clear n0_ n1_ n3_ n5_ ho; have x0_1 := HX.out.cell 0 rfl 1 rfl; have f0_1 := HX.out.free 0 rfl 1)
 clear x0_1 f0_1
 have n0_ := Aside0.mk (HX.out.set (P := []) 1 (.slice Z1 L1.length k3) rfl); have n1_ := Aside0.mk (HR.out.set (HX.out.at 0 rfl) (by decide) 1 (.slice Z1 L1.length k3)); have n2_ := Aside0.mk (Kd.R_set HQ.out (HX.out.at 0 rfl) (fun q hq => by rw [e9 q hq]; decide) 1 (.slice Z1 L1.length k3)); have n3_ := Aside0.mk (Kd.R_set HY1.out (HX.out.at 0 rfl) (fun q hq => by rw [e39 q hq]; decide) 1 (.slice Z1 L1.length k3)); have n4_ := Aside0.mk (Kd.R_set HY2.out (HX.out.at 0 rfl) (fun q hq => by rw [e9 q hq]; decide) 1 (.slice Z1 L1.length k3)); clear HX HR HQ HY1 HY2 ; have HX := n0_; have HR := n1_; have HQ := n2_; have HY1 := n3_; have HY2 := n4_; clear n0_ n1_ n2_ n3_ n4_
 generalize w3.setCell ⟨g5, 1, none⟩ _ = w4 at HX HR HQ HY1 HY2 ⊢
 have x3_1 := HX.out.cell 3 rfl 1 rfl
 go_upto_region 16 with ((with_reducible refine gate_builtin (b := .append) (xs := #[.tmp 69, .tmp 71]) rfl ?_); at_builtin; refine Kd.R_append Kd.string (w0 := w4) 0 rfl (.tmp 69) (.tmp 71) 25 9 (.string ⟨#[]⟩) 16 rfl Try.underlying25 info9 rfl (by decide) (by omega) _ m1 addr [.string addr] _ (fun _ => False) rfl (by (go_simp; done)) rfl (fun _ hk => hk.elim) HR.out.fresh1 HR.out.r1 (Below.refl _ _) (Nat.zero_le _) (by have := HH.out.2.2.2; have := HB.out.1; omega) ?_; intro v1 w5 ho hb hg hat; rw [← HM.out] at ho; obtain ⟨Z2, k4, rfl⟩ := Kd.R_slice ho; have n0_ := Aside0.mk (HX.out.app HR.out.r1 (by simp only [List.nil_append, List.cons_append, List.mem_cons, List.not_mem_nil, or_false]; rintro p (rfl | rfl | rfl | rfl | rfl | rfl) <;> simp) hg (fun k hk => .inl (by rw [HN.out]; exact .inl hk.symm))); have n1_ := Aside0.mk (HR.out.app1 ho hg hat); have n3_ := Aside0.mk (R_app (N' := Own4 (.slice Z2 M1.length k4) (.slice B2 n2 d2) (.slice B3 n3 d3) (.slice B4 n4 d4)) HY1.out hg (fun k hk => .inl hk.symm) (fun k hk => own4_1 hat k hk)); have n5_ := Aside0.mk (R_app (N' := Own4 (.slice Z2 M1.length k4) (.slice B2 n2 d2) (.slice B3 n3 d3) (.slice B4 n4 d4)) HY2.out hg (fun k hk => .inl hk.symm) (fun k hk => own4_1 hat k hk)); have n6_ := Aside0.mk (fun k (hk : k < w.heap.size) (hO : Own4 (.slice Z2 M1.length k4) (.slice B2 n2 d2) (.slice B3 n3 d3) (.slice B4 n4 d4) k) => show Own4 (.slice B1 n1 d1) (.slice B2 n2 d2) (.slice B3 n3 d3) (.slice B4 n4 d4) k from (own4_1 hat k hO).elim id (fun hl => absurd hl (by have := HX.out.kept.1; omega))); clear HX HR HQ HY1 HY2 x3_1 hb hg hat; have HX := n0_; have HR := n1_; have HY1 := n3_; have HY2 := n5_; have HO := n6_; clear n0_ n1_ n3_ n5_ n6_ ho; have x3_1 := HX.out.cell 3 rfl 1 rfl; have f3_1 := HX.out.free 3 rfl 1)
 clear x3_1 f3_1
 have n0_ := Aside0.mk (HX.out.set (P := [_, _, _]) 1 (.slice Z2 M1.length k4) rfl); have n1_ := Aside0.mk (HR.out.set (HX.out.at 3 rfl) (by decide) 1 (.slice Z2 M1.length k4)); have n2_ := Aside0.mk (Kd.R_set HY1.out (HX.out.at 3 rfl) (fun q hq => by rw [e39 q hq]; decide) 1 (.slice Z2 M1.length k4)); have n3_ := Aside0.mk (Kd.R_set HY2.out (HX.out.at 3 rfl) (fun q hq => by rw [e9 q hq]; decide) 1 (.slice Z2 M1.length k4)); clear HX HR HY1 HY2 ; have HX := n0_; have HR := n1_; have HY1 := n2_; have HY2 := n3_; clear n0_ n1_ n2_ n3_
 generalize w5.setCell ⟨g2, 1, none⟩ _ = w6 at HX HR HY1 HY2 ⊢
 refine ret2 (p := 10) (q := 5) (r := 6) (s := 7) (d1 := 74) (d2 := 75) rfl (by kernel_rfl) (by kernel_rfl) (by kernel_rfl) (by kernel_rfl) (by kernel_rfl) (fun _ _ _ _ _ h => h) rfl rfl rfl rfl (show (74 : Nat) < 135 by decide) (show (75 : Nat) < 135 by decide) (by decide) (HX.out.at 0 rfl) (HX.out.at 3 rfl) (HX.out.at 4 rfl) (HX.out.at 5 rfl) ?_ (fun w4 bR bS hk hb => ?_)
 ·
  have := HX.out.nd
  simp at this
  omega
 have HP := Aside0.mk (post_done (n := (n + 1)) (link := link) (cd := cd) HR.out (by have := HB.out; rw [HM.out, List.length_append]; simp only [List.length_cons, List.length_nil]; omega) HY1.out HY2.out (by rw [← HN.out]; exact HX.out.kept) HX.out.b0 HO.out (HX.out.at 4 rfl) (HX.out.at 5 rfl) (HX.out.new (_, _, _) (List.mem_of_getElem? (i := 4) rfl)) (HX.out.new (_, _, _) (List.mem_of_getElem? (i := 5) rfl)) hk hb)
 go_wp2
 all_goals exact bodyPost_ret (results_cc rfl _ _ _ _ 27 54 _ _ (0, 0) (0, 0) _ _ rfl bR Try.underlying27 rfl (by kernel_rfl) rfl bS Try.underlying54 rfl (by kernel_rfl)) rfl HP.out
set_option maxHeartbeats 8000000 in
set_option maxRecDepth 100000 in
theorem prefix_known (link : ByteArray) (A1 A2 B1 B2 B3 B4 : Option Addr) (c1 c2 d1 d2 d3 d4 : Nat) (n1 n2 n3 n4 : Nat) (l1 : List S39) (l2 m1 m2 m3 m4 : List ByteArray) (x : S58) (cd : Int) (w : World) (addr : ByteArray) (t : Int) (kf : Nat) (he : spec_l14Eui.f x.f2 link = some addr) (hf : spec_l14Find.f kf l1 addr = some t) (ht : spec_l14Text.f kf l2 addr = some false) (hw : spec_l14Own.f link l1 l2 = some (link, l1, l2))
  (n : Nat) (hn : m1.length ≤ n ∧ m2.length ≤ n ∧ m3.length ≤ n ∧ m4.length ≤ n) (hr : Rows4 w (.slice B1 n1 d1) (.slice B2 n2 d2) (.slice B3 n3 d3) (.slice B4 n4 d4) m1 m2 m3 m4) (ha : AR w (fun k => ¬ Own4 (.slice B1 n1 d1) (.slice B2 n2 d2) (.slice B3 n3 d3) (.slice B4 n4 d4) k) (.slice A1 l1.length c1) l1) (hb : SR w (fun k => ¬ Own4 (.slice B1 n1 d1) (.slice B2 n2 d2) (.slice B3 n3 d3) (.slice B4 n4 d4) k) (.slice A2 l2.length c2) l2) (h1 : 0 ≤ t) (h2 : t < (l1.length : Int)) (h3 : l1.length ≤ 6) (L1 : List S39) (h4 : L1 = l1.set t.toNat (updA x (l1.getD t.toNat z39))) :
  Calls Try.prog 47 #[.agg #[.string link, .slice A1 l1.length c1, .slice A2 l2.length c2], .agg #[.int .i64 x.f0, .int .i64 x.f1, .string x.f2, .string x.f3, .int .i64 x.f4, .int .i64 x.f5], .agg #[.int .i64 cd, .slice B1 n1 d1, .slice B2 n2 d2, .slice B3 n3 d3, .slice B4 n4 d4]] w (Post w (.slice B1 n1 d1) (.slice B2 n2 d2) (.slice B3 n3 d3) (.slice B4 n4 d4) n link L1 l2) := by
 obtain ⟨T, rfl⟩ : ∃ T : Nat, t = (T : Int) := ⟨t.toNat, by omega⟩
 rw [Int.toNat_natCast] at h4
 have HH := Aside0.mk (show T < l1.length ∧ l1.length ≤ 6 by omega)
 have HL := Aside0.mk h4
 clear h1 h2 h3 h4
 have hu27 := Try.underlying27
 have hu54 := Try.underlying54
 have hu58 := Try.underlying58
 have HE := Aside0.mk he
 have HF := Aside0.mk hf
 have HT := Aside0.mk ht
 have HW := Aside0.mk hw
 have HR := Aside0.mk hr
 have HA := Aside0.mk ha
 have HQ := Aside0.mk hb
 have HB := Aside0.mk hn
 clear he hf ht hw hr ha hb hn
 obtain ⟨N, hN⟩ : ∃ N, N = Own4 (.slice B1 n1 d1) (.slice B2 n2 d2) (.slice B3 n3 d3) (.slice B4 n4 d4) := ⟨_, rfl⟩
 have HN := Aside0.mk hN
 clear hN
 go_enter Try.func47, Try.ntmps47
 go_upto_region 1 with (fail)
 refine at_world (fun W hW => ?_)
 obtain ⟨q0, q1, q2, q3, q4, qb, qz⟩ := boxes5 hW
 clear hW
 obtain ⟨g0, e0⟩ : ∃ g, g = w.heap.size := ⟨_, rfl⟩
 obtain ⟨g1, e1⟩ : ∃ g, g = w.heap.size + 1 := ⟨_, rfl⟩
 obtain ⟨g2, e2⟩ : ∃ g, g = w.heap.size + 1 + 1 := ⟨_, rfl⟩
 obtain ⟨g3, e3⟩ : ∃ g, g = w.heap.size + 1 + 1 + 1 := ⟨_, rfl⟩
 obtain ⟨g4, e4⟩ : ∃ g, g = w.heap.size + 1 + 1 + 1 + 1 := ⟨_, rfl⟩
 simp only [← e4]; simp only [← e3]; simp only [← e2]; simp only [← e1]; simp only [← e0]
 rw [← e4] at q4; rw [← e3] at q3; rw [← e2] at q2; rw [← e1] at q1; rw [← e0] at q0
 have HX := Aside0.mk (HS.start5 (N := N) qb q0 q1 q2 q3 q4 (by omega))
 replace HR := Aside0.mk (HR.out.below qb)
 replace HA := Aside0.mk (Kd.R_below HA.out qb)
 replace HQ := Aside0.mk (Kd.R_below HQ.out qb)
 clear q0 q1 q2 q3 q4 qb qz e0 e1 e2 e3 e4
 have x0_0 := HX.out.cell 0 rfl 0 rfl
 have x1_2 := HX.out.cell 1 rfl 2 rfl
 go_upto_region 2 with (go_at_call 60; (with_reducible refine (spec_l14Eui.calls _ _ addr _ HE.out).mono ?_); rintro e w1 ⟨rfl, hb⟩; have n0_ := Aside0.mk (HX.out.below hb); have n1_ := Aside0.mk (HR.out.below hb); have n2_ := Aside0.mk (Kd.R_below HA.out hb); have n3_ := Aside0.mk (Kd.R_below HQ.out hb); clear HX HR HA HQ hb x0_0 x1_2; have HX := n0_; have HR := n1_; have HA := n2_; have HQ := n3_; clear n0_ n1_ n2_ n3_)
 have x0_1 := HX.out.cell 0 rfl 1 rfl
 go_upto_region 3 with (go_at_call 36; (with_reducible refine (spec_l14Find.calls kf _ _ l1 addr T _ (Kd.R_reads' HA.out).2.2 (Kd.R_reads' HA.out).2.1 HF.out).mono ?_); rintro e w2 ⟨rfl, ⟨nd, rfl⟩⟩; have n0_ := Aside0.mk (HX.out.drewN nd); have n1_ := Aside0.mk (HR.out.below (pw_below_drewN (Below.refl _ _) nd)); have n2_ := Aside0.mk (Kd.R_drewN HA.out nd); have n3_ := Aside0.mk (Kd.R_drewN HQ.out nd); clear HX HR HA HQ x0_1; have HX := n0_; have HR := n1_; have HA := n2_; have HQ := n3_; clear n0_ n1_ n2_ n3_; generalize w1.drewN nd = w2 at HX HR HA HQ ⊢)
 have x0_0 := HX.out.cell 0 rfl 0 rfl
 have x0_1 := HX.out.cell 0 rfl 1 rfl
 have x0_2 := HX.out.cell 0 rfl 2 rfl
 go_upto_region 4 with (go_at_call 23; (with_reducible refine (spec_l14Own.calls link _ _ l1 _ _ l2 link l1 l2 _ (Kd.R_reads' HA.out).2.2 (Kd.R_reads' HA.out).2.1 (Kd.R_reads' HQ.out).2.2 (Kd.R_reads' HQ.out).2.1 HW.out).mono ?_); rintro e w3 ⟨y1, y2, rfl, hy1, hy2, hb⟩; obtain ⟨Y1, k1, rfl⟩ := Kd.R_slice hy1; obtain ⟨Y2, k2, rfl⟩ := Kd.R_slice hy2; have n0_ := Aside0.mk (HX.out.below hb); have n1_ := Aside0.mk (HR.out.below hb); have n2_ := Aside0.mk (Kd.R_below HA.out hb); have n3_ := Aside0.mk (Kd.R_below HQ.out hb); have HYB := Aside0.mk (fun k hk => Nat.le_trans HX.out.kept.1 (Kd.R_base hy1 k hk)); have HY1 := Aside0.mk (R_newN hy1 (fun k hk => (HR.out.lt k hk))); have HY2 := Aside0.mk (R_newN hy2 (fun k hk => (HR.out.lt k hk))); clear HX HR HA HQ hb x0_0 x0_1 x0_2 hy1 hy2; have HX := n0_; have HR := n1_; have HA := n2_; have HQ := n3_; clear n0_ n1_ n2_ n3_)
 refine at_world (fun W hW => ?_)
 have hb := below_alloc (Below.refl w3.heap.size w3) (Obj.cells #[.string link, .slice Y1 l1.length k1, .slice Y2 l2.length k2] 27)
 rw [← hW] at hb
 obtain ⟨g5, e5⟩ : ∃ g, g = w3.heap.size := ⟨_, rfl⟩
 have n0_ := Aside0.mk (HX.out.add (g := g5) (t := 27) (cs := #[.string link, .slice Y1 l1.length k1, .slice Y2 l2.length k2]) hb (by rw [hW, e5]; exact blk_new _ _) (by omega)); have n1_ := Aside0.mk (HR.out.below hb); have n2_ := Aside0.mk (Kd.R_below HA.out hb); have n3_ := Aside0.mk (Kd.R_below HQ.out hb); have n4_ := Aside0.mk (Kd.R_below HY1.out hb); have n5_ := Aside0.mk (Kd.R_below HY2.out hb); simp only [← e5]; clear HX HR HA HQ HY1 HY2 hb hW e5; have HX := n0_; have HR := n1_; have HA := n2_; have HQ := n3_; have HY1 := n4_; have HY2 := n5_; clear n0_ n1_ n2_ n3_ n4_ n5_
 have x1_2 := HX.out.cell 1 rfl 2 rfl
 go_upto_region 7 with (go_at_call 35; (with_reducible refine (spec_l14Text.calls kf _ _ l2 addr false _ (Kd.R_reads' HQ.out).2.2 (Kd.R_reads' HQ.out).2.1 HT.out).mono ?_); rintro e w2 ⟨rfl, ⟨nd, rfl⟩⟩; have n0_ := Aside0.mk (HX.out.drewN nd); have n1_ := Aside0.mk (HR.out.below (pw_below_drewN (Below.refl _ _) nd)); have n2_ := Aside0.mk (Kd.R_drewN HA.out nd); have n3_ := Aside0.mk (Kd.R_drewN HQ.out nd); have n4_ := Aside0.mk (Kd.R_drewN HY1.out nd); have n5_ := Aside0.mk (Kd.R_drewN HY2.out nd); clear HX HR HA HQ HY1 HY2 x1_2; have HX := n0_; have HR := n1_; have HA := n2_; have HQ := n3_; have HY1 := n4_; have HY2 := n5_; clear n0_ n1_ n2_ n3_ n4_ n5_; generalize W.drewN nd = w2 at HX HR HA HQ HY1 HY2 ⊢)
 have t1 : decide ((T : Int) < 0) = false := decide_eq_false (by omega)
 go_upto_region 17 with (fail)
 clear t1 HA HQ
 obtain ⟨gy, cap, e_, hge_, hlt_, cur, hq_⟩ := Kd.R_form HY1.out (by have := HH.out; omega)
 injection e_ with e1 e2 e3
 subst e1 e3
 have HGY := Aside0.mk (HYB.out gy rfl)
 clear hge_ hlt_ hq_ e2 HYB cur
 have x0_1 := HX.out.cell 0 rfl 1 rfl
 have t1 : (0 : Int) ≤ (T : Int) := by omega
 have t2 : ((T : Int) < (l1.length : Int)) := by have := HH.out; omega
 go_upto_region 18 with (fail)
 clear x0_1 t1 t2
 obtain ⟨y, hy⟩ : ∃ y, y = l1.getD T z39 := ⟨_, rfl⟩
 rw [← hy] at HL
 have n0_ := HY1.out
 rw [← set_self l1 T HH.out.1, ← hy, List.length_set] at n0_
 clear HY1 hy
 have HY1 := Aside0.mk n0_
 clear n0_
 have hE := R_elt2 HY1.out HH.out.1
 obtain ⟨⟨cur_, y_b⟩, y_f, y_0, y_1, y_2, y_3, y_4⟩ := hE
 have HYB := Aside0.mk y_b
 clear y_b
 have x2_4 := HX.out.cell 2 rfl 4 rfl
 have HV0 : ∃ v, v = (if 7200 < x.f4 ∨ y.f3 < x.f4 then x.f4 else if 7200 < y.f3 then 7200 else y.f3) := ⟨_, rfl⟩
 obtain ⟨v, hv⟩ := HV0
 have HV0 := Aside0.mk hv
 rcases vcases _ _ _ hv with ⟨p2, hv⟩ | ⟨p2, p4, hv⟩ | ⟨p2, p4, p6, hv⟩ | ⟨p2, p4, p6, hv⟩
 all_goals
  have HV := Aside0.mk hv
  clear hv
  go_quiet (fail)
  clear x2_4 y_f y_0 y_1 y_2 y_3 y_4 p2
  refine at_then (fun W_ hW_ => ?_)
  subst hW_
  have n9_ := HYB.out
  have n0_ := Aside0.mk (HX.out.drewN nq); have n1_ := Aside0.mk (HR.out.below (pw_below_drewN (Below.refl _ _) nq)); have n2_ := Aside0.mk (Kd.R_drewN HY1.out nq); have n3_ := Aside0.mk (Kd.R_drewN HY2.out nq); clear HX HR HY1 HY2 ; have HX := n0_; have HR := n1_; have HY1 := n2_; have HY2 := n3_; clear n0_ n1_ n2_ n3_
  clear n9_ HYB
  generalize World.drewN _ nq = w3 at HX HR HY1 HY2 ⊢
  have hE := R_elt2 HY1.out HH.out.1
  obtain ⟨⟨cur_, y_b⟩, y_f, y_0, y_1, y_2, y_3, y_4⟩ := hE
  have HYB := Aside0.mk y_b
  clear y_b
  have x2_4 := HX.out.cell 2 rfl 4 rfl
  go_upto_region 22 with (fail)
  clear x2_4
  clear y_f y_0 y_1 y_2 y_3 y_4
 rotate_right 1
 obtain ⟨y1, hy1⟩ : ∃ y1 : S39, y1 = ⟨y.f0, y.f1, y.f2, v, y.f4⟩ := ⟨_, rfl⟩
 have n2_ := Aside0.mk (show Kd.R k39 39 w3 0 (fun k => ¬ Own4 (.slice B1 n1 d1) (.slice B2 n2 d2) (.slice B3 n3 d3) (.slice B4 n4 d4) k) (.slice (some ⟨gy, 0, none⟩) l1.length k1) (l1.set T y1) from by rw [hy1, HV.out]; exact HY1.out)
 have HYV := Aside0.mk hy1
 clear hy1 HY1 HYB cur_
 have HY1 := n2_
 clear n2_
 generalize w3 = w4 at HX HR HY1 HY2 ⊢
 rotate_left 1
 obtain ⟨y1, hy1⟩ : ∃ y1 : S39, y1 = ⟨y.f0, y.f1, y.f2, v, y.f4⟩ := ⟨_, rfl⟩
 have n0_ := Aside0.mk (HX.out.put HYB.out HGY.out (by simp only [List.nil_append, List.cons_append, List.mem_cons, List.not_mem_nil, or_false]; rintro p (rfl | rfl | rfl | rfl | rfl | rfl) <;> simp) (T * 5 + 3) (.int .i64 x.f4))
 have n1_ := Aside0.mk (HR.out.set HYB.out (by decide) (T * 5 + 3) (.int .i64 x.f4))
 have n2_ := Aside0.mk (R_fld2 HY1.out HH.out.1 3 y1 (u := (.int .i64 x.f4)) (by decide) (by rw [hy1, HV.out]; rfl))
 have n3_ := Aside0.mk (Kd.R_set HY2.out HYB.out (fun q hq => by rw [e9 q hq]; decide) (T * 5 + 3) (.int .i64 x.f4))
 clear HX HR HY1 HY2 HYB cur_
 have HX := n0_
 have HR := n1_
 have HY1 := n2_
 have HY2 := n3_
 clear n0_ n1_ n2_ n3_
 have HYV := Aside0.mk hy1
 clear hy1
 generalize World.setCell w3 _ _ = w4 at HX HR HY1 HY2 ⊢
 rotate_left 1
 obtain ⟨y1, hy1⟩ : ∃ y1 : S39, y1 = ⟨y.f0, y.f1, y.f2, v, y.f4⟩ := ⟨_, rfl⟩
 have n0_ := Aside0.mk (HX.out.put HYB.out HGY.out (by simp only [List.nil_append, List.cons_append, List.mem_cons, List.not_mem_nil, or_false]; rintro p (rfl | rfl | rfl | rfl | rfl | rfl) <;> simp) (T * 5 + 3) (.int .i64 x.f4))
 have n1_ := Aside0.mk (HR.out.set HYB.out (by decide) (T * 5 + 3) (.int .i64 x.f4))
 have n2_ := Aside0.mk (R_fld2 HY1.out HH.out.1 3 y1 (u := (.int .i64 x.f4)) (by decide) (by rw [hy1, HV.out]; rfl))
 have n3_ := Aside0.mk (Kd.R_set HY2.out HYB.out (fun q hq => by rw [e9 q hq]; decide) (T * 5 + 3) (.int .i64 x.f4))
 clear HX HR HY1 HY2 HYB cur_
 have HX := n0_
 have HR := n1_
 have HY1 := n2_
 have HY2 := n3_
 clear n0_ n1_ n2_ n3_
 have HYV := Aside0.mk hy1
 clear hy1
 generalize World.setCell w3 _ _ = w4 at HX HR HY1 HY2 ⊢
 rotate_left 1
 obtain ⟨y1, hy1⟩ : ∃ y1 : S39, y1 = ⟨y.f0, y.f1, y.f2, v, y.f4⟩ := ⟨_, rfl⟩
 have n0_ := Aside0.mk (HX.out.put HYB.out HGY.out (by simp only [List.nil_append, List.cons_append, List.mem_cons, List.not_mem_nil, or_false]; rintro p (rfl | rfl | rfl | rfl | rfl | rfl) <;> simp) (T * 5 + 3) (.int .i64 7200))
 have n1_ := Aside0.mk (HR.out.set HYB.out (by decide) (T * 5 + 3) (.int .i64 7200))
 have n2_ := Aside0.mk (R_fld2 HY1.out HH.out.1 3 y1 (u := (.int .i64 7200)) (by decide) (by rw [hy1, HV.out]; rfl))
 have n3_ := Aside0.mk (Kd.R_set HY2.out HYB.out (fun q hq => by rw [e9 q hq]; decide) (T * 5 + 3) (.int .i64 7200))
 clear HX HR HY1 HY2 HYB cur_
 have HX := n0_
 have HR := n1_
 have HY1 := n2_
 have HY2 := n3_
 clear n0_ n1_ n2_ n3_
 have HYV := Aside0.mk hy1
 clear hy1
 generalize World.setCell w3 _ _ = w4 at HX HR HY1 HY2 ⊢
 all_goals
  clear HV
  have hE := R_elt2 HY1.out HH.out.1
  obtain ⟨⟨cur_, y_b⟩, y_f, y_0, y_1, y_2, y_3, y_4⟩ := hE
  have HYB := Aside0.mk y_b
  clear y_b
  have x2_5 := HX.out.cell 2 rfl 5 rfl
  go_still_tail 10, (by kernel_rfl)
  go_upto_region 23 with (fail)
  refine at_world (fun W hW => ?_)
  obtain ⟨p, hp⟩ : ∃ p, p = (if y1.f3 < x.f5 then y1.f3 else x.f5) := ⟨_, rfl⟩
  rw [← hp] at hW
  have HP0 := Aside0.mk hp
  clear hp x2_5
  clear y_f y_0 y_1 y_2 y_3 y_4
  obtain ⟨y2, hy2⟩ : ∃ y2 : S39, y2 = ⟨y1.f0, y1.f1, y1.f2, y1.f3, p⟩ := ⟨_, rfl⟩
  have n0_ := Aside0.mk (HX.out.put HYB.out HGY.out (by simp only [List.nil_append, List.cons_append, List.mem_cons, List.not_mem_nil, or_false]; rintro p (rfl | rfl | rfl | rfl | rfl | rfl) <;> simp) (T * 5 + 4) (.int .i64 p))
  have n1_ := Aside0.mk (HR.out.set HYB.out (by decide) (T * 5 + 4) (.int .i64 p))
  have n2_ := Aside0.mk (R_fld2 HY1.out HH.out.1 4 y2 (u := (.int .i64 p)) (by decide) (by rw [hy2]; rfl))
  have n3_ := Aside0.mk (Kd.R_set HY2.out HYB.out (fun q hq => by rw [e9 q hq]; decide) (T * 5 + 4) (.int .i64 p))
  clear HX HR HY1 HY2 HYB cur_
  have HX := n0_
  have HR := n1_
  have HY1 := n2_
  have HY2 := n3_
  clear n0_ n1_ n2_ n3_
  have HY2V := Aside0.mk hy2
  clear hy2
  subst hW
  have n0_ := Aside0.mk (HX.out.drew); have n1_ := Aside0.mk (HR.out.below (below_drew1 (Below.refl _ _))); have n2_ := Aside0.mk (Kd.R_drew HY1.out); have n3_ := Aside0.mk (Kd.R_drew HY2.out); clear HX HR HY1 HY2 ; have HX := n0_; have HR := n1_; have HY1 := n2_; have HY2 := n3_; clear n0_ n1_ n2_ n3_
  generalize World.drew _ = w5 at HX HR HY1 HY2 ⊢
  have hE := R_elt2 HY1.out HH.out.1
  obtain ⟨⟨cur_, y_b⟩, y_f, y_0, y_1, y_2, y_3, y_4⟩ := hE
  have HYB := Aside0.mk y_b
  clear y_b
  have e1 : y2.f1 = y1.f1 := by rw [HY2V.out]
  have e4 : y2.f4 = p := by rw [HY2V.out]
  rw [e1] at y_1; rw [e4] at y_4
  clear e1 e4
  rcases Classical.em (y1.f1 = 1) with p7 | p7
  ·
   have p8 : (y1.f1 == 1) = true := by simp [p7]
   have HZ := Aside0.mk (show y2 = updA x y from by rw [HY2V.out]; show (⟨y1.f0, y1.f1, y1.f2, y1.f3, p⟩ : S39) = updA x y; exact upd_same HV0.out HYV.out HP0.out p7)
   clear p7
   go_upto_region 27 with (fail)
   clear p8 HYB cur_
   clear y_f y_0 y_1 y_2 y_3 y_4
   rw [show l1.set T y2 = L1 by rw [HL.out, ← HZ.out]] at HY1
   refine ret2 (p := 10) (q := 5) (r := 6) (s := 7) (d1 := 133) (d2 := 134) rfl (by kernel_rfl) (by kernel_rfl) (by kernel_rfl) (by kernel_rfl) (by kernel_rfl) (fun _ _ _ _ _ h => h) rfl rfl rfl rfl (show (133 : Nat) < 135 by decide) (show (134 : Nat) < 135 by decide) (by decide) (HX.out.at 0 rfl) (HX.out.at 3 rfl) (HX.out.at 4 rfl) (HX.out.at 5 rfl) ?_ (fun w4 bR bS hk hb => ?_)
   ·
    have := HX.out.nd
    simp at this
    omega
   have HP := Aside0.mk (post_done (n := n) (link := link) (cd := cd) HR.out HB.out HY1.out HY2.out (by rw [← HN.out]; exact HX.out.kept) HX.out.b0 (fun k _ h => h) (HX.out.at 4 rfl) (HX.out.at 5 rfl) (HX.out.new (_, _, _) (List.mem_of_getElem? (i := 4) rfl)) (HX.out.new (_, _, _) (List.mem_of_getElem? (i := 5) rfl)) hk hb)
   go_wp2
   all_goals exact bodyPost_ret (results_cc rfl _ _ _ _ 27 54 _ _ (0, 0) (0, 0) _ _ rfl bR Try.underlying27 rfl (by kernel_rfl) rfl bS Try.underlying54 rfl (by kernel_rfl)) rfl HP.out
  have p8 : (y1.f1 == 1) = false := by simp [p7]
  go_upto_region 25 with (fail)
  clear p8
  clear y_f y_0 y_1 y_2 y_3 y_4
  obtain ⟨y3, hy3⟩ : ∃ y3 : S39, y3 = ⟨y2.f0, 2, y2.f2, y2.f3, y2.f4⟩ := ⟨_, rfl⟩
  have n0_ := Aside0.mk (HX.out.put HYB.out HGY.out (by simp only [List.nil_append, List.cons_append, List.mem_cons, List.not_mem_nil, or_false]; rintro p (rfl | rfl | rfl | rfl | rfl | rfl) <;> simp) (T * 5 + 1) (.int .i64 2))
  have n1_ := Aside0.mk (HR.out.set HYB.out (by decide) (T * 5 + 1) (.int .i64 2))
  have n2_ := Aside0.mk (R_fld2 HY1.out HH.out.1 1 y3 (u := (.int .i64 2)) (by decide) (by rw [hy3]; rfl))
  have n3_ := Aside0.mk (Kd.R_set HY2.out HYB.out (fun q hq => by rw [e9 q hq]; decide) (T * 5 + 1) (.int .i64 2))
  clear HX HR HY1 HY2 HYB cur_
  have HX := n0_
  have HR := n1_
  have HY1 := n2_
  have HY2 := n3_
  clear n0_ n1_ n2_ n3_
  have HY3V := Aside0.mk hy3
  clear hy3
  generalize World.setCell w5 _ _ = w6 at HX HR HY1 HY2 ⊢
  have hE := R_elt2 HY1.out HH.out.1
  obtain ⟨⟨cur_, y_b⟩, y_f, y_0, y_1, y_2, y_3, y_4⟩ := hE
  have HYB := Aside0.mk y_b
  clear y_b
  have e4 : y3.f4 = p := by rw [HY3V.out, HY2V.out]
  rw [e4] at y_4
  clear e4
  rcases Classical.em (p = 0) with p9 | p9
  ·
   have pa : (p == 0) = true := by simp [p9]
   obtain ⟨y4, hy4⟩ : ∃ y4 : S39, y4 = ⟨y3.f0, 3, y3.f2, y3.f3, y3.f4⟩ := ⟨_, rfl⟩
   have HZ := Aside0.mk (show y4 = updA x y from by rw [hy4, HY3V.out, HY2V.out]; show (⟨y1.f0, 3, y1.f2, y1.f3, p⟩ : S39) = updA x y; exact upd_old HV0.out HYV.out HP0.out p7 p9)
   clear p7 p9
   go_upto_region 27 with (fail)
   clear pa
   clear y_f y_0 y_1 y_2 y_3 y_4
   have n0_ := Aside0.mk (HX.out.put HYB.out HGY.out (by simp only [List.nil_append, List.cons_append, List.mem_cons, List.not_mem_nil, or_false]; rintro p (rfl | rfl | rfl | rfl | rfl | rfl) <;> simp) (T * 5 + 1) (.int .i64 3))
   have n1_ := Aside0.mk (HR.out.set HYB.out (by decide) (T * 5 + 1) (.int .i64 3))
   have n2_ := Aside0.mk (R_fld2 HY1.out HH.out.1 1 y4 (u := (.int .i64 3)) (by decide) (by rw [hy4]; rfl))
   have n3_ := Aside0.mk (Kd.R_set HY2.out HYB.out (fun q hq => by rw [e9 q hq]; decide) (T * 5 + 1) (.int .i64 3))
   clear HX HR HY1 HY2 HYB cur_
   have HX := n0_
   have HR := n1_
   have HY1 := n2_
   have HY2 := n3_
   clear n0_ n1_ n2_ n3_
   clear hy4
   generalize World.setCell w6 _ _ = w7 at HX HR HY1 HY2 ⊢
   rw [show l1.set T y4 = L1 by rw [HL.out, ← HZ.out]] at HY1
   refine ret2 (p := 10) (q := 5) (r := 6) (s := 7) (d1 := 133) (d2 := 134) rfl (by kernel_rfl) (by kernel_rfl) (by kernel_rfl) (by kernel_rfl) (by kernel_rfl) (fun _ _ _ _ _ h => h) rfl rfl rfl rfl (show (133 : Nat) < 135 by decide) (show (134 : Nat) < 135 by decide) (by decide) (HX.out.at 0 rfl) (HX.out.at 3 rfl) (HX.out.at 4 rfl) (HX.out.at 5 rfl) ?_ (fun w4 bR bS hk hb => ?_)
   ·
    have := HX.out.nd
    simp at this
    omega
   have HP := Aside0.mk (post_done (n := n) (link := link) (cd := cd) HR.out HB.out HY1.out HY2.out (by rw [← HN.out]; exact HX.out.kept) HX.out.b0 (fun k _ h => h) (HX.out.at 4 rfl) (HX.out.at 5 rfl) (HX.out.new (_, _, _) (List.mem_of_getElem? (i := 4) rfl)) (HX.out.new (_, _, _) (List.mem_of_getElem? (i := 5) rfl)) hk hb)
   go_wp2
   all_goals exact bodyPost_ret (results_cc rfl _ _ _ _ 27 54 _ _ (0, 0) (0, 0) _ _ rfl bR Try.underlying27 rfl (by kernel_rfl) rfl bS Try.underlying54 rfl (by kernel_rfl)) rfl HP.out
  ·
   have pa : (p == 0) = false := by simp [p9]
   have HZ := Aside0.mk (show y3 = updA x y from by rw [HY3V.out, HY2V.out]; show (⟨y1.f0, 2, y1.f2, y1.f3, p⟩ : S39) = updA x y; exact upd_good HV0.out HYV.out HP0.out p7 p9)
   clear p7 p9
   go_upto_region 27 with (fail)
   clear pa HYB cur_
   clear y_f y_0 y_1 y_2 y_3 y_4
   rw [show l1.set T y3 = L1 by rw [HL.out, ← HZ.out]] at HY1
   refine ret2 (p := 10) (q := 5) (r := 6) (s := 7) (d1 := 133) (d2 := 134) rfl (by kernel_rfl) (by kernel_rfl) (by kernel_rfl) (by kernel_rfl) (by kernel_rfl) (fun _ _ _ _ _ h => h) rfl rfl rfl rfl (show (133 : Nat) < 135 by decide) (show (134 : Nat) < 135 by decide) (by decide) (HX.out.at 0 rfl) (HX.out.at 3 rfl) (HX.out.at 4 rfl) (HX.out.at 5 rfl) ?_ (fun w4 bR bS hk hb => ?_)
   ·
    have := HX.out.nd
    simp at this
    omega
   have HP := Aside0.mk (post_done (n := n) (link := link) (cd := cd) HR.out HB.out HY1.out HY2.out (by rw [← HN.out]; exact HX.out.kept) HX.out.b0 (fun k _ h => h) (HX.out.at 4 rfl) (HX.out.at 5 rfl) (HX.out.new (_, _, _) (List.mem_of_getElem? (i := 4) rfl)) (HX.out.new (_, _, _) (List.mem_of_getElem? (i := 5) rfl)) hk hb)
   go_wp2
   all_goals exact bodyPost_ret (results_cc rfl _ _ _ _ 27 54 _ _ (0, 0) (0, 0) _ _ rfl bR Try.underlying27 rfl (by kernel_rfl) rfl bS Try.underlying54 rfl (by kernel_rfl)) rfl HP.out
end Go.Proofs.Ytnpbnmhbajiefaa.PFnSources
