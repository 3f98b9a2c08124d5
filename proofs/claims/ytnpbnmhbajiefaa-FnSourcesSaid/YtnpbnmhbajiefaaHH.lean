/- spec.l14Heard, by hand. -/
import Derived.Test.YtnpbnmhbajiefaaHD
import Derived.Test.YtnpbnmhbajiefaaHL
namespace Go.Proofs.Ytnpbnmhbajiefaa.PFnSources
open Go.RowKit Go.Proofs.YtnpbnmhbajiefaaW.PrintWords Go.Proofs.YtnpbnmhbajiefaaW.PrintLast Go.Proofs.YtnpbnmhbajiefaaW.PrintMore
set_option linter.unusedVariables false
set_option linter.unusedSimpArgs false
def spec_l14Heard.T9 : Bool × List (List Nat × List Nat) := (true, [([], []), ([], []), ([1], [1]), ([], []), ([2, 3], [2, 3]), ([0, 4], [0, 4]), ([], []), ([6], [6]), ([], []), ([8], [8]), ([7, 9], [7, 9]), ([5, 10, 5], [5, 10]), ([0, 1, 2, 3, 4, 5, 6, 7, 8, 9, 10, 11], []), ([12, 11, 11, 0, 1, 2, 3, 4, 5, 6, 7, 8, 9, 10, 11], [11, 12])])
def spec_l14Heard.B9 : List Nat := [0, 0, 2, 0, 14, 31, 0, 64, 0, 256, 960, 2047, 4095, 8191]
theorem spec_l14Heard.tab9 : rtab .any (opsOf Try.f49 9) = spec_l14Heard.T9 := by kernel_rfl
theorem spec_l14Heard.bits9 : waitsOk spec_l14Heard.T9.2 spec_l14Heard.B9 = true := by kernel_rfl
set_option maxHeartbeats 8000000 in
set_option maxRecDepth 100000 in
theorem heard_none (link addr : ByteArray) (A1 A2 B1 B2 B3 B4 : Option Addr) (c1 c2 d1 d2 d3 d4 : Nat) (n1 n2 n3 n4 : Nat) (l1 : List S39) (l2 m1 m2 m3 m4 : List ByteArray) (cd : Int) (w : World) (t : Int) (kf : Nat) (hf : spec_l14Find.f kf l1 addr = some t)
  (n : Nat) (hn : m1.length ≤ n ∧ m2.length ≤ n ∧ m3.length ≤ n ∧ m4.length ≤ n) (hn2 : n ≤ 10000000) (hr : Rows4 w (.slice B1 n1 d1) (.slice B2 n2 d2) (.slice B3 n3 d3) (.slice B4 n4 d4) m1 m2 m3 m4) (ha : AR w (fun k => ¬ Own4 (.slice B1 n1 d1) (.slice B2 n2 d2) (.slice B3 n3 d3) (.slice B4 n4 d4) k) (.slice A1 l1.length c1) l1) (hb : SR w (fun k => ¬ Own4 (.slice B1 n1 d1) (.slice B2 n2 d2) (.slice B3 n3 d3) (.slice B4 n4 d4) k) (.slice A2 l2.length c2) l2) (h1 : t < 0) :
  Calls Try.prog 49 #[.agg #[.string link, .slice A1 l1.length c1, .slice A2 l2.length c2], .string addr, .agg #[.int .i64 cd, .slice B1 n1 d1, .slice B2 n2 d2, .slice B3 n3 d3, .slice B4 n4 d4]] w (Post w (.slice B1 n1 d1) (.slice B2 n2 d2) (.slice B3 n3 d3) (.slice B4 n4 d4) n link l1 l2) := by
 have HH := Aside0.mk h1
 clear h1
 have hu27 := Try.underlying27
 have hu54 := Try.underlying54
 have hu39 := Try.underlying39
 have HF := Aside0.mk hf
 have HB := Aside0.mk hn
 have HB2 := Aside0.mk hn2
 have HR := Aside0.mk hr
 have HA := Aside0.mk ha
 have HQ := Aside0.mk hb
 clear hf hn hn2 hr ha hb
 obtain ⟨N, hN⟩ : ∃ N, N = Own4 (.slice B1 n1 d1) (.slice B2 n2 d2) (.slice B3 n3 d3) (.slice B4 n4 d4) := ⟨_, rfl⟩
 have HN := Aside0.mk hN
 clear hN
 go_enter Try.func49, Try.ntmps49
 go_upto_region 1 with (fail)
 refine at_world (fun W hW => ?_)
 obtain ⟨q0, q1, q2, q3, qb, qz⟩ := boxes4 hW
 clear hW
 obtain ⟨g0, e0⟩ : ∃ g, g = w.heap.size := ⟨_, rfl⟩
 obtain ⟨g1, e1⟩ : ∃ g, g = w.heap.size + 1 := ⟨_, rfl⟩
 obtain ⟨g2, e2⟩ : ∃ g, g = w.heap.size + 1 + 1 := ⟨_, rfl⟩
 obtain ⟨g3, e3⟩ : ∃ g, g = w.heap.size + 1 + 1 + 1 := ⟨_, rfl⟩
 simp only [← e3]; simp only [← e2]; simp only [← e1]; simp only [← e0]
 rw [← e3] at q3; rw [← e2] at q2; rw [← e1] at q1; rw [← e0] at q0
 have HX := Aside0.mk (HS.start4 (N := N) qb q0 q1 q2 q3 (by omega))
 replace HR := Aside0.mk (HR.out.below qb)
 replace HA := Aside0.mk (Kd.R_below HA.out qb)
 replace HQ := Aside0.mk (Kd.R_below HQ.out qb)
 clear q0 q1 q2 q3 qb qz e0 e1 e2 e3
 have x0_1 := HX.out.cell 0 rfl 1 rfl
 go_upto_region 2 with (go_at_call 36; (with_reducible refine (spec_l14Find.calls kf _ _ l1 addr t _ (Kd.R_reads' HA.out).2.2 (Kd.R_reads' HA.out).2.1 HF.out).mono ?_); rintro e w2 ⟨rfl, ⟨nd, rfl⟩⟩; have n0_ := Aside0.mk (HX.out.drewN nd); have n1_ := Aside0.mk (HR.out.below (pw_below_drewN (Below.refl _ _) nd)); have n2_ := Aside0.mk (Kd.R_drewN HA.out nd); have n3_ := Aside0.mk (Kd.R_drewN HQ.out nd); clear HX HR HA HQ x0_1; have HX := n0_; have HR := n1_; have HA := n2_; have HQ := n3_; clear n0_ n1_ n2_ n3_; generalize W.drewN nd = w2 at HX HR HA HQ ⊢)
 have t1 : decide (t < 0) = true := decide_eq_true HH.out
 go_upto_region 3 with (fail)
 clear t1
 have x1_0 := HX.out.cell 1 rfl 0 rfl
 have f1_0 := HX.out.free 1 rfl 0
 go_upto_region 4 with (fail)
 have n0_ := Aside0.mk (HX.out.set (P := [_]) 0 (.int .i64 5) rfl); have n1_ := Aside0.mk (HR.out.set (HX.out.at 1 rfl) (by decide) 0 (.int .i64 5)); have n2_ := Aside0.mk (Kd.R_set HA.out (HX.out.at 1 rfl) (fun q hq => by rw [e39 q hq]; decide) 0 (.int .i64 5)); have n3_ := Aside0.mk (Kd.R_set HQ.out (HX.out.at 1 rfl) (fun q hq => by rw [e9 q hq]; decide) 0 (.int .i64 5)); clear HX HR HA HQ x1_0 f1_0; have HX := n0_; have HR := n1_; have HA := n2_; have HQ := n3_; clear n0_ n1_ n2_ n3_
 generalize w2.setCell ⟨g1, 0, none⟩ (.int .i64 5) = w3 at HX HR HA HQ ⊢
 refine ret2 (p := 3) (q := 5) (r := 6) (s := 7) (d1 := 17) (d2 := 18) rfl (by kernel_rfl) (by kernel_rfl) (by kernel_rfl) (by kernel_rfl) (by kernel_rfl) (fun _ _ _ _ _ h => h) rfl rfl rfl rfl (show (17 : Nat) < 62 by decide) (show (18 : Nat) < 62 by decide) (by decide) (HX.out.at 0 rfl) (HX.out.at 1 rfl) (HX.out.at 2 rfl) (HX.out.at 3 rfl) ?_ (fun w4 bR bS hk hb => ?_)
 ·
  have := HX.out.nd
  simp at this
  omega
 have HP := Aside0.mk (post_done (n := n) (link := link) (cd := 5) HR.out HB.out HA.out HQ.out (by rw [← HN.out]; exact HX.out.kept) HX.out.b0 (fun k _ h => h) (HX.out.at 2 rfl) (HX.out.at 3 rfl) (HX.out.new (_, _, _) (List.mem_of_getElem? (i := 2) rfl)) (HX.out.new (_, _, _) (List.mem_of_getElem? (i := 3) rfl)) hk hb)
 go_wp2
 all_goals exact bodyPost_ret (results_cc rfl _ _ _ _ 27 54 _ _ (0, 0) (0, 0) _ _ rfl bR Try.underlying27 rfl (by kernel_rfl) rfl bS Try.underlying54 rfl (by kernel_rfl)) rfl HP.out
set_option maxHeartbeats 8000000 in
set_option maxRecDepth 100000 in
theorem heard_again (link addr : ByteArray) (A1 A2 B1 B2 B3 B4 : Option Addr) (c1 c2 d1 d2 d3 d4 : Nat) (n1 n2 n3 n4 : Nat) (l1 : List S39) (l2 m1 m2 m3 m4 : List ByteArray) (cd : Int) (w : World) (t : Int) (kf : Nat) (hf : spec_l14Find.f kf l1 addr = some t)
  (n : Nat) (hn : m1.length ≤ n ∧ m2.length ≤ n ∧ m3.length ≤ n ∧ m4.length ≤ n) (hn2 : n ≤ 10000000) (hr : Rows4 w (.slice B1 n1 d1) (.slice B2 n2 d2) (.slice B3 n3 d3) (.slice B4 n4 d4) m1 m2 m3 m4) (ha : AR w (fun k => ¬ Own4 (.slice B1 n1 d1) (.slice B2 n2 d2) (.slice B3 n3 d3) (.slice B4 n4 d4) k) (.slice A1 l1.length c1) l1) (hb : SR w (fun k => ¬ Own4 (.slice B1 n1 d1) (.slice B2 n2 d2) (.slice B3 n3 d3) (.slice B4 n4 d4) k) (.slice A2 l2.length c2) l2) (h1 : 0 ≤ t) (h2 : t < (l1.length : Int)) (h3 : l1.length ≤ 6) (h4 : ¬ (l1.getD t.toNat z39).f1 = 1) :
  Calls Try.prog 49 #[.agg #[.string link, .slice A1 l1.length c1, .slice A2 l2.length c2], .string addr, .agg #[.int .i64 cd, .slice B1 n1 d1, .slice B2 n2 d2, .slice B3 n3 d3, .slice B4 n4 d4]] w (Post w (.slice B1 n1 d1) (.slice B2 n2 d2) (.slice B3 n3 d3) (.slice B4 n4 d4) n link l1 l2) := by
 obtain ⟨T, rfl⟩ : ∃ T : Nat, t = (T : Int) := ⟨t.toNat, by omega⟩
 have HT := Aside0.mk (show T < l1.length ∧ l1.length ≤ 6 by omega)
 rw [Int.toNat_natCast] at h4
 have HH := Aside0.mk h4
 clear h1 h2 h3 h4
 have hu27 := Try.underlying27
 have hu54 := Try.underlying54
 have hu39 := Try.underlying39
 have HF := Aside0.mk hf
 have HB := Aside0.mk hn
 have HB2 := Aside0.mk hn2
 have HR := Aside0.mk hr
 have HA := Aside0.mk ha
 have HQ := Aside0.mk hb
 clear hf hn hn2 hr ha hb
 obtain ⟨N, hN⟩ : ∃ N, N = Own4 (.slice B1 n1 d1) (.slice B2 n2 d2) (.slice B3 n3 d3) (.slice B4 n4 d4) := ⟨_, rfl⟩
 have HN := Aside0.mk hN
 clear hN
 go_enter Try.func49, Try.ntmps49
 go_upto_region 1 with (fail)
 refine at_world (fun W hW => ?_)
 obtain ⟨q0, q1, q2, q3, qb, qz⟩ := boxes4 hW
 clear hW
 obtain ⟨g0, e0⟩ : ∃ g, g = w.heap.size := ⟨_, rfl⟩
 obtain ⟨g1, e1⟩ : ∃ g, g = w.heap.size + 1 := ⟨_, rfl⟩
 obtain ⟨g2, e2⟩ : ∃ g, g = w.heap.size + 1 + 1 := ⟨_, rfl⟩
 obtain ⟨g3, e3⟩ : ∃ g, g = w.heap.size + 1 + 1 + 1 := ⟨_, rfl⟩
 simp only [← e3]; simp only [← e2]; simp only [← e1]; simp only [← e0]
 rw [← e3] at q3; rw [← e2] at q2; rw [← e1] at q1; rw [← e0] at q0
 have HX := Aside0.mk (HS.start4 (N := N) qb q0 q1 q2 q3 (by omega))
 replace HR := Aside0.mk (HR.out.below qb)
 replace HA := Aside0.mk (Kd.R_below HA.out qb)
 replace HQ := Aside0.mk (Kd.R_below HQ.out qb)
 clear q0 q1 q2 q3 qb qz e0 e1 e2 e3
 have x0_1 := HX.out.cell 0 rfl 1 rfl
 go_upto_region 2 with (go_at_call 36; (with_reducible refine (spec_l14Find.calls kf _ _ l1 addr T _ (Kd.R_reads' HA.out).2.2 (Kd.R_reads' HA.out).2.1 HF.out).mono ?_); rintro e w2 ⟨rfl, ⟨nd, rfl⟩⟩; have n0_ := Aside0.mk (HX.out.drewN nd); have n1_ := Aside0.mk (HR.out.below (pw_below_drewN (Below.refl _ _) nd)); have n2_ := Aside0.mk (Kd.R_drewN HA.out nd); have n3_ := Aside0.mk (Kd.R_drewN HQ.out nd); clear HX HR HA HQ x0_1; have HX := n0_; have HR := n1_; have HA := n2_; have HQ := n3_; clear n0_ n1_ n2_ n3_; generalize W.drewN nd = w2 at HX HR HA HQ ⊢)
 have t1 : decide ((T : Int) < 0) = false := decide_eq_false (by omega)
 obtain ⟨ad, ea, hx0, hx1, hx2, hx3, hx4⟩ := at_T39 (Kd.R_reads' HA.out).2.2 (T : Int) (by omega) (by have := HT.out; omega)
 subst ea
 have hyr : rd_T39 l1 (T : Int) = l1.getD T z39 := by simp [rd_T39]
 obtain ⟨y, hy⟩ : ∃ y, y = l1.getD T z39 := ⟨_, rfl⟩
 rw [hyr, ← hy] at hx1
 simp only [Int.toNat_natCast] at hx1
 clear hyr hx0 hx2 hx3 hx4
 have t2 : (0 : Int) ≤ (T : Int) := by omega
 have t3 : ((T : Int) < (l1.length : Int)) := by have := HT.out; omega
 have t4 : (y.f1 == 1) = false := by have h_ := HH.out; rw [← hy] at h_; simp [h_]
 clear hy
 have x0_1 := HX.out.cell 0 rfl 1 rfl
 go_upto_region 6 with (fail)
 clear t1 t2 t3 t4 hx1 x0_1
 have x1_0 := HX.out.cell 1 rfl 0 rfl
 have f1_0 := HX.out.free 1 rfl 0
 go_upto_region 7 with (fail)
 have n0_ := Aside0.mk (HX.out.set (P := [_]) 0 (.int .i64 15) rfl); have n1_ := Aside0.mk (HR.out.set (HX.out.at 1 rfl) (by decide) 0 (.int .i64 15)); have n2_ := Aside0.mk (Kd.R_set HA.out (HX.out.at 1 rfl) (fun q hq => by rw [e39 q hq]; decide) 0 (.int .i64 15)); have n3_ := Aside0.mk (Kd.R_set HQ.out (HX.out.at 1 rfl) (fun q hq => by rw [e9 q hq]; decide) 0 (.int .i64 15)); clear HX HR HA HQ x1_0 f1_0; have HX := n0_; have HR := n1_; have HA := n2_; have HQ := n3_; clear n0_ n1_ n2_ n3_
 generalize w2.setCell ⟨g1, 0, none⟩ (.int .i64 15) = w3 at HX HR HA HQ ⊢
 refine ret2 (p := 3) (q := 5) (r := 6) (s := 7) (d1 := 27) (d2 := 28) rfl (by kernel_rfl) (by kernel_rfl) (by kernel_rfl) (by kernel_rfl) (by kernel_rfl) (fun _ _ _ _ _ h => h) rfl rfl rfl rfl (show (27 : Nat) < 62 by decide) (show (28 : Nat) < 62 by decide) (by decide) (HX.out.at 0 rfl) (HX.out.at 1 rfl) (HX.out.at 2 rfl) (HX.out.at 3 rfl) ?_ (fun w4 bR bS hk hb => ?_)
 ·
  have := HX.out.nd
  simp at this
  omega
 have HP := Aside0.mk (post_done (n := n) (link := link) (cd := 15) HR.out HB.out HA.out HQ.out (by rw [← HN.out]; exact HX.out.kept) HX.out.b0 (fun k _ h => h) (HX.out.at 2 rfl) (HX.out.at 3 rfl) (HX.out.new (_, _, _) (List.mem_of_getElem? (i := 2) rfl)) (HX.out.new (_, _, _) (List.mem_of_getElem? (i := 3) rfl)) hk hb)
 go_wp2
 all_goals exact bodyPost_ret (results_cc rfl _ _ _ _ 27 54 _ _ (0, 0) (0, 0) _ _ rfl bR Try.underlying27 rfl (by kernel_rfl) rfl bS Try.underlying54 rfl (by kernel_rfl)) rfl HP.out
set_option maxHeartbeats 8000000 in
set_option maxRecDepth 100000 in
theorem heard_cut (link addr : ByteArray) (A1 A2 B1 B2 B3 B4 : Option Addr) (c1 c2 d1 d2 d3 d4 : Nat) (n1 n2 n3 n4 : Nat) (l1 : List S39) (l2 m1 m2 m3 m4 : List ByteArray) (cd : Int) (w : World) (t : Int) (kf : Nat) (hf : spec_l14Find.f kf l1 addr = some t)
  (n : Nat) (hn : m1.length ≤ n ∧ m2.length ≤ n ∧ m3.length ≤ n ∧ m4.length ≤ n) (hn2 : n ≤ 10000000) (hr : Rows4 w (.slice B1 n1 d1) (.slice B2 n2 d2) (.slice B3 n3 d3) (.slice B4 n4 d4) m1 m2 m3 m4) (ha : AR w (fun k => ¬ Own4 (.slice B1 n1 d1) (.slice B2 n2 d2) (.slice B3 n3 d3) (.slice B4 n4 d4) k) (.slice A1 l1.length c1) l1) (hb : SR w (fun k => ¬ Own4 (.slice B1 n1 d1) (.slice B2 n2 d2) (.slice B3 n3 d3) (.slice B4 n4 d4) k) (.slice A2 l2.length c2) l2) (h1 : 0 ≤ t) (h2 : t < (l1.length : Int)) (h3 : l1.length ≤ 6) (h4 : (l1.getD t.toNat z39).f1 = 1) (h5 : l2.length ≤ 1000) (LC : List S39) (hlc : LC = l1.take t.toNat ++ l1.drop (t.toNat + 1)) (LB : List ByteArray) (hlb : LB = if l2.length < 6 then l2 ++ [addr] else l2) :
  Calls Try.prog 49 #[.agg #[.string link, .slice A1 l1.length c1, .slice A2 l2.length c2], .string addr, .agg #[.int .i64 cd, .slice B1 n1 d1, .slice B2 n2 d2, .slice B3 n3 d3, .slice B4 n4 d4]] w (Post w (.slice B1 n1 d1) (.slice B2 n2 d2) (.slice B3 n3 d3) (.slice B4 n4 d4) (n + 1) link LC LB) := by
 have hu := own_f link l1 l2 (by omega) (by omega)
 have HW := Aside0.mk hu
 clear hu
 obtain ⟨T, rfl⟩ : ∃ T : Nat, t = (T : Int) := ⟨t.toNat, by omega⟩
 have HT := Aside0.mk (show T < l1.length ∧ l1.length ≤ 6 by omega)
 rw [Int.toNat_natCast] at h4 hlc
 have HH := Aside0.mk h4
 have HLC := Aside0.mk hlc; have HLB := Aside0.mk hlb; have H5 := Aside0.mk h5
 clear h1 h2 h3 h4 h5 hlc hlb
 have hu27 := Try.underlying27
 have hu54 := Try.underlying54
 have hu39 := Try.underlying39
 have HF := Aside0.mk hf
 have HB := Aside0.mk hn
 have HB2 := Aside0.mk hn2
 have HR := Aside0.mk hr
 have HA := Aside0.mk ha
 have HQ := Aside0.mk hb
 clear hf hn hn2 hr ha hb
 obtain ⟨N, hN⟩ : ∃ N, N = Own4 (.slice B1 n1 d1) (.slice B2 n2 d2) (.slice B3 n3 d3) (.slice B4 n4 d4) := ⟨_, rfl⟩
 have HN := Aside0.mk hN
 clear hN
 go_enter Try.func49, Try.ntmps49
 go_upto_region 1 with (fail)
 refine at_world (fun W hW => ?_)
 obtain ⟨q0, q1, q2, q3, qb, qz⟩ := boxes4 hW
 clear hW
 obtain ⟨g0, e0⟩ : ∃ g, g = w.heap.size := ⟨_, rfl⟩
 obtain ⟨g1, e1⟩ : ∃ g, g = w.heap.size + 1 := ⟨_, rfl⟩
 obtain ⟨g2, e2⟩ : ∃ g, g = w.heap.size + 1 + 1 := ⟨_, rfl⟩
 obtain ⟨g3, e3⟩ : ∃ g, g = w.heap.size + 1 + 1 + 1 := ⟨_, rfl⟩
 simp only [← e3]; simp only [← e2]; simp only [← e1]; simp only [← e0]
 rw [← e3] at q3; rw [← e2] at q2; rw [← e1] at q1; rw [← e0] at q0
 have HX := Aside0.mk (HS.start4 (N := N) qb q0 q1 q2 q3 (by omega))
 replace HR := Aside0.mk (HR.out.below qb)
 replace HA := Aside0.mk (Kd.R_below HA.out qb)
 replace HQ := Aside0.mk (Kd.R_below HQ.out qb)
 clear q0 q1 q2 q3 qb qz e0 e1 e2 e3
 have x0_1 := HX.out.cell 0 rfl 1 rfl
 go_upto_region 2 with (go_at_call 36; (with_reducible refine (spec_l14Find.calls kf _ _ l1 addr T _ (Kd.R_reads' HA.out).2.2 (Kd.R_reads' HA.out).2.1 HF.out).mono ?_); rintro e w2 ⟨rfl, ⟨nd, rfl⟩⟩; have n0_ := Aside0.mk (HX.out.drewN nd); have n1_ := Aside0.mk (HR.out.below (pw_below_drewN (Below.refl _ _) nd)); have n2_ := Aside0.mk (Kd.R_drewN HA.out nd); have n3_ := Aside0.mk (Kd.R_drewN HQ.out nd); clear HX HR HA HQ x0_1; have HX := n0_; have HR := n1_; have HA := n2_; have HQ := n3_; clear n0_ n1_ n2_ n3_; generalize W.drewN nd = w2 at HX HR HA HQ ⊢)
 have t1 : decide ((T : Int) < 0) = false := decide_eq_false (by omega)
 obtain ⟨ad, ea, hx0, hx1, hx2, hx3, hx4⟩ := at_T39 (Kd.R_reads' HA.out).2.2 (T : Int) (by omega) (by have := HT.out; omega)
 subst ea
 have hyr : rd_T39 l1 (T : Int) = l1.getD T z39 := by simp [rd_T39]
 obtain ⟨y, hy⟩ : ∃ y, y = l1.getD T z39 := ⟨_, rfl⟩
 rw [hyr, ← hy] at hx1
 simp only [Int.toNat_natCast] at hx1
 clear hyr hx0 hx2 hx3 hx4
 have t2 : (0 : Int) ≤ (T : Int) := by omega
 have t3 : ((T : Int) < (l1.length : Int)) := by have := HT.out; omega
 have t4 : (y.f1 == 1) = true := by have h_ := HH.out; rw [← hy] at h_; simp [h_]
 clear hy
 have x0_1 := HX.out.cell 0 rfl 1 rfl
 go_upto_region 8 with (fail)
 clear t1 t2 t3 t4 hx1 x0_1
 have x0_0 := HX.out.cell 0 rfl 0 rfl
 have x0_1 := HX.out.cell 0 rfl 1 rfl
 have x0_2 := HX.out.cell 0 rfl 2 rfl
 go_upto_region 9 with (go_at_call 23; (with_reducible refine (spec_l14Own.calls link _ _ l1 _ _ l2 link l1 l2 _ (Kd.R_reads' HA.out).2.2 (Kd.R_reads' HA.out).2.1 (Kd.R_reads' HQ.out).2.2 (Kd.R_reads' HQ.out).2.1 HW.out).mono ?_); rintro e w3 ⟨y1, y2, rfl, hy1, hy2, hb⟩; obtain ⟨Y1, k1, rfl⟩ := Kd.R_slice hy1; obtain ⟨Y2, k2, rfl⟩ := Kd.R_slice hy2; have n0_ := Aside0.mk (HX.out.below hb); have n1_ := Aside0.mk (HR.out.below hb); have n2_ := Aside0.mk (Kd.R_below HA.out hb); have HN2 := Aside0.mk (fun k hk => Nat.le_trans HX.out.kept.1 (Kd.R_base hy2 k hk)); have HY2 := Aside0.mk (R_newN hy2 (HR.out.lt)); clear HX HR HA hb x0_0 x0_1 x0_2 hy1 hy2 HQ; have HX := n0_; have HR := n1_; have HA := n2_; clear n0_ n1_ n2_)
 refine at_world (fun W hW => ?_)
 have hb := below_alloc (Below.refl w3.heap.size w3) (Obj.cells #[.string link, .slice Y1 l1.length k1, .slice Y2 l2.length k2] 27)
 rw [← hW] at hb
 obtain ⟨g5, e5⟩ : ∃ g, g = w3.heap.size := ⟨_, rfl⟩
 have n0_ := Aside0.mk (HX.out.add (g := g5) (t := 27) (cs := #[.string link, .slice Y1 l1.length k1, .slice Y2 l2.length k2]) hb (by rw [hW, e5]; exact blk_new _ _) (by omega)); have n1_ := Aside0.mk (HR.out.below hb); have n2_ := Aside0.mk (Kd.R_below HA.out hb); have n3_ := Aside0.mk (Kd.R_below HY2.out hb); simp only [← e5]; clear HX HR HA HY2 hb hW e5; have HX := n0_; have HR := n1_; have HA := n2_; have HY2 := n3_; clear n0_ n1_ n2_ n3_
 obtain ⟨i0_, hi0_, _, hsz_, _⟩ := info_parts info39
 have hc_ := (Kd.R_reads' HA.out).2.1
 have hC_ := (Kd.R_reads' HA.out).2.2
 have hT_ := HT.out.1
 have hw64_ : wrap64 ((T : Int) + 1) = (T : Int) + 1 := by have := HT.out.2; unfold wrap64; omega
 obtain ⟨ya, hya⟩ : ∃ y, y = l1.take T := ⟨_, rfl⟩
 obtain ⟨yb, hyb⟩ : ∃ y, y = l1.drop (T + 1) := ⟨_, rfl⟩
 have hcut1 := cut_to (P := Try.prog) 24 39 .i64 Try.underlying24 hi0_ (some ad) l1.length c1 (T : Int) (by omega) (by omega) hc_
 have hr1_ := Kd.C_take (m := T) hC_ (by omega)
 have hcut2 := cut_from (P := Try.prog) 24 39 .i64 Try.underlying24 hi0_ 5 hsz_ (some ad) l1.length c1 ((T : Int) + 1) (by omega) (by omega)
 have hr2_ := Kd.C_drop (m := T + 1) (c := c1) hC_ (by omega) hc_
 simp only [Int.toNat_natCast, show ((T : Int) + 1).toNat = T + 1 from by omega] at hcut1 hcut2
 obtain ⟨A3, hA3⟩ : ∃ A1, A1 = (if c1 = T + 1 then (some ad) else ((some ad) : Option Addr).map (·.add ((T + 1) * 5))) := ⟨_, rfl⟩
 rw [← hya] at hr1_
 replace hr2_ : Kd.C k39 _ A3 yb.length yb := (by rw [hA3, hyb]; exact hr2_)
 have hyt : ya.length = T := by rw [hya, List.length_take]; omega
 have hyd : yb.length = l1.length - (T + 1) := by rw [hyb]; exact List.length_drop
 have HL_ := Aside0.mk (show ya.length ≤ 1000 ∧ yb.length ≤ 1000 by have := HT.out.2; omega)
 rw [← hyd, ← hA3] at hcut2
 obtain ⟨cb_, hcb_⟩ : ∃ x, x = c1 - (T + 1) := ⟨_, rfl⟩
 rw [← hcb_] at hcut2
 obtain ⟨L1, hL1⟩ : ∃ L, L = ya ++ yb := ⟨_, rfl⟩
 have HYL := Aside0.mk hL1
 have HYF := Aside0.mk (show L1 = l1.take T ++ l1.drop (T + 1) by rw [hL1, hya, hyb])
 clear hL1 hya hyb hcb_ hyd
 have HX1 := Aside0.mk hr1_
 have HX2 := Aside0.mk hr2_
 have HYT := Aside0.mk hyt
 clear hr1_ hr2_ hA3 hi0_ hsz_ hC_ hyt hc_ hT_
 have c_1 := HX.out.cell 1 rfl 1 rfl
 refine start_ (n := 14) (S := fun w' => w'.cell? ⟨g0, 1, none⟩ = some (.slice (some ad) l1.length c1)) (ds := []) #[false, false, false, false, false, false, false, false, false, false, false, false, false, false] (by kernel_rfl) rfl rfl c_1 (fun hHeld => ?_); refine with_tabW spec_l14Heard.tab9 spec_l14Heard.bits9 (fun HT_ HW_ => ?_)
 clear c_1
 replace HX := Aside0.mk (HX.out.drew)
 replace HR := Aside0.mk (HR.out.below (below_drew1 (Below.refl _ _)))
 replace HY2 := Aside0.mk (Kd.R_drew HY2.out)
 replace HX1 := Aside0.mk (Kd.C_drew HX1.out)
 replace HX2 := Aside0.mk (Kd.C_drew HX2.out)
 clear HA
 generalize World.drew W = W9 at HX HR HY2 HX1 HX2 hHeld ⊢
 refine pure_ (i := 1) (N := some 32) (v := ?_) (a' := ?_) #[false, true, false, false, false, false, false, false, false, false, false, false, false, false] rfl rfl (any_of HT_.out (by kernel_rfl)) (fun _ _ _ h => h) (Or.inl ⟨by rfl, ?_⟩) ?_ ?_
 rotate_left
 ·
  intro w'
  go_simp
  with_reducible rfl
 rotate_left
 ·
  simp only [Act.put, pq]
  rfl
 refine pure_ (i := 3) (N := some 34) (v := ?_) (a' := ?_) #[false, true, false, true, false, false, false, false, false, false, false, false, false, false] rfl rfl (any_of HT_.out (by kernel_rfl)) (fun _ _ _ h => h) (Or.inl ⟨by rfl, ?_⟩) ?_ ?_
 rotate_left
 ·
  intro w'
  go_simp
  with_reducible rfl
 rotate_left
 ·
  simp only [Act.put, pq]
  rfl
 refine pure_ (i := 6) (N := some 37) (v := ?_) (a' := ?_) #[false, true, false, true, false, false, true, false, false, false, false, false, false, false] rfl rfl (any_of HT_.out (by kernel_rfl)) (fun _ _ _ h => h) (Or.inl ⟨by rfl, ?_⟩) ?_ ?_
 rotate_left
 ·
  intro w'
  go_simp
  with_reducible rfl
 rotate_left
 ·
  simp only [Act.put, pq]
  rfl
 refine pure_ (i := 8) (N := some 39) (v := ?_) (a' := ?_) #[false, true, false, true, false, false, true, false, true, false, false, false, false, false] rfl rfl (any_of HT_.out (by kernel_rfl)) (fun _ _ _ h => h) (Or.inl ⟨by rfl, ?_⟩) ?_ ?_
 rotate_left
 ·
  intro w'
  go_simp
  with_reducible rfl
 rotate_left
 ·
  simp only [Act.put, pq]
  rfl
 refine pure_ (i := 9) (N := some 40) (v := ?_) (a' := ?_) #[false, true, false, true, false, false, true, false, true, true, false, false, false, false] rfl rfl (any_of HT_.out (by kernel_rfl)) (fun _ _ _ h => h) (Or.inl ⟨by rfl, ?_⟩) ?_ ?_
 rotate_left
 ·
  intro w'
  go_simp
  with_reducible rfl
 rotate_left
 ·
  simp only [Act.put, pq]
  rfl
 refine take_ (i := 2) (N := some 33) (v := ?_) (a' := ?_) #[false, true, true, true, false, false, true, false, true, true, false, false, false, false] rfl rfl (take_ofW HT_.out HW_.out (by kernel_rfl)) (fun _ _ _ h => h) (Or.inl ⟨by rfl, ?_⟩) hHeld ?_ ?_
 rotate_left
 ·
  intro w' s0
  go_simp
  with_reducible rfl
 rotate_left
 ·
  simp only [Act.put, pq]
  rfl
 refine pure_ (i := 4) (N := some 35) (v := ?_) (a' := ?_) #[false, true, true, true, true, false, true, false, true, true, false, false, false, false] rfl rfl (any_of HT_.out (by kernel_rfl)) (fun _ _ _ h => h) (Or.inl ⟨by rfl, ?_⟩) ?_ ?_
 rotate_left
 ·
  intro w'
  go_simp
  with_reducible rfl
 rotate_left
 ·
  simp only [Act.put, pq]
  rfl
 refine take_ (i := 7) (N := some 38) (v := ?_) (a' := ?_) #[false, true, true, true, true, false, true, true, true, true, false, false, false, false] rfl rfl (take_ofW HT_.out HW_.out (by kernel_rfl)) (fun _ _ _ h => h) (Or.inl ⟨by rfl, ?_⟩) hHeld ?_ ?_
 rotate_left
 ·
  intro w' s0
  go_simp
  with_reducible rfl
 rotate_left
 ·
  simp only [Act.put, pq]
  rfl
 refine pure_ (i := 10) (N := some 41) (v := ?_) (a' := ?_) #[false, true, true, true, true, false, true, true, true, true, true, false, false, false] rfl rfl (any_of HT_.out (by kernel_rfl)) (fun _ _ _ h => h) (Or.inl ⟨by rfl, ?_⟩) ?_ ?_
 rotate_left
 ·
  intro w'
  go_simp
  with_reducible rfl
 rotate_left
 ·
  simp only [Act.put, pq]
  rfl
 refine one_ (i := 0) (N := some 31) #[true, true, true, true, true, false, true, true, true, true, true, false, false, false] rfl rfl (one_of HT_.out (by kernel_rfl)) (by decide) (fun K hK => ?_)
 refine Kd.R_lit_step k39 (w0 := W9) W9.heap.size 39 ?hg (N := 31) ?hd (xs := ([] : List S39)) (inner := []) (ok := fun _ => True) (okp := fun _ => True) ?hr ?hp (fun _ hk => hk) trivial (Below.refl _ _) (Nat.le_refl _) (by simp) ?_; (case hd => rfl); (case hg => rfl); (case hr => (go_simp; done)); (case hp => exact (Reps.none _ _))
 intro y1 z1 hy1_ hb1_ hg_ hnew_
 clear hg_ hnew_
 refine hK.out _ _ ((blk_cell (blk_below (HX.out.at 1 rfl) hb1_) 1).trans rfl) (fun hHeld => ?_)
 clear hK K
 refine norm_ (a' := ?_) ?_ ?_
 rotate_left
 ·
  show Act.put _ (some 31) _ = _
  simp only [Act.put, pq]
  rfl
 refine one_ (i := 5) (N := some 36) #[true, true, true, true, true, true, true, true, true, true, true, false, false, false] rfl rfl (one_of HT_.out (by kernel_rfl)) (by decide) (fun K hK => ?_)
 refine Kd.R_append_rows_step k39 (w0 := W9) W9.heap.size (by rfl) (.tmp 31) (.tmp 35) 24 39 (.agg #[(.string ⟨#[]⟩), (.int .i64 0), (.int .i64 0), (.int .i64 0), (.int .i64 0)]) 48 rfl Try.underlying24 info39 rfl (by decide) (by omega) y1 [] ya _ _ _ (fun _ => True) (fun _ => False) rfl (by rw [HYT.out]; rfl) hy1_ (Kd.C_below (w := W9) HX1.out hb1_) (fun _ _ h => h) (fun _ h => h.elim) (fun _ _ => trivial) hb1_ hb1_.size (by have := HL_.out; simp only [List.length_nil]; omega) ?_
 intro y2 z2 hy2_ hb2_ hg_ hnew_
 rw [List.nil_append] at hy2_
 clear hg_ hnew_ hy1_ hb1_
 refine hK.out _ _ ((blk_cell (blk_below (HX.out.at 1 rfl) hb2_) 1).trans rfl) (fun hHeld => ?_)
 clear hK K
 refine norm_ (a' := ?_) ?_ ?_
 rotate_left
 ·
  show Act.put _ (some 36) _ = _
  simp only [Act.put, pq]
  rfl
 refine one_ (i := 11) (N := some 42) #[true, true, true, true, true, true, true, true, true, true, true, true, false, false] rfl rfl (one_of HT_.out (by kernel_rfl)) (by decide) (fun K hK => ?_)
 refine Kd.R_append_rows_step k39 (w0 := W9) W9.heap.size (by rfl) (.tmp 36) (.tmp 41) 24 39 (.agg #[(.string ⟨#[]⟩), (.int .i64 0), (.int .i64 0), (.int .i64 0), (.int .i64 0)]) 48 rfl Try.underlying24 info39 rfl (by decide) (by omega) y2 ya yb _ _ _ (fun _ => True) (fun _ => False) rfl rfl hy2_ (Kd.C_below (w := W9) HX2.out hb2_) (fun _ _ h => h) (fun _ h => h.elim) (fun _ _ => trivial) hb2_ hb2_.size (by have := HL_.out; omega) ?_
 intro y3 z3 hy3_ hb hg_ hnew_
 clear hg_ hnew_ hy2_ hb2_
 rw [← HYL.out] at hy3_
 obtain ⟨Y3, k3, rfl⟩ := Kd.R_slice hy3_
 refine hK.out _ _ ((blk_cell (blk_below (HX.out.at 1 rfl) hb) 1).trans rfl) (fun hHeld => ?_)
 clear hK K
 refine norm_ (a' := ?_) ?_ ?_
 rotate_left
 ·
  show Act.put _ (some 42) _ = _
  simp only [Act.put, pq]
  rfl
 have n0_ := Aside0.mk (HX.out.below hb); have n1_ := Aside0.mk (HR.out.below hb); have n2_ := Aside0.mk (Kd.R_below HY2.out hb); have HN3 := Aside0.mk (fun k hk => Nat.le_trans HX.out.kept.1 (Kd.R_base hy3_ k hk)); have HY3 := Aside0.mk (R_newN (W := W9) hy3_ (HR.out.lt)); clear HX HR HY2 hb hy3_ HX1 HX2 HYT HYL HL_; have HX := n0_; have HR := n1_; have HY2 := n2_; clear n0_ n1_ n2_
 refine pure_ (i := 12) (N := some 43) (v := ?_) (a' := ?_) #[true, true, true, true, true, true, true, true, true, true, true, true, true, false] rfl rfl (any_of HT_.out (by kernel_rfl)) (fun _ _ _ h => h) (Or.inl ⟨by rfl, ?_⟩) ?_ ?_
 rotate_left
 ·
  intro w'
  go_simp
  with_reducible rfl
 rotate_left
 ·
  simp only [Act.put, pq]
  rfl
 refine one_ (i := 13) (N := none) #[true, true, true, true, true, true, true, true, true, true, true, true, true, true] rfl rfl (one_of HT_.out (by kernel_rfl)) (by decide) (fun K hK => ?_)
 have c_1 := HX.out.cell 0 rfl 1 rfl; have f_1 := HX.out.free 0 rfl 1
 have hne : g0 ≠ g5 := by have := HX.out.nd; simp at this; omega
 refine skip_ (w1 := ?_) (by rfl) rfl ?_ ?_
 rotate_left
 ·
  go_simp
  rfl
 refine hK.out _ _ ((cell_far (p := ⟨g5, _, none⟩) hne _).trans hHeld) (fun hHeld => ?_)
 clear hK K
 refine done_ (done_of HT_.out (by kernel_rfl)) ?_
 clear hHeld HT_ HW_ hcut1 hcut2 c_1 f_1 hne hw64_
 refine at_then (fun W2 hW => ?_)
 obtain rfl : L1 = LC := by rw [HYF.out, HLC.out]
 have n0_ := Aside0.mk (HX.out.set (P := []) (cs' := #[.string link, .slice Y3 L1.length k3, .slice Y2 l2.length k2]) 1 (.slice Y3 L1.length k3) rfl); have n1_ := Aside0.mk (HR.out.set (HX.out.at 0 rfl) (by decide) 1 (.slice Y3 L1.length k3)); have n2_ := Aside0.mk (Kd.R_set HY3.out (HX.out.at 0 rfl) (fun q hq => by rw [e39 q hq]; decide) 1 (.slice Y3 L1.length k3)); have n3_ := Aside0.mk (Kd.R_set HY2.out (HX.out.at 0 rfl) (fun q hq => by rw [e9 q hq]; decide) 1 (.slice Y3 L1.length k3)); clear HX HR HY3 HY2 ; have HX := n0_; have HR := n1_; have HY3 := n2_; have HY2 := n3_; clear n0_ n1_ n2_ n3_
 rw [← hW] at HX HR HY3 HY2
 clear hW HYF
 rcases Classical.em (l2.length < 6) with h6 | h6
 ·
  have t1 : ((l2.length : Int) < 6) := by omega
  have x0_2 := HX.out.cell 0 rfl 2 rfl
  go_upto_region 11 with (fail)
  go_upto_region 12 with ((with_reducible refine gate_builtin (b := .append) (xs := #[.tmp 49, .tmp 51]) rfl ?_); at_builtin; refine Kd.R_append Kd.string (w0 := W2) 0 rfl (.tmp 49) (.tmp 51) 25 9 (.string ⟨#[]⟩) 16 rfl Try.underlying25 info9 rfl (by decide) (by omega) _ l2 addr [.string addr] _ (fun _ => False) rfl (by (go_simp; done)) rfl (fun _ hk => hk.elim) (fun k hk hN => by have := HR.out.lt k hN; omega) HY2.out (Below.refl _ _) (Nat.zero_le _) (by have := H5.out; have := HB.out; have := HB2.out; omega) ?_; intro v1 w4 ho hb hg hat; obtain ⟨M, hM⟩ : ∃ M, M = l2 ++ [addr] := ⟨_, rfl⟩; rw [← hM] at ho; have HML := Aside0.mk hM; clear hM; obtain ⟨X2, c2_, rfl⟩ := Kd.R_slice ho; have n0_ := Aside0.mk (HX.out.app HY2.out (by simp only [List.nil_append, List.cons_append, List.mem_cons, List.not_mem_nil, or_false]; rintro p (rfl | rfl | rfl | rfl | rfl) <;> simp) hg (fun k hk => .inr (HN2.out k hk))); have n1_ := Aside0.mk (HR.out.grown hg (fun k hk hN => HY2.out.1 k hk hN)); have n2_ := Aside0.mk (Kd.R_over HY3.out HY2.out (fun q hq => by rw [e39 q hq]; decide) hg); clear HX HR HY3 HY2 hb hg hat x0_2; have HX := n0_; have HR := n1_; have HY3 := n2_; have HY2 := Aside0.mk ho; clear n0_ n1_ n2_ ho; have x0_2 := HX.out.cell 0 rfl 2 rfl; have f0_2 := HX.out.free 0 rfl 2)
  clear x0_2 f0_2 t1
  have n0_ := Aside0.mk (HX.out.set (P := []) (cs' := #[.string link, .slice Y3 L1.length k3, .slice X2 M.length c2_]) 2 (.slice X2 M.length c2_) rfl); have n1_ := Aside0.mk (HR.out.set (HX.out.at 0 rfl) (by decide) 2 (.slice X2 M.length c2_)); have n2_ := Aside0.mk (Kd.R_set HY3.out (HX.out.at 0 rfl) (fun q hq => by rw [e39 q hq]; decide) 2 (.slice X2 M.length c2_)); have n3_ := Aside0.mk (Kd.R_set HY2.out (HX.out.at 0 rfl) (fun q hq => by rw [e9 q hq]; decide) 2 (.slice X2 M.length c2_)); clear HX HR HY3 HY2 ; have HX := n0_; have HR := n1_; have HY3 := n2_; have HY2 := n3_; clear n0_ n1_ n2_ n3_
  obtain rfl : M = LB := by rw [HML.out, HLB.out, if_pos h6]
  clear h6 HML
  generalize World.setCell w4 _ _ = W3 at HX HR HY3 HY2 ⊢
  have x2_2 := HX.out.cell 2 rfl 2 rfl
  go_upto_region 13 with ((with_reducible refine gate_builtin (b := .append) (xs := #[.tmp 55, .tmp 57]) rfl ?_); at_builtin; refine Kd.R_append Kd.string (w0 := W3) 0 rfl (.tmp 55) (.tmp 57) 25 9 (.string ⟨#[]⟩) 16 rfl Try.underlying25 info9 rfl (by decide) (by omega) _ m2 addr [.string addr] _ (fun _ => False) rfl (by (go_simp; done)) rfl (fun _ hk => hk.elim) HR.out.fresh2 HR.out.r2 (Below.refl _ _) (Nat.zero_le _) (by have := H5.out; have := HB.out; have := HB2.out; omega) ?_; intro v1 w5 ho hb hg hat; obtain ⟨M, hM⟩ : ∃ M, M = m2 ++ [addr] := ⟨_, rfl⟩; rw [← hM] at ho; have HML := Aside0.mk hM; clear hM; obtain ⟨X2, c2_, rfl⟩ := Kd.R_slice ho; have n0_ := Aside0.mk (HX.out.app HR.out.r2 (by simp only [List.nil_append, List.cons_append, List.mem_cons, List.not_mem_nil, or_false]; rintro p (rfl | rfl | rfl | rfl | rfl) <;> simp) hg (fun k hk => .inl (by rw [HN.out]; exact .inr (.inl hk.symm)))); have n1_ := Aside0.mk (HR.out.app2 ho hg hat); have n2_ := Aside0.mk (R_app (x := .slice B2 n2 d2) (N' := Own4 (.slice B1 n1 d1) (.slice X2 M.length c2_) (.slice B3 n3 d3) (.slice B4 n4 d4)) HY3.out hg (fun k hk => .inr (.inl hk.symm)) (fun k hk => own4_2 hat k hk)); have n3_ := Aside0.mk (R_app (x := .slice B2 n2 d2) (N' := Own4 (.slice B1 n1 d1) (.slice X2 M.length c2_) (.slice B3 n3 d3) (.slice B4 n4 d4)) HY2.out hg (fun k hk => .inr (.inl hk.symm)) (fun k hk => own4_2 hat k hk)); have HO := Aside0.mk (fun k (hk : k < w.heap.size) (hO : Own4 (.slice B1 n1 d1) (.slice X2 M.length c2_) (.slice B3 n3 d3) (.slice B4 n4 d4) k) => show Own4 (.slice B1 n1 d1) (.slice B2 n2 d2) (.slice B3 n3 d3) (.slice B4 n4 d4) k from (own4_2 hat k hO).elim id (fun hl => absurd hl (by have := HX.out.kept.1; omega))); clear HX HR HY3 HY2 hb hg hat x2_2; have HX := n0_; have HR := n1_; have HY3 := n2_; have HY2 := n3_; clear n0_ n1_ n2_ n3_ ho; have x2_2 := HX.out.cell 2 rfl 2 rfl; have f2_2 := HX.out.free 2 rfl 2)
  clear x2_2 f2_2
  have n0_ := Aside0.mk (HX.out.set (P := [_, _]) (cs' := #[.int .i64 cd, .slice B1 n1 d1, .slice X2 M.length c2_, .slice B3 n3 d3, .slice B4 n4 d4]) 2 (.slice X2 M.length c2_) rfl); have n1_ := Aside0.mk (HR.out.set (HX.out.at 2 rfl) (by decide) 2 (.slice X2 M.length c2_)); have n2_ := Aside0.mk (Kd.R_set HY3.out (HX.out.at 2 rfl) (fun q hq => by rw [e39 q hq]; decide) 2 (.slice X2 M.length c2_)); have n3_ := Aside0.mk (Kd.R_set HY2.out (HX.out.at 2 rfl) (fun q hq => by rw [e9 q hq]; decide) 2 (.slice X2 M.length c2_)); clear HX HR HY3 HY2 ; have HX := n0_; have HR := n1_; have HY3 := n2_; have HY2 := n3_; clear n0_ n1_ n2_ n3_
  generalize World.setCell w5 _ _ = W4 at HX HR HY3 HY2 ⊢
  refine ret2 (p := 9) (q := 5) (r := 6) (s := 7) (d1 := 60) (d2 := 61) rfl (by kernel_rfl) (by kernel_rfl) (by kernel_rfl) (by kernel_rfl) (by kernel_rfl) (fun _ _ _ _ _ h => h) rfl rfl rfl rfl (show (60 : Nat) < 62 by decide) (show (61 : Nat) < 62 by decide) (by decide) (HX.out.at 0 rfl) (HX.out.at 2 rfl) (HX.out.at 3 rfl) (HX.out.at 4 rfl) ?_ (fun w5 bR bS hk hb => ?_)
  ·
   have := HX.out.nd
   simp at this
   omega
  have HP := Aside0.mk (post_done (n := (n + 1)) (link := link) (cd := cd) HR.out (by have := HB.out; rw [HML.out, List.length_append]; simp only [List.length_cons, List.length_nil]; omega) HY3.out HY2.out (by rw [← HN.out]; exact HX.out.kept) HX.out.b0 HO.out (HX.out.at 3 rfl) (HX.out.at 4 rfl) (HX.out.new (_, _, _) (List.mem_of_getElem? (i := 3) rfl)) (HX.out.new (_, _, _) (List.mem_of_getElem? (i := 4) rfl)) hk hb)
  go_wp2
  all_goals exact bodyPost_ret (results_cc rfl _ _ _ _ 27 54 _ _ (0, 0) (0, 0) _ _ rfl bR Try.underlying27 rfl (by kernel_rfl) rfl bS Try.underlying54 rfl (by kernel_rfl)) rfl HP.out
 ·
  have t1 : decide ((l2.length : Int) < 6) = false := decide_eq_false (by omega)
  have t2 : decide (l2.length < 6) = false := decide_eq_false h6
  have x0_2 := HX.out.cell 0 rfl 2 rfl
  go_upto_region 12 with (fail)
  clear t1 t2 x0_2
  obtain rfl : l2 = LB := by rw [HLB.out, if_neg h6]
  clear h6
  generalize W2 = W3 at HX HR HY3 HY2 ⊢
  have x2_2 := HX.out.cell 2 rfl 2 rfl
  go_upto_region 13 with ((with_reducible refine gate_builtin (b := .append) (xs := #[.tmp 55, .tmp 57]) rfl ?_); at_builtin; refine Kd.R_append Kd.string (w0 := W3) 0 rfl (.tmp 55) (.tmp 57) 25 9 (.string ⟨#[]⟩) 16 rfl Try.underlying25 info9 rfl (by decide) (by omega) _ m2 addr [.string addr] _ (fun _ => False) rfl (by (go_simp; done)) rfl (fun _ hk => hk.elim) HR.out.fresh2 HR.out.r2 (Below.refl _ _) (Nat.zero_le _) (by have := H5.out; have := HB.out; have := HB2.out; omega) ?_; intro v1 w5 ho hb hg hat; obtain ⟨M, hM⟩ : ∃ M, M = m2 ++ [addr] := ⟨_, rfl⟩; rw [← hM] at ho; have HML := Aside0.mk hM; clear hM; obtain ⟨X2, c2_, rfl⟩ := Kd.R_slice ho; have n0_ := Aside0.mk (HX.out.app HR.out.r2 (by simp only [List.nil_append, List.cons_append, List.mem_cons, List.not_mem_nil, or_false]; rintro p (rfl | rfl | rfl | rfl | rfl) <;> simp) hg (fun k hk => .inl (by rw [HN.out]; exact .inr (.inl hk.symm)))); have n1_ := Aside0.mk (HR.out.app2 ho hg hat); have n2_ := Aside0.mk (R_app (x := .slice B2 n2 d2) (N' := Own4 (.slice B1 n1 d1) (.slice X2 M.length c2_) (.slice B3 n3 d3) (.slice B4 n4 d4)) HY3.out hg (fun k hk => .inr (.inl hk.symm)) (fun k hk => own4_2 hat k hk)); have n3_ := Aside0.mk (R_app (x := .slice B2 n2 d2) (N' := Own4 (.slice B1 n1 d1) (.slice X2 M.length c2_) (.slice B3 n3 d3) (.slice B4 n4 d4)) HY2.out hg (fun k hk => .inr (.inl hk.symm)) (fun k hk => own4_2 hat k hk)); have HO := Aside0.mk (fun k (hk : k < w.heap.size) (hO : Own4 (.slice B1 n1 d1) (.slice X2 M.length c2_) (.slice B3 n3 d3) (.slice B4 n4 d4) k) => show Own4 (.slice B1 n1 d1) (.slice B2 n2 d2) (.slice B3 n3 d3) (.slice B4 n4 d4) k from (own4_2 hat k hO).elim id (fun hl => absurd hl (by have := HX.out.kept.1; omega))); clear HX HR HY3 HY2 hb hg hat x2_2; have HX := n0_; have HR := n1_; have HY3 := n2_; have HY2 := n3_; clear n0_ n1_ n2_ n3_ ho; have x2_2 := HX.out.cell 2 rfl 2 rfl; have f2_2 := HX.out.free 2 rfl 2)
  clear x2_2 f2_2
  have n0_ := Aside0.mk (HX.out.set (P := [_, _]) (cs' := #[.int .i64 cd, .slice B1 n1 d1, .slice X2 M.length c2_, .slice B3 n3 d3, .slice B4 n4 d4]) 2 (.slice X2 M.length c2_) rfl); have n1_ := Aside0.mk (HR.out.set (HX.out.at 2 rfl) (by decide) 2 (.slice X2 M.length c2_)); have n2_ := Aside0.mk (Kd.R_set HY3.out (HX.out.at 2 rfl) (fun q hq => by rw [e39 q hq]; decide) 2 (.slice X2 M.length c2_)); have n3_ := Aside0.mk (Kd.R_set HY2.out (HX.out.at 2 rfl) (fun q hq => by rw [e9 q hq]; decide) 2 (.slice X2 M.length c2_)); clear HX HR HY3 HY2 ; have HX := n0_; have HR := n1_; have HY3 := n2_; have HY2 := n3_; clear n0_ n1_ n2_ n3_
  generalize World.setCell w5 _ _ = W4 at HX HR HY3 HY2 ⊢
  refine ret2 (p := 9) (q := 5) (r := 6) (s := 7) (d1 := 60) (d2 := 61) rfl (by kernel_rfl) (by kernel_rfl) (by kernel_rfl) (by kernel_rfl) (by kernel_rfl) (fun _ _ _ _ _ h => h) rfl rfl rfl rfl (show (60 : Nat) < 62 by decide) (show (61 : Nat) < 62 by decide) (by decide) (HX.out.at 0 rfl) (HX.out.at 2 rfl) (HX.out.at 3 rfl) (HX.out.at 4 rfl) ?_ (fun w5 bR bS hk hb => ?_)
  ·
   have := HX.out.nd
   simp at this
   omega
  have HP := Aside0.mk (post_done (n := (n + 1)) (link := link) (cd := cd) HR.out (by have := HB.out; rw [HML.out, List.length_append]; simp only [List.length_cons, List.length_nil]; omega) HY3.out HY2.out (by rw [← HN.out]; exact HX.out.kept) HX.out.b0 HO.out (HX.out.at 3 rfl) (HX.out.at 4 rfl) (HX.out.new (_, _, _) (List.mem_of_getElem? (i := 3) rfl)) (HX.out.new (_, _, _) (List.mem_of_getElem? (i := 4) rfl)) hk hb)
  go_wp2
  all_goals exact bodyPost_ret (results_cc rfl _ _ _ _ 27 54 _ _ (0, 0) (0, 0) _ _ rfl bR Try.underlying27 rfl (by kernel_rfl) rfl bS Try.underlying54 rfl (by kernel_rfl)) rfl HP.out
end Go.Proofs.Ytnpbnmhbajiefaa.PFnSources
