-- OWN TEXT of FnSources: made by own_print.sh, finished by hand
import Derived.Test.YtnpbnmhbajiefaaGFnSourcesx0
import Derived.Test.YtnpbnmhbajiefaaGFnSourcesx9
import Derived.Test.YtnpbnmhbajiefaaGFnSourcesx10
namespace Go.Proofs.Ytnpbnmhbajiefaa.PFnSources
open Go.RowKit Go.Proofs.YtnpbnmhbajiefaaW.PrintWords Go.Proofs.YtnpbnmhbajiefaaW.PrintLast Go.Proofs.YtnpbnmhbajiefaaW.PrintMore
attribute [local go_sem] max2_int min2_int max_two min_two max_three min_three max_four min_four   -- for this text's walks alone
set_option linter.unusedVariables false
set_option linter.unusedSimpArgs false
mutual
def spec_SourceFor.j0 : Nat → ByteArray → Bool → ByteArray → List (S39) → List ByteArray → Option (ByteArray × Int)
 | 0, _, _, _, _, _ => none
 | k + 1, x1, x17, x362000, x362001, x362002 => if x17 = true then (none) else (spec_SourceFor.l0 k x1 (-1) 0 x362000 x362001 x362002)
def spec_SourceFor.l0 : Nat → ByteArray → Int → Int → ByteArray → List (S39) → List ByteArray → Option (ByteArray × Int)
 | 0, _, _, _, _, _, _ => none
 | k + 1, x1, x6, x7, x362000, x362001, x362002 => if x7 < (x362001.length : Int) then (if 0 ≤ x7 then (if ((rd_T39 x362001 x7).f1) = 1 then (spec_SourceFor.l0 k x1 x6 (wrap64 (x7 + 1)) x362000 x362001 x362002) else (if x6 ≥ 0 then (if 0 ≤ x6 then (if x6 < (x362001.length : Int) then (if ((rd_T39 x362001 x7).f1) > ((rd_T39 x362001 x6).f1) then (spec_SourceFor.l0 k x1 x6 (wrap64 (x7 + 1)) x362000 x362001 x362002) else (if ((rd_T39 x362001 x7).f1) = ((rd_T39 x362001 x6).f1) then ((spec_l14Common.f k ((rd_T39 x362001 x7).f0) x1).bind fun t368 => ((spec_l14Common.f k ((rd_T39 x362001 x6).f0) x1).bind fun t369 => (if t368 ≤ t369 then (spec_SourceFor.l0 k x1 x6 (wrap64 (x7 + 1)) x362000 x362001 x362002) else (spec_SourceFor.l0 k x1 x7 (wrap64 (x7 + 1)) x362000 x362001 x362002)))) else (spec_SourceFor.l0 k x1 x7 (wrap64 (x7 + 1)) x362000 x362001 x362002))) else (none)) else (none)) else (spec_SourceFor.l0 k x1 x7 (wrap64 (x7 + 1)) x362000 x362001 x362002))) else (none)) else (if x6 < 0 then (some ((⟨#[]⟩ : ByteArray), 5)) else (if 0 ≤ x6 then (if x6 < (x362001.length : Int) then (some ((rd_T39 x362001 x6).f0, 0)) else (none)) else (none)))
end
def spec_SourceFor.f (k : Nat) (a0_0 : ByteArray) (l0_1 : List (S39)) (l0_2 : List ByteArray) (a1 : ByteArray) : Option (ByteArray × Int) := (spec_AutoOK.f k a0_0 l0_1 l0_2).bind fun t362 => (if t362 = true then (spec_SourceFor.j0 k a1 ((a1.size : Int) != 16) a0_0 l0_1 l0_2) else (spec_SourceFor.j0 k a1 true a0_0 l0_1 l0_2))
def spec_SourceFor.T11 : Bool × List (List Nat × List Nat) := (true, [([], []), ([0], [0]), ([], []), ([2], [2]), ([1, 3], [1, 3]), ([4], [4]), ([5], [5]), ([6, 5], [5, 6]), ([5], [5]), ([8, 5], [5, 8]), ([7, 9, 5], [5, 7, 9]), ([10, 5, 5], [5, 10]), ([11], [11]), ([12, 11], [11, 12]), ([11], [11]), ([13, 14, 11, 11], [11, 13, 14]), ([11], [11]), ([16, 11], [11, 16]), ([11], [11]), ([17, 18, 15, 11], [11, 17, 18]), ([15, 19, 11], [11, 15, 19]), ([11, 20, 5], [5, 11, 20]), ([5, 21], [5, 21])])
def spec_SourceFor.B11 : List Nat := [0, 1, 0, 4, 15, 31, 63, 127, 63, 319, 1023, 2047, 4095, 8191, 4095, 32767, 4095, 69631, 4095, 524287, 1048575, 2097151, 4194303]
theorem spec_SourceFor.tab11 : rtab .any (opsOf Try.f12 11) = spec_SourceFor.T11 := by kernel_rfl
theorem spec_SourceFor.bits11 : waitsOk spec_SourceFor.T11.2 spec_SourceFor.B11 = true := by kernel_rfl
set_option maxHeartbeats 8000000 in
set_option maxRecDepth 100000 in
theorem spec_SourceFor.calls (k : Nat) (a0_0 : ByteArray) (A0_1 : Option Addr) (c0_1 : Nat) (l0_1 : List (S39)) (A0_2 : Option Addr) (c0_2 : Nat) (l0_2 : List ByteArray) (a1 : ByteArray) (r1 : ByteArray) (r2 : Int) (w : World) (hr0_1 : Kd.C k39 w A0_1 l0_1.length l0_1) (hc0_1 : l0_1.length ≤ c0_1) (hr0_2 : Kd.C Kd.string w A0_2 l0_2.length l0_2) (hc0_2 : l0_2.length ≤ c0_2) (h : spec_SourceFor.f k a0_0 l0_1 l0_2 a1 = some (r1, r2)) :
  Calls Try.prog 12 #[.agg #[.string a0_0, .slice A0_1 l0_1.length c0_1, .slice A0_2 l0_2.length c0_2], .string a1] w fun e w' => e = .returned (.tuple #[.string r1, .int .i64 r2]) ∧ Below w.heap.size w w' := by
 have hu27 := Try.underlying27
 have hu39 := Try.underlying39
 have HR0_1 := Aside0.mk hr0_1
 have HC0_1 := Aside0.mk hc0_1
 clear hr0_1 hc0_1
 have HR0_2 := Aside0.mk hr0_2
 have HC0_2 := Aside0.mk hc0_2
 clear hr0_2 hc0_2
 have HB := Aside0.mk (Below.refl w.heap.size w)
 have H : ((spec_AutoOK.f k a0_0 l0_1 l0_2).bind fun t362 => (if t362 = true then (spec_SourceFor.j0 k a1 ((a1.size : Int) != 16) a0_0 l0_1 l0_2) else (spec_SourceFor.j0 k a1 true a0_0 l0_1 l0_2))) = some (r1, r2) := h
 clear h
 have HC3 := Aside0.mk H
 clear H
 go_enter Try.func12, Try.ntmps12
 go_upto_region 1 with ((with_reducible refine gate_dst (N := 2) rfl ?_); (try (refine gate_guard (by rfl) ?_; dsimp only)); refine box_event ?hg (N := 2) ?hd (cs := #[.string a0_0, .slice A0_1 l0_1.length c0_1, .slice A0_2 l0_2.length c0_2]) (t := 27) ?hr ?_; (case hd => rfl); (case hg => rfl); (case hr => (go_simp; done)); intro gb361 hg w4 hbox hb; have n0_ := Aside0.mk (below_step HB.out hb); have n1_ := Aside0.mk (hbox); have n2_ := Aside0.mk ((by rw [hg]; exact (below_size HB.out) : w.heap.size ≤ gb361)); have n3_ := Aside0.mk ((by rw [hg]; exact (below_size HB.out) : w.heap.size ≤ gb361)); clear HB; have HB := n0_; have BK361 := n1_; have GW361 := n2_; have GE361 := n3_; clear n0_ n1_ n2_ n3_; clear hb hbox hg)
 (try simp only [Act.put, List.setIfInBounds_toArray, List.set_cons_zero, List.set_cons_succ])
 go_cut [17] (fun v17 wc => ∃ (kq : Nat) (x17_2 : Bool), v17 = .bool x17_2 ∧ Aside0 (spec_SourceFor.j0 kq a1 x17_2 a0_0 l0_1 l0_2 = some (r1, r2)) ∧ Aside0 (kq ≤ k) ∧ Aside0 (wc.heap[gb361]? = some (.cells #[.string a0_0, (.slice A0_1 l0_1.length c0_1), (.slice A0_2 l0_2.length c0_2)] 27 (0, 0))) ∧ Aside0 (Below w.heap.size w wc))
 case first =>
  have H := HC3.out
  clear HC3
  replace H := Option.bind_eq_some_iff.mp H
  obtain ⟨t362, A50, H⟩ := H
  have A5 := Aside0.mk A50
  clear A50
  by_cases c6 : t362 = true
  ·
   subst c6
   rw [if_pos rfl] at H
   have H' := Aside0.mk H
   clear H
   have hcz7_0 : w4.cell? ⟨gb361, 0, none⟩ = some (.string a0_0) := (blk_cell BK361.out 0).trans rfl
   have hcz7_1 : w4.cell? ⟨gb361, 1, none⟩ = some (.slice A0_1 l0_1.length c0_1) := (blk_cell BK361.out 1).trans rfl
   have hcz7_2 : w4.cell? ⟨gb361, 2, none⟩ = some (.slice A0_2 l0_2.length c0_2) := (blk_cell BK361.out 2).trans rfl
   have hfz7_0 := blk_frozen BK361.out 0
   have hfz7_1 := blk_frozen BK361.out 1
   have hfz7_2 := blk_frozen BK361.out 2
   go_wp2_with ((with_reducible refine gate_callee (f := 15) rfl ?_); refine goesL_ (some 11) rfl rfl Try.func15 (by kernel_rfl) rfl #[.agg #[.string a0_0, .slice A0_1 l0_1.length c0_1, .slice A0_2 l0_2.length c0_2]] rfl (by (try simp only [List.map_toArray, List.map_cons, List.map_nil]); rfl) ?_; (with_reducible refine (spec_AutoOK.calls k a0_0 _ _ l0_1 _ _ l0_2 true _ ?side1 ?side2 ?side3 ?side4 A5.out).mono ?_); (case side1 => repeat (exact (Kd.C_below HR0_1.out HB.out))); (case side2 => exact HC0_1.out); (case side3 => repeat (exact (Kd.C_below HR0_2.out HB.out))); (case side4 => exact HC0_2.out); rintro e w8 ⟨rfl, hb⟩; refine ⟨_, rfl, ?_⟩; have n0_ := Aside0.mk (blk_below (g := gb361) (o := .cells #[.string a0_0, .slice A0_1 l0_1.length c0_1, .slice A0_2 l0_2.length c0_2] 27 (0, 0)) (by exact BK361.out) hb); have n1_ := Aside0.mk (below_step (HB.out) hb); clear BK361; clear HB; have BK361 := n0_; have HB := n1_; clear n0_ n1_; (try clear hb))
   go_meet
   case rel => exact ⟨_, (((a1.size : Int) != 16)), (by rfl), H', ⟨by omega⟩, ⟨by exact BK361.out⟩, ⟨HB.out⟩⟩
  ·
   replace c6 := Bool.eq_false_iff.mpr c6
   subst c6
   rw [if_neg (show ¬ (false = true) by decide)] at H
   have H' := Aside0.mk H
   clear H
   have hcz9_0 : w4.cell? ⟨gb361, 0, none⟩ = some (.string a0_0) := (blk_cell BK361.out 0).trans rfl
   have hcz9_1 : w4.cell? ⟨gb361, 1, none⟩ = some (.slice A0_1 l0_1.length c0_1) := (blk_cell BK361.out 1).trans rfl
   have hcz9_2 : w4.cell? ⟨gb361, 2, none⟩ = some (.slice A0_2 l0_2.length c0_2) := (blk_cell BK361.out 2).trans rfl
   have hfz9_0 := blk_frozen BK361.out 0
   have hfz9_1 := blk_frozen BK361.out 1
   have hfz9_2 := blk_frozen BK361.out 2
   go_wp2_with ((with_reducible refine gate_callee (f := 15) rfl ?_); refine goesL_ (some 11) rfl rfl Try.func15 (by kernel_rfl) rfl #[.agg #[.string a0_0, .slice A0_1 l0_1.length c0_1, .slice A0_2 l0_2.length c0_2]] rfl (by (try simp only [List.map_toArray, List.map_cons, List.map_nil]); rfl) ?_; (with_reducible refine (spec_AutoOK.calls k a0_0 _ _ l0_1 _ _ l0_2 false _ ?side1 ?side2 ?side3 ?side4 A5.out).mono ?_); (case side1 => repeat (exact (Kd.C_below HR0_1.out HB.out))); (case side2 => exact HC0_1.out); (case side3 => repeat (exact (Kd.C_below HR0_2.out HB.out))); (case side4 => exact HC0_2.out); rintro e w10 ⟨rfl, hb⟩; refine ⟨_, rfl, ?_⟩; have n0_ := Aside0.mk (blk_below (g := gb361) (o := .cells #[.string a0_0, .slice A0_1 l0_1.length c0_1, .slice A0_2 l0_2.length c0_2] 27 (0, 0)) (by exact BK361.out) hb); have n1_ := Aside0.mk (below_step (HB.out) hb); clear BK361; clear HB; have BK361 := n0_; have HB := n1_; clear n0_ n1_; (try clear hb))
   go_meet
   case rel => exact ⟨_, (true), (by rfl), H', ⟨by omega⟩, ⟨by exact BK361.out⟩, ⟨HB.out⟩⟩
 case rest =>
  clear HC3
  obtain ⟨kq, x17_2, rfl, HA, HJ2, BK361, HB⟩ := hcut
  cases kq with
  | zero => exact absurd HA.out (by simp [spec_SourceFor.j0])
  | succ kj2 =>
   have H := HA.out
   clear HA
   simp only [spec_SourceFor.j0] at H
   by_cases c11 : x17_2 = true
   ·
    subst c11
    rw [if_pos rfl] at H
    exact absurd H (by simp)
   ·
    replace c11 := Bool.eq_false_iff.mpr c11
    subst c11
    rw [if_neg (show ¬ (false = true) by decide)] at H
    have H' := Aside0.mk H
    clear H
    go_wp2
    go_loopg [6, 7] kj2 (fun kq v6 v7 w' => ∃ (x6_2 : Int) (x7_2 : Int), v6 = .int .i64 x6_2 ∧ v7 = .int .i64 x7_2 ∧ Aside0 (spec_SourceFor.l0 kq a1 x6_2 x7_2 a0_0 l0_1 l0_2 = some (r1, r2)) ∧ Aside0 (kq ≤ kj2) ∧ Aside0 (w'.heap[gb361]? = some (.cells #[.string a0_0, (.slice A0_1 l0_1.length c0_1), (.slice A0_2 l0_2.length c0_2)] 27 (0, 0))) ∧ Aside0 (Below w.heap.size w w'))
    case atStart => exact ⟨((-1)), (0), (by rfl), (by rfl), H', ⟨Nat.le_refl _⟩, ⟨by exact BK361.out⟩, ⟨HB.out⟩⟩
    case round =>
     clear H'
     obtain ⟨x6_2, x7_2, rfl, rfl, HA, HK2, BK361, HB⟩ := hrel
     cases gk with
     | zero => exact absurd HA.out (by simp [spec_SourceFor.l0])
     | succ k2 =>
      have H := HA.out
      clear HA
      simp only [spec_SourceFor.l0] at H
      by_cases c12 : x7_2 < (l0_1.length : Int)
      ·
       rw [if_pos c12] at H
       have c12b0 : decide (x7_2 < (l0_1.length : Int)) = true := decide_eq_true c12
       clear c12
       by_cases c13 : 0 ≤ x7_2
       ·
        rw [if_pos c13] at H
        have c13b0 : decide (0 ≤ x7_2) = true := decide_eq_true c13
        clear c13
        by_cases c14 : ((rd_T39 l0_1 x7_2).f1) = 1
        ·
         rw [if_pos c14] at H
         have c14b0 : (((rd_T39 l0_1 x7_2).f1) == 1) = true := beq_iff_eq.mpr c14
         have c14b1 : (((rd_T39 l0_1 x7_2).f1) != 1) = false := bne_eq_false_iff_eq.mpr c14
         clear c14
         have H' := Aside0.mk H
         clear H
         have hcz15_0 : wr.cell? ⟨gb361, 0, none⟩ = some (.string a0_0) := (blk_cell BK361.out 0).trans rfl
         have hcz15_1 : wr.cell? ⟨gb361, 1, none⟩ = some (.slice A0_1 l0_1.length c0_1) := (blk_cell BK361.out 1).trans rfl
         have hcz15_2 : wr.cell? ⟨gb361, 2, none⟩ = some (.slice A0_2 l0_2.length c0_2) := (blk_cell BK361.out 2).trans rfl
         have hfz15_0 := blk_frozen BK361.out 0
         have hfz15_1 := blk_frozen BK361.out 1
         have hfz15_2 := blk_frozen BK361.out 2
         have p364 : 0 ≤ (x7_2 : Int) := of_decide_eq_true (by (with_reducible assumption))
         have q364 : x7_2 < (l0_1.length : Int) := of_decide_eq_true (by (with_reducible assumption))
         obtain ⟨ad364, e364, hx364_0, hx364_1, hx364_2, hx364_3, hx364_4⟩ := at_T39 HR0_1.out x7_2 p364 q364
         cases e364
         replace hx364_0 := (HB.out.cell (World.block_lt_of_cell? w _ hx364_0)).trans hx364_0
         replace hx364_1 := (HB.out.cell (World.block_lt_of_cell? w _ hx364_1)).trans hx364_1
         replace hx364_2 := (HB.out.cell (World.block_lt_of_cell? w _ hx364_2)).trans hx364_2
         replace hx364_3 := (HB.out.cell (World.block_lt_of_cell? w _ hx364_3)).trans hx364_3
         replace hx364_4 := (HB.out.cell (World.block_lt_of_cell? w _ hx364_4)).trans hx364_4
         replace p364 := eq_true p364
         replace q364 := eq_true q364
         go_wp2_with ((with_reducible refine gate_dst (N := 8) rfl ?_); (try (refine gate_guard (by rfl) ?_; dsimp only)); refine box_event ?hg (N := 8) ?hd (cs := #[.string (⟨#[]⟩ : ByteArray), .int .i64 0, .int .i64 0, .int .i64 0, .int .i64 0]) (t := 39) ?hr ?_; (case hd => rfl); (case hg => rfl); (case hr => (go_simp; done)); intro gb365 hg w16 hbox hb; have n0_ := Aside0.mk (blk_below (g := gb361) (o := .cells #[.string a0_0, .slice (some ad364) l0_1.length c0_1, .slice A0_2 l0_2.length c0_2] 27 (0, 0)) (by exact BK361.out) hb); have n1_ := Aside0.mk (below_step (HB.out) hb); have n2_ := Aside0.mk (hbox); have n3_ := Aside0.mk ((by rw [hg]; exact (below_size (HB.out)) : w.heap.size ≤ gb365)); have n4_ := Aside0.mk ((by rw [hg]; exact (below_size (HB.out)) : w.heap.size ≤ gb365)); have n5_ := Aside0.mk ((by rw [hg]; exact Nat.ne_of_lt (blk_lt (g := gb361) (o := .cells #[.string a0_0, .slice (some ad364) l0_1.length c0_1, .slice A0_2 l0_2.length c0_2] 27 (0, 0)) (by exact BK361.out)) : gb361 ≠ gb365)); have n6_ := Aside0.mk ((by rw [hg]; exact Nat.ne_of_gt (blk_lt (g := gb361) (o := .cells #[.string a0_0, .slice (some ad364) l0_1.length c0_1, .slice A0_2 l0_2.length c0_2] 27 (0, 0)) (by exact BK361.out)) : gb365 ≠ gb361)); clear BK361; clear HB; have BK361 := n0_; have HB := n1_; have BK365 := n2_; have GW365 := n3_; have GE365 := n4_; have NB361_365 := n5_; have NB365_361 := n6_; clear n0_ n1_ n2_ n3_ n4_ n5_ n6_; clear hb hbox hg; have hnb17 := NB365_361.out; have hnc17 := NB361_365.out; have hcz18_0 : w16.cell? ⟨gb365, 0, none⟩ = some (.string (⟨#[]⟩ : ByteArray)) := (blk_cell BK365.out 0).trans rfl; have hcz18_1 : w16.cell? ⟨gb365, 1, none⟩ = some (.int .i64 0) := (blk_cell BK365.out 1).trans rfl; have hcz18_2 : w16.cell? ⟨gb365, 2, none⟩ = some (.int .i64 0) := (blk_cell BK365.out 2).trans rfl; have hcz18_3 : w16.cell? ⟨gb365, 3, none⟩ = some (.int .i64 0) := (blk_cell BK365.out 3).trans rfl; have hcz18_4 : w16.cell? ⟨gb365, 4, none⟩ = some (.int .i64 0) := (blk_cell BK365.out 4).trans rfl; have hfz18_0 := blk_frozen BK365.out 0; have hfz18_1 := blk_frozen BK365.out 1; have hfz18_2 := blk_frozen BK365.out 2; have hfz18_3 := blk_frozen BK365.out 3; have hfz18_4 := blk_frozen BK365.out 4)
         go_roundg k2
         case measure => have := HJ2.out; have := HK2.out; omega
         case rel => exact ⟨(x6_2), (wrap64 (x7_2 + 1)), (by rfl), (by rfl), H', ⟨by have := HJ2.out; have := HK2.out; omega⟩, ⟨by refine blk_far ?_ NB361_365.out _; refine blk_far ?_ NB361_365.out _; refine blk_far ?_ NB361_365.out _; refine blk_far ?_ NB361_365.out _; refine blk_far ?_ NB361_365.out _; exact BK361.out⟩, ⟨by repeat ((with_reducible first | exact HB.out | refine below_set ?_ GE365.out))⟩⟩
        ·
         rw [if_neg c14] at H
         have c14b0 : (((rd_T39 l0_1 x7_2).f1) == 1) = false := beq_eq_false_iff_ne.mpr c14
         have c14b1 : (((rd_T39 l0_1 x7_2).f1) != 1) = true := bne_iff_ne.mpr c14
         by_cases c19 : x6_2 ≥ 0
         ·
          rw [if_pos c19] at H
          have c19b0 : decide (0 ≤ x6_2) = true := decide_eq_true c19
          clear c19
          by_cases c20 : 0 ≤ x6_2
          ·
           rw [if_pos c20] at H
           have c20b0 : decide (0 ≤ x6_2) = true := decide_eq_true c20
           clear c20
           by_cases c21 : x6_2 < (l0_1.length : Int)
           ·
            rw [if_pos c21] at H
            have c21b0 : decide (x6_2 < (l0_1.length : Int)) = true := decide_eq_true c21
            clear c21
            by_cases c22 : ((rd_T39 l0_1 x7_2).f1) > ((rd_T39 l0_1 x6_2).f1)
            ·
             rw [if_pos c22] at H
             have c22b0 : decide (((rd_T39 l0_1 x6_2).f1) < ((rd_T39 l0_1 x7_2).f1)) = true := decide_eq_true c22
             clear c22
             have H' := Aside0.mk H
             clear H
             have hcz23_0 : wr.cell? ⟨gb361, 0, none⟩ = some (.string a0_0) := (blk_cell BK361.out 0).trans rfl
             have hcz23_1 : wr.cell? ⟨gb361, 1, none⟩ = some (.slice A0_1 l0_1.length c0_1) := (blk_cell BK361.out 1).trans rfl
             have hcz23_2 : wr.cell? ⟨gb361, 2, none⟩ = some (.slice A0_2 l0_2.length c0_2) := (blk_cell BK361.out 2).trans rfl
             have hfz23_0 := blk_frozen BK361.out 0
             have hfz23_1 := blk_frozen BK361.out 1
             have hfz23_2 := blk_frozen BK361.out 2
             have p364 : 0 ≤ (x7_2 : Int) := of_decide_eq_true (by (with_reducible assumption))
             have q364 : x7_2 < (l0_1.length : Int) := of_decide_eq_true (by (with_reducible assumption))
             obtain ⟨ad364, e364, hx364_0, hx364_1, hx364_2, hx364_3, hx364_4⟩ := at_T39 HR0_1.out x7_2 p364 q364
             cases e364
             replace hx364_0 := (HB.out.cell (World.block_lt_of_cell? w _ hx364_0)).trans hx364_0
             replace hx364_1 := (HB.out.cell (World.block_lt_of_cell? w _ hx364_1)).trans hx364_1
             replace hx364_2 := (HB.out.cell (World.block_lt_of_cell? w _ hx364_2)).trans hx364_2
             replace hx364_3 := (HB.out.cell (World.block_lt_of_cell? w _ hx364_3)).trans hx364_3
             replace hx364_4 := (HB.out.cell (World.block_lt_of_cell? w _ hx364_4)).trans hx364_4
             replace p364 := eq_true p364
             replace q364 := eq_true q364
             try go_wp2_with (first | ((with_reducible refine gate_dst (N := 8) rfl ?_); (try (refine gate_guard (by rfl) ?_; dsimp only)); refine box_event ?hg (N := 8) ?hd (cs := #[.string (⟨#[]⟩ : ByteArray), .int .i64 0, .int .i64 0, .int .i64 0, .int .i64 0]) (t := 39) ?hr ?_; (case hd => rfl); (case hg => rfl); (case hr => (go_simp; done)); intro gb365 hg w24 hbox hb; have n0_ := Aside0.mk (blk_below (g := gb361) (o := .cells #[.string a0_0, .slice (some ad364) l0_1.length c0_1, .slice A0_2 l0_2.length c0_2] 27 (0, 0)) (by exact BK361.out) hb); have n1_ := Aside0.mk (below_step (HB.out) hb); have n2_ := Aside0.mk (hbox); have n3_ := Aside0.mk ((by rw [hg]; exact (below_size (HB.out)) : w.heap.size ≤ gb365)); have n4_ := Aside0.mk ((by rw [hg]; exact (below_size (HB.out)) : w.heap.size ≤ gb365)); have n5_ := Aside0.mk ((by rw [hg]; exact Nat.ne_of_lt (blk_lt (g := gb361) (o := .cells #[.string a0_0, .slice (some ad364) l0_1.length c0_1, .slice A0_2 l0_2.length c0_2] 27 (0, 0)) (by exact BK361.out)) : gb361 ≠ gb365)); have n6_ := Aside0.mk ((by rw [hg]; exact Nat.ne_of_gt (blk_lt (g := gb361) (o := .cells #[.string a0_0, .slice (some ad364) l0_1.length c0_1, .slice A0_2 l0_2.length c0_2] 27 (0, 0)) (by exact BK361.out)) : gb365 ≠ gb361)); clear BK361; clear HB; have BK361 := n0_; have HB := n1_; have BK365 := n2_; have GW365 := n3_; have GE365 := n4_; have NB361_365 := n5_; have NB365_361 := n6_; clear n0_ n1_ n2_ n3_ n4_ n5_ n6_; clear hb hbox hg; have hnb25 := NB365_361.out; have hnc25 := NB361_365.out; have hcz26_0 : w24.cell? ⟨gb365, 0, none⟩ = some (.string (⟨#[]⟩ : ByteArray)) := (blk_cell BK365.out 0).trans rfl; have hcz26_1 : w24.cell? ⟨gb365, 1, none⟩ = some (.int .i64 0) := (blk_cell BK365.out 1).trans rfl; have hcz26_2 : w24.cell? ⟨gb365, 2, none⟩ = some (.int .i64 0) := (blk_cell BK365.out 2).trans rfl; have hcz26_3 : w24.cell? ⟨gb365, 3, none⟩ = some (.int .i64 0) := (blk_cell BK365.out 3).trans rfl; have hcz26_4 : w24.cell? ⟨gb365, 4, none⟩ = some (.int .i64 0) := (blk_cell BK365.out 4).trans rfl; have hfz26_0 := blk_frozen BK365.out 0; have hfz26_1 := blk_frozen BK365.out 1; have hfz26_2 := blk_frozen BK365.out 2; have hfz26_3 := blk_frozen BK365.out 3; have hfz26_4 := blk_frozen BK365.out 4; have hcz27_0 : w24.cell? ⟨gb361, 0, none⟩ = some (.string a0_0) := (blk_cell BK361.out 0).trans rfl; have hcz27_1 : w24.cell? ⟨gb361, 1, none⟩ = some (.slice (some ad364) l0_1.length c0_1) := (blk_cell BK361.out 1).trans rfl; have hcz27_2 : w24.cell? ⟨gb361, 2, none⟩ = some (.slice A0_2 l0_2.length c0_2) := (blk_cell BK361.out 2).trans rfl; have hfz27_0 := blk_frozen BK361.out 0; have hfz27_1 := blk_frozen BK361.out 1; have hfz27_2 := blk_frozen BK361.out 2; have p366 : 0 ≤ (x6_2 : Int) := of_decide_eq_true (by (with_reducible assumption)); have q366 : x6_2 < (l0_1.length : Int) := of_decide_eq_true (by (with_reducible assumption)); obtain ⟨ad366, e366, hx366_0, hx366_1, hx366_2, hx366_3, hx366_4⟩ := at_T39 HR0_1.out x6_2 p366 q366; obtain rfl : ad364 = ad366 := (by injection e366); have hn366_0 : ad364.block ≠ gb365 := Nat.ne_of_lt (Nat.lt_of_lt_of_le (by have := World.block_lt_of_cell? _ _ hx366_0; rwa [add_block] at this) GW365.out); have hn366_1 : ad364.block ≠ gb365 := Nat.ne_of_lt (Nat.lt_of_lt_of_le (by have := World.block_lt_of_cell? _ _ hx366_0; rwa [add_block] at this) GW365.out); have hn366_2 : ad364.block ≠ gb365 := Nat.ne_of_lt (Nat.lt_of_lt_of_le (by have := World.block_lt_of_cell? _ _ hx366_0; rwa [add_block] at this) GW365.out); have hn366_3 : ad364.block ≠ gb365 := Nat.ne_of_lt (Nat.lt_of_lt_of_le (by have := World.block_lt_of_cell? _ _ hx366_0; rwa [add_block] at this) GW365.out); have hn366_4 : ad364.block ≠ gb365 := Nat.ne_of_lt (Nat.lt_of_lt_of_le (by have := World.block_lt_of_cell? _ _ hx366_0; rwa [add_block] at this) GW365.out); replace hx366_0 := (HB.out.cell (World.block_lt_of_cell? w _ hx366_0)).trans hx366_0; replace hx366_1 := (HB.out.cell (World.block_lt_of_cell? w _ hx366_1)).trans hx366_1; replace hx366_2 := (HB.out.cell (World.block_lt_of_cell? w _ hx366_2)).trans hx366_2; replace hx366_3 := (HB.out.cell (World.block_lt_of_cell? w _ hx366_3)).trans hx366_3; replace hx366_4 := (HB.out.cell (World.block_lt_of_cell? w _ hx366_4)).trans hx366_4; replace hx366_0 := far5 (by (rw [add_block]; exact hn366_0)) hx366_0 (.string ((rd_T39 l0_1 x7_2).f0)) (.int .i64 ((rd_T39 l0_1 x7_2).f1)) (.int .i64 ((rd_T39 l0_1 x7_2).f2)) (.int .i64 ((rd_T39 l0_1 x7_2).f3)) (.int .i64 ((rd_T39 l0_1 x7_2).f4)); replace hx366_1 := far5 (by (rw [add_block]; exact hn366_1)) hx366_1 (.string ((rd_T39 l0_1 x7_2).f0)) (.int .i64 ((rd_T39 l0_1 x7_2).f1)) (.int .i64 ((rd_T39 l0_1 x7_2).f2)) (.int .i64 ((rd_T39 l0_1 x7_2).f3)) (.int .i64 ((rd_T39 l0_1 x7_2).f4)); replace hx366_2 := far5 (by (rw [add_block]; exact hn366_2)) hx366_2 (.string ((rd_T39 l0_1 x7_2).f0)) (.int .i64 ((rd_T39 l0_1 x7_2).f1)) (.int .i64 ((rd_T39 l0_1 x7_2).f2)) (.int .i64 ((rd_T39 l0_1 x7_2).f3)) (.int .i64 ((rd_T39 l0_1 x7_2).f4)); replace hx366_3 := far5 (by (rw [add_block]; exact hn366_3)) hx366_3 (.string ((rd_T39 l0_1 x7_2).f0)) (.int .i64 ((rd_T39 l0_1 x7_2).f1)) (.int .i64 ((rd_T39 l0_1 x7_2).f2)) (.int .i64 ((rd_T39 l0_1 x7_2).f3)) (.int .i64 ((rd_T39 l0_1 x7_2).f4)); replace hx366_4 := far5 (by (rw [add_block]; exact hn366_4)) hx366_4 (.string ((rd_T39 l0_1 x7_2).f0)) (.int .i64 ((rd_T39 l0_1 x7_2).f1)) (.int .i64 ((rd_T39 l0_1 x7_2).f2)) (.int .i64 ((rd_T39 l0_1 x7_2).f3)) (.int .i64 ((rd_T39 l0_1 x7_2).f4)); clear hn366_0; clear hn366_1; clear hn366_2; clear hn366_3; clear hn366_4; replace p366 := eq_true p366; replace q366 := eq_true q366) | ((with_reducible refine gate_dst (N := 9) rfl ?_); (try (refine gate_guard (by rfl) ?_; dsimp only)); refine box_event ?hg (N := 9) ?hd (cs := #[.string (⟨#[]⟩ : ByteArray), .int .i64 0, .int .i64 0, .int .i64 0, .int .i64 0]) (t := 39) ?hr ?_; (case hd => rfl); (case hg => rfl); (case hr => (go_simp; done)); intro gb367 hg w28 hbox hb; have n0_ := Aside0.mk (blk_below (g := gb361) (o := .cells #[.string a0_0, .slice (some ad364) l0_1.length c0_1, .slice A0_2 l0_2.length c0_2] 27 (0, 0)) (by refine blk_far ?_ NB361_365.out _; refine blk_far ?_ NB361_365.out _; refine blk_far ?_ NB361_365.out _; refine blk_far ?_ NB361_365.out _; refine blk_far ?_ NB361_365.out _; exact BK361.out) hb); have n1_ := Aside0.mk (blk_below (g := gb365) (o := .cells #[.string ((rd_T39 l0_1 x7_2).f0), .int .i64 ((rd_T39 l0_1 x7_2).f1), .int .i64 ((rd_T39 l0_1 x7_2).f2), .int .i64 ((rd_T39 l0_1 x7_2).f3), .int .i64 ((rd_T39 l0_1 x7_2).f4)] 39 (0, 0)) (by refine blk_put (cs := #[.string ((rd_T39 l0_1 x7_2).f0), .int .i64 ((rd_T39 l0_1 x7_2).f1), .int .i64 ((rd_T39 l0_1 x7_2).f2), .int .i64 ((rd_T39 l0_1 x7_2).f3), .int .i64 0]) ?_ 4 _ rfl; refine blk_put (cs := #[.string ((rd_T39 l0_1 x7_2).f0), .int .i64 ((rd_T39 l0_1 x7_2).f1), .int .i64 ((rd_T39 l0_1 x7_2).f2), .int .i64 0, .int .i64 0]) ?_ 3 _ rfl; refine blk_put (cs := #[.string ((rd_T39 l0_1 x7_2).f0), .int .i64 ((rd_T39 l0_1 x7_2).f1), .int .i64 0, .int .i64 0, .int .i64 0]) ?_ 2 _ rfl; refine blk_put (cs := #[.string ((rd_T39 l0_1 x7_2).f0), .int .i64 0, .int .i64 0, .int .i64 0, .int .i64 0]) ?_ 1 _ rfl; refine blk_put (cs := #[.string (⟨#[]⟩ : ByteArray), .int .i64 0, .int .i64 0, .int .i64 0, .int .i64 0]) ?_ 0 _ rfl; exact BK365.out) hb); have n2_ := Aside0.mk (below_step (by repeat ((with_reducible first | exact HB.out | refine below_set ?_ GE365.out))) hb); have n3_ := Aside0.mk (hbox); have n4_ := Aside0.mk ((by rw [hg]; exact (below_size (by repeat ((with_reducible first | exact HB.out | refine below_set ?_ GE365.out)))) : w.heap.size ≤ gb367)); have n5_ := Aside0.mk ((by rw [hg]; exact (below_size (by repeat ((with_reducible first | exact HB.out | refine below_set ?_ GE365.out)))) : w.heap.size ≤ gb367)); have n6_ := Aside0.mk ((by rw [hg]; exact Nat.ne_of_lt (blk_lt (g := gb361) (o := .cells #[.string a0_0, .slice (some ad364) l0_1.length c0_1, .slice A0_2 l0_2.length c0_2] 27 (0, 0)) (by refine blk_far ?_ NB361_365.out _; refine blk_far ?_ NB361_365.out _; refine blk_far ?_ NB361_365.out _; refine blk_far ?_ NB361_365.out _; refine blk_far ?_ NB361_365.out _; exact BK361.out)) : gb361 ≠ gb367)); have n7_ := Aside0.mk ((by rw [hg]; exact Nat.ne_of_gt (blk_lt (g := gb361) (o := .cells #[.string a0_0, .slice (some ad364) l0_1.length c0_1, .slice A0_2 l0_2.length c0_2] 27 (0, 0)) (by refine blk_far ?_ NB361_365.out _; refine blk_far ?_ NB361_365.out _; refine blk_far ?_ NB361_365.out _; refine blk_far ?_ NB361_365.out _; refine blk_far ?_ NB361_365.out _; exact BK361.out)) : gb367 ≠ gb361)); have n8_ := Aside0.mk ((by rw [hg]; exact Nat.ne_of_lt (blk_lt (g := gb365) (o := .cells #[.string ((rd_T39 l0_1 x7_2).f0), .int .i64 ((rd_T39 l0_1 x7_2).f1), .int .i64 ((rd_T39 l0_1 x7_2).f2), .int .i64 ((rd_T39 l0_1 x7_2).f3), .int .i64 ((rd_T39 l0_1 x7_2).f4)] 39 (0, 0)) (by refine blk_put (cs := #[.string ((rd_T39 l0_1 x7_2).f0), .int .i64 ((rd_T39 l0_1 x7_2).f1), .int .i64 ((rd_T39 l0_1 x7_2).f2), .int .i64 ((rd_T39 l0_1 x7_2).f3), .int .i64 0]) ?_ 4 _ rfl; refine blk_put (cs := #[.string ((rd_T39 l0_1 x7_2).f0), .int .i64 ((rd_T39 l0_1 x7_2).f1), .int .i64 ((rd_T39 l0_1 x7_2).f2), .int .i64 0, .int .i64 0]) ?_ 3 _ rfl; refine blk_put (cs := #[.string ((rd_T39 l0_1 x7_2).f0), .int .i64 ((rd_T39 l0_1 x7_2).f1), .int .i64 0, .int .i64 0, .int .i64 0]) ?_ 2 _ rfl; refine blk_put (cs := #[.string ((rd_T39 l0_1 x7_2).f0), .int .i64 0, .int .i64 0, .int .i64 0, .int .i64 0]) ?_ 1 _ rfl; refine blk_put (cs := #[.string (⟨#[]⟩ : ByteArray), .int .i64 0, .int .i64 0, .int .i64 0, .int .i64 0]) ?_ 0 _ rfl; exact BK365.out)) : gb365 ≠ gb367)); have n9_ := Aside0.mk ((by rw [hg]; exact Nat.ne_of_gt (blk_lt (g := gb365) (o := .cells #[.string ((rd_T39 l0_1 x7_2).f0), .int .i64 ((rd_T39 l0_1 x7_2).f1), .int .i64 ((rd_T39 l0_1 x7_2).f2), .int .i64 ((rd_T39 l0_1 x7_2).f3), .int .i64 ((rd_T39 l0_1 x7_2).f4)] 39 (0, 0)) (by refine blk_put (cs := #[.string ((rd_T39 l0_1 x7_2).f0), .int .i64 ((rd_T39 l0_1 x7_2).f1), .int .i64 ((rd_T39 l0_1 x7_2).f2), .int .i64 ((rd_T39 l0_1 x7_2).f3), .int .i64 0]) ?_ 4 _ rfl; refine blk_put (cs := #[.string ((rd_T39 l0_1 x7_2).f0), .int .i64 ((rd_T39 l0_1 x7_2).f1), .int .i64 ((rd_T39 l0_1 x7_2).f2), .int .i64 0, .int .i64 0]) ?_ 3 _ rfl; refine blk_put (cs := #[.string ((rd_T39 l0_1 x7_2).f0), .int .i64 ((rd_T39 l0_1 x7_2).f1), .int .i64 0, .int .i64 0, .int .i64 0]) ?_ 2 _ rfl; refine blk_put (cs := #[.string ((rd_T39 l0_1 x7_2).f0), .int .i64 0, .int .i64 0, .int .i64 0, .int .i64 0]) ?_ 1 _ rfl; refine blk_put (cs := #[.string (⟨#[]⟩ : ByteArray), .int .i64 0, .int .i64 0, .int .i64 0, .int .i64 0]) ?_ 0 _ rfl; exact BK365.out)) : gb367 ≠ gb365)); clear BK361; clear BK365; clear HB; have BK361 := n0_; have BK365 := n1_; have HB := n2_; have BK367 := n3_; have GW367 := n4_; have GE367 := n5_; have NB361_367 := n6_; have NB367_361 := n7_; have NB365_367 := n8_; have NB367_365 := n9_; clear n0_ n1_ n2_ n3_ n4_ n5_ n6_ n7_ n8_ n9_; clear hb hbox hg; have hnb29 := NB367_361.out; have hnc29 := NB361_367.out; have hnb30 := NB367_365.out; have hnc30 := NB365_367.out; have hcz31_0 : w28.cell? ⟨gb367, 0, none⟩ = some (.string (⟨#[]⟩ : ByteArray)) := (blk_cell BK367.out 0).trans rfl; have hcz31_1 : w28.cell? ⟨gb367, 1, none⟩ = some (.int .i64 0) := (blk_cell BK367.out 1).trans rfl; have hcz31_2 : w28.cell? ⟨gb367, 2, none⟩ = some (.int .i64 0) := (blk_cell BK367.out 2).trans rfl; have hcz31_3 : w28.cell? ⟨gb367, 3, none⟩ = some (.int .i64 0) := (blk_cell BK367.out 3).trans rfl; have hcz31_4 : w28.cell? ⟨gb367, 4, none⟩ = some (.int .i64 0) := (blk_cell BK367.out 4).trans rfl; have hfz31_0 := blk_frozen BK367.out 0; have hfz31_1 := blk_frozen BK367.out 1; have hfz31_2 := blk_frozen BK367.out 2; have hfz31_3 := blk_frozen BK367.out 3; have hfz31_4 := blk_frozen BK367.out 4))
             have n0_ : Aside0 ((((((w28.setCell ⟨gb367, 0, none⟩ (.string ((rd_T39 l0_1 x6_2).f0))).setCell ⟨gb367, 1, none⟩ (.int .i64 ((rd_T39 l0_1 x6_2).f1))).setCell ⟨gb367, 2, none⟩ (.int .i64 ((rd_T39 l0_1 x6_2).f2))).setCell ⟨gb367, 3, none⟩ (.int .i64 ((rd_T39 l0_1 x6_2).f3))).setCell ⟨gb367, 4, none⟩ (.int .i64 ((rd_T39 l0_1 x6_2).f4))).heap[gb361]? = some (.cells #[.string a0_0, .slice (some ad364) l0_1.length c0_1, .slice A0_2 l0_2.length c0_2] 27 (0, 0))) := ⟨by refine blk_far ?_ NB361_367.out _; refine blk_far ?_ NB361_367.out _; refine blk_far ?_ NB361_367.out _; refine blk_far ?_ NB361_367.out _; refine blk_far ?_ NB361_367.out _; exact BK361.out⟩
             have n1_ : Aside0 ((((((w28.setCell ⟨gb367, 0, none⟩ (.string ((rd_T39 l0_1 x6_2).f0))).setCell ⟨gb367, 1, none⟩ (.int .i64 ((rd_T39 l0_1 x6_2).f1))).setCell ⟨gb367, 2, none⟩ (.int .i64 ((rd_T39 l0_1 x6_2).f2))).setCell ⟨gb367, 3, none⟩ (.int .i64 ((rd_T39 l0_1 x6_2).f3))).setCell ⟨gb367, 4, none⟩ (.int .i64 ((rd_T39 l0_1 x6_2).f4))).heap[gb365]? = some (.cells #[.string ((rd_T39 l0_1 x7_2).f0), .int .i64 ((rd_T39 l0_1 x7_2).f1), .int .i64 ((rd_T39 l0_1 x7_2).f2), .int .i64 ((rd_T39 l0_1 x7_2).f3), .int .i64 ((rd_T39 l0_1 x7_2).f4)] 39 (0, 0))) := ⟨by refine blk_far ?_ NB365_367.out _; refine blk_far ?_ NB365_367.out _; refine blk_far ?_ NB365_367.out _; refine blk_far ?_ NB365_367.out _; refine blk_far ?_ NB365_367.out _; exact BK365.out⟩
             have n2_ : Aside0 ((((((w28.setCell ⟨gb367, 0, none⟩ (.string ((rd_T39 l0_1 x6_2).f0))).setCell ⟨gb367, 1, none⟩ (.int .i64 ((rd_T39 l0_1 x6_2).f1))).setCell ⟨gb367, 2, none⟩ (.int .i64 ((rd_T39 l0_1 x6_2).f2))).setCell ⟨gb367, 3, none⟩ (.int .i64 ((rd_T39 l0_1 x6_2).f3))).setCell ⟨gb367, 4, none⟩ (.int .i64 ((rd_T39 l0_1 x6_2).f4))).heap[gb367]? = some (.cells #[.string ((rd_T39 l0_1 x6_2).f0), .int .i64 ((rd_T39 l0_1 x6_2).f1), .int .i64 ((rd_T39 l0_1 x6_2).f2), .int .i64 ((rd_T39 l0_1 x6_2).f3), .int .i64 ((rd_T39 l0_1 x6_2).f4)] 39 (0, 0))) := ⟨by refine blk_put (cs := #[.string ((rd_T39 l0_1 x6_2).f0), .int .i64 ((rd_T39 l0_1 x6_2).f1), .int .i64 ((rd_T39 l0_1 x6_2).f2), .int .i64 ((rd_T39 l0_1 x6_2).f3), .int .i64 0]) ?_ 4 _ rfl; refine blk_put (cs := #[.string ((rd_T39 l0_1 x6_2).f0), .int .i64 ((rd_T39 l0_1 x6_2).f1), .int .i64 ((rd_T39 l0_1 x6_2).f2), .int .i64 0, .int .i64 0]) ?_ 3 _ rfl; refine blk_put (cs := #[.string ((rd_T39 l0_1 x6_2).f0), .int .i64 ((rd_T39 l0_1 x6_2).f1), .int .i64 0, .int .i64 0, .int .i64 0]) ?_ 2 _ rfl; refine blk_put (cs := #[.string ((rd_T39 l0_1 x6_2).f0), .int .i64 0, .int .i64 0, .int .i64 0, .int .i64 0]) ?_ 1 _ rfl; refine blk_put (cs := #[.string (⟨#[]⟩ : ByteArray), .int .i64 0, .int .i64 0, .int .i64 0, .int .i64 0]) ?_ 0 _ rfl; exact BK367.out⟩
             have n3_ : Aside0 (Below w.heap.size w (((((w28.setCell ⟨gb367, 0, none⟩ (.string ((rd_T39 l0_1 x6_2).f0))).setCell ⟨gb367, 1, none⟩ (.int .i64 ((rd_T39 l0_1 x6_2).f1))).setCell ⟨gb367, 2, none⟩ (.int .i64 ((rd_T39 l0_1 x6_2).f2))).setCell ⟨gb367, 3, none⟩ (.int .i64 ((rd_T39 l0_1 x6_2).f3))).setCell ⟨gb367, 4, none⟩ (.int .i64 ((rd_T39 l0_1 x6_2).f4)))) := ⟨by repeat ((with_reducible first | exact HB.out | refine below_set ?_ GE367.out))⟩
             (try clear BK361)
             (try clear BK365)
             (try clear BK367)
             (try clear HB)
             generalize (((((w28.setCell ⟨gb367, 0, none⟩ (.string ((rd_T39 l0_1 x6_2).f0))).setCell ⟨gb367, 1, none⟩ (.int .i64 ((rd_T39 l0_1 x6_2).f1))).setCell ⟨gb367, 2, none⟩ (.int .i64 ((rd_T39 l0_1 x6_2).f2))).setCell ⟨gb367, 3, none⟩ (.int .i64 ((rd_T39 l0_1 x6_2).f3))).setCell ⟨gb367, 4, none⟩ (.int .i64 ((rd_T39 l0_1 x6_2).f4))) = w32 at n0_ n1_ n2_ n3_ ⊢
             have BK361 := n0_
             have BK365 := n1_
             have BK367 := n2_
             have HB := n3_
             clear n0_ n1_ n2_ n3_
             have n0_ := Aside0.mk (blk_drew BK361.out)
             have n1_ := Aside0.mk (blk_drew BK365.out)
             have n2_ := Aside0.mk (blk_drew BK367.out)
             have n3_ := Aside0.mk (below_drew1 HB.out)
             clear BK361
             clear BK365
             clear BK367
             clear HB
             have BK361 := n0_
             have BK365 := n1_
             have BK367 := n2_
             have HB := n3_
             clear n0_ n1_ n2_ n3_
             refine start_ (n := 23) (S := fun w' => w'.cell? ⟨gb365, 0, none⟩ = some (.string ((rd_T39 l0_1 x7_2).f0)) ∧ w'.cell? ⟨gb365, 1, none⟩ = some (.int .i64 ((rd_T39 l0_1 x7_2).f1)) ∧ w'.cell? ⟨gb365, 2, none⟩ = some (.int .i64 ((rd_T39 l0_1 x7_2).f2)) ∧ w'.cell? ⟨gb365, 3, none⟩ = some (.int .i64 ((rd_T39 l0_1 x7_2).f3)) ∧ w'.cell? ⟨gb365, 4, none⟩ = some (.int .i64 ((rd_T39 l0_1 x7_2).f4)) ∧ w'.cell? ⟨gb367, 0, none⟩ = some (.string ((rd_T39 l0_1 x6_2).f0)) ∧ w'.cell? ⟨gb367, 1, none⟩ = some (.int .i64 ((rd_T39 l0_1 x6_2).f1)) ∧ w'.cell? ⟨gb367, 2, none⟩ = some (.int .i64 ((rd_T39 l0_1 x6_2).f2)) ∧ w'.cell? ⟨gb367, 3, none⟩ = some (.int .i64 ((rd_T39 l0_1 x6_2).f3)) ∧ w'.cell? ⟨gb367, 4, none⟩ = some (.int .i64 ((rd_T39 l0_1 x6_2).f4))) (ds := []) #[false, false, false, false, false, false, false, false, false, false, false, false, false, false, false, false, false, false, false, false, false, false, false] (by kernel_rfl) rfl rfl ⟨(blk_cell BK365.out 0).trans rfl, (blk_cell BK365.out 1).trans rfl, (blk_cell BK365.out 2).trans rfl, (blk_cell BK365.out 3).trans rfl, (blk_cell BK365.out 4).trans rfl, (blk_cell BK367.out 0).trans rfl, (blk_cell BK367.out 1).trans rfl, (blk_cell BK367.out 2).trans rfl, (blk_cell BK367.out 3).trans rfl, (blk_cell BK367.out 4).trans rfl⟩ (fun hHeld => ?_); refine with_tabW spec_SourceFor.tab11 spec_SourceFor.bits11 (fun HT_ HW_ => ?_)
             generalize w32.drew = w33 at BK361 BK365 BK367 HB hHeld ⊢
             refine pure_ (i := 0) (N := some 40) (v := ?_) (a' := ?_) #[true, false, false, false, false, false, false, false, false, false, false, false, false, false, false, false, false, false, false, false, false, false, false] rfl rfl (any_of HT_.out (by kernel_rfl)) (fun _ _ _ h => h) (Or.inl ⟨by rfl, ?_⟩) ?_ ?_
             rotate_left
             ·
              intro w'
              go_simp
              with_reducible rfl
             rotate_left
             ·
              simp only [Act.put, pq]
              rfl
             refine pure_ (i := 2) (N := some 42) (v := ?_) (a' := ?_) #[true, false, true, false, false, false, false, false, false, false, false, false, false, false, false, false, false, false, false, false, false, false, false] rfl rfl (any_of HT_.out (by kernel_rfl)) (fun _ _ _ h => h) (Or.inl ⟨by rfl, ?_⟩) ?_ ?_
             rotate_left
             ·
              intro w'
              go_simp
              with_reducible rfl
             rotate_left
             ·
              simp only [Act.put, pq]
              rfl
             refine take_ (i := 1) (N := some 41) (v := ?_) (a' := ?_) #[true, true, true, false, false, false, false, false, false, false, false, false, false, false, false, false, false, false, false, false, false, false, false] rfl rfl (take_ofW HT_.out HW_.out (by kernel_rfl)) (fun _ _ _ h => h) (Or.inl ⟨by rfl, ?_⟩) hHeld ?_ ?_
             rotate_left
             ·
              rintro w' ⟨s0, s1, s2, s3, s4, s5, s6, s7, s8, s9⟩
              go_simp
              with_reducible rfl
             rotate_left
             ·
              simp only [Act.put, pq]
              rfl
             refine take_ (i := 3) (N := some 43) (v := ?_) (a' := ?_) #[true, true, true, true, false, false, false, false, false, false, false, false, false, false, false, false, false, false, false, false, false, false, false] rfl rfl (take_ofW HT_.out HW_.out (by kernel_rfl)) (fun _ _ _ h => h) (Or.inl ⟨by rfl, ?_⟩) hHeld ?_ ?_
             rotate_left
             ·
              rintro w' ⟨s0, s1, s2, s3, s4, s5, s6, s7, s8, s9⟩
              go_simp
              with_reducible rfl
             rotate_left
             ·
              simp only [Act.put, pq]
              rfl
             refine pure_ (i := 4) (N := some 44) (v := ?_) (a' := ?_) #[true, true, true, true, true, false, false, false, false, false, false, false, false, false, false, false, false, false, false, false, false, false, false] rfl rfl (any_of HT_.out (by kernel_rfl)) (fun _ _ _ h => h) (Or.inl ⟨by rfl, ?_⟩) ?_ ?_
             rotate_left
             ·
              intro w'
              go_simp
              with_reducible rfl
             rotate_left
             ·
              simp only [Act.put, pq]
              rfl
             refine pure_ (i := 5) (N := some 45) (v := ?_) (a' := ?_) #[true, true, true, true, true, true, false, false, false, false, false, false, false, false, false, false, false, false, false, false, false, false, false] rfl rfl (any_of HT_.out (by kernel_rfl)) (fun _ _ _ h => h) (Or.inl ⟨by rfl, ?_⟩) ?_ ?_
             rotate_left
             ·
              intro w'
              go_simp
              with_reducible rfl
             rotate_left
             ·
              simp only [Act.put, pq]
              rfl
             refine pure_ (i := 6) (N := some 46) (v := undef) (a' := ?_) #[true, true, true, true, true, true, true, false, false, false, false, false, false, false, false, false, false, false, false, false, false, false, false] rfl rfl (any_of HT_.out (by kernel_rfl)) (fun _ _ _ h => h) (Or.inr ⟨by rfl, rfl⟩) ?_ ?_
             rotate_left
             ·
              simp only [Act.put, pq]
              rfl
             refine pure_ (i := 7) (N := some 47) (v := undef) (a' := ?_) #[true, true, true, true, true, true, true, true, false, false, false, false, false, false, false, false, false, false, false, false, false, false, false] rfl rfl (any_of HT_.out (by kernel_rfl)) (fun _ _ _ h => h) (Or.inr ⟨by rfl, rfl⟩) ?_ ?_
             rotate_left
             ·
              simp only [Act.put, pq]
              rfl
             refine pure_ (i := 8) (N := some 48) (v := undef) (a' := ?_) #[true, true, true, true, true, true, true, true, true, false, false, false, false, false, false, false, false, false, false, false, false, false, false] rfl rfl (any_of HT_.out (by kernel_rfl)) (fun _ _ _ h => h) (Or.inr ⟨by rfl, rfl⟩) ?_ ?_
             rotate_left
             ·
              simp only [Act.put, pq]
              rfl
             refine pure_ (i := 9) (N := some 49) (v := undef) (a' := ?_) #[true, true, true, true, true, true, true, true, true, true, false, false, false, false, false, false, false, false, false, false, false, false, false] rfl rfl (any_of HT_.out (by kernel_rfl)) (fun _ _ _ h => h) (Or.inr ⟨by rfl, rfl⟩) ?_ ?_
             rotate_left
             ·
              simp only [Act.put, pq]
              rfl
             refine pure_ (i := 10) (N := some 50) (v := undef) (a' := ?_) #[true, true, true, true, true, true, true, true, true, true, true, false, false, false, false, false, false, false, false, false, false, false, false] rfl rfl (any_of HT_.out (by kernel_rfl)) (fun _ _ _ h => h) (Or.inr ⟨by rfl, rfl⟩) ?_ ?_
             rotate_left
             ·
              simp only [Act.put, pq]
              rfl
             refine pure_ (i := 11) (N := some 51) (v := undef) (a' := ?_) #[true, true, true, true, true, true, true, true, true, true, true, true, false, false, false, false, false, false, false, false, false, false, false] rfl rfl (any_of HT_.out (by kernel_rfl)) (fun _ _ _ h => h) (Or.inr ⟨by rfl, rfl⟩) ?_ ?_
             rotate_left
             ·
              simp only [Act.put, pq]
              rfl
             refine pure_ (i := 12) (N := some 52) (v := undef) (a' := ?_) #[true, true, true, true, true, true, true, true, true, true, true, true, true, false, false, false, false, false, false, false, false, false, false] rfl rfl (any_of HT_.out (by kernel_rfl)) (fun _ _ _ h => h) (Or.inr ⟨by rfl, rfl⟩) ?_ ?_
             rotate_left
             ·
              simp only [Act.put, pq]
              rfl
             refine pure_ (i := 13) (N := some 53) (v := undef) (a' := ?_) #[true, true, true, true, true, true, true, true, true, true, true, true, true, true, false, false, false, false, false, false, false, false, false] rfl rfl (any_of HT_.out (by kernel_rfl)) (fun _ _ _ h => h) (Or.inr ⟨by rfl, rfl⟩) ?_ ?_
             rotate_left
             ·
              simp only [Act.put, pq]
              rfl
             refine pure_ (i := 14) (N := some 54) (v := undef) (a' := ?_) #[true, true, true, true, true, true, true, true, true, true, true, true, true, true, true, false, false, false, false, false, false, false, false] rfl rfl (any_of HT_.out (by kernel_rfl)) (fun _ _ _ h => h) (Or.inr ⟨by rfl, rfl⟩) ?_ ?_
             rotate_left
             ·
              simp only [Act.put, pq]
              rfl
             refine pure_ (i := 15) (N := some 55) (v := undef) (a' := ?_) #[true, true, true, true, true, true, true, true, true, true, true, true, true, true, true, true, false, false, false, false, false, false, false] rfl rfl (any_of HT_.out (by kernel_rfl)) (fun _ _ _ h => h) (Or.inr ⟨by rfl, rfl⟩) ?_ ?_
             rotate_left
             ·
              simp only [Act.put, pq]
              rfl
             refine pure_ (i := 16) (N := some 56) (v := undef) (a' := ?_) #[true, true, true, true, true, true, true, true, true, true, true, true, true, true, true, true, true, false, false, false, false, false, false] rfl rfl (any_of HT_.out (by kernel_rfl)) (fun _ _ _ h => h) (Or.inr ⟨by rfl, rfl⟩) ?_ ?_
             rotate_left
             ·
              simp only [Act.put, pq]
              rfl
             refine pure_ (i := 17) (N := some 57) (v := undef) (a' := ?_) #[true, true, true, true, true, true, true, true, true, true, true, true, true, true, true, true, true, true, false, false, false, false, false] rfl rfl (any_of HT_.out (by kernel_rfl)) (fun _ _ _ h => h) (Or.inr ⟨by rfl, rfl⟩) ?_ ?_
             rotate_left
             ·
              simp only [Act.put, pq]
              rfl
             refine pure_ (i := 18) (N := some 58) (v := undef) (a' := ?_) #[true, true, true, true, true, true, true, true, true, true, true, true, true, true, true, true, true, true, true, false, false, false, false] rfl rfl (any_of HT_.out (by kernel_rfl)) (fun _ _ _ h => h) (Or.inr ⟨by rfl, rfl⟩) ?_ ?_
             rotate_left
             ·
              simp only [Act.put, pq]
              rfl
             refine pure_ (i := 19) (N := some 59) (v := undef) (a' := ?_) #[true, true, true, true, true, true, true, true, true, true, true, true, true, true, true, true, true, true, true, true, false, false, false] rfl rfl (any_of HT_.out (by kernel_rfl)) (fun _ _ _ h => h) (Or.inr ⟨by rfl, rfl⟩) ?_ ?_
             rotate_left
             ·
              simp only [Act.put, pq]
              rfl
             refine pure_ (i := 20) (N := some 60) (v := undef) (a' := ?_) #[true, true, true, true, true, true, true, true, true, true, true, true, true, true, true, true, true, true, true, true, true, false, false] rfl rfl (any_of HT_.out (by kernel_rfl)) (fun _ _ _ h => h) (Or.inr ⟨by rfl, rfl⟩) ?_ ?_
             rotate_left
             ·
              simp only [Act.put, pq]
              rfl
             refine pure_ (i := 21) (N := some 61) (v := undef) (a' := ?_) #[true, true, true, true, true, true, true, true, true, true, true, true, true, true, true, true, true, true, true, true, true, true, false] rfl rfl (any_of HT_.out (by kernel_rfl)) (fun _ _ _ h => h) (Or.inr ⟨by rfl, rfl⟩) ?_ ?_
             rotate_left
             ·
              simp only [Act.put, pq]
              rfl
             refine pure_ (i := 22) (N := some 62) (v := ?_) (a' := ?_) #[true, true, true, true, true, true, true, true, true, true, true, true, true, true, true, true, true, true, true, true, true, true, true] rfl rfl (any_of HT_.out (by kernel_rfl)) (fun _ _ _ h => h) (Or.inl ⟨by rfl, ?_⟩) ?_ ?_
             rotate_left
             ·
              intro w'
              go_simp
              with_reducible rfl
             rotate_left
             ·
              simp only [Act.put, pq]
              rfl
             refine done_ (done_of HT_.out (by kernel_rfl)) ?_
             try go_wp2
             go_roundg k2
             case measure => have := HJ2.out; have := HK2.out; omega
             case rel => exact ⟨(x6_2), (wrap64 (x7_2 + 1)), (by rfl), (by rfl), H', ⟨by have := HJ2.out; have := HK2.out; omega⟩, ⟨by exact BK361.out⟩, ⟨HB.out⟩⟩
            ·
             rw [if_neg c22] at H
             have c22b0 : decide (((rd_T39 l0_1 x6_2).f1) < ((rd_T39 l0_1 x7_2).f1)) = false := decide_eq_false c22
             clear c22
             by_cases c34 : ((rd_T39 l0_1 x7_2).f1) = ((rd_T39 l0_1 x6_2).f1)
             ·
              rw [if_pos c34] at H
              have c34b0 : (((rd_T39 l0_1 x7_2).f1) == ((rd_T39 l0_1 x6_2).f1)) = true := beq_iff_eq.mpr c34
              have c34b1 : (((rd_T39 l0_1 x7_2).f1) != ((rd_T39 l0_1 x6_2).f1)) = false := bne_eq_false_iff_eq.mpr c34
              clear c34
              replace H := Option.bind_eq_some_iff.mp H
              obtain ⟨t368, A350, H⟩ := H
              have A35 := Aside0.mk A350
              clear A350
              replace H := Option.bind_eq_some_iff.mp H
              obtain ⟨t369, A360, H⟩ := H
              have A36 := Aside0.mk A360
              clear A360
              by_cases c37 : t368 ≤ t369
              ·
               rw [if_pos c37] at H
               have c37b0 : decide (t368 ≤ t369) = true := decide_eq_true c37
               clear c37
               have H' := Aside0.mk H
               clear H
               have hcz38_0 : wr.cell? ⟨gb361, 0, none⟩ = some (.string a0_0) := (blk_cell BK361.out 0).trans rfl
               have hcz38_1 : wr.cell? ⟨gb361, 1, none⟩ = some (.slice A0_1 l0_1.length c0_1) := (blk_cell BK361.out 1).trans rfl
               have hcz38_2 : wr.cell? ⟨gb361, 2, none⟩ = some (.slice A0_2 l0_2.length c0_2) := (blk_cell BK361.out 2).trans rfl
               have hfz38_0 := blk_frozen BK361.out 0
               have hfz38_1 := blk_frozen BK361.out 1
               have hfz38_2 := blk_frozen BK361.out 2
               have p364 : 0 ≤ (x7_2 : Int) := of_decide_eq_true (by (with_reducible assumption))
               have q364 : x7_2 < (l0_1.length : Int) := of_decide_eq_true (by (with_reducible assumption))
               obtain ⟨ad364, e364, hx364_0, hx364_1, hx364_2, hx364_3, hx364_4⟩ := at_T39 HR0_1.out x7_2 p364 q364
               cases e364
               replace hx364_0 := (HB.out.cell (World.block_lt_of_cell? w _ hx364_0)).trans hx364_0
               replace hx364_1 := (HB.out.cell (World.block_lt_of_cell? w _ hx364_1)).trans hx364_1
               replace hx364_2 := (HB.out.cell (World.block_lt_of_cell? w _ hx364_2)).trans hx364_2
               replace hx364_3 := (HB.out.cell (World.block_lt_of_cell? w _ hx364_3)).trans hx364_3
               replace hx364_4 := (HB.out.cell (World.block_lt_of_cell? w _ hx364_4)).trans hx364_4
               replace p364 := eq_true p364
               replace q364 := eq_true q364
               try go_wp2_with (first | ((with_reducible refine gate_dst (N := 8) rfl ?_); (try (refine gate_guard (by rfl) ?_; dsimp only)); refine box_event ?hg (N := 8) ?hd (cs := #[.string (⟨#[]⟩ : ByteArray), .int .i64 0, .int .i64 0, .int .i64 0, .int .i64 0]) (t := 39) ?hr ?_; (case hd => rfl); (case hg => rfl); (case hr => (go_simp; done)); intro gb365 hg w39 hbox hb; have n0_ := Aside0.mk (blk_below (g := gb361) (o := .cells #[.string a0_0, .slice (some ad364) l0_1.length c0_1, .slice A0_2 l0_2.length c0_2] 27 (0, 0)) (by exact BK361.out) hb); have n1_ := Aside0.mk (below_step (HB.out) hb); have n2_ := Aside0.mk (hbox); have n3_ := Aside0.mk ((by rw [hg]; exact (below_size (HB.out)) : w.heap.size ≤ gb365)); have n4_ := Aside0.mk ((by rw [hg]; exact (below_size (HB.out)) : w.heap.size ≤ gb365)); have n5_ := Aside0.mk ((by rw [hg]; exact Nat.ne_of_lt (blk_lt (g := gb361) (o := .cells #[.string a0_0, .slice (some ad364) l0_1.length c0_1, .slice A0_2 l0_2.length c0_2] 27 (0, 0)) (by exact BK361.out)) : gb361 ≠ gb365)); have n6_ := Aside0.mk ((by rw [hg]; exact Nat.ne_of_gt (blk_lt (g := gb361) (o := .cells #[.string a0_0, .slice (some ad364) l0_1.length c0_1, .slice A0_2 l0_2.length c0_2] 27 (0, 0)) (by exact BK361.out)) : gb365 ≠ gb361)); clear BK361; clear HB; have BK361 := n0_; have HB := n1_; have BK365 := n2_; have GW365 := n3_; have GE365 := n4_; have NB361_365 := n5_; have NB365_361 := n6_; clear n0_ n1_ n2_ n3_ n4_ n5_ n6_; clear hb hbox hg; have hnb40 := NB365_361.out; have hnc40 := NB361_365.out; have hcz41_0 : w39.cell? ⟨gb365, 0, none⟩ = some (.string (⟨#[]⟩ : ByteArray)) := (blk_cell BK365.out 0).trans rfl; have hcz41_1 : w39.cell? ⟨gb365, 1, none⟩ = some (.int .i64 0) := (blk_cell BK365.out 1).trans rfl; have hcz41_2 : w39.cell? ⟨gb365, 2, none⟩ = some (.int .i64 0) := (blk_cell BK365.out 2).trans rfl; have hcz41_3 : w39.cell? ⟨gb365, 3, none⟩ = some (.int .i64 0) := (blk_cell BK365.out 3).trans rfl; have hcz41_4 : w39.cell? ⟨gb365, 4, none⟩ = some (.int .i64 0) := (blk_cell BK365.out 4).trans rfl; have hfz41_0 := blk_frozen BK365.out 0; have hfz41_1 := blk_frozen BK365.out 1; have hfz41_2 := blk_frozen BK365.out 2; have hfz41_3 := blk_frozen BK365.out 3; have hfz41_4 := blk_frozen BK365.out 4; have hcz42_0 : w39.cell? ⟨gb361, 0, none⟩ = some (.string a0_0) := (blk_cell BK361.out 0).trans rfl; have hcz42_1 : w39.cell? ⟨gb361, 1, none⟩ = some (.slice (some ad364) l0_1.length c0_1) := (blk_cell BK361.out 1).trans rfl; have hcz42_2 : w39.cell? ⟨gb361, 2, none⟩ = some (.slice A0_2 l0_2.length c0_2) := (blk_cell BK361.out 2).trans rfl; have hfz42_0 := blk_frozen BK361.out 0; have hfz42_1 := blk_frozen BK361.out 1; have hfz42_2 := blk_frozen BK361.out 2; have p366 : 0 ≤ (x6_2 : Int) := of_decide_eq_true (by (with_reducible assumption)); have q366 : x6_2 < (l0_1.length : Int) := of_decide_eq_true (by (with_reducible assumption)); obtain ⟨ad366, e366, hx366_0, hx366_1, hx366_2, hx366_3, hx366_4⟩ := at_T39 HR0_1.out x6_2 p366 q366; obtain rfl : ad364 = ad366 := (by injection e366); have hn366_0 : ad364.block ≠ gb365 := Nat.ne_of_lt (Nat.lt_of_lt_of_le (by have := World.block_lt_of_cell? _ _ hx366_0; rwa [add_block] at this) GW365.out); have hn366_1 : ad364.block ≠ gb365 := Nat.ne_of_lt (Nat.lt_of_lt_of_le (by have := World.block_lt_of_cell? _ _ hx366_0; rwa [add_block] at this) GW365.out); have hn366_2 : ad364.block ≠ gb365 := Nat.ne_of_lt (Nat.lt_of_lt_of_le (by have := World.block_lt_of_cell? _ _ hx366_0; rwa [add_block] at this) GW365.out); have hn366_3 : ad364.block ≠ gb365 := Nat.ne_of_lt (Nat.lt_of_lt_of_le (by have := World.block_lt_of_cell? _ _ hx366_0; rwa [add_block] at this) GW365.out); have hn366_4 : ad364.block ≠ gb365 := Nat.ne_of_lt (Nat.lt_of_lt_of_le (by have := World.block_lt_of_cell? _ _ hx366_0; rwa [add_block] at this) GW365.out); replace hx366_0 := (HB.out.cell (World.block_lt_of_cell? w _ hx366_0)).trans hx366_0; replace hx366_1 := (HB.out.cell (World.block_lt_of_cell? w _ hx366_1)).trans hx366_1; replace hx366_2 := (HB.out.cell (World.block_lt_of_cell? w _ hx366_2)).trans hx366_2; replace hx366_3 := (HB.out.cell (World.block_lt_of_cell? w _ hx366_3)).trans hx366_3; replace hx366_4 := (HB.out.cell (World.block_lt_of_cell? w _ hx366_4)).trans hx366_4; replace hx366_0 := far5 (by (rw [add_block]; exact hn366_0)) hx366_0 (.string ((rd_T39 l0_1 x7_2).f0)) (.int .i64 ((rd_T39 l0_1 x7_2).f1)) (.int .i64 ((rd_T39 l0_1 x7_2).f2)) (.int .i64 ((rd_T39 l0_1 x7_2).f3)) (.int .i64 ((rd_T39 l0_1 x7_2).f4)); replace hx366_1 := far5 (by (rw [add_block]; exact hn366_1)) hx366_1 (.string ((rd_T39 l0_1 x7_2).f0)) (.int .i64 ((rd_T39 l0_1 x7_2).f1)) (.int .i64 ((rd_T39 l0_1 x7_2).f2)) (.int .i64 ((rd_T39 l0_1 x7_2).f3)) (.int .i64 ((rd_T39 l0_1 x7_2).f4)); replace hx366_2 := far5 (by (rw [add_block]; exact hn366_2)) hx366_2 (.string ((rd_T39 l0_1 x7_2).f0)) (.int .i64 ((rd_T39 l0_1 x7_2).f1)) (.int .i64 ((rd_T39 l0_1 x7_2).f2)) (.int .i64 ((rd_T39 l0_1 x7_2).f3)) (.int .i64 ((rd_T39 l0_1 x7_2).f4)); replace hx366_3 := far5 (by (rw [add_block]; exact hn366_3)) hx366_3 (.string ((rd_T39 l0_1 x7_2).f0)) (.int .i64 ((rd_T39 l0_1 x7_2).f1)) (.int .i64 ((rd_T39 l0_1 x7_2).f2)) (.int .i64 ((rd_T39 l0_1 x7_2).f3)) (.int .i64 ((rd_T39 l0_1 x7_2).f4)); replace hx366_4 := far5 (by (rw [add_block]; exact hn366_4)) hx366_4 (.string ((rd_T39 l0_1 x7_2).f0)) (.int .i64 ((rd_T39 l0_1 x7_2).f1)) (.int .i64 ((rd_T39 l0_1 x7_2).f2)) (.int .i64 ((rd_T39 l0_1 x7_2).f3)) (.int .i64 ((rd_T39 l0_1 x7_2).f4)); clear hn366_0; clear hn366_1; clear hn366_2; clear hn366_3; clear hn366_4; replace p366 := eq_true p366; replace q366 := eq_true q366) | ((with_reducible refine gate_dst (N := 9) rfl ?_); (try (refine gate_guard (by rfl) ?_; dsimp only)); refine box_event ?hg (N := 9) ?hd (cs := #[.string (⟨#[]⟩ : ByteArray), .int .i64 0, .int .i64 0, .int .i64 0, .int .i64 0]) (t := 39) ?hr ?_; (case hd => rfl); (case hg => rfl); (case hr => (go_simp; done)); intro gb367 hg w43 hbox hb; have n0_ := Aside0.mk (blk_below (g := gb361) (o := .cells #[.string a0_0, .slice (some ad364) l0_1.length c0_1, .slice A0_2 l0_2.length c0_2] 27 (0, 0)) (by refine blk_far ?_ NB361_365.out _; refine blk_far ?_ NB361_365.out _; refine blk_far ?_ NB361_365.out _; refine blk_far ?_ NB361_365.out _; refine blk_far ?_ NB361_365.out _; exact BK361.out) hb); have n1_ := Aside0.mk (blk_below (g := gb365) (o := .cells #[.string ((rd_T39 l0_1 x7_2).f0), .int .i64 ((rd_T39 l0_1 x7_2).f1), .int .i64 ((rd_T39 l0_1 x7_2).f2), .int .i64 ((rd_T39 l0_1 x7_2).f3), .int .i64 ((rd_T39 l0_1 x7_2).f4)] 39 (0, 0)) (by refine blk_put (cs := #[.string ((rd_T39 l0_1 x7_2).f0), .int .i64 ((rd_T39 l0_1 x7_2).f1), .int .i64 ((rd_T39 l0_1 x7_2).f2), .int .i64 ((rd_T39 l0_1 x7_2).f3), .int .i64 0]) ?_ 4 _ rfl; refine blk_put (cs := #[.string ((rd_T39 l0_1 x7_2).f0), .int .i64 ((rd_T39 l0_1 x7_2).f1), .int .i64 ((rd_T39 l0_1 x7_2).f2), .int .i64 0, .int .i64 0]) ?_ 3 _ rfl; refine blk_put (cs := #[.string ((rd_T39 l0_1 x7_2).f0), .int .i64 ((rd_T39 l0_1 x7_2).f1), .int .i64 0, .int .i64 0, .int .i64 0]) ?_ 2 _ rfl; refine blk_put (cs := #[.string ((rd_T39 l0_1 x7_2).f0), .int .i64 0, .int .i64 0, .int .i64 0, .int .i64 0]) ?_ 1 _ rfl; refine blk_put (cs := #[.string (⟨#[]⟩ : ByteArray), .int .i64 0, .int .i64 0, .int .i64 0, .int .i64 0]) ?_ 0 _ rfl; exact BK365.out) hb); have n2_ := Aside0.mk (below_step (by repeat ((with_reducible first | exact HB.out | refine below_set ?_ GE365.out))) hb); have n3_ := Aside0.mk (hbox); have n4_ := Aside0.mk ((by rw [hg]; exact (below_size (by repeat ((with_reducible first | exact HB.out | refine below_set ?_ GE365.out)))) : w.heap.size ≤ gb367)); have n5_ := Aside0.mk ((by rw [hg]; exact (below_size (by repeat ((with_reducible first | exact HB.out | refine below_set ?_ GE365.out)))) : w.heap.size ≤ gb367)); have n6_ := Aside0.mk ((by rw [hg]; exact Nat.ne_of_lt (blk_lt (g := gb361) (o := .cells #[.string a0_0, .slice (some ad364) l0_1.length c0_1, .slice A0_2 l0_2.length c0_2] 27 (0, 0)) (by refine blk_far ?_ NB361_365.out _; refine blk_far ?_ NB361_365.out _; refine blk_far ?_ NB361_365.out _; refine blk_far ?_ NB361_365.out _; refine blk_far ?_ NB361_365.out _; exact BK361.out)) : gb361 ≠ gb367)); have n7_ := Aside0.mk ((by rw [hg]; exact Nat.ne_of_gt (blk_lt (g := gb361) (o := .cells #[.string a0_0, .slice (some ad364) l0_1.length c0_1, .slice A0_2 l0_2.length c0_2] 27 (0, 0)) (by refine blk_far ?_ NB361_365.out _; refine blk_far ?_ NB361_365.out _; refine blk_far ?_ NB361_365.out _; refine blk_far ?_ NB361_365.out _; refine blk_far ?_ NB361_365.out _; exact BK361.out)) : gb367 ≠ gb361)); have n8_ := Aside0.mk ((by rw [hg]; exact Nat.ne_of_lt (blk_lt (g := gb365) (o := .cells #[.string ((rd_T39 l0_1 x7_2).f0), .int .i64 ((rd_T39 l0_1 x7_2).f1), .int .i64 ((rd_T39 l0_1 x7_2).f2), .int .i64 ((rd_T39 l0_1 x7_2).f3), .int .i64 ((rd_T39 l0_1 x7_2).f4)] 39 (0, 0)) (by refine blk_put (cs := #[.string ((rd_T39 l0_1 x7_2).f0), .int .i64 ((rd_T39 l0_1 x7_2).f1), .int .i64 ((rd_T39 l0_1 x7_2).f2), .int .i64 ((rd_T39 l0_1 x7_2).f3), .int .i64 0]) ?_ 4 _ rfl; refine blk_put (cs := #[.string ((rd_T39 l0_1 x7_2).f0), .int .i64 ((rd_T39 l0_1 x7_2).f1), .int .i64 ((rd_T39 l0_1 x7_2).f2), .int .i64 0, .int .i64 0]) ?_ 3 _ rfl; refine blk_put (cs := #[.string ((rd_T39 l0_1 x7_2).f0), .int .i64 ((rd_T39 l0_1 x7_2).f1), .int .i64 0, .int .i64 0, .int .i64 0]) ?_ 2 _ rfl; refine blk_put (cs := #[.string ((rd_T39 l0_1 x7_2).f0), .int .i64 0, .int .i64 0, .int .i64 0, .int .i64 0]) ?_ 1 _ rfl; refine blk_put (cs := #[.string (⟨#[]⟩ : ByteArray), .int .i64 0, .int .i64 0, .int .i64 0, .int .i64 0]) ?_ 0 _ rfl; exact BK365.out)) : gb365 ≠ gb367)); have n9_ := Aside0.mk ((by rw [hg]; exact Nat.ne_of_gt (blk_lt (g := gb365) (o := .cells #[.string ((rd_T39 l0_1 x7_2).f0), .int .i64 ((rd_T39 l0_1 x7_2).f1), .int .i64 ((rd_T39 l0_1 x7_2).f2), .int .i64 ((rd_T39 l0_1 x7_2).f3), .int .i64 ((rd_T39 l0_1 x7_2).f4)] 39 (0, 0)) (by refine blk_put (cs := #[.string ((rd_T39 l0_1 x7_2).f0), .int .i64 ((rd_T39 l0_1 x7_2).f1), .int .i64 ((rd_T39 l0_1 x7_2).f2), .int .i64 ((rd_T39 l0_1 x7_2).f3), .int .i64 0]) ?_ 4 _ rfl; refine blk_put (cs := #[.string ((rd_T39 l0_1 x7_2).f0), .int .i64 ((rd_T39 l0_1 x7_2).f1), .int .i64 ((rd_T39 l0_1 x7_2).f2), .int .i64 0, .int .i64 0]) ?_ 3 _ rfl; refine blk_put (cs := #[.string ((rd_T39 l0_1 x7_2).f0), .int .i64 ((rd_T39 l0_1 x7_2).f1), .int .i64 0, .int .i64 0, .int .i64 0]) ?_ 2 _ rfl; refine blk_put (cs := #[.string ((rd_T39 l0_1 x7_2).f0), .int .i64 0, .int .i64 0, .int .i64 0, .int .i64 0]) ?_ 1 _ rfl; refine blk_put (cs := #[.string (⟨#[]⟩ : ByteArray), .int .i64 0, .int .i64 0, .int .i64 0, .int .i64 0]) ?_ 0 _ rfl; exact BK365.out)) : gb367 ≠ gb365)); clear BK361; clear BK365; clear HB; have BK361 := n0_; have BK365 := n1_; have HB := n2_; have BK367 := n3_; have GW367 := n4_; have GE367 := n5_; have NB361_367 := n6_; have NB367_361 := n7_; have NB365_367 := n8_; have NB367_365 := n9_; clear n0_ n1_ n2_ n3_ n4_ n5_ n6_ n7_ n8_ n9_; clear hb hbox hg; have hnb44 := NB367_361.out; have hnc44 := NB361_367.out; have hnb45 := NB367_365.out; have hnc45 := NB365_367.out; have hcz46_0 : w43.cell? ⟨gb367, 0, none⟩ = some (.string (⟨#[]⟩ : ByteArray)) := (blk_cell BK367.out 0).trans rfl; have hcz46_1 : w43.cell? ⟨gb367, 1, none⟩ = some (.int .i64 0) := (blk_cell BK367.out 1).trans rfl; have hcz46_2 : w43.cell? ⟨gb367, 2, none⟩ = some (.int .i64 0) := (blk_cell BK367.out 2).trans rfl; have hcz46_3 : w43.cell? ⟨gb367, 3, none⟩ = some (.int .i64 0) := (blk_cell BK367.out 3).trans rfl; have hcz46_4 : w43.cell? ⟨gb367, 4, none⟩ = some (.int .i64 0) := (blk_cell BK367.out 4).trans rfl; have hfz46_0 := blk_frozen BK367.out 0; have hfz46_1 := blk_frozen BK367.out 1; have hfz46_2 := blk_frozen BK367.out 2; have hfz46_3 := blk_frozen BK367.out 3; have hfz46_4 := blk_frozen BK367.out 4))
               have n0_ : Aside0 ((((((w43.setCell ⟨gb367, 0, none⟩ (.string ((rd_T39 l0_1 x6_2).f0))).setCell ⟨gb367, 1, none⟩ (.int .i64 ((rd_T39 l0_1 x6_2).f1))).setCell ⟨gb367, 2, none⟩ (.int .i64 ((rd_T39 l0_1 x6_2).f2))).setCell ⟨gb367, 3, none⟩ (.int .i64 ((rd_T39 l0_1 x6_2).f3))).setCell ⟨gb367, 4, none⟩ (.int .i64 ((rd_T39 l0_1 x6_2).f4))).heap[gb361]? = some (.cells #[.string a0_0, .slice (some ad364) l0_1.length c0_1, .slice A0_2 l0_2.length c0_2] 27 (0, 0))) := ⟨by refine blk_far ?_ NB361_367.out _; refine blk_far ?_ NB361_367.out _; refine blk_far ?_ NB361_367.out _; refine blk_far ?_ NB361_367.out _; refine blk_far ?_ NB361_367.out _; exact BK361.out⟩
               have n1_ : Aside0 ((((((w43.setCell ⟨gb367, 0, none⟩ (.string ((rd_T39 l0_1 x6_2).f0))).setCell ⟨gb367, 1, none⟩ (.int .i64 ((rd_T39 l0_1 x6_2).f1))).setCell ⟨gb367, 2, none⟩ (.int .i64 ((rd_T39 l0_1 x6_2).f2))).setCell ⟨gb367, 3, none⟩ (.int .i64 ((rd_T39 l0_1 x6_2).f3))).setCell ⟨gb367, 4, none⟩ (.int .i64 ((rd_T39 l0_1 x6_2).f4))).heap[gb365]? = some (.cells #[.string ((rd_T39 l0_1 x7_2).f0), .int .i64 ((rd_T39 l0_1 x7_2).f1), .int .i64 ((rd_T39 l0_1 x7_2).f2), .int .i64 ((rd_T39 l0_1 x7_2).f3), .int .i64 ((rd_T39 l0_1 x7_2).f4)] 39 (0, 0))) := ⟨by refine blk_far ?_ NB365_367.out _; refine blk_far ?_ NB365_367.out _; refine blk_far ?_ NB365_367.out _; refine blk_far ?_ NB365_367.out _; refine blk_far ?_ NB365_367.out _; exact BK365.out⟩
               have n2_ : Aside0 ((((((w43.setCell ⟨gb367, 0, none⟩ (.string ((rd_T39 l0_1 x6_2).f0))).setCell ⟨gb367, 1, none⟩ (.int .i64 ((rd_T39 l0_1 x6_2).f1))).setCell ⟨gb367, 2, none⟩ (.int .i64 ((rd_T39 l0_1 x6_2).f2))).setCell ⟨gb367, 3, none⟩ (.int .i64 ((rd_T39 l0_1 x6_2).f3))).setCell ⟨gb367, 4, none⟩ (.int .i64 ((rd_T39 l0_1 x6_2).f4))).heap[gb367]? = some (.cells #[.string ((rd_T39 l0_1 x6_2).f0), .int .i64 ((rd_T39 l0_1 x6_2).f1), .int .i64 ((rd_T39 l0_1 x6_2).f2), .int .i64 ((rd_T39 l0_1 x6_2).f3), .int .i64 ((rd_T39 l0_1 x6_2).f4)] 39 (0, 0))) := ⟨by refine blk_put (cs := #[.string ((rd_T39 l0_1 x6_2).f0), .int .i64 ((rd_T39 l0_1 x6_2).f1), .int .i64 ((rd_T39 l0_1 x6_2).f2), .int .i64 ((rd_T39 l0_1 x6_2).f3), .int .i64 0]) ?_ 4 _ rfl; refine blk_put (cs := #[.string ((rd_T39 l0_1 x6_2).f0), .int .i64 ((rd_T39 l0_1 x6_2).f1), .int .i64 ((rd_T39 l0_1 x6_2).f2), .int .i64 0, .int .i64 0]) ?_ 3 _ rfl; refine blk_put (cs := #[.string ((rd_T39 l0_1 x6_2).f0), .int .i64 ((rd_T39 l0_1 x6_2).f1), .int .i64 0, .int .i64 0, .int .i64 0]) ?_ 2 _ rfl; refine blk_put (cs := #[.string ((rd_T39 l0_1 x6_2).f0), .int .i64 0, .int .i64 0, .int .i64 0, .int .i64 0]) ?_ 1 _ rfl; refine blk_put (cs := #[.string (⟨#[]⟩ : ByteArray), .int .i64 0, .int .i64 0, .int .i64 0, .int .i64 0]) ?_ 0 _ rfl; exact BK367.out⟩
               have n3_ : Aside0 (Below w.heap.size w (((((w43.setCell ⟨gb367, 0, none⟩ (.string ((rd_T39 l0_1 x6_2).f0))).setCell ⟨gb367, 1, none⟩ (.int .i64 ((rd_T39 l0_1 x6_2).f1))).setCell ⟨gb367, 2, none⟩ (.int .i64 ((rd_T39 l0_1 x6_2).f2))).setCell ⟨gb367, 3, none⟩ (.int .i64 ((rd_T39 l0_1 x6_2).f3))).setCell ⟨gb367, 4, none⟩ (.int .i64 ((rd_T39 l0_1 x6_2).f4)))) := ⟨by repeat ((with_reducible first | exact HB.out | refine below_set ?_ GE367.out))⟩
               (try clear BK361)
               (try clear BK365)
               (try clear BK367)
               (try clear HB)
               generalize (((((w43.setCell ⟨gb367, 0, none⟩ (.string ((rd_T39 l0_1 x6_2).f0))).setCell ⟨gb367, 1, none⟩ (.int .i64 ((rd_T39 l0_1 x6_2).f1))).setCell ⟨gb367, 2, none⟩ (.int .i64 ((rd_T39 l0_1 x6_2).f2))).setCell ⟨gb367, 3, none⟩ (.int .i64 ((rd_T39 l0_1 x6_2).f3))).setCell ⟨gb367, 4, none⟩ (.int .i64 ((rd_T39 l0_1 x6_2).f4))) = w47 at n0_ n1_ n2_ n3_ ⊢
               have BK361 := n0_
               have BK365 := n1_
               have BK367 := n2_
               have HB := n3_
               clear n0_ n1_ n2_ n3_
               have n0_ := Aside0.mk (blk_drew BK361.out)
               have n1_ := Aside0.mk (blk_drew BK365.out)
               have n2_ := Aside0.mk (blk_drew BK367.out)
               have n3_ := Aside0.mk (below_drew1 HB.out)
               clear BK361
               clear BK365
               clear BK367
               clear HB
               have BK361 := n0_
               have BK365 := n1_
               have BK367 := n2_
               have HB := n3_
               clear n0_ n1_ n2_ n3_
               refine start_ (n := 23) (S := fun w' => w'.cell? ⟨gb365, 0, none⟩ = some (.string ((rd_T39 l0_1 x7_2).f0)) ∧ w'.cell? ⟨gb365, 1, none⟩ = some (.int .i64 ((rd_T39 l0_1 x7_2).f1)) ∧ w'.cell? ⟨gb365, 2, none⟩ = some (.int .i64 ((rd_T39 l0_1 x7_2).f2)) ∧ w'.cell? ⟨gb365, 3, none⟩ = some (.int .i64 ((rd_T39 l0_1 x7_2).f3)) ∧ w'.cell? ⟨gb365, 4, none⟩ = some (.int .i64 ((rd_T39 l0_1 x7_2).f4)) ∧ w'.cell? ⟨gb367, 0, none⟩ = some (.string ((rd_T39 l0_1 x6_2).f0)) ∧ w'.cell? ⟨gb367, 1, none⟩ = some (.int .i64 ((rd_T39 l0_1 x6_2).f1)) ∧ w'.cell? ⟨gb367, 2, none⟩ = some (.int .i64 ((rd_T39 l0_1 x6_2).f2)) ∧ w'.cell? ⟨gb367, 3, none⟩ = some (.int .i64 ((rd_T39 l0_1 x6_2).f3)) ∧ w'.cell? ⟨gb367, 4, none⟩ = some (.int .i64 ((rd_T39 l0_1 x6_2).f4))) (ds := []) #[false, false, false, false, false, false, false, false, false, false, false, false, false, false, false, false, false, false, false, false, false, false, false] (by kernel_rfl) rfl rfl ⟨(blk_cell BK365.out 0).trans rfl, (blk_cell BK365.out 1).trans rfl, (blk_cell BK365.out 2).trans rfl, (blk_cell BK365.out 3).trans rfl, (blk_cell BK365.out 4).trans rfl, (blk_cell BK367.out 0).trans rfl, (blk_cell BK367.out 1).trans rfl, (blk_cell BK367.out 2).trans rfl, (blk_cell BK367.out 3).trans rfl, (blk_cell BK367.out 4).trans rfl⟩ (fun hHeld => ?_); refine with_tabW spec_SourceFor.tab11 spec_SourceFor.bits11 (fun HT_ HW_ => ?_)
               generalize w47.drew = w48 at BK361 BK365 BK367 HB hHeld ⊢
               refine pure_ (i := 0) (N := some 40) (v := ?_) (a' := ?_) #[true, false, false, false, false, false, false, false, false, false, false, false, false, false, false, false, false, false, false, false, false, false, false] rfl rfl (any_of HT_.out (by kernel_rfl)) (fun _ _ _ h => h) (Or.inl ⟨by rfl, ?_⟩) ?_ ?_
               rotate_left
               ·
                intro w'
                go_simp
                with_reducible rfl
               rotate_left
               ·
                simp only [Act.put, pq]
                rfl
               refine pure_ (i := 2) (N := some 42) (v := ?_) (a' := ?_) #[true, false, true, false, false, false, false, false, false, false, false, false, false, false, false, false, false, false, false, false, false, false, false] rfl rfl (any_of HT_.out (by kernel_rfl)) (fun _ _ _ h => h) (Or.inl ⟨by rfl, ?_⟩) ?_ ?_
               rotate_left
               ·
                intro w'
                go_simp
                with_reducible rfl
               rotate_left
               ·
                simp only [Act.put, pq]
                rfl
               refine take_ (i := 1) (N := some 41) (v := ?_) (a' := ?_) #[true, true, true, false, false, false, false, false, false, false, false, false, false, false, false, false, false, false, false, false, false, false, false] rfl rfl (take_ofW HT_.out HW_.out (by kernel_rfl)) (fun _ _ _ h => h) (Or.inl ⟨by rfl, ?_⟩) hHeld ?_ ?_
               rotate_left
               ·
                rintro w' ⟨s0, s1, s2, s3, s4, s5, s6, s7, s8, s9⟩
                go_simp
                with_reducible rfl
               rotate_left
               ·
                simp only [Act.put, pq]
                rfl
               refine take_ (i := 3) (N := some 43) (v := ?_) (a' := ?_) #[true, true, true, true, false, false, false, false, false, false, false, false, false, false, false, false, false, false, false, false, false, false, false] rfl rfl (take_ofW HT_.out HW_.out (by kernel_rfl)) (fun _ _ _ h => h) (Or.inl ⟨by rfl, ?_⟩) hHeld ?_ ?_
               rotate_left
               ·
                rintro w' ⟨s0, s1, s2, s3, s4, s5, s6, s7, s8, s9⟩
                go_simp
                with_reducible rfl
               rotate_left
               ·
                simp only [Act.put, pq]
                rfl
               refine pure_ (i := 4) (N := some 44) (v := ?_) (a' := ?_) #[true, true, true, true, true, false, false, false, false, false, false, false, false, false, false, false, false, false, false, false, false, false, false] rfl rfl (any_of HT_.out (by kernel_rfl)) (fun _ _ _ h => h) (Or.inl ⟨by rfl, ?_⟩) ?_ ?_
               rotate_left
               ·
                intro w'
                go_simp
                with_reducible rfl
               rotate_left
               ·
                simp only [Act.put, pq]
                rfl
               refine pure_ (i := 5) (N := some 45) (v := ?_) (a' := ?_) #[true, true, true, true, true, true, false, false, false, false, false, false, false, false, false, false, false, false, false, false, false, false, false] rfl rfl (any_of HT_.out (by kernel_rfl)) (fun _ _ _ h => h) (Or.inl ⟨by rfl, ?_⟩) ?_ ?_
               rotate_left
               ·
                intro w'
                go_simp
                with_reducible rfl
               rotate_left
               ·
                simp only [Act.put, pq]
                rfl
               refine pure_ (i := 6) (N := some 46) (v := ?_) (a' := ?_) #[true, true, true, true, true, true, true, false, false, false, false, false, false, false, false, false, false, false, false, false, false, false, false] rfl rfl (any_of HT_.out (by kernel_rfl)) (fun _ _ _ h => h) (Or.inl ⟨by rfl, ?_⟩) ?_ ?_
               rotate_left
               ·
                intro w'
                go_simp
                with_reducible rfl
               rotate_left
               ·
                simp only [Act.put, pq]
                rfl
               refine pure_ (i := 8) (N := some 48) (v := ?_) (a' := ?_) #[true, true, true, true, true, true, true, false, true, false, false, false, false, false, false, false, false, false, false, false, false, false, false] rfl rfl (any_of HT_.out (by kernel_rfl)) (fun _ _ _ h => h) (Or.inl ⟨by rfl, ?_⟩) ?_ ?_
               rotate_left
               ·
                intro w'
                go_simp
                with_reducible rfl
               rotate_left
               ·
                simp only [Act.put, pq]
                rfl
               refine take_ (i := 7) (N := some 47) (v := ?_) (a' := ?_) #[true, true, true, true, true, true, true, true, true, false, false, false, false, false, false, false, false, false, false, false, false, false, false] rfl rfl (take_ofW HT_.out HW_.out (by kernel_rfl)) (fun _ _ _ h => h) (Or.inl ⟨by rfl, ?_⟩) hHeld ?_ ?_
               rotate_left
               ·
                rintro w' ⟨s0, s1, s2, s3, s4, s5, s6, s7, s8, s9⟩
                go_simp
                with_reducible rfl
               rotate_left
               ·
                simp only [Act.put, pq]
                rfl
               refine take_ (i := 9) (N := some 49) (v := ?_) (a' := ?_) #[true, true, true, true, true, true, true, true, true, true, false, false, false, false, false, false, false, false, false, false, false, false, false] rfl rfl (take_ofW HT_.out HW_.out (by kernel_rfl)) (fun _ _ _ h => h) (Or.inl ⟨by rfl, ?_⟩) hHeld ?_ ?_
               rotate_left
               ·
                rintro w' ⟨s0, s1, s2, s3, s4, s5, s6, s7, s8, s9⟩
                go_simp
                with_reducible rfl
               rotate_left
               ·
                simp only [Act.put, pq]
                rfl
               refine pure_ (i := 10) (N := some 50) (v := ?_) (a' := ?_) #[true, true, true, true, true, true, true, true, true, true, true, false, false, false, false, false, false, false, false, false, false, false, false] rfl rfl (any_of HT_.out (by kernel_rfl)) (fun _ _ _ h => h) (Or.inl ⟨by rfl, ?_⟩) ?_ ?_
               rotate_left
               ·
                intro w'
                go_simp
                with_reducible rfl
               rotate_left
               ·
                simp only [Act.put, pq]
                rfl
               refine pure_ (i := 11) (N := some 51) (v := ?_) (a' := ?_) #[true, true, true, true, true, true, true, true, true, true, true, true, false, false, false, false, false, false, false, false, false, false, false] rfl rfl (any_of HT_.out (by kernel_rfl)) (fun _ _ _ h => h) (Or.inl ⟨by rfl, ?_⟩) ?_ ?_
               rotate_left
               ·
                intro w'
                go_simp
                with_reducible rfl
               rotate_left
               ·
                simp only [Act.put, pq]
                rfl
               refine pure_ (i := 12) (N := some 52) (v := ?_) (a' := ?_) #[true, true, true, true, true, true, true, true, true, true, true, true, true, false, false, false, false, false, false, false, false, false, false] rfl rfl (any_of HT_.out (by kernel_rfl)) (fun _ _ _ h => h) (Or.inl ⟨by rfl, ?_⟩) ?_ ?_
               rotate_left
               ·
                intro w'
                go_simp
                with_reducible rfl
               rotate_left
               ·
                simp only [Act.put, pq]
                rfl
               refine pure_ (i := 14) (N := some 54) (v := ?_) (a' := ?_) #[true, true, true, true, true, true, true, true, true, true, true, true, true, false, true, false, false, false, false, false, false, false, false] rfl rfl (any_of HT_.out (by kernel_rfl)) (fun _ _ _ h => h) (Or.inl ⟨by rfl, ?_⟩) ?_ ?_
               rotate_left
               ·
                intro w'
                go_simp
                with_reducible rfl
               rotate_left
               ·
                simp only [Act.put, pq]
                rfl
               refine pure_ (i := 16) (N := some 56) (v := ?_) (a' := ?_) #[true, true, true, true, true, true, true, true, true, true, true, true, true, false, true, false, true, false, false, false, false, false, false] rfl rfl (any_of HT_.out (by kernel_rfl)) (fun _ _ _ h => h) (Or.inl ⟨by rfl, ?_⟩) ?_ ?_
               rotate_left
               ·
                intro w'
                go_simp
                with_reducible rfl
               rotate_left
               ·
                simp only [Act.put, pq]
                rfl
               refine pure_ (i := 18) (N := some 58) (v := ?_) (a' := ?_) #[true, true, true, true, true, true, true, true, true, true, true, true, true, false, true, false, true, false, true, false, false, false, false] rfl rfl (any_of HT_.out (by kernel_rfl)) (fun _ _ _ h => h) (Or.inl ⟨by rfl, ?_⟩) ?_ ?_
               rotate_left
               ·
                intro w'
                go_simp
                with_reducible rfl
               rotate_left
               ·
                simp only [Act.put, pq]
                rfl
               refine take_ (i := 13) (N := some 53) (v := ?_) (a' := ?_) #[true, true, true, true, true, true, true, true, true, true, true, true, true, true, true, false, true, false, true, false, false, false, false] rfl rfl (take_ofW HT_.out HW_.out (by kernel_rfl)) (fun _ _ _ h => h) (Or.inl ⟨by rfl, ?_⟩) hHeld ?_ ?_
               rotate_left
               ·
                rintro w' ⟨s0, s1, s2, s3, s4, s5, s6, s7, s8, s9⟩
                go_simp
                with_reducible rfl
               rotate_left
               ·
                simp only [Act.put, pq]
                rfl
               refine take_ (i := 17) (N := some 57) (v := ?_) (a' := ?_) #[true, true, true, true, true, true, true, true, true, true, true, true, true, true, true, false, true, true, true, false, false, false, false] rfl rfl (take_ofW HT_.out HW_.out (by kernel_rfl)) (fun _ _ _ h => h) (Or.inl ⟨by rfl, ?_⟩) hHeld ?_ ?_
               rotate_left
               ·
                rintro w' ⟨s0, s1, s2, s3, s4, s5, s6, s7, s8, s9⟩
                go_simp
                with_reducible rfl
               rotate_left
               ·
                simp only [Act.put, pq]
                rfl
               refine one_ (i := 15) (N := some 55) #[true, true, true, true, true, true, true, true, true, true, true, true, true, true, true, true, true, true, true, false, false, false, false] rfl rfl (one_of HT_.out (by kernel_rfl)) (by decide) (fun K hK => ?_)
               refine goes_ Try.func31 (by kernel_rfl) rfl #[.string ((rd_T39 l0_1 x7_2).f0), .string a1] (by rfl) rfl rfl (by (try simp only [List.map_toArray, List.map_cons, List.map_nil]); rfl) ?_
               with_reducible refine (spec_l14Common.calls k2 ((rd_T39 l0_1 x7_2).f0) a1 t368 _ A35.out).mono ?_
               rintro e w49 ⟨rfl, hb⟩
               refine ⟨_, rfl, ?_⟩
               have n0_ := Aside0.mk (blk_below (g := gb361) (o := .cells #[.string a0_0, .slice (some ad364) l0_1.length c0_1, .slice A0_2 l0_2.length c0_2] 27 (0, 0)) (by exact BK361.out) hb)
               have n1_ := Aside0.mk (blk_below (g := gb365) (o := .cells #[.string ((rd_T39 l0_1 x7_2).f0), .int .i64 ((rd_T39 l0_1 x7_2).f1), .int .i64 ((rd_T39 l0_1 x7_2).f2), .int .i64 ((rd_T39 l0_1 x7_2).f3), .int .i64 ((rd_T39 l0_1 x7_2).f4)] 39 (0, 0)) (by exact BK365.out) hb)
               have n2_ := Aside0.mk (blk_below (g := gb367) (o := .cells #[.string ((rd_T39 l0_1 x6_2).f0), .int .i64 ((rd_T39 l0_1 x6_2).f1), .int .i64 ((rd_T39 l0_1 x6_2).f2), .int .i64 ((rd_T39 l0_1 x6_2).f3), .int .i64 ((rd_T39 l0_1 x6_2).f4)] 39 (0, 0)) (by exact BK367.out) hb)
               have n3_ := Aside0.mk (below_step (HB.out) hb)
               clear BK361
               clear BK365
               clear BK367
               clear HB
               have BK361 := n0_
               have BK365 := n1_
               have BK367 := n2_
               have HB := n3_
               clear n0_ n1_ n2_ n3_
               (try clear hb)
               (skip)
               (skip)
               (skip)
               refine hK.out _ _ ⟨(blk_cell BK365.out 0).trans rfl, (blk_cell BK365.out 1).trans rfl, (blk_cell BK365.out 2).trans rfl, (blk_cell BK365.out 3).trans rfl, (blk_cell BK365.out 4).trans rfl, (blk_cell BK367.out 0).trans rfl, (blk_cell BK367.out 1).trans rfl, (blk_cell BK367.out 2).trans rfl, (blk_cell BK367.out 3).trans rfl, (blk_cell BK367.out 4).trans rfl⟩ (fun hHeld => ?_)
               clear hK K
               refine norm_ (a' := ?_) ?_ ?_
               rotate_left
               ·
                show Act.put _ (some 55) _ = _
                simp only [Act.put, pq]
                rfl
               refine one_ (i := 19) (N := some 59) #[true, true, true, true, true, true, true, true, true, true, true, true, true, true, true, true, true, true, true, true, false, false, false] rfl rfl (one_of HT_.out (by kernel_rfl)) (by decide) (fun K hK => ?_)
               refine goes_ Try.func31 (by kernel_rfl) rfl #[.string ((rd_T39 l0_1 x6_2).f0), .string a1] (by rfl) rfl rfl (by (try simp only [List.map_toArray, List.map_cons, List.map_nil]); rfl) ?_
               with_reducible refine (spec_l14Common.calls k2 ((rd_T39 l0_1 x6_2).f0) a1 t369 _ A36.out).mono ?_
               rintro e w50 ⟨rfl, hb⟩
               refine ⟨_, rfl, ?_⟩
               have n0_ := Aside0.mk (blk_below (g := gb361) (o := .cells #[.string a0_0, .slice (some ad364) l0_1.length c0_1, .slice A0_2 l0_2.length c0_2] 27 (0, 0)) (by exact BK361.out) hb)
               have n1_ := Aside0.mk (blk_below (g := gb365) (o := .cells #[.string ((rd_T39 l0_1 x7_2).f0), .int .i64 ((rd_T39 l0_1 x7_2).f1), .int .i64 ((rd_T39 l0_1 x7_2).f2), .int .i64 ((rd_T39 l0_1 x7_2).f3), .int .i64 ((rd_T39 l0_1 x7_2).f4)] 39 (0, 0)) (by exact BK365.out) hb)
               have n2_ := Aside0.mk (blk_below (g := gb367) (o := .cells #[.string ((rd_T39 l0_1 x6_2).f0), .int .i64 ((rd_T39 l0_1 x6_2).f1), .int .i64 ((rd_T39 l0_1 x6_2).f2), .int .i64 ((rd_T39 l0_1 x6_2).f3), .int .i64 ((rd_T39 l0_1 x6_2).f4)] 39 (0, 0)) (by exact BK367.out) hb)
               have n3_ := Aside0.mk (below_step (HB.out) hb)
               clear BK361
               clear BK365
               clear BK367
               clear HB
               have BK361 := n0_
               have BK365 := n1_
               have BK367 := n2_
               have HB := n3_
               clear n0_ n1_ n2_ n3_
               (try clear hb)
               (skip)
               (skip)
               (skip)
               refine hK.out _ _ ⟨(blk_cell BK365.out 0).trans rfl, (blk_cell BK365.out 1).trans rfl, (blk_cell BK365.out 2).trans rfl, (blk_cell BK365.out 3).trans rfl, (blk_cell BK365.out 4).trans rfl, (blk_cell BK367.out 0).trans rfl, (blk_cell BK367.out 1).trans rfl, (blk_cell BK367.out 2).trans rfl, (blk_cell BK367.out 3).trans rfl, (blk_cell BK367.out 4).trans rfl⟩ (fun hHeld => ?_)
               clear hK K
               refine norm_ (a' := ?_) ?_ ?_
               rotate_left
               ·
                show Act.put _ (some 59) _ = _
                simp only [Act.put, pq]
                rfl
               refine pure_ (i := 20) (N := some 60) (v := ?_) (a' := ?_) #[true, true, true, true, true, true, true, true, true, true, true, true, true, true, true, true, true, true, true, true, true, false, false] rfl rfl (any_of HT_.out (by kernel_rfl)) (fun _ _ _ h => h) (Or.inl ⟨by rfl, ?_⟩) ?_ ?_
               rotate_left
               ·
                intro w'
                go_simp
                with_reducible rfl
               rotate_left
               ·
                simp only [Act.put, pq]
                rfl
               refine pure_ (i := 21) (N := some 61) (v := ?_) (a' := ?_) #[true, true, true, true, true, true, true, true, true, true, true, true, true, true, true, true, true, true, true, true, true, true, false] rfl rfl (any_of HT_.out (by kernel_rfl)) (fun _ _ _ h => h) (Or.inl ⟨by rfl, ?_⟩) ?_ ?_
               rotate_left
               ·
                intro w'
                go_simp
                with_reducible rfl
               rotate_left
               ·
                simp only [Act.put, pq]
                rfl
               refine pure_ (i := 22) (N := some 62) (v := ?_) (a' := ?_) #[true, true, true, true, true, true, true, true, true, true, true, true, true, true, true, true, true, true, true, true, true, true, true] rfl rfl (any_of HT_.out (by kernel_rfl)) (fun _ _ _ h => h) (Or.inl ⟨by rfl, ?_⟩) ?_ ?_
               rotate_left
               ·
                intro w'
                go_simp
                with_reducible rfl
               rotate_left
               ·
                simp only [Act.put, pq]
                rfl
               refine done_ (done_of HT_.out (by kernel_rfl)) ?_
               try go_wp2
               go_roundg k2
               case measure => have := HJ2.out; have := HK2.out; omega
               case rel => exact ⟨(x6_2), (wrap64 (x7_2 + 1)), (by rfl), (by rfl), H', ⟨by have := HJ2.out; have := HK2.out; omega⟩, ⟨by exact BK361.out⟩, ⟨HB.out⟩⟩
              ·
               rw [if_neg c37] at H
               have c37b0 : decide (t368 ≤ t369) = false := decide_eq_false c37
               clear c37
               have H' := Aside0.mk H
               clear H
               have hcz51_0 : wr.cell? ⟨gb361, 0, none⟩ = some (.string a0_0) := (blk_cell BK361.out 0).trans rfl
               have hcz51_1 : wr.cell? ⟨gb361, 1, none⟩ = some (.slice A0_1 l0_1.length c0_1) := (blk_cell BK361.out 1).trans rfl
               have hcz51_2 : wr.cell? ⟨gb361, 2, none⟩ = some (.slice A0_2 l0_2.length c0_2) := (blk_cell BK361.out 2).trans rfl
               have hfz51_0 := blk_frozen BK361.out 0
               have hfz51_1 := blk_frozen BK361.out 1
               have hfz51_2 := blk_frozen BK361.out 2
               have p364 : 0 ≤ (x7_2 : Int) := of_decide_eq_true (by (with_reducible assumption))
               have q364 : x7_2 < (l0_1.length : Int) := of_decide_eq_true (by (with_reducible assumption))
               obtain ⟨ad364, e364, hx364_0, hx364_1, hx364_2, hx364_3, hx364_4⟩ := at_T39 HR0_1.out x7_2 p364 q364
               cases e364
               replace hx364_0 := (HB.out.cell (World.block_lt_of_cell? w _ hx364_0)).trans hx364_0
               replace hx364_1 := (HB.out.cell (World.block_lt_of_cell? w _ hx364_1)).trans hx364_1
               replace hx364_2 := (HB.out.cell (World.block_lt_of_cell? w _ hx364_2)).trans hx364_2
               replace hx364_3 := (HB.out.cell (World.block_lt_of_cell? w _ hx364_3)).trans hx364_3
               replace hx364_4 := (HB.out.cell (World.block_lt_of_cell? w _ hx364_4)).trans hx364_4
               replace p364 := eq_true p364
               replace q364 := eq_true q364
               try go_wp2_with (first | ((with_reducible refine gate_dst (N := 8) rfl ?_); (try (refine gate_guard (by rfl) ?_; dsimp only)); refine box_event ?hg (N := 8) ?hd (cs := #[.string (⟨#[]⟩ : ByteArray), .int .i64 0, .int .i64 0, .int .i64 0, .int .i64 0]) (t := 39) ?hr ?_; (case hd => rfl); (case hg => rfl); (case hr => (go_simp; done)); intro gb365 hg w52 hbox hb; have n0_ := Aside0.mk (blk_below (g := gb361) (o := .cells #[.string a0_0, .slice (some ad364) l0_1.length c0_1, .slice A0_2 l0_2.length c0_2] 27 (0, 0)) (by exact BK361.out) hb); have n1_ := Aside0.mk (below_step (HB.out) hb); have n2_ := Aside0.mk (hbox); have n3_ := Aside0.mk ((by rw [hg]; exact (below_size (HB.out)) : w.heap.size ≤ gb365)); have n4_ := Aside0.mk ((by rw [hg]; exact (below_size (HB.out)) : w.heap.size ≤ gb365)); have n5_ := Aside0.mk ((by rw [hg]; exact Nat.ne_of_lt (blk_lt (g := gb361) (o := .cells #[.string a0_0, .slice (some ad364) l0_1.length c0_1, .slice A0_2 l0_2.length c0_2] 27 (0, 0)) (by exact BK361.out)) : gb361 ≠ gb365)); have n6_ := Aside0.mk ((by rw [hg]; exact Nat.ne_of_gt (blk_lt (g := gb361) (o := .cells #[.string a0_0, .slice (some ad364) l0_1.length c0_1, .slice A0_2 l0_2.length c0_2] 27 (0, 0)) (by exact BK361.out)) : gb365 ≠ gb361)); clear BK361; clear HB; have BK361 := n0_; have HB := n1_; have BK365 := n2_; have GW365 := n3_; have GE365 := n4_; have NB361_365 := n5_; have NB365_361 := n6_; clear n0_ n1_ n2_ n3_ n4_ n5_ n6_; clear hb hbox hg; have hnb53 := NB365_361.out; have hnc53 := NB361_365.out; have hcz54_0 : w52.cell? ⟨gb365, 0, none⟩ = some (.string (⟨#[]⟩ : ByteArray)) := (blk_cell BK365.out 0).trans rfl; have hcz54_1 : w52.cell? ⟨gb365, 1, none⟩ = some (.int .i64 0) := (blk_cell BK365.out 1).trans rfl; have hcz54_2 : w52.cell? ⟨gb365, 2, none⟩ = some (.int .i64 0) := (blk_cell BK365.out 2).trans rfl; have hcz54_3 : w52.cell? ⟨gb365, 3, none⟩ = some (.int .i64 0) := (blk_cell BK365.out 3).trans rfl; have hcz54_4 : w52.cell? ⟨gb365, 4, none⟩ = some (.int .i64 0) := (blk_cell BK365.out 4).trans rfl; have hfz54_0 := blk_frozen BK365.out 0; have hfz54_1 := blk_frozen BK365.out 1; have hfz54_2 := blk_frozen BK365.out 2; have hfz54_3 := blk_frozen BK365.out 3; have hfz54_4 := blk_frozen BK365.out 4; have hcz55_0 : w52.cell? ⟨gb361, 0, none⟩ = some (.string a0_0) := (blk_cell BK361.out 0).trans rfl; have hcz55_1 : w52.cell? ⟨gb361, 1, none⟩ = some (.slice (some ad364) l0_1.length c0_1) := (blk_cell BK361.out 1).trans rfl; have hcz55_2 : w52.cell? ⟨gb361, 2, none⟩ = some (.slice A0_2 l0_2.length c0_2) := (blk_cell BK361.out 2).trans rfl; have hfz55_0 := blk_frozen BK361.out 0; have hfz55_1 := blk_frozen BK361.out 1; have hfz55_2 := blk_frozen BK361.out 2; have p366 : 0 ≤ (x6_2 : Int) := of_decide_eq_true (by (with_reducible assumption)); have q366 : x6_2 < (l0_1.length : Int) := of_decide_eq_true (by (with_reducible assumption)); obtain ⟨ad366, e366, hx366_0, hx366_1, hx366_2, hx366_3, hx366_4⟩ := at_T39 HR0_1.out x6_2 p366 q366; obtain rfl : ad364 = ad366 := (by injection e366); have hn366_0 : ad364.block ≠ gb365 := Nat.ne_of_lt (Nat.lt_of_lt_of_le (by have := World.block_lt_of_cell? _ _ hx366_0; rwa [add_block] at this) GW365.out); have hn366_1 : ad364.block ≠ gb365 := Nat.ne_of_lt (Nat.lt_of_lt_of_le (by have := World.block_lt_of_cell? _ _ hx366_0; rwa [add_block] at this) GW365.out); have hn366_2 : ad364.block ≠ gb365 := Nat.ne_of_lt (Nat.lt_of_lt_of_le (by have := World.block_lt_of_cell? _ _ hx366_0; rwa [add_block] at this) GW365.out); have hn366_3 : ad364.block ≠ gb365 := Nat.ne_of_lt (Nat.lt_of_lt_of_le (by have := World.block_lt_of_cell? _ _ hx366_0; rwa [add_block] at this) GW365.out); have hn366_4 : ad364.block ≠ gb365 := Nat.ne_of_lt (Nat.lt_of_lt_of_le (by have := World.block_lt_of_cell? _ _ hx366_0; rwa [add_block] at this) GW365.out); replace hx366_0 := (HB.out.cell (World.block_lt_of_cell? w _ hx366_0)).trans hx366_0; replace hx366_1 := (HB.out.cell (World.block_lt_of_cell? w _ hx366_1)).trans hx366_1; replace hx366_2 := (HB.out.cell (World.block_lt_of_cell? w _ hx366_2)).trans hx366_2; replace hx366_3 := (HB.out.cell (World.block_lt_of_cell? w _ hx366_3)).trans hx366_3; replace hx366_4 := (HB.out.cell (World.block_lt_of_cell? w _ hx366_4)).trans hx366_4; replace hx366_0 := far5 (by (rw [add_block]; exact hn366_0)) hx366_0 (.string ((rd_T39 l0_1 x7_2).f0)) (.int .i64 ((rd_T39 l0_1 x7_2).f1)) (.int .i64 ((rd_T39 l0_1 x7_2).f2)) (.int .i64 ((rd_T39 l0_1 x7_2).f3)) (.int .i64 ((rd_T39 l0_1 x7_2).f4)); replace hx366_1 := far5 (by (rw [add_block]; exact hn366_1)) hx366_1 (.string ((rd_T39 l0_1 x7_2).f0)) (.int .i64 ((rd_T39 l0_1 x7_2).f1)) (.int .i64 ((rd_T39 l0_1 x7_2).f2)) (.int .i64 ((rd_T39 l0_1 x7_2).f3)) (.int .i64 ((rd_T39 l0_1 x7_2).f4)); replace hx366_2 := far5 (by (rw [add_block]; exact hn366_2)) hx366_2 (.string ((rd_T39 l0_1 x7_2).f0)) (.int .i64 ((rd_T39 l0_1 x7_2).f1)) (.int .i64 ((rd_T39 l0_1 x7_2).f2)) (.int .i64 ((rd_T39 l0_1 x7_2).f3)) (.int .i64 ((rd_T39 l0_1 x7_2).f4)); replace hx366_3 := far5 (by (rw [add_block]; exact hn366_3)) hx366_3 (.string ((rd_T39 l0_1 x7_2).f0)) (.int .i64 ((rd_T39 l0_1 x7_2).f1)) (.int .i64 ((rd_T39 l0_1 x7_2).f2)) (.int .i64 ((rd_T39 l0_1 x7_2).f3)) (.int .i64 ((rd_T39 l0_1 x7_2).f4)); replace hx366_4 := far5 (by (rw [add_block]; exact hn366_4)) hx366_4 (.string ((rd_T39 l0_1 x7_2).f0)) (.int .i64 ((rd_T39 l0_1 x7_2).f1)) (.int .i64 ((rd_T39 l0_1 x7_2).f2)) (.int .i64 ((rd_T39 l0_1 x7_2).f3)) (.int .i64 ((rd_T39 l0_1 x7_2).f4)); clear hn366_0; clear hn366_1; clear hn366_2; clear hn366_3; clear hn366_4; replace p366 := eq_true p366; replace q366 := eq_true q366) | ((with_reducible refine gate_dst (N := 9) rfl ?_); (try (refine gate_guard (by rfl) ?_; dsimp only)); refine box_event ?hg (N := 9) ?hd (cs := #[.string (⟨#[]⟩ : ByteArray), .int .i64 0, .int .i64 0, .int .i64 0, .int .i64 0]) (t := 39) ?hr ?_; (case hd => rfl); (case hg => rfl); (case hr => (go_simp; done)); intro gb367 hg w56 hbox hb; have n0_ := Aside0.mk (blk_below (g := gb361) (o := .cells #[.string a0_0, .slice (some ad364) l0_1.length c0_1, .slice A0_2 l0_2.length c0_2] 27 (0, 0)) (by refine blk_far ?_ NB361_365.out _; refine blk_far ?_ NB361_365.out _; refine blk_far ?_ NB361_365.out _; refine blk_far ?_ NB361_365.out _; refine blk_far ?_ NB361_365.out _; exact BK361.out) hb); have n1_ := Aside0.mk (blk_below (g := gb365) (o := .cells #[.string ((rd_T39 l0_1 x7_2).f0), .int .i64 ((rd_T39 l0_1 x7_2).f1), .int .i64 ((rd_T39 l0_1 x7_2).f2), .int .i64 ((rd_T39 l0_1 x7_2).f3), .int .i64 ((rd_T39 l0_1 x7_2).f4)] 39 (0, 0)) (by refine blk_put (cs := #[.string ((rd_T39 l0_1 x7_2).f0), .int .i64 ((rd_T39 l0_1 x7_2).f1), .int .i64 ((rd_T39 l0_1 x7_2).f2), .int .i64 ((rd_T39 l0_1 x7_2).f3), .int .i64 0]) ?_ 4 _ rfl; refine blk_put (cs := #[.string ((rd_T39 l0_1 x7_2).f0), .int .i64 ((rd_T39 l0_1 x7_2).f1), .int .i64 ((rd_T39 l0_1 x7_2).f2), .int .i64 0, .int .i64 0]) ?_ 3 _ rfl; refine blk_put (cs := #[.string ((rd_T39 l0_1 x7_2).f0), .int .i64 ((rd_T39 l0_1 x7_2).f1), .int .i64 0, .int .i64 0, .int .i64 0]) ?_ 2 _ rfl; refine blk_put (cs := #[.string ((rd_T39 l0_1 x7_2).f0), .int .i64 0, .int .i64 0, .int .i64 0, .int .i64 0]) ?_ 1 _ rfl; refine blk_put (cs := #[.string (⟨#[]⟩ : ByteArray), .int .i64 0, .int .i64 0, .int .i64 0, .int .i64 0]) ?_ 0 _ rfl; exact BK365.out) hb); have n2_ := Aside0.mk (below_step (by repeat ((with_reducible first | exact HB.out | refine below_set ?_ GE365.out))) hb); have n3_ := Aside0.mk (hbox); have n4_ := Aside0.mk ((by rw [hg]; exact (below_size (by repeat ((with_reducible first | exact HB.out | refine below_set ?_ GE365.out)))) : w.heap.size ≤ gb367)); have n5_ := Aside0.mk ((by rw [hg]; exact (below_size (by repeat ((with_reducible first | exact HB.out | refine below_set ?_ GE365.out)))) : w.heap.size ≤ gb367)); have n6_ := Aside0.mk ((by rw [hg]; exact Nat.ne_of_lt (blk_lt (g := gb361) (o := .cells #[.string a0_0, .slice (some ad364) l0_1.length c0_1, .slice A0_2 l0_2.length c0_2] 27 (0, 0)) (by refine blk_far ?_ NB361_365.out _; refine blk_far ?_ NB361_365.out _; refine blk_far ?_ NB361_365.out _; refine blk_far ?_ NB361_365.out _; refine blk_far ?_ NB361_365.out _; exact BK361.out)) : gb361 ≠ gb367)); have n7_ := Aside0.mk ((by rw [hg]; exact Nat.ne_of_gt (blk_lt (g := gb361) (o := .cells #[.string a0_0, .slice (some ad364) l0_1.length c0_1, .slice A0_2 l0_2.length c0_2] 27 (0, 0)) (by refine blk_far ?_ NB361_365.out _; refine blk_far ?_ NB361_365.out _; refine blk_far ?_ NB361_365.out _; refine blk_far ?_ NB361_365.out _; refine blk_far ?_ NB361_365.out _; exact BK361.out)) : gb367 ≠ gb361)); have n8_ := Aside0.mk ((by rw [hg]; exact Nat.ne_of_lt (blk_lt (g := gb365) (o := .cells #[.string ((rd_T39 l0_1 x7_2).f0), .int .i64 ((rd_T39 l0_1 x7_2).f1), .int .i64 ((rd_T39 l0_1 x7_2).f2), .int .i64 ((rd_T39 l0_1 x7_2).f3), .int .i64 ((rd_T39 l0_1 x7_2).f4)] 39 (0, 0)) (by refine blk_put (cs := #[.string ((rd_T39 l0_1 x7_2).f0), .int .i64 ((rd_T39 l0_1 x7_2).f1), .int .i64 ((rd_T39 l0_1 x7_2).f2), .int .i64 ((rd_T39 l0_1 x7_2).f3), .int .i64 0]) ?_ 4 _ rfl; refine blk_put (cs := #[.string ((rd_T39 l0_1 x7_2).f0), .int .i64 ((rd_T39 l0_1 x7_2).f1), .int .i64 ((rd_T39 l0_1 x7_2).f2), .int .i64 0, .int .i64 0]) ?_ 3 _ rfl; refine blk_put (cs := #[.string ((rd_T39 l0_1 x7_2).f0), .int .i64 ((rd_T39 l0_1 x7_2).f1), .int .i64 0, .int .i64 0, .int .i64 0]) ?_ 2 _ rfl; refine blk_put (cs := #[.string ((rd_T39 l0_1 x7_2).f0), .int .i64 0, .int .i64 0, .int .i64 0, .int .i64 0]) ?_ 1 _ rfl; refine blk_put (cs := #[.string (⟨#[]⟩ : ByteArray), .int .i64 0, .int .i64 0, .int .i64 0, .int .i64 0]) ?_ 0 _ rfl; exact BK365.out)) : gb365 ≠ gb367)); have n9_ := Aside0.mk ((by rw [hg]; exact Nat.ne_of_gt (blk_lt (g := gb365) (o := .cells #[.string ((rd_T39 l0_1 x7_2).f0), .int .i64 ((rd_T39 l0_1 x7_2).f1), .int .i64 ((rd_T39 l0_1 x7_2).f2), .int .i64 ((rd_T39 l0_1 x7_2).f3), .int .i64 ((rd_T39 l0_1 x7_2).f4)] 39 (0, 0)) (by refine blk_put (cs := #[.string ((rd_T39 l0_1 x7_2).f0), .int .i64 ((rd_T39 l0_1 x7_2).f1), .int .i64 ((rd_T39 l0_1 x7_2).f2), .int .i64 ((rd_T39 l0_1 x7_2).f3), .int .i64 0]) ?_ 4 _ rfl; refine blk_put (cs := #[.string ((rd_T39 l0_1 x7_2).f0), .int .i64 ((rd_T39 l0_1 x7_2).f1), .int .i64 ((rd_T39 l0_1 x7_2).f2), .int .i64 0, .int .i64 0]) ?_ 3 _ rfl; refine blk_put (cs := #[.string ((rd_T39 l0_1 x7_2).f0), .int .i64 ((rd_T39 l0_1 x7_2).f1), .int .i64 0, .int .i64 0, .int .i64 0]) ?_ 2 _ rfl; refine blk_put (cs := #[.string ((rd_T39 l0_1 x7_2).f0), .int .i64 0, .int .i64 0, .int .i64 0, .int .i64 0]) ?_ 1 _ rfl; refine blk_put (cs := #[.string (⟨#[]⟩ : ByteArray), .int .i64 0, .int .i64 0, .int .i64 0, .int .i64 0]) ?_ 0 _ rfl; exact BK365.out)) : gb367 ≠ gb365)); clear BK361; clear BK365; clear HB; have BK361 := n0_; have BK365 := n1_; have HB := n2_; have BK367 := n3_; have GW367 := n4_; have GE367 := n5_; have NB361_367 := n6_; have NB367_361 := n7_; have NB365_367 := n8_; have NB367_365 := n9_; clear n0_ n1_ n2_ n3_ n4_ n5_ n6_ n7_ n8_ n9_; clear hb hbox hg; have hnb57 := NB367_361.out; have hnc57 := NB361_367.out; have hnb58 := NB367_365.out; have hnc58 := NB365_367.out; have hcz59_0 : w56.cell? ⟨gb367, 0, none⟩ = some (.string (⟨#[]⟩ : ByteArray)) := (blk_cell BK367.out 0).trans rfl; have hcz59_1 : w56.cell? ⟨gb367, 1, none⟩ = some (.int .i64 0) := (blk_cell BK367.out 1).trans rfl; have hcz59_2 : w56.cell? ⟨gb367, 2, none⟩ = some (.int .i64 0) := (blk_cell BK367.out 2).trans rfl; have hcz59_3 : w56.cell? ⟨gb367, 3, none⟩ = some (.int .i64 0) := (blk_cell BK367.out 3).trans rfl; have hcz59_4 : w56.cell? ⟨gb367, 4, none⟩ = some (.int .i64 0) := (blk_cell BK367.out 4).trans rfl; have hfz59_0 := blk_frozen BK367.out 0; have hfz59_1 := blk_frozen BK367.out 1; have hfz59_2 := blk_frozen BK367.out 2; have hfz59_3 := blk_frozen BK367.out 3; have hfz59_4 := blk_frozen BK367.out 4))
               have n0_ : Aside0 ((((((w56.setCell ⟨gb367, 0, none⟩ (.string ((rd_T39 l0_1 x6_2).f0))).setCell ⟨gb367, 1, none⟩ (.int .i64 ((rd_T39 l0_1 x6_2).f1))).setCell ⟨gb367, 2, none⟩ (.int .i64 ((rd_T39 l0_1 x6_2).f2))).setCell ⟨gb367, 3, none⟩ (.int .i64 ((rd_T39 l0_1 x6_2).f3))).setCell ⟨gb367, 4, none⟩ (.int .i64 ((rd_T39 l0_1 x6_2).f4))).heap[gb361]? = some (.cells #[.string a0_0, .slice (some ad364) l0_1.length c0_1, .slice A0_2 l0_2.length c0_2] 27 (0, 0))) := ⟨by refine blk_far ?_ NB361_367.out _; refine blk_far ?_ NB361_367.out _; refine blk_far ?_ NB361_367.out _; refine blk_far ?_ NB361_367.out _; refine blk_far ?_ NB361_367.out _; exact BK361.out⟩
               have n1_ : Aside0 ((((((w56.setCell ⟨gb367, 0, none⟩ (.string ((rd_T39 l0_1 x6_2).f0))).setCell ⟨gb367, 1, none⟩ (.int .i64 ((rd_T39 l0_1 x6_2).f1))).setCell ⟨gb367, 2, none⟩ (.int .i64 ((rd_T39 l0_1 x6_2).f2))).setCell ⟨gb367, 3, none⟩ (.int .i64 ((rd_T39 l0_1 x6_2).f3))).setCell ⟨gb367, 4, none⟩ (.int .i64 ((rd_T39 l0_1 x6_2).f4))).heap[gb365]? = some (.cells #[.string ((rd_T39 l0_1 x7_2).f0), .int .i64 ((rd_T39 l0_1 x7_2).f1), .int .i64 ((rd_T39 l0_1 x7_2).f2), .int .i64 ((rd_T39 l0_1 x7_2).f3), .int .i64 ((rd_T39 l0_1 x7_2).f4)] 39 (0, 0))) := ⟨by refine blk_far ?_ NB365_367.out _; refine blk_far ?_ NB365_367.out _; refine blk_far ?_ NB365_367.out _; refine blk_far ?_ NB365_367.out _; refine blk_far ?_ NB365_367.out _; exact BK365.out⟩
               have n2_ : Aside0 ((((((w56.setCell ⟨gb367, 0, none⟩ (.string ((rd_T39 l0_1 x6_2).f0))).setCell ⟨gb367, 1, none⟩ (.int .i64 ((rd_T39 l0_1 x6_2).f1))).setCell ⟨gb367, 2, none⟩ (.int .i64 ((rd_T39 l0_1 x6_2).f2))).setCell ⟨gb367, 3, none⟩ (.int .i64 ((rd_T39 l0_1 x6_2).f3))).setCell ⟨gb367, 4, none⟩ (.int .i64 ((rd_T39 l0_1 x6_2).f4))).heap[gb367]? = some (.cells #[.string ((rd_T39 l0_1 x6_2).f0), .int .i64 ((rd_T39 l0_1 x6_2).f1), .int .i64 ((rd_T39 l0_1 x6_2).f2), .int .i64 ((rd_T39 l0_1 x6_2).f3), .int .i64 ((rd_T39 l0_1 x6_2).f4)] 39 (0, 0))) := ⟨by refine blk_put (cs := #[.string ((rd_T39 l0_1 x6_2).f0), .int .i64 ((rd_T39 l0_1 x6_2).f1), .int .i64 ((rd_T39 l0_1 x6_2).f2), .int .i64 ((rd_T39 l0_1 x6_2).f3), .int .i64 0]) ?_ 4 _ rfl; refine blk_put (cs := #[.string ((rd_T39 l0_1 x6_2).f0), .int .i64 ((rd_T39 l0_1 x6_2).f1), .int .i64 ((rd_T39 l0_1 x6_2).f2), .int .i64 0, .int .i64 0]) ?_ 3 _ rfl; refine blk_put (cs := #[.string ((rd_T39 l0_1 x6_2).f0), .int .i64 ((rd_T39 l0_1 x6_2).f1), .int .i64 0, .int .i64 0, .int .i64 0]) ?_ 2 _ rfl; refine blk_put (cs := #[.string ((rd_T39 l0_1 x6_2).f0), .int .i64 0, .int .i64 0, .int .i64 0, .int .i64 0]) ?_ 1 _ rfl; refine blk_put (cs := #[.string (⟨#[]⟩ : ByteArray), .int .i64 0, .int .i64 0, .int .i64 0, .int .i64 0]) ?_ 0 _ rfl; exact BK367.out⟩
               have n3_ : Aside0 (Below w.heap.size w (((((w56.setCell ⟨gb367, 0, none⟩ (.string ((rd_T39 l0_1 x6_2).f0))).setCell ⟨gb367, 1, none⟩ (.int .i64 ((rd_T39 l0_1 x6_2).f1))).setCell ⟨gb367, 2, none⟩ (.int .i64 ((rd_T39 l0_1 x6_2).f2))).setCell ⟨gb367, 3, none⟩ (.int .i64 ((rd_T39 l0_1 x6_2).f3))).setCell ⟨gb367, 4, none⟩ (.int .i64 ((rd_T39 l0_1 x6_2).f4)))) := ⟨by repeat ((with_reducible first | exact HB.out | refine below_set ?_ GE367.out))⟩
               (try clear BK361)
               (try clear BK365)
               (try clear BK367)
               (try clear HB)
               generalize (((((w56.setCell ⟨gb367, 0, none⟩ (.string ((rd_T39 l0_1 x6_2).f0))).setCell ⟨gb367, 1, none⟩ (.int .i64 ((rd_T39 l0_1 x6_2).f1))).setCell ⟨gb367, 2, none⟩ (.int .i64 ((rd_T39 l0_1 x6_2).f2))).setCell ⟨gb367, 3, none⟩ (.int .i64 ((rd_T39 l0_1 x6_2).f3))).setCell ⟨gb367, 4, none⟩ (.int .i64 ((rd_T39 l0_1 x6_2).f4))) = w60 at n0_ n1_ n2_ n3_ ⊢
               have BK361 := n0_
               have BK365 := n1_
               have BK367 := n2_
               have HB := n3_
               clear n0_ n1_ n2_ n3_
               have n0_ := Aside0.mk (blk_drew BK361.out)
               have n1_ := Aside0.mk (blk_drew BK365.out)
               have n2_ := Aside0.mk (blk_drew BK367.out)
               have n3_ := Aside0.mk (below_drew1 HB.out)
               clear BK361
               clear BK365
               clear BK367
               clear HB
               have BK361 := n0_
               have BK365 := n1_
               have BK367 := n2_
               have HB := n3_
               clear n0_ n1_ n2_ n3_
               refine start_ (n := 23) (S := fun w' => w'.cell? ⟨gb365, 0, none⟩ = some (.string ((rd_T39 l0_1 x7_2).f0)) ∧ w'.cell? ⟨gb365, 1, none⟩ = some (.int .i64 ((rd_T39 l0_1 x7_2).f1)) ∧ w'.cell? ⟨gb365, 2, none⟩ = some (.int .i64 ((rd_T39 l0_1 x7_2).f2)) ∧ w'.cell? ⟨gb365, 3, none⟩ = some (.int .i64 ((rd_T39 l0_1 x7_2).f3)) ∧ w'.cell? ⟨gb365, 4, none⟩ = some (.int .i64 ((rd_T39 l0_1 x7_2).f4)) ∧ w'.cell? ⟨gb367, 0, none⟩ = some (.string ((rd_T39 l0_1 x6_2).f0)) ∧ w'.cell? ⟨gb367, 1, none⟩ = some (.int .i64 ((rd_T39 l0_1 x6_2).f1)) ∧ w'.cell? ⟨gb367, 2, none⟩ = some (.int .i64 ((rd_T39 l0_1 x6_2).f2)) ∧ w'.cell? ⟨gb367, 3, none⟩ = some (.int .i64 ((rd_T39 l0_1 x6_2).f3)) ∧ w'.cell? ⟨gb367, 4, none⟩ = some (.int .i64 ((rd_T39 l0_1 x6_2).f4))) (ds := []) #[false, false, false, false, false, false, false, false, false, false, false, false, false, false, false, false, false, false, false, false, false, false, false] (by kernel_rfl) rfl rfl ⟨(blk_cell BK365.out 0).trans rfl, (blk_cell BK365.out 1).trans rfl, (blk_cell BK365.out 2).trans rfl, (blk_cell BK365.out 3).trans rfl, (blk_cell BK365.out 4).trans rfl, (blk_cell BK367.out 0).trans rfl, (blk_cell BK367.out 1).trans rfl, (blk_cell BK367.out 2).trans rfl, (blk_cell BK367.out 3).trans rfl, (blk_cell BK367.out 4).trans rfl⟩ (fun hHeld => ?_); refine with_tabW spec_SourceFor.tab11 spec_SourceFor.bits11 (fun HT_ HW_ => ?_)
               generalize w60.drew = w61 at BK361 BK365 BK367 HB hHeld ⊢
               refine pure_ (i := 0) (N := some 40) (v := ?_) (a' := ?_) #[true, false, false, false, false, false, false, false, false, false, false, false, false, false, false, false, false, false, false, false, false, false, false] rfl rfl (any_of HT_.out (by kernel_rfl)) (fun _ _ _ h => h) (Or.inl ⟨by rfl, ?_⟩) ?_ ?_
               rotate_left
               ·
                intro w'
                go_simp
                with_reducible rfl
               rotate_left
               ·
                simp only [Act.put, pq]
                rfl
               refine pure_ (i := 2) (N := some 42) (v := ?_) (a' := ?_) #[true, false, true, false, false, false, false, false, false, false, false, false, false, false, false, false, false, false, false, false, false, false, false] rfl rfl (any_of HT_.out (by kernel_rfl)) (fun _ _ _ h => h) (Or.inl ⟨by rfl, ?_⟩) ?_ ?_
               rotate_left
               ·
                intro w'
                go_simp
                with_reducible rfl
               rotate_left
               ·
                simp only [Act.put, pq]
                rfl
               refine take_ (i := 1) (N := some 41) (v := ?_) (a' := ?_) #[true, true, true, false, false, false, false, false, false, false, false, false, false, false, false, false, false, false, false, false, false, false, false] rfl rfl (take_ofW HT_.out HW_.out (by kernel_rfl)) (fun _ _ _ h => h) (Or.inl ⟨by rfl, ?_⟩) hHeld ?_ ?_
               rotate_left
               ·
                rintro w' ⟨s0, s1, s2, s3, s4, s5, s6, s7, s8, s9⟩
                go_simp
                with_reducible rfl
               rotate_left
               ·
                simp only [Act.put, pq]
                rfl
               refine take_ (i := 3) (N := some 43) (v := ?_) (a' := ?_) #[true, true, true, true, false, false, false, false, false, false, false, false, false, false, false, false, false, false, false, false, false, false, false] rfl rfl (take_ofW HT_.out HW_.out (by kernel_rfl)) (fun _ _ _ h => h) (Or.inl ⟨by rfl, ?_⟩) hHeld ?_ ?_
               rotate_left
               ·
                rintro w' ⟨s0, s1, s2, s3, s4, s5, s6, s7, s8, s9⟩
                go_simp
                with_reducible rfl
               rotate_left
               ·
                simp only [Act.put, pq]
                rfl
               refine pure_ (i := 4) (N := some 44) (v := ?_) (a' := ?_) #[true, true, true, true, true, false, false, false, false, false, false, false, false, false, false, false, false, false, false, false, false, false, false] rfl rfl (any_of HT_.out (by kernel_rfl)) (fun _ _ _ h => h) (Or.inl ⟨by rfl, ?_⟩) ?_ ?_
               rotate_left
               ·
                intro w'
                go_simp
                with_reducible rfl
               rotate_left
               ·
                simp only [Act.put, pq]
                rfl
               refine pure_ (i := 5) (N := some 45) (v := ?_) (a' := ?_) #[true, true, true, true, true, true, false, false, false, false, false, false, false, false, false, false, false, false, false, false, false, false, false] rfl rfl (any_of HT_.out (by kernel_rfl)) (fun _ _ _ h => h) (Or.inl ⟨by rfl, ?_⟩) ?_ ?_
               rotate_left
               ·
                intro w'
                go_simp
                with_reducible rfl
               rotate_left
               ·
                simp only [Act.put, pq]
                rfl
               refine pure_ (i := 6) (N := some 46) (v := ?_) (a' := ?_) #[true, true, true, true, true, true, true, false, false, false, false, false, false, false, false, false, false, false, false, false, false, false, false] rfl rfl (any_of HT_.out (by kernel_rfl)) (fun _ _ _ h => h) (Or.inl ⟨by rfl, ?_⟩) ?_ ?_
               rotate_left
               ·
                intro w'
                go_simp
                with_reducible rfl
               rotate_left
               ·
                simp only [Act.put, pq]
                rfl
               refine pure_ (i := 8) (N := some 48) (v := ?_) (a' := ?_) #[true, true, true, true, true, true, true, false, true, false, false, false, false, false, false, false, false, false, false, false, false, false, false] rfl rfl (any_of HT_.out (by kernel_rfl)) (fun _ _ _ h => h) (Or.inl ⟨by rfl, ?_⟩) ?_ ?_
               rotate_left
               ·
                intro w'
                go_simp
                with_reducible rfl
               rotate_left
               ·
                simp only [Act.put, pq]
                rfl
               refine take_ (i := 7) (N := some 47) (v := ?_) (a' := ?_) #[true, true, true, true, true, true, true, true, true, false, false, false, false, false, false, false, false, false, false, false, false, false, false] rfl rfl (take_ofW HT_.out HW_.out (by kernel_rfl)) (fun _ _ _ h => h) (Or.inl ⟨by rfl, ?_⟩) hHeld ?_ ?_
               rotate_left
               ·
                rintro w' ⟨s0, s1, s2, s3, s4, s5, s6, s7, s8, s9⟩
                go_simp
                with_reducible rfl
               rotate_left
               ·
                simp only [Act.put, pq]
                rfl
               refine take_ (i := 9) (N := some 49) (v := ?_) (a' := ?_) #[true, true, true, true, true, true, true, true, true, true, false, false, false, false, false, false, false, false, false, false, false, false, false] rfl rfl (take_ofW HT_.out HW_.out (by kernel_rfl)) (fun _ _ _ h => h) (Or.inl ⟨by rfl, ?_⟩) hHeld ?_ ?_
               rotate_left
               ·
                rintro w' ⟨s0, s1, s2, s3, s4, s5, s6, s7, s8, s9⟩
                go_simp
                with_reducible rfl
               rotate_left
               ·
                simp only [Act.put, pq]
                rfl
               refine pure_ (i := 10) (N := some 50) (v := ?_) (a' := ?_) #[true, true, true, true, true, true, true, true, true, true, true, false, false, false, false, false, false, false, false, false, false, false, false] rfl rfl (any_of HT_.out (by kernel_rfl)) (fun _ _ _ h => h) (Or.inl ⟨by rfl, ?_⟩) ?_ ?_
               rotate_left
               ·
                intro w'
                go_simp
                with_reducible rfl
               rotate_left
               ·
                simp only [Act.put, pq]
                rfl
               refine pure_ (i := 11) (N := some 51) (v := ?_) (a' := ?_) #[true, true, true, true, true, true, true, true, true, true, true, true, false, false, false, false, false, false, false, false, false, false, false] rfl rfl (any_of HT_.out (by kernel_rfl)) (fun _ _ _ h => h) (Or.inl ⟨by rfl, ?_⟩) ?_ ?_
               rotate_left
               ·
                intro w'
                go_simp
                with_reducible rfl
               rotate_left
               ·
                simp only [Act.put, pq]
                rfl
               refine pure_ (i := 12) (N := some 52) (v := ?_) (a' := ?_) #[true, true, true, true, true, true, true, true, true, true, true, true, true, false, false, false, false, false, false, false, false, false, false] rfl rfl (any_of HT_.out (by kernel_rfl)) (fun _ _ _ h => h) (Or.inl ⟨by rfl, ?_⟩) ?_ ?_
               rotate_left
               ·
                intro w'
                go_simp
                with_reducible rfl
               rotate_left
               ·
                simp only [Act.put, pq]
                rfl
               refine pure_ (i := 14) (N := some 54) (v := ?_) (a' := ?_) #[true, true, true, true, true, true, true, true, true, true, true, true, true, false, true, false, false, false, false, false, false, false, false] rfl rfl (any_of HT_.out (by kernel_rfl)) (fun _ _ _ h => h) (Or.inl ⟨by rfl, ?_⟩) ?_ ?_
               rotate_left
               ·
                intro w'
                go_simp
                with_reducible rfl
               rotate_left
               ·
                simp only [Act.put, pq]
                rfl
               refine pure_ (i := 16) (N := some 56) (v := ?_) (a' := ?_) #[true, true, true, true, true, true, true, true, true, true, true, true, true, false, true, false, true, false, false, false, false, false, false] rfl rfl (any_of HT_.out (by kernel_rfl)) (fun _ _ _ h => h) (Or.inl ⟨by rfl, ?_⟩) ?_ ?_
               rotate_left
               ·
                intro w'
                go_simp
                with_reducible rfl
               rotate_left
               ·
                simp only [Act.put, pq]
                rfl
               refine pure_ (i := 18) (N := some 58) (v := ?_) (a' := ?_) #[true, true, true, true, true, true, true, true, true, true, true, true, true, false, true, false, true, false, true, false, false, false, false] rfl rfl (any_of HT_.out (by kernel_rfl)) (fun _ _ _ h => h) (Or.inl ⟨by rfl, ?_⟩) ?_ ?_
               rotate_left
               ·
                intro w'
                go_simp
                with_reducible rfl
               rotate_left
               ·
                simp only [Act.put, pq]
                rfl
               refine take_ (i := 13) (N := some 53) (v := ?_) (a' := ?_) #[true, true, true, true, true, true, true, true, true, true, true, true, true, true, true, false, true, false, true, false, false, false, false] rfl rfl (take_ofW HT_.out HW_.out (by kernel_rfl)) (fun _ _ _ h => h) (Or.inl ⟨by rfl, ?_⟩) hHeld ?_ ?_
               rotate_left
               ·
                rintro w' ⟨s0, s1, s2, s3, s4, s5, s6, s7, s8, s9⟩
                go_simp
                with_reducible rfl
               rotate_left
               ·
                simp only [Act.put, pq]
                rfl
               refine take_ (i := 17) (N := some 57) (v := ?_) (a' := ?_) #[true, true, true, true, true, true, true, true, true, true, true, true, true, true, true, false, true, true, true, false, false, false, false] rfl rfl (take_ofW HT_.out HW_.out (by kernel_rfl)) (fun _ _ _ h => h) (Or.inl ⟨by rfl, ?_⟩) hHeld ?_ ?_
               rotate_left
               ·
                rintro w' ⟨s0, s1, s2, s3, s4, s5, s6, s7, s8, s9⟩
                go_simp
                with_reducible rfl
               rotate_left
               ·
                simp only [Act.put, pq]
                rfl
               refine one_ (i := 15) (N := some 55) #[true, true, true, true, true, true, true, true, true, true, true, true, true, true, true, true, true, true, true, false, false, false, false] rfl rfl (one_of HT_.out (by kernel_rfl)) (by decide) (fun K hK => ?_)
               refine goes_ Try.func31 (by kernel_rfl) rfl #[.string ((rd_T39 l0_1 x7_2).f0), .string a1] (by rfl) rfl rfl (by (try simp only [List.map_toArray, List.map_cons, List.map_nil]); rfl) ?_
               with_reducible refine (spec_l14Common.calls k2 ((rd_T39 l0_1 x7_2).f0) a1 t368 _ A35.out).mono ?_
               rintro e w62 ⟨rfl, hb⟩
               refine ⟨_, rfl, ?_⟩
               have n0_ := Aside0.mk (blk_below (g := gb361) (o := .cells #[.string a0_0, .slice (some ad364) l0_1.length c0_1, .slice A0_2 l0_2.length c0_2] 27 (0, 0)) (by exact BK361.out) hb)
               have n1_ := Aside0.mk (blk_below (g := gb365) (o := .cells #[.string ((rd_T39 l0_1 x7_2).f0), .int .i64 ((rd_T39 l0_1 x7_2).f1), .int .i64 ((rd_T39 l0_1 x7_2).f2), .int .i64 ((rd_T39 l0_1 x7_2).f3), .int .i64 ((rd_T39 l0_1 x7_2).f4)] 39 (0, 0)) (by exact BK365.out) hb)
               have n2_ := Aside0.mk (blk_below (g := gb367) (o := .cells #[.string ((rd_T39 l0_1 x6_2).f0), .int .i64 ((rd_T39 l0_1 x6_2).f1), .int .i64 ((rd_T39 l0_1 x6_2).f2), .int .i64 ((rd_T39 l0_1 x6_2).f3), .int .i64 ((rd_T39 l0_1 x6_2).f4)] 39 (0, 0)) (by exact BK367.out) hb)
               have n3_ := Aside0.mk (below_step (HB.out) hb)
               clear BK361
               clear BK365
               clear BK367
               clear HB
               have BK361 := n0_
               have BK365 := n1_
               have BK367 := n2_
               have HB := n3_
               clear n0_ n1_ n2_ n3_
               (try clear hb)
               (skip)
               (skip)
               (skip)
               refine hK.out _ _ ⟨(blk_cell BK365.out 0).trans rfl, (blk_cell BK365.out 1).trans rfl, (blk_cell BK365.out 2).trans rfl, (blk_cell BK365.out 3).trans rfl, (blk_cell BK365.out 4).trans rfl, (blk_cell BK367.out 0).trans rfl, (blk_cell BK367.out 1).trans rfl, (blk_cell BK367.out 2).trans rfl, (blk_cell BK367.out 3).trans rfl, (blk_cell BK367.out 4).trans rfl⟩ (fun hHeld => ?_)
               clear hK K
               refine norm_ (a' := ?_) ?_ ?_
               rotate_left
               ·
                show Act.put _ (some 55) _ = _
                simp only [Act.put, pq]
                rfl
               refine one_ (i := 19) (N := some 59) #[true, true, true, true, true, true, true, true, true, true, true, true, true, true, true, true, true, true, true, true, false, false, false] rfl rfl (one_of HT_.out (by kernel_rfl)) (by decide) (fun K hK => ?_)
               refine goes_ Try.func31 (by kernel_rfl) rfl #[.string ((rd_T39 l0_1 x6_2).f0), .string a1] (by rfl) rfl rfl (by (try simp only [List.map_toArray, List.map_cons, List.map_nil]); rfl) ?_
               with_reducible refine (spec_l14Common.calls k2 ((rd_T39 l0_1 x6_2).f0) a1 t369 _ A36.out).mono ?_
               rintro e w63 ⟨rfl, hb⟩
               refine ⟨_, rfl, ?_⟩
               have n0_ := Aside0.mk (blk_below (g := gb361) (o := .cells #[.string a0_0, .slice (some ad364) l0_1.length c0_1, .slice A0_2 l0_2.length c0_2] 27 (0, 0)) (by exact BK361.out) hb)
               have n1_ := Aside0.mk (blk_below (g := gb365) (o := .cells #[.string ((rd_T39 l0_1 x7_2).f0), .int .i64 ((rd_T39 l0_1 x7_2).f1), .int .i64 ((rd_T39 l0_1 x7_2).f2), .int .i64 ((rd_T39 l0_1 x7_2).f3), .int .i64 ((rd_T39 l0_1 x7_2).f4)] 39 (0, 0)) (by exact BK365.out) hb)
               have n2_ := Aside0.mk (blk_below (g := gb367) (o := .cells #[.string ((rd_T39 l0_1 x6_2).f0), .int .i64 ((rd_T39 l0_1 x6_2).f1), .int .i64 ((rd_T39 l0_1 x6_2).f2), .int .i64 ((rd_T39 l0_1 x6_2).f3), .int .i64 ((rd_T39 l0_1 x6_2).f4)] 39 (0, 0)) (by exact BK367.out) hb)
               have n3_ := Aside0.mk (below_step (HB.out) hb)
               clear BK361
               clear BK365
               clear BK367
               clear HB
               have BK361 := n0_
               have BK365 := n1_
               have BK367 := n2_
               have HB := n3_
               clear n0_ n1_ n2_ n3_
               (try clear hb)
               (skip)
               (skip)
               (skip)
               refine hK.out _ _ ⟨(blk_cell BK365.out 0).trans rfl, (blk_cell BK365.out 1).trans rfl, (blk_cell BK365.out 2).trans rfl, (blk_cell BK365.out 3).trans rfl, (blk_cell BK365.out 4).trans rfl, (blk_cell BK367.out 0).trans rfl, (blk_cell BK367.out 1).trans rfl, (blk_cell BK367.out 2).trans rfl, (blk_cell BK367.out 3).trans rfl, (blk_cell BK367.out 4).trans rfl⟩ (fun hHeld => ?_)
               clear hK K
               refine norm_ (a' := ?_) ?_ ?_
               rotate_left
               ·
                show Act.put _ (some 59) _ = _
                simp only [Act.put, pq]
                rfl
               refine pure_ (i := 20) (N := some 60) (v := ?_) (a' := ?_) #[true, true, true, true, true, true, true, true, true, true, true, true, true, true, true, true, true, true, true, true, true, false, false] rfl rfl (any_of HT_.out (by kernel_rfl)) (fun _ _ _ h => h) (Or.inl ⟨by rfl, ?_⟩) ?_ ?_
               rotate_left
               ·
                intro w'
                go_simp
                with_reducible rfl
               rotate_left
               ·
                simp only [Act.put, pq]
                rfl
               refine pure_ (i := 21) (N := some 61) (v := ?_) (a' := ?_) #[true, true, true, true, true, true, true, true, true, true, true, true, true, true, true, true, true, true, true, true, true, true, false] rfl rfl (any_of HT_.out (by kernel_rfl)) (fun _ _ _ h => h) (Or.inl ⟨by rfl, ?_⟩) ?_ ?_
               rotate_left
               ·
                intro w'
                go_simp
                with_reducible rfl
               rotate_left
               ·
                simp only [Act.put, pq]
                rfl
               refine pure_ (i := 22) (N := some 62) (v := ?_) (a' := ?_) #[true, true, true, true, true, true, true, true, true, true, true, true, true, true, true, true, true, true, true, true, true, true, true] rfl rfl (any_of HT_.out (by kernel_rfl)) (fun _ _ _ h => h) (Or.inl ⟨by rfl, ?_⟩) ?_ ?_
               rotate_left
               ·
                intro w'
                go_simp
                with_reducible rfl
               rotate_left
               ·
                simp only [Act.put, pq]
                rfl
               refine done_ (done_of HT_.out (by kernel_rfl)) ?_
               try go_wp2
               go_roundg k2
               case measure => have := HJ2.out; have := HK2.out; omega
               case rel => exact ⟨(x7_2), (wrap64 (x7_2 + 1)), (by rfl), (by rfl), H', ⟨by have := HJ2.out; have := HK2.out; omega⟩, ⟨by exact BK361.out⟩, ⟨HB.out⟩⟩
             ·
              rw [if_neg c34] at H
              have c34b0 : (((rd_T39 l0_1 x7_2).f1) == ((rd_T39 l0_1 x6_2).f1)) = false := beq_eq_false_iff_ne.mpr c34
              have c34b1 : (((rd_T39 l0_1 x7_2).f1) != ((rd_T39 l0_1 x6_2).f1)) = true := bne_iff_ne.mpr c34
              have H' := Aside0.mk H
              clear H
              have hcz64_0 : wr.cell? ⟨gb361, 0, none⟩ = some (.string a0_0) := (blk_cell BK361.out 0).trans rfl
              have hcz64_1 : wr.cell? ⟨gb361, 1, none⟩ = some (.slice A0_1 l0_1.length c0_1) := (blk_cell BK361.out 1).trans rfl
              have hcz64_2 : wr.cell? ⟨gb361, 2, none⟩ = some (.slice A0_2 l0_2.length c0_2) := (blk_cell BK361.out 2).trans rfl
              have hfz64_0 := blk_frozen BK361.out 0
              have hfz64_1 := blk_frozen BK361.out 1
              have hfz64_2 := blk_frozen BK361.out 2
              have p364 : 0 ≤ (x7_2 : Int) := of_decide_eq_true (by (with_reducible assumption))
              have q364 : x7_2 < (l0_1.length : Int) := of_decide_eq_true (by (with_reducible assumption))
              obtain ⟨ad364, e364, hx364_0, hx364_1, hx364_2, hx364_3, hx364_4⟩ := at_T39 HR0_1.out x7_2 p364 q364
              cases e364
              replace hx364_0 := (HB.out.cell (World.block_lt_of_cell? w _ hx364_0)).trans hx364_0
              replace hx364_1 := (HB.out.cell (World.block_lt_of_cell? w _ hx364_1)).trans hx364_1
              replace hx364_2 := (HB.out.cell (World.block_lt_of_cell? w _ hx364_2)).trans hx364_2
              replace hx364_3 := (HB.out.cell (World.block_lt_of_cell? w _ hx364_3)).trans hx364_3
              replace hx364_4 := (HB.out.cell (World.block_lt_of_cell? w _ hx364_4)).trans hx364_4
              replace p364 := eq_true p364
              replace q364 := eq_true q364
              try go_wp2_with (first | ((with_reducible refine gate_dst (N := 8) rfl ?_); (try (refine gate_guard (by rfl) ?_; dsimp only)); refine box_event ?hg (N := 8) ?hd (cs := #[.string (⟨#[]⟩ : ByteArray), .int .i64 0, .int .i64 0, .int .i64 0, .int .i64 0]) (t := 39) ?hr ?_; (case hd => rfl); (case hg => rfl); (case hr => (go_simp; done)); intro gb365 hg w65 hbox hb; have n0_ := Aside0.mk (blk_below (g := gb361) (o := .cells #[.string a0_0, .slice (some ad364) l0_1.length c0_1, .slice A0_2 l0_2.length c0_2] 27 (0, 0)) (by exact BK361.out) hb); have n1_ := Aside0.mk (below_step (HB.out) hb); have n2_ := Aside0.mk (hbox); have n3_ := Aside0.mk ((by rw [hg]; exact (below_size (HB.out)) : w.heap.size ≤ gb365)); have n4_ := Aside0.mk ((by rw [hg]; exact (below_size (HB.out)) : w.heap.size ≤ gb365)); have n5_ := Aside0.mk ((by rw [hg]; exact Nat.ne_of_lt (blk_lt (g := gb361) (o := .cells #[.string a0_0, .slice (some ad364) l0_1.length c0_1, .slice A0_2 l0_2.length c0_2] 27 (0, 0)) (by exact BK361.out)) : gb361 ≠ gb365)); have n6_ := Aside0.mk ((by rw [hg]; exact Nat.ne_of_gt (blk_lt (g := gb361) (o := .cells #[.string a0_0, .slice (some ad364) l0_1.length c0_1, .slice A0_2 l0_2.length c0_2] 27 (0, 0)) (by exact BK361.out)) : gb365 ≠ gb361)); clear BK361; clear HB; have BK361 := n0_; have HB := n1_; have BK365 := n2_; have GW365 := n3_; have GE365 := n4_; have NB361_365 := n5_; have NB365_361 := n6_; clear n0_ n1_ n2_ n3_ n4_ n5_ n6_; clear hb hbox hg; have hnb66 := NB365_361.out; have hnc66 := NB361_365.out; have hcz67_0 : w65.cell? ⟨gb365, 0, none⟩ = some (.string (⟨#[]⟩ : ByteArray)) := (blk_cell BK365.out 0).trans rfl; have hcz67_1 : w65.cell? ⟨gb365, 1, none⟩ = some (.int .i64 0) := (blk_cell BK365.out 1).trans rfl; have hcz67_2 : w65.cell? ⟨gb365, 2, none⟩ = some (.int .i64 0) := (blk_cell BK365.out 2).trans rfl; have hcz67_3 : w65.cell? ⟨gb365, 3, none⟩ = some (.int .i64 0) := (blk_cell BK365.out 3).trans rfl; have hcz67_4 : w65.cell? ⟨gb365, 4, none⟩ = some (.int .i64 0) := (blk_cell BK365.out 4).trans rfl; have hfz67_0 := blk_frozen BK365.out 0; have hfz67_1 := blk_frozen BK365.out 1; have hfz67_2 := blk_frozen BK365.out 2; have hfz67_3 := blk_frozen BK365.out 3; have hfz67_4 := blk_frozen BK365.out 4; have hcz68_0 : w65.cell? ⟨gb361, 0, none⟩ = some (.string a0_0) := (blk_cell BK361.out 0).trans rfl; have hcz68_1 : w65.cell? ⟨gb361, 1, none⟩ = some (.slice (some ad364) l0_1.length c0_1) := (blk_cell BK361.out 1).trans rfl; have hcz68_2 : w65.cell? ⟨gb361, 2, none⟩ = some (.slice A0_2 l0_2.length c0_2) := (blk_cell BK361.out 2).trans rfl; have hfz68_0 := blk_frozen BK361.out 0; have hfz68_1 := blk_frozen BK361.out 1; have hfz68_2 := blk_frozen BK361.out 2; have p366 : 0 ≤ (x6_2 : Int) := of_decide_eq_true (by (with_reducible assumption)); have q366 : x6_2 < (l0_1.length : Int) := of_decide_eq_true (by (with_reducible assumption)); obtain ⟨ad366, e366, hx366_0, hx366_1, hx366_2, hx366_3, hx366_4⟩ := at_T39 HR0_1.out x6_2 p366 q366; obtain rfl : ad364 = ad366 := (by injection e366); have hn366_0 : ad364.block ≠ gb365 := Nat.ne_of_lt (Nat.lt_of_lt_of_le (by have := World.block_lt_of_cell? _ _ hx366_0; rwa [add_block] at this) GW365.out); have hn366_1 : ad364.block ≠ gb365 := Nat.ne_of_lt (Nat.lt_of_lt_of_le (by have := World.block_lt_of_cell? _ _ hx366_0; rwa [add_block] at this) GW365.out); have hn366_2 : ad364.block ≠ gb365 := Nat.ne_of_lt (Nat.lt_of_lt_of_le (by have := World.block_lt_of_cell? _ _ hx366_0; rwa [add_block] at this) GW365.out); have hn366_3 : ad364.block ≠ gb365 := Nat.ne_of_lt (Nat.lt_of_lt_of_le (by have := World.block_lt_of_cell? _ _ hx366_0; rwa [add_block] at this) GW365.out); have hn366_4 : ad364.block ≠ gb365 := Nat.ne_of_lt (Nat.lt_of_lt_of_le (by have := World.block_lt_of_cell? _ _ hx366_0; rwa [add_block] at this) GW365.out); replace hx366_0 := (HB.out.cell (World.block_lt_of_cell? w _ hx366_0)).trans hx366_0; replace hx366_1 := (HB.out.cell (World.block_lt_of_cell? w _ hx366_1)).trans hx366_1; replace hx366_2 := (HB.out.cell (World.block_lt_of_cell? w _ hx366_2)).trans hx366_2; replace hx366_3 := (HB.out.cell (World.block_lt_of_cell? w _ hx366_3)).trans hx366_3; replace hx366_4 := (HB.out.cell (World.block_lt_of_cell? w _ hx366_4)).trans hx366_4; replace hx366_0 := far5 (by (rw [add_block]; exact hn366_0)) hx366_0 (.string ((rd_T39 l0_1 x7_2).f0)) (.int .i64 ((rd_T39 l0_1 x7_2).f1)) (.int .i64 ((rd_T39 l0_1 x7_2).f2)) (.int .i64 ((rd_T39 l0_1 x7_2).f3)) (.int .i64 ((rd_T39 l0_1 x7_2).f4)); replace hx366_1 := far5 (by (rw [add_block]; exact hn366_1)) hx366_1 (.string ((rd_T39 l0_1 x7_2).f0)) (.int .i64 ((rd_T39 l0_1 x7_2).f1)) (.int .i64 ((rd_T39 l0_1 x7_2).f2)) (.int .i64 ((rd_T39 l0_1 x7_2).f3)) (.int .i64 ((rd_T39 l0_1 x7_2).f4)); replace hx366_2 := far5 (by (rw [add_block]; exact hn366_2)) hx366_2 (.string ((rd_T39 l0_1 x7_2).f0)) (.int .i64 ((rd_T39 l0_1 x7_2).f1)) (.int .i64 ((rd_T39 l0_1 x7_2).f2)) (.int .i64 ((rd_T39 l0_1 x7_2).f3)) (.int .i64 ((rd_T39 l0_1 x7_2).f4)); replace hx366_3 := far5 (by (rw [add_block]; exact hn366_3)) hx366_3 (.string ((rd_T39 l0_1 x7_2).f0)) (.int .i64 ((rd_T39 l0_1 x7_2).f1)) (.int .i64 ((rd_T39 l0_1 x7_2).f2)) (.int .i64 ((rd_T39 l0_1 x7_2).f3)) (.int .i64 ((rd_T39 l0_1 x7_2).f4)); replace hx366_4 := far5 (by (rw [add_block]; exact hn366_4)) hx366_4 (.string ((rd_T39 l0_1 x7_2).f0)) (.int .i64 ((rd_T39 l0_1 x7_2).f1)) (.int .i64 ((rd_T39 l0_1 x7_2).f2)) (.int .i64 ((rd_T39 l0_1 x7_2).f3)) (.int .i64 ((rd_T39 l0_1 x7_2).f4)); clear hn366_0; clear hn366_1; clear hn366_2; clear hn366_3; clear hn366_4; replace p366 := eq_true p366; replace q366 := eq_true q366) | ((with_reducible refine gate_dst (N := 9) rfl ?_); (try (refine gate_guard (by rfl) ?_; dsimp only)); refine box_event ?hg (N := 9) ?hd (cs := #[.string (⟨#[]⟩ : ByteArray), .int .i64 0, .int .i64 0, .int .i64 0, .int .i64 0]) (t := 39) ?hr ?_; (case hd => rfl); (case hg => rfl); (case hr => (go_simp; done)); intro gb367 hg w69 hbox hb; have n0_ := Aside0.mk (blk_below (g := gb361) (o := .cells #[.string a0_0, .slice (some ad364) l0_1.length c0_1, .slice A0_2 l0_2.length c0_2] 27 (0, 0)) (by refine blk_far ?_ NB361_365.out _; refine blk_far ?_ NB361_365.out _; refine blk_far ?_ NB361_365.out _; refine blk_far ?_ NB361_365.out _; refine blk_far ?_ NB361_365.out _; exact BK361.out) hb); have n1_ := Aside0.mk (blk_below (g := gb365) (o := .cells #[.string ((rd_T39 l0_1 x7_2).f0), .int .i64 ((rd_T39 l0_1 x7_2).f1), .int .i64 ((rd_T39 l0_1 x7_2).f2), .int .i64 ((rd_T39 l0_1 x7_2).f3), .int .i64 ((rd_T39 l0_1 x7_2).f4)] 39 (0, 0)) (by refine blk_put (cs := #[.string ((rd_T39 l0_1 x7_2).f0), .int .i64 ((rd_T39 l0_1 x7_2).f1), .int .i64 ((rd_T39 l0_1 x7_2).f2), .int .i64 ((rd_T39 l0_1 x7_2).f3), .int .i64 0]) ?_ 4 _ rfl; refine blk_put (cs := #[.string ((rd_T39 l0_1 x7_2).f0), .int .i64 ((rd_T39 l0_1 x7_2).f1), .int .i64 ((rd_T39 l0_1 x7_2).f2), .int .i64 0, .int .i64 0]) ?_ 3 _ rfl; refine blk_put (cs := #[.string ((rd_T39 l0_1 x7_2).f0), .int .i64 ((rd_T39 l0_1 x7_2).f1), .int .i64 0, .int .i64 0, .int .i64 0]) ?_ 2 _ rfl; refine blk_put (cs := #[.string ((rd_T39 l0_1 x7_2).f0), .int .i64 0, .int .i64 0, .int .i64 0, .int .i64 0]) ?_ 1 _ rfl; refine blk_put (cs := #[.string (⟨#[]⟩ : ByteArray), .int .i64 0, .int .i64 0, .int .i64 0, .int .i64 0]) ?_ 0 _ rfl; exact BK365.out) hb); have n2_ := Aside0.mk (below_step (by repeat ((with_reducible first | exact HB.out | refine below_set ?_ GE365.out))) hb); have n3_ := Aside0.mk (hbox); have n4_ := Aside0.mk ((by rw [hg]; exact (below_size (by repeat ((with_reducible first | exact HB.out | refine below_set ?_ GE365.out)))) : w.heap.size ≤ gb367)); have n5_ := Aside0.mk ((by rw [hg]; exact (below_size (by repeat ((with_reducible first | exact HB.out | refine below_set ?_ GE365.out)))) : w.heap.size ≤ gb367)); have n6_ := Aside0.mk ((by rw [hg]; exact Nat.ne_of_lt (blk_lt (g := gb361) (o := .cells #[.string a0_0, .slice (some ad364) l0_1.length c0_1, .slice A0_2 l0_2.length c0_2] 27 (0, 0)) (by refine blk_far ?_ NB361_365.out _; refine blk_far ?_ NB361_365.out _; refine blk_far ?_ NB361_365.out _; refine blk_far ?_ NB361_365.out _; refine blk_far ?_ NB361_365.out _; exact BK361.out)) : gb361 ≠ gb367)); have n7_ := Aside0.mk ((by rw [hg]; exact Nat.ne_of_gt (blk_lt (g := gb361) (o := .cells #[.string a0_0, .slice (some ad364) l0_1.length c0_1, .slice A0_2 l0_2.length c0_2] 27 (0, 0)) (by refine blk_far ?_ NB361_365.out _; refine blk_far ?_ NB361_365.out _; refine blk_far ?_ NB361_365.out _; refine blk_far ?_ NB361_365.out _; refine blk_far ?_ NB361_365.out _; exact BK361.out)) : gb367 ≠ gb361)); have n8_ := Aside0.mk ((by rw [hg]; exact Nat.ne_of_lt (blk_lt (g := gb365) (o := .cells #[.string ((rd_T39 l0_1 x7_2).f0), .int .i64 ((rd_T39 l0_1 x7_2).f1), .int .i64 ((rd_T39 l0_1 x7_2).f2), .int .i64 ((rd_T39 l0_1 x7_2).f3), .int .i64 ((rd_T39 l0_1 x7_2).f4)] 39 (0, 0)) (by refine blk_put (cs := #[.string ((rd_T39 l0_1 x7_2).f0), .int .i64 ((rd_T39 l0_1 x7_2).f1), .int .i64 ((rd_T39 l0_1 x7_2).f2), .int .i64 ((rd_T39 l0_1 x7_2).f3), .int .i64 0]) ?_ 4 _ rfl; refine blk_put (cs := #[.string ((rd_T39 l0_1 x7_2).f0), .int .i64 ((rd_T39 l0_1 x7_2).f1), .int .i64 ((rd_T39 l0_1 x7_2).f2), .int .i64 0, .int .i64 0]) ?_ 3 _ rfl; refine blk_put (cs := #[.string ((rd_T39 l0_1 x7_2).f0), .int .i64 ((rd_T39 l0_1 x7_2).f1), .int .i64 0, .int .i64 0, .int .i64 0]) ?_ 2 _ rfl; refine blk_put (cs := #[.string ((rd_T39 l0_1 x7_2).f0), .int .i64 0, .int .i64 0, .int .i64 0, .int .i64 0]) ?_ 1 _ rfl; refine blk_put (cs := #[.string (⟨#[]⟩ : ByteArray), .int .i64 0, .int .i64 0, .int .i64 0, .int .i64 0]) ?_ 0 _ rfl; exact BK365.out)) : gb365 ≠ gb367)); have n9_ := Aside0.mk ((by rw [hg]; exact Nat.ne_of_gt (blk_lt (g := gb365) (o := .cells #[.string ((rd_T39 l0_1 x7_2).f0), .int .i64 ((rd_T39 l0_1 x7_2).f1), .int .i64 ((rd_T39 l0_1 x7_2).f2), .int .i64 ((rd_T39 l0_1 x7_2).f3), .int .i64 ((rd_T39 l0_1 x7_2).f4)] 39 (0, 0)) (by refine blk_put (cs := #[.string ((rd_T39 l0_1 x7_2).f0), .int .i64 ((rd_T39 l0_1 x7_2).f1), .int .i64 ((rd_T39 l0_1 x7_2).f2), .int .i64 ((rd_T39 l0_1 x7_2).f3), .int .i64 0]) ?_ 4 _ rfl; refine blk_put (cs := #[.string ((rd_T39 l0_1 x7_2).f0), .int .i64 ((rd_T39 l0_1 x7_2).f1), .int .i64 ((rd_T39 l0_1 x7_2).f2), .int .i64 0, .int .i64 0]) ?_ 3 _ rfl; refine blk_put (cs := #[.string ((rd_T39 l0_1 x7_2).f0), .int .i64 ((rd_T39 l0_1 x7_2).f1), .int .i64 0, .int .i64 0, .int .i64 0]) ?_ 2 _ rfl; refine blk_put (cs := #[.string ((rd_T39 l0_1 x7_2).f0), .int .i64 0, .int .i64 0, .int .i64 0, .int .i64 0]) ?_ 1 _ rfl; refine blk_put (cs := #[.string (⟨#[]⟩ : ByteArray), .int .i64 0, .int .i64 0, .int .i64 0, .int .i64 0]) ?_ 0 _ rfl; exact BK365.out)) : gb367 ≠ gb365)); clear BK361; clear BK365; clear HB; have BK361 := n0_; have BK365 := n1_; have HB := n2_; have BK367 := n3_; have GW367 := n4_; have GE367 := n5_; have NB361_367 := n6_; have NB367_361 := n7_; have NB365_367 := n8_; have NB367_365 := n9_; clear n0_ n1_ n2_ n3_ n4_ n5_ n6_ n7_ n8_ n9_; clear hb hbox hg; have hnb70 := NB367_361.out; have hnc70 := NB361_367.out; have hnb71 := NB367_365.out; have hnc71 := NB365_367.out; have hcz72_0 : w69.cell? ⟨gb367, 0, none⟩ = some (.string (⟨#[]⟩ : ByteArray)) := (blk_cell BK367.out 0).trans rfl; have hcz72_1 : w69.cell? ⟨gb367, 1, none⟩ = some (.int .i64 0) := (blk_cell BK367.out 1).trans rfl; have hcz72_2 : w69.cell? ⟨gb367, 2, none⟩ = some (.int .i64 0) := (blk_cell BK367.out 2).trans rfl; have hcz72_3 : w69.cell? ⟨gb367, 3, none⟩ = some (.int .i64 0) := (blk_cell BK367.out 3).trans rfl; have hcz72_4 : w69.cell? ⟨gb367, 4, none⟩ = some (.int .i64 0) := (blk_cell BK367.out 4).trans rfl; have hfz72_0 := blk_frozen BK367.out 0; have hfz72_1 := blk_frozen BK367.out 1; have hfz72_2 := blk_frozen BK367.out 2; have hfz72_3 := blk_frozen BK367.out 3; have hfz72_4 := blk_frozen BK367.out 4))
              have n0_ : Aside0 ((((((w69.setCell ⟨gb367, 0, none⟩ (.string ((rd_T39 l0_1 x6_2).f0))).setCell ⟨gb367, 1, none⟩ (.int .i64 ((rd_T39 l0_1 x6_2).f1))).setCell ⟨gb367, 2, none⟩ (.int .i64 ((rd_T39 l0_1 x6_2).f2))).setCell ⟨gb367, 3, none⟩ (.int .i64 ((rd_T39 l0_1 x6_2).f3))).setCell ⟨gb367, 4, none⟩ (.int .i64 ((rd_T39 l0_1 x6_2).f4))).heap[gb361]? = some (.cells #[.string a0_0, .slice (some ad364) l0_1.length c0_1, .slice A0_2 l0_2.length c0_2] 27 (0, 0))) := ⟨by refine blk_far ?_ NB361_367.out _; refine blk_far ?_ NB361_367.out _; refine blk_far ?_ NB361_367.out _; refine blk_far ?_ NB361_367.out _; refine blk_far ?_ NB361_367.out _; exact BK361.out⟩
              have n1_ : Aside0 ((((((w69.setCell ⟨gb367, 0, none⟩ (.string ((rd_T39 l0_1 x6_2).f0))).setCell ⟨gb367, 1, none⟩ (.int .i64 ((rd_T39 l0_1 x6_2).f1))).setCell ⟨gb367, 2, none⟩ (.int .i64 ((rd_T39 l0_1 x6_2).f2))).setCell ⟨gb367, 3, none⟩ (.int .i64 ((rd_T39 l0_1 x6_2).f3))).setCell ⟨gb367, 4, none⟩ (.int .i64 ((rd_T39 l0_1 x6_2).f4))).heap[gb365]? = some (.cells #[.string ((rd_T39 l0_1 x7_2).f0), .int .i64 ((rd_T39 l0_1 x7_2).f1), .int .i64 ((rd_T39 l0_1 x7_2).f2), .int .i64 ((rd_T39 l0_1 x7_2).f3), .int .i64 ((rd_T39 l0_1 x7_2).f4)] 39 (0, 0))) := ⟨by refine blk_far ?_ NB365_367.out _; refine blk_far ?_ NB365_367.out _; refine blk_far ?_ NB365_367.out _; refine blk_far ?_ NB365_367.out _; refine blk_far ?_ NB365_367.out _; exact BK365.out⟩
              have n2_ : Aside0 ((((((w69.setCell ⟨gb367, 0, none⟩ (.string ((rd_T39 l0_1 x6_2).f0))).setCell ⟨gb367, 1, none⟩ (.int .i64 ((rd_T39 l0_1 x6_2).f1))).setCell ⟨gb367, 2, none⟩ (.int .i64 ((rd_T39 l0_1 x6_2).f2))).setCell ⟨gb367, 3, none⟩ (.int .i64 ((rd_T39 l0_1 x6_2).f3))).setCell ⟨gb367, 4, none⟩ (.int .i64 ((rd_T39 l0_1 x6_2).f4))).heap[gb367]? = some (.cells #[.string ((rd_T39 l0_1 x6_2).f0), .int .i64 ((rd_T39 l0_1 x6_2).f1), .int .i64 ((rd_T39 l0_1 x6_2).f2), .int .i64 ((rd_T39 l0_1 x6_2).f3), .int .i64 ((rd_T39 l0_1 x6_2).f4)] 39 (0, 0))) := ⟨by refine blk_put (cs := #[.string ((rd_T39 l0_1 x6_2).f0), .int .i64 ((rd_T39 l0_1 x6_2).f1), .int .i64 ((rd_T39 l0_1 x6_2).f2), .int .i64 ((rd_T39 l0_1 x6_2).f3), .int .i64 0]) ?_ 4 _ rfl; refine blk_put (cs := #[.string ((rd_T39 l0_1 x6_2).f0), .int .i64 ((rd_T39 l0_1 x6_2).f1), .int .i64 ((rd_T39 l0_1 x6_2).f2), .int .i64 0, .int .i64 0]) ?_ 3 _ rfl; refine blk_put (cs := #[.string ((rd_T39 l0_1 x6_2).f0), .int .i64 ((rd_T39 l0_1 x6_2).f1), .int .i64 0, .int .i64 0, .int .i64 0]) ?_ 2 _ rfl; refine blk_put (cs := #[.string ((rd_T39 l0_1 x6_2).f0), .int .i64 0, .int .i64 0, .int .i64 0, .int .i64 0]) ?_ 1 _ rfl; refine blk_put (cs := #[.string (⟨#[]⟩ : ByteArray), .int .i64 0, .int .i64 0, .int .i64 0, .int .i64 0]) ?_ 0 _ rfl; exact BK367.out⟩
              have n3_ : Aside0 (Below w.heap.size w (((((w69.setCell ⟨gb367, 0, none⟩ (.string ((rd_T39 l0_1 x6_2).f0))).setCell ⟨gb367, 1, none⟩ (.int .i64 ((rd_T39 l0_1 x6_2).f1))).setCell ⟨gb367, 2, none⟩ (.int .i64 ((rd_T39 l0_1 x6_2).f2))).setCell ⟨gb367, 3, none⟩ (.int .i64 ((rd_T39 l0_1 x6_2).f3))).setCell ⟨gb367, 4, none⟩ (.int .i64 ((rd_T39 l0_1 x6_2).f4)))) := ⟨by repeat ((with_reducible first | exact HB.out | refine below_set ?_ GE367.out))⟩
              (try clear BK361)
              (try clear BK365)
              (try clear BK367)
              (try clear HB)
              generalize (((((w69.setCell ⟨gb367, 0, none⟩ (.string ((rd_T39 l0_1 x6_2).f0))).setCell ⟨gb367, 1, none⟩ (.int .i64 ((rd_T39 l0_1 x6_2).f1))).setCell ⟨gb367, 2, none⟩ (.int .i64 ((rd_T39 l0_1 x6_2).f2))).setCell ⟨gb367, 3, none⟩ (.int .i64 ((rd_T39 l0_1 x6_2).f3))).setCell ⟨gb367, 4, none⟩ (.int .i64 ((rd_T39 l0_1 x6_2).f4))) = w73 at n0_ n1_ n2_ n3_ ⊢
              have BK361 := n0_
              have BK365 := n1_
              have BK367 := n2_
              have HB := n3_
              clear n0_ n1_ n2_ n3_
              have n0_ := Aside0.mk (blk_drew BK361.out)
              have n1_ := Aside0.mk (blk_drew BK365.out)
              have n2_ := Aside0.mk (blk_drew BK367.out)
              have n3_ := Aside0.mk (below_drew1 HB.out)
              clear BK361
              clear BK365
              clear BK367
              clear HB
              have BK361 := n0_
              have BK365 := n1_
              have BK367 := n2_
              have HB := n3_
              clear n0_ n1_ n2_ n3_
              refine start_ (n := 23) (S := fun w' => w'.cell? ⟨gb365, 0, none⟩ = some (.string ((rd_T39 l0_1 x7_2).f0)) ∧ w'.cell? ⟨gb365, 1, none⟩ = some (.int .i64 ((rd_T39 l0_1 x7_2).f1)) ∧ w'.cell? ⟨gb365, 2, none⟩ = some (.int .i64 ((rd_T39 l0_1 x7_2).f2)) ∧ w'.cell? ⟨gb365, 3, none⟩ = some (.int .i64 ((rd_T39 l0_1 x7_2).f3)) ∧ w'.cell? ⟨gb365, 4, none⟩ = some (.int .i64 ((rd_T39 l0_1 x7_2).f4)) ∧ w'.cell? ⟨gb367, 0, none⟩ = some (.string ((rd_T39 l0_1 x6_2).f0)) ∧ w'.cell? ⟨gb367, 1, none⟩ = some (.int .i64 ((rd_T39 l0_1 x6_2).f1)) ∧ w'.cell? ⟨gb367, 2, none⟩ = some (.int .i64 ((rd_T39 l0_1 x6_2).f2)) ∧ w'.cell? ⟨gb367, 3, none⟩ = some (.int .i64 ((rd_T39 l0_1 x6_2).f3)) ∧ w'.cell? ⟨gb367, 4, none⟩ = some (.int .i64 ((rd_T39 l0_1 x6_2).f4))) (ds := []) #[false, false, false, false, false, false, false, false, false, false, false, false, false, false, false, false, false, false, false, false, false, false, false] (by kernel_rfl) rfl rfl ⟨(blk_cell BK365.out 0).trans rfl, (blk_cell BK365.out 1).trans rfl, (blk_cell BK365.out 2).trans rfl, (blk_cell BK365.out 3).trans rfl, (blk_cell BK365.out 4).trans rfl, (blk_cell BK367.out 0).trans rfl, (blk_cell BK367.out 1).trans rfl, (blk_cell BK367.out 2).trans rfl, (blk_cell BK367.out 3).trans rfl, (blk_cell BK367.out 4).trans rfl⟩ (fun hHeld => ?_); refine with_tabW spec_SourceFor.tab11 spec_SourceFor.bits11 (fun HT_ HW_ => ?_)
              generalize w73.drew = w74 at BK361 BK365 BK367 HB hHeld ⊢
              refine pure_ (i := 0) (N := some 40) (v := ?_) (a' := ?_) #[true, false, false, false, false, false, false, false, false, false, false, false, false, false, false, false, false, false, false, false, false, false, false] rfl rfl (any_of HT_.out (by kernel_rfl)) (fun _ _ _ h => h) (Or.inl ⟨by rfl, ?_⟩) ?_ ?_
              rotate_left
              ·
               intro w'
               go_simp
               with_reducible rfl
              rotate_left
              ·
               simp only [Act.put, pq]
               rfl
              refine pure_ (i := 2) (N := some 42) (v := ?_) (a' := ?_) #[true, false, true, false, false, false, false, false, false, false, false, false, false, false, false, false, false, false, false, false, false, false, false] rfl rfl (any_of HT_.out (by kernel_rfl)) (fun _ _ _ h => h) (Or.inl ⟨by rfl, ?_⟩) ?_ ?_
              rotate_left
              ·
               intro w'
               go_simp
               with_reducible rfl
              rotate_left
              ·
               simp only [Act.put, pq]
               rfl
              refine take_ (i := 1) (N := some 41) (v := ?_) (a' := ?_) #[true, true, true, false, false, false, false, false, false, false, false, false, false, false, false, false, false, false, false, false, false, false, false] rfl rfl (take_ofW HT_.out HW_.out (by kernel_rfl)) (fun _ _ _ h => h) (Or.inl ⟨by rfl, ?_⟩) hHeld ?_ ?_
              rotate_left
              ·
               rintro w' ⟨s0, s1, s2, s3, s4, s5, s6, s7, s8, s9⟩
               go_simp
               with_reducible rfl
              rotate_left
              ·
               simp only [Act.put, pq]
               rfl
              refine take_ (i := 3) (N := some 43) (v := ?_) (a' := ?_) #[true, true, true, true, false, false, false, false, false, false, false, false, false, false, false, false, false, false, false, false, false, false, false] rfl rfl (take_ofW HT_.out HW_.out (by kernel_rfl)) (fun _ _ _ h => h) (Or.inl ⟨by rfl, ?_⟩) hHeld ?_ ?_
              rotate_left
              ·
               rintro w' ⟨s0, s1, s2, s3, s4, s5, s6, s7, s8, s9⟩
               go_simp
               with_reducible rfl
              rotate_left
              ·
               simp only [Act.put, pq]
               rfl
              refine pure_ (i := 4) (N := some 44) (v := ?_) (a' := ?_) #[true, true, true, true, true, false, false, false, false, false, false, false, false, false, false, false, false, false, false, false, false, false, false] rfl rfl (any_of HT_.out (by kernel_rfl)) (fun _ _ _ h => h) (Or.inl ⟨by rfl, ?_⟩) ?_ ?_
              rotate_left
              ·
               intro w'
               go_simp
               with_reducible rfl
              rotate_left
              ·
               simp only [Act.put, pq]
               rfl
              refine pure_ (i := 5) (N := some 45) (v := ?_) (a' := ?_) #[true, true, true, true, true, true, false, false, false, false, false, false, false, false, false, false, false, false, false, false, false, false, false] rfl rfl (any_of HT_.out (by kernel_rfl)) (fun _ _ _ h => h) (Or.inl ⟨by rfl, ?_⟩) ?_ ?_
              rotate_left
              ·
               intro w'
               go_simp
               with_reducible rfl
              rotate_left
              ·
               simp only [Act.put, pq]
               rfl
              refine pure_ (i := 6) (N := some 46) (v := ?_) (a' := ?_) #[true, true, true, true, true, true, true, false, false, false, false, false, false, false, false, false, false, false, false, false, false, false, false] rfl rfl (any_of HT_.out (by kernel_rfl)) (fun _ _ _ h => h) (Or.inl ⟨by rfl, ?_⟩) ?_ ?_
              rotate_left
              ·
               intro w'
               go_simp
               with_reducible rfl
              rotate_left
              ·
               simp only [Act.put, pq]
               rfl
              refine pure_ (i := 8) (N := some 48) (v := ?_) (a' := ?_) #[true, true, true, true, true, true, true, false, true, false, false, false, false, false, false, false, false, false, false, false, false, false, false] rfl rfl (any_of HT_.out (by kernel_rfl)) (fun _ _ _ h => h) (Or.inl ⟨by rfl, ?_⟩) ?_ ?_
              rotate_left
              ·
               intro w'
               go_simp
               with_reducible rfl
              rotate_left
              ·
               simp only [Act.put, pq]
               rfl
              refine take_ (i := 7) (N := some 47) (v := ?_) (a' := ?_) #[true, true, true, true, true, true, true, true, true, false, false, false, false, false, false, false, false, false, false, false, false, false, false] rfl rfl (take_ofW HT_.out HW_.out (by kernel_rfl)) (fun _ _ _ h => h) (Or.inl ⟨by rfl, ?_⟩) hHeld ?_ ?_
              rotate_left
              ·
               rintro w' ⟨s0, s1, s2, s3, s4, s5, s6, s7, s8, s9⟩
               go_simp
               with_reducible rfl
              rotate_left
              ·
               simp only [Act.put, pq]
               rfl
              refine take_ (i := 9) (N := some 49) (v := ?_) (a' := ?_) #[true, true, true, true, true, true, true, true, true, true, false, false, false, false, false, false, false, false, false, false, false, false, false] rfl rfl (take_ofW HT_.out HW_.out (by kernel_rfl)) (fun _ _ _ h => h) (Or.inl ⟨by rfl, ?_⟩) hHeld ?_ ?_
              rotate_left
              ·
               rintro w' ⟨s0, s1, s2, s3, s4, s5, s6, s7, s8, s9⟩
               go_simp
               with_reducible rfl
              rotate_left
              ·
               simp only [Act.put, pq]
               rfl
              refine pure_ (i := 10) (N := some 50) (v := ?_) (a' := ?_) #[true, true, true, true, true, true, true, true, true, true, true, false, false, false, false, false, false, false, false, false, false, false, false] rfl rfl (any_of HT_.out (by kernel_rfl)) (fun _ _ _ h => h) (Or.inl ⟨by rfl, ?_⟩) ?_ ?_
              rotate_left
              ·
               intro w'
               go_simp
               with_reducible rfl
              rotate_left
              ·
               simp only [Act.put, pq]
               rfl
              refine pure_ (i := 11) (N := some 51) (v := ?_) (a' := ?_) #[true, true, true, true, true, true, true, true, true, true, true, true, false, false, false, false, false, false, false, false, false, false, false] rfl rfl (any_of HT_.out (by kernel_rfl)) (fun _ _ _ h => h) (Or.inl ⟨by rfl, ?_⟩) ?_ ?_
              rotate_left
              ·
               intro w'
               go_simp
               with_reducible rfl
              rotate_left
              ·
               simp only [Act.put, pq]
               rfl
              refine pure_ (i := 12) (N := some 52) (v := undef) (a' := ?_) #[true, true, true, true, true, true, true, true, true, true, true, true, true, false, false, false, false, false, false, false, false, false, false] rfl rfl (any_of HT_.out (by kernel_rfl)) (fun _ _ _ h => h) (Or.inr ⟨by rfl, rfl⟩) ?_ ?_
              rotate_left
              ·
               simp only [Act.put, pq]
               rfl
              refine pure_ (i := 13) (N := some 53) (v := undef) (a' := ?_) #[true, true, true, true, true, true, true, true, true, true, true, true, true, true, false, false, false, false, false, false, false, false, false] rfl rfl (any_of HT_.out (by kernel_rfl)) (fun _ _ _ h => h) (Or.inr ⟨by rfl, rfl⟩) ?_ ?_
              rotate_left
              ·
               simp only [Act.put, pq]
               rfl
              refine pure_ (i := 14) (N := some 54) (v := undef) (a' := ?_) #[true, true, true, true, true, true, true, true, true, true, true, true, true, true, true, false, false, false, false, false, false, false, false] rfl rfl (any_of HT_.out (by kernel_rfl)) (fun _ _ _ h => h) (Or.inr ⟨by rfl, rfl⟩) ?_ ?_
              rotate_left
              ·
               simp only [Act.put, pq]
               rfl
              refine pure_ (i := 15) (N := some 55) (v := undef) (a' := ?_) #[true, true, true, true, true, true, true, true, true, true, true, true, true, true, true, true, false, false, false, false, false, false, false] rfl rfl (any_of HT_.out (by kernel_rfl)) (fun _ _ _ h => h) (Or.inr ⟨by rfl, rfl⟩) ?_ ?_
              rotate_left
              ·
               simp only [Act.put, pq]
               rfl
              refine pure_ (i := 16) (N := some 56) (v := undef) (a' := ?_) #[true, true, true, true, true, true, true, true, true, true, true, true, true, true, true, true, true, false, false, false, false, false, false] rfl rfl (any_of HT_.out (by kernel_rfl)) (fun _ _ _ h => h) (Or.inr ⟨by rfl, rfl⟩) ?_ ?_
              rotate_left
              ·
               simp only [Act.put, pq]
               rfl
              refine pure_ (i := 17) (N := some 57) (v := undef) (a' := ?_) #[true, true, true, true, true, true, true, true, true, true, true, true, true, true, true, true, true, true, false, false, false, false, false] rfl rfl (any_of HT_.out (by kernel_rfl)) (fun _ _ _ h => h) (Or.inr ⟨by rfl, rfl⟩) ?_ ?_
              rotate_left
              ·
               simp only [Act.put, pq]
               rfl
              refine pure_ (i := 18) (N := some 58) (v := undef) (a' := ?_) #[true, true, true, true, true, true, true, true, true, true, true, true, true, true, true, true, true, true, true, false, false, false, false] rfl rfl (any_of HT_.out (by kernel_rfl)) (fun _ _ _ h => h) (Or.inr ⟨by rfl, rfl⟩) ?_ ?_
              rotate_left
              ·
               simp only [Act.put, pq]
               rfl
              refine pure_ (i := 19) (N := some 59) (v := undef) (a' := ?_) #[true, true, true, true, true, true, true, true, true, true, true, true, true, true, true, true, true, true, true, true, false, false, false] rfl rfl (any_of HT_.out (by kernel_rfl)) (fun _ _ _ h => h) (Or.inr ⟨by rfl, rfl⟩) ?_ ?_
              rotate_left
              ·
               simp only [Act.put, pq]
               rfl
              refine pure_ (i := 20) (N := some 60) (v := undef) (a' := ?_) #[true, true, true, true, true, true, true, true, true, true, true, true, true, true, true, true, true, true, true, true, true, false, false] rfl rfl (any_of HT_.out (by kernel_rfl)) (fun _ _ _ h => h) (Or.inr ⟨by rfl, rfl⟩) ?_ ?_
              rotate_left
              ·
               simp only [Act.put, pq]
               rfl
              refine pure_ (i := 21) (N := some 61) (v := ?_) (a' := ?_) #[true, true, true, true, true, true, true, true, true, true, true, true, true, true, true, true, true, true, true, true, true, true, false] rfl rfl (any_of HT_.out (by kernel_rfl)) (fun _ _ _ h => h) (Or.inl ⟨by rfl, ?_⟩) ?_ ?_
              rotate_left
              ·
               intro w'
               go_simp
               with_reducible rfl
              rotate_left
              ·
               simp only [Act.put, pq]
               rfl
              refine pure_ (i := 22) (N := some 62) (v := ?_) (a' := ?_) #[true, true, true, true, true, true, true, true, true, true, true, true, true, true, true, true, true, true, true, true, true, true, true] rfl rfl (any_of HT_.out (by kernel_rfl)) (fun _ _ _ h => h) (Or.inl ⟨by rfl, ?_⟩) ?_ ?_
              rotate_left
              ·
               intro w'
               go_simp
               with_reducible rfl
              rotate_left
              ·
               simp only [Act.put, pq]
               rfl
              refine done_ (done_of HT_.out (by kernel_rfl)) ?_
              try go_wp2
              go_roundg k2
              case measure => have := HJ2.out; have := HK2.out; omega
              case rel => exact ⟨(x7_2), (wrap64 (x7_2 + 1)), (by rfl), (by rfl), H', ⟨by have := HJ2.out; have := HK2.out; omega⟩, ⟨by exact BK361.out⟩, ⟨HB.out⟩⟩
           ·
            rw [if_neg c21] at H
            exact absurd H (by simp)
          ·
           rw [if_neg c20] at H
           exact absurd H (by simp)
         ·
          rw [if_neg c19] at H
          have c19b0 : decide (0 ≤ x6_2) = false := decide_eq_false c19
          clear c19
          have H' := Aside0.mk H
          clear H
          have hcz75_0 : wr.cell? ⟨gb361, 0, none⟩ = some (.string a0_0) := (blk_cell BK361.out 0).trans rfl
          have hcz75_1 : wr.cell? ⟨gb361, 1, none⟩ = some (.slice A0_1 l0_1.length c0_1) := (blk_cell BK361.out 1).trans rfl
          have hcz75_2 : wr.cell? ⟨gb361, 2, none⟩ = some (.slice A0_2 l0_2.length c0_2) := (blk_cell BK361.out 2).trans rfl
          have hfz75_0 := blk_frozen BK361.out 0
          have hfz75_1 := blk_frozen BK361.out 1
          have hfz75_2 := blk_frozen BK361.out 2
          have p364 : 0 ≤ (x7_2 : Int) := of_decide_eq_true (by (with_reducible assumption))
          have q364 : x7_2 < (l0_1.length : Int) := of_decide_eq_true (by (with_reducible assumption))
          obtain ⟨ad364, e364, hx364_0, hx364_1, hx364_2, hx364_3, hx364_4⟩ := at_T39 HR0_1.out x7_2 p364 q364
          cases e364
          replace hx364_0 := (HB.out.cell (World.block_lt_of_cell? w _ hx364_0)).trans hx364_0
          replace hx364_1 := (HB.out.cell (World.block_lt_of_cell? w _ hx364_1)).trans hx364_1
          replace hx364_2 := (HB.out.cell (World.block_lt_of_cell? w _ hx364_2)).trans hx364_2
          replace hx364_3 := (HB.out.cell (World.block_lt_of_cell? w _ hx364_3)).trans hx364_3
          replace hx364_4 := (HB.out.cell (World.block_lt_of_cell? w _ hx364_4)).trans hx364_4
          replace p364 := eq_true p364
          replace q364 := eq_true q364
          go_wp2_with ((with_reducible refine gate_dst (N := 8) rfl ?_); (try (refine gate_guard (by rfl) ?_; dsimp only)); refine box_event ?hg (N := 8) ?hd (cs := #[.string (⟨#[]⟩ : ByteArray), .int .i64 0, .int .i64 0, .int .i64 0, .int .i64 0]) (t := 39) ?hr ?_; (case hd => rfl); (case hg => rfl); (case hr => (go_simp; done)); intro gb365 hg w76 hbox hb; have n0_ := Aside0.mk (blk_below (g := gb361) (o := .cells #[.string a0_0, .slice (some ad364) l0_1.length c0_1, .slice A0_2 l0_2.length c0_2] 27 (0, 0)) (by exact BK361.out) hb); have n1_ := Aside0.mk (below_step (HB.out) hb); have n2_ := Aside0.mk (hbox); have n3_ := Aside0.mk ((by rw [hg]; exact (below_size (HB.out)) : w.heap.size ≤ gb365)); have n4_ := Aside0.mk ((by rw [hg]; exact (below_size (HB.out)) : w.heap.size ≤ gb365)); have n5_ := Aside0.mk ((by rw [hg]; exact Nat.ne_of_lt (blk_lt (g := gb361) (o := .cells #[.string a0_0, .slice (some ad364) l0_1.length c0_1, .slice A0_2 l0_2.length c0_2] 27 (0, 0)) (by exact BK361.out)) : gb361 ≠ gb365)); have n6_ := Aside0.mk ((by rw [hg]; exact Nat.ne_of_gt (blk_lt (g := gb361) (o := .cells #[.string a0_0, .slice (some ad364) l0_1.length c0_1, .slice A0_2 l0_2.length c0_2] 27 (0, 0)) (by exact BK361.out)) : gb365 ≠ gb361)); clear BK361; clear HB; have BK361 := n0_; have HB := n1_; have BK365 := n2_; have GW365 := n3_; have GE365 := n4_; have NB361_365 := n5_; have NB365_361 := n6_; clear n0_ n1_ n2_ n3_ n4_ n5_ n6_; clear hb hbox hg; have hnb77 := NB365_361.out; have hnc77 := NB361_365.out; have hcz78_0 : w76.cell? ⟨gb365, 0, none⟩ = some (.string (⟨#[]⟩ : ByteArray)) := (blk_cell BK365.out 0).trans rfl; have hcz78_1 : w76.cell? ⟨gb365, 1, none⟩ = some (.int .i64 0) := (blk_cell BK365.out 1).trans rfl; have hcz78_2 : w76.cell? ⟨gb365, 2, none⟩ = some (.int .i64 0) := (blk_cell BK365.out 2).trans rfl; have hcz78_3 : w76.cell? ⟨gb365, 3, none⟩ = some (.int .i64 0) := (blk_cell BK365.out 3).trans rfl; have hcz78_4 : w76.cell? ⟨gb365, 4, none⟩ = some (.int .i64 0) := (blk_cell BK365.out 4).trans rfl; have hfz78_0 := blk_frozen BK365.out 0; have hfz78_1 := blk_frozen BK365.out 1; have hfz78_2 := blk_frozen BK365.out 2; have hfz78_3 := blk_frozen BK365.out 3; have hfz78_4 := blk_frozen BK365.out 4)
          go_roundg k2
          case measure => have := HJ2.out; have := HK2.out; omega
          case rel => exact ⟨(x7_2), (wrap64 (x7_2 + 1)), (by rfl), (by rfl), H', ⟨by have := HJ2.out; have := HK2.out; omega⟩, ⟨by refine blk_far ?_ NB361_365.out _; refine blk_far ?_ NB361_365.out _; refine blk_far ?_ NB361_365.out _; refine blk_far ?_ NB361_365.out _; refine blk_far ?_ NB361_365.out _; exact BK361.out⟩, ⟨by repeat ((with_reducible first | exact HB.out | refine below_set ?_ GE365.out))⟩⟩
       ·
        rw [if_neg c13] at H
        exact absurd H (by simp)
      ·
       rw [if_neg c12] at H
       have c12b0 : decide (x7_2 < (l0_1.length : Int)) = false := decide_eq_false c12
       clear c12
       by_cases c79 : x6_2 < 0
       ·
        rw [if_pos c79] at H
        have c79b0 : decide (x6_2 < 0) = true := decide_eq_true c79
        clear c79
        simp only [Option.some.injEq, Prod.mk.injEq] at H
        obtain ⟨rfl, rfl⟩ := H
        have hcz80_0 : wr.cell? ⟨gb361, 0, none⟩ = some (.string a0_0) := (blk_cell BK361.out 0).trans rfl
        have hcz80_1 : wr.cell? ⟨gb361, 1, none⟩ = some (.slice A0_1 l0_1.length c0_1) := (blk_cell BK361.out 1).trans rfl
        have hcz80_2 : wr.cell? ⟨gb361, 2, none⟩ = some (.slice A0_2 l0_2.length c0_2) := (blk_cell BK361.out 2).trans rfl
        have hfz80_0 := blk_frozen BK361.out 0
        have hfz80_1 := blk_frozen BK361.out 1
        have hfz80_2 := blk_frozen BK361.out 2
        go_wp2
        go_ret2
        exact ⟨by rfl, HB.out⟩
       ·
        rw [if_neg c79] at H
        have c79b0 : decide (x6_2 < 0) = false := decide_eq_false c79
        clear c79
        by_cases c81 : 0 ≤ x6_2
        ·
         rw [if_pos c81] at H
         have c81b0 : decide (0 ≤ x6_2) = true := decide_eq_true c81
         clear c81
         by_cases c82 : x6_2 < (l0_1.length : Int)
         ·
          rw [if_pos c82] at H
          have c82b0 : decide (x6_2 < (l0_1.length : Int)) = true := decide_eq_true c82
          clear c82
          simp only [Option.some.injEq, Prod.mk.injEq] at H
          obtain ⟨rfl, rfl⟩ := H
          have hcz83_0 : wr.cell? ⟨gb361, 0, none⟩ = some (.string a0_0) := (blk_cell BK361.out 0).trans rfl
          have hcz83_1 : wr.cell? ⟨gb361, 1, none⟩ = some (.slice A0_1 l0_1.length c0_1) := (blk_cell BK361.out 1).trans rfl
          have hcz83_2 : wr.cell? ⟨gb361, 2, none⟩ = some (.slice A0_2 l0_2.length c0_2) := (blk_cell BK361.out 2).trans rfl
          have hfz83_0 := blk_frozen BK361.out 0
          have hfz83_1 := blk_frozen BK361.out 1
          have hfz83_2 := blk_frozen BK361.out 2
          have p363 : 0 ≤ (x6_2 : Int) := of_decide_eq_true (by (with_reducible assumption))
          have q363 : x6_2 < (l0_1.length : Int) := of_decide_eq_true (by (with_reducible assumption))
          obtain ⟨ad363, e363, hx363_0, hx363_1, hx363_2, hx363_3, hx363_4⟩ := at_T39 HR0_1.out x6_2 p363 q363
          cases e363
          replace hx363_0 := (HB.out.cell (World.block_lt_of_cell? w _ hx363_0)).trans hx363_0
          replace hx363_1 := (HB.out.cell (World.block_lt_of_cell? w _ hx363_1)).trans hx363_1
          replace hx363_2 := (HB.out.cell (World.block_lt_of_cell? w _ hx363_2)).trans hx363_2
          replace hx363_3 := (HB.out.cell (World.block_lt_of_cell? w _ hx363_3)).trans hx363_3
          replace hx363_4 := (HB.out.cell (World.block_lt_of_cell? w _ hx363_4)).trans hx363_4
          replace p363 := eq_true p363
          replace q363 := eq_true q363
          go_wp2
          go_ret2
          exact ⟨by rfl, HB.out⟩
         ·
          rw [if_neg c82] at H
          exact absurd H (by simp)
        ·
         rw [if_neg c81] at H
         exact absurd H (by simp)
end Go.Proofs.Ytnpbnmhbajiefaa.PFnSources
