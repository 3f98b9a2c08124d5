-- OWN TEXT of FnSources: made by own_print.sh, finished by hand
import Derived.Test.YtnpbnmhbajiefaaGFnSourcesx0
import Derived.Test.YtnpbnmhbajiefaaGFnSourcesx2
namespace Go.Proofs.Ytnpbnmhbajiefaa.PFnSources
open Go.RowKit Go.Proofs.YtnpbnmhbajiefaaW.PrintWords Go.Proofs.YtnpbnmhbajiefaaW.PrintLast Go.Proofs.YtnpbnmhbajiefaaW.PrintMore
attribute [local go_sem] max2_int min2_int max_two min_two max_three min_three max_four min_four   -- for this text's walks alone
set_option linter.unusedVariables false
set_option linter.unusedSimpArgs false
mutual
def spec_AutoOK.j0 : Nat → Bool → ByteArray → List (S39) → List ByteArray → Option (Bool)
 | 0, _, _, _, _ => none
 | k + 1, x21, x340000, x340001, x340002 => if x21 = true then (some false) else (spec_AutoOK.l0 k 0 x340000 x340001 x340002)
def spec_AutoOK.l0 : Nat → Int → ByteArray → List (S39) → List ByteArray → Option (Bool)
 | 0, _, _, _, _ => none
 | k + 1, x3, x340000, x340001, x340002 => if x3 < (x340002.length : Int) then (if 0 ≤ x3 then (if ((rdOf ByteArray.empty x340002 x3).size : Int) = 16 then (if x3 ≤ (x340002.length : Int) then ((spec_l14Text.f k (x340002.take (x3 : Int).toNat) (rdOf ByteArray.empty x340002 x3)).bind fun t343 => (if t343 = true then (some false) else (spec_AutoOK.l0 k (wrap64 (x3 + 1)) x340000 x340001 x340002))) else (none)) else (some false)) else (none)) else (spec_AutoOK.l1 k 0 x340000 x340001 x340002)
def spec_AutoOK.l1 : Nat → Int → ByteArray → List (S39) → List ByteArray → Option (Bool)
 | 0, _, _, _, _ => none
 | k + 1, x4, x340000, x340001, x340002 => if x4 < (x340001.length : Int) then (if 0 ≤ x4 then (if (((rd_T39 x340001 x4).f0).size : Int) = 16 then ((spec_l14Find.f k x340001 ((rd_T39 x340001 x4).f0)).bind fun t346 => (if t346 = x4 then ((spec_l14Text.f k x340002 ((rd_T39 x340001 x4).f0)).bind fun t347 => (if t347 = true then (spec_AutoOK.j3 k x4 true x340000 x340001 x340002 ((rd_T39 x340001 x4).f0) ((rd_T39 x340001 x4).f1) ((rd_T39 x340001 x4).f2) ((rd_T39 x340001 x4).f3) ((rd_T39 x340001 x4).f4)) else ((spec_l01In.f ((rd_T39 x340001 x4).f1) 1 3).bind fun t348 => (if t348 = true then ((spec_l01In.f ((rd_T39 x340001 x4).f3) 1 100000).bind fun t349 => (if t349 = true then ((spec_l01In.f ((rd_T39 x340001 x4).f4) 0 ((rd_T39 x340001 x4).f3)).bind fun t350 => (spec_AutoOK.j3 k x4 (!t350) x340000 x340001 x340002 ((rd_T39 x340001 x4).f0) ((rd_T39 x340001 x4).f1) ((rd_T39 x340001 x4).f2) ((rd_T39 x340001 x4).f3) ((rd_T39 x340001 x4).f4))) else (spec_AutoOK.j3 k x4 true x340000 x340001 x340002 ((rd_T39 x340001 x4).f0) ((rd_T39 x340001 x4).f1) ((rd_T39 x340001 x4).f2) ((rd_T39 x340001 x4).f3) ((rd_T39 x340001 x4).f4)))) else (spec_AutoOK.j3 k x4 true x340000 x340001 x340002 ((rd_T39 x340001 x4).f0) ((rd_T39 x340001 x4).f1) ((rd_T39 x340001 x4).f2) ((rd_T39 x340001 x4).f3) ((rd_T39 x340001 x4).f4)))))) else (spec_AutoOK.j3 k x4 true x340000 x340001 x340002 ((rd_T39 x340001 x4).f0) ((rd_T39 x340001 x4).f1) ((rd_T39 x340001 x4).f2) ((rd_T39 x340001 x4).f3) ((rd_T39 x340001 x4).f4)))) else (spec_AutoOK.j3 k x4 true x340000 x340001 x340002 ((rd_T39 x340001 x4).f0) ((rd_T39 x340001 x4).f1) ((rd_T39 x340001 x4).f2) ((rd_T39 x340001 x4).f3) ((rd_T39 x340001 x4).f4))) else (none)) else (some true)
def spec_AutoOK.j3 : Nat → Int → Bool → ByteArray → List (S39) → List ByteArray → ByteArray → Int → Int → Int → Int → Option (Bool)
 | 0, _, _, _, _, _, _, _, _, _, _ => none
 | k + 1, x4, x99, x340000, x340001, x340002, x346000, x346001, x346002, x346003, x346004 => if x99 = true then (some false) else ((spec_l01In.f x346002 1 3).bind fun t351 => (if ((x346001 == 1) != t351) = true then (some false) else (if x346001 = 1 then (spec_AutoOK.l1 k (wrap64 (x4 + 1)) x340000 x340001 x340002) else (if x346002 = 0 then (if ((x346001 == 3) != (x346004 == 0)) = true then (some false) else (spec_AutoOK.l1 k (wrap64 (x4 + 1)) x340000 x340001 x340002)) else (some false)))))
end
def spec_AutoOK.f (k : Nat) (a0_0 : ByteArray) (l0_1 : List (S39)) (l0_2 : List ByteArray) : Option (Bool) := if (a0_0.size : Int) = 6 then (if (l0_1.length : Int) > 6 then (spec_AutoOK.j0 k true a0_0 l0_1 l0_2) else (spec_AutoOK.j0 k (decide ((l0_2.length : Int) > 6)) a0_0 l0_1 l0_2)) else (spec_AutoOK.j0 k true a0_0 l0_1 l0_2)
set_option maxHeartbeats 8000000 in
set_option maxRecDepth 100000 in
theorem spec_AutoOK.calls (k : Nat) (a0_0 : ByteArray) (A0_1 : Option Addr) (c0_1 : Nat) (l0_1 : List (S39)) (A0_2 : Option Addr) (c0_2 : Nat) (l0_2 : List ByteArray) (r : Bool) (w : World) (hr0_1 : Kd.C k39 w A0_1 l0_1.length l0_1) (hc0_1 : l0_1.length ≤ c0_1) (hr0_2 : Kd.C Kd.string w A0_2 l0_2.length l0_2) (hc0_2 : l0_2.length ≤ c0_2) (h : spec_AutoOK.f k a0_0 l0_1 l0_2 = some r) :
  Calls Try.prog 15 #[.agg #[.string a0_0, .slice A0_1 l0_1.length c0_1, .slice A0_2 l0_2.length c0_2]] w fun e w' => e = .returned (.bool r) ∧ Below w.heap.size w w' := by
 have hu27 := Try.underlying27
 have hu39 := Try.underlying39
 have HR0_1 := Aside0.mk hr0_1
 have HC0_1 := Aside0.mk hc0_1
 clear hr0_1 hc0_1
 have HR0_2 := Aside0.mk hr0_2
 have HC0_2 := Aside0.mk hc0_2
 clear hr0_2 hc0_2
 have HB := Aside0.mk (Below.refl w.heap.size w)
 have H : (if (a0_0.size : Int) = 6 then (if (l0_1.length : Int) > 6 then (spec_AutoOK.j0 k true a0_0 l0_1 l0_2) else (spec_AutoOK.j0 k (decide ((l0_2.length : Int) > 6)) a0_0 l0_1 l0_2)) else (spec_AutoOK.j0 k true a0_0 l0_1 l0_2)) = some r := h
 clear h
 have HC2 := Aside0.mk H
 clear H
 go_enter Try.func15, Try.ntmps15
 go_upto_region 1 with ((with_reducible refine gate_dst (N := 1) rfl ?_); (try (refine gate_guard (by rfl) ?_; dsimp only)); refine box_event ?hg (N := 1) ?hd (cs := #[.string a0_0, .slice A0_1 l0_1.length c0_1, .slice A0_2 l0_2.length c0_2]) (t := 27) ?hr ?_; (case hd => rfl); (case hg => rfl); (case hr => (go_simp; done)); intro gb339 hg w3 hbox hb; have n0_ := Aside0.mk (below_step HB.out hb); have n1_ := Aside0.mk (hbox); have n2_ := Aside0.mk ((by rw [hg]; exact (below_size HB.out) : w.heap.size ≤ gb339)); have n3_ := Aside0.mk ((by rw [hg]; exact (below_size HB.out) : w.heap.size ≤ gb339)); clear HB; have HB := n0_; have BK339 := n1_; have GW339 := n2_; have GE339 := n3_; clear n0_ n1_ n2_ n3_; clear hb hbox hg)
 repeat (go_quiet (fail); go_upto_region 1 with (fail))
 (try simp only [Act.put, List.setIfInBounds_toArray, List.set_cons_zero, List.set_cons_succ])
 go_cut [21] (fun v21 wc => ∃ (kq : Nat) (x21_1 : Bool), v21 = .bool x21_1 ∧ Aside0 (spec_AutoOK.j0 kq x21_1 a0_0 l0_1 l0_2 = some r) ∧ Aside0 (kq ≤ k) ∧ Aside0 (wc.heap[gb339]? = some (.cells #[.string a0_0, (.slice A0_1 l0_1.length c0_1), (.slice A0_2 l0_2.length c0_2)] 27 (0, 0))) ∧ Aside0 (Below w.heap.size w wc))
 case first =>
  have H := HC2.out
  clear HC2
  by_cases c4 : (a0_0.size : Int) = 6
  ·
   rw [if_pos c4] at H
   have c4b0 : ((a0_0.size : Int) == 6) = true := beq_iff_eq.mpr c4
   have c4b1 : ((a0_0.size : Int) != 6) = false := bne_eq_false_iff_eq.mpr c4
   clear c4
   (skip)
   by_cases c5 : (l0_1.length : Int) > 6
   ·
    rw [if_pos c5] at H
    have c5b0 : decide (6 < (l0_1.length : Int)) = true := decide_eq_true c5
    have c5b1 : decide (6 < l0_1.length) = true := decide_eq_true (by omega)
    clear c5
    have H' := Aside0.mk H
    clear H
    have hcz6_0 : w3.cell? ⟨gb339, 0, none⟩ = some (.string a0_0) := (blk_cell BK339.out 0).trans rfl
    have hcz6_1 : w3.cell? ⟨gb339, 1, none⟩ = some (.slice A0_1 l0_1.length c0_1) := (blk_cell BK339.out 1).trans rfl
    have hcz6_2 : w3.cell? ⟨gb339, 2, none⟩ = some (.slice A0_2 l0_2.length c0_2) := (blk_cell BK339.out 2).trans rfl
    have hfz6_0 := blk_frozen BK339.out 0
    have hfz6_1 := blk_frozen BK339.out 1
    have hfz6_2 := blk_frozen BK339.out 2
    go_wp2
    repeat (go_quiet (fail); try go_wp2)
    go_meet
    case rel => exact ⟨_, (true), (by rfl), H', ⟨by omega⟩, ⟨by exact BK339.out⟩, ⟨HB.out⟩⟩
   ·
    rw [if_neg c5] at H
    have c5b0 : decide (6 < (l0_1.length : Int)) = false := decide_eq_false c5
    have c5b1 : decide (6 < l0_1.length) = false := decide_eq_false (by omega)
    clear c5
    have H' := Aside0.mk H
    clear H
    have hcz7_0 : w3.cell? ⟨gb339, 0, none⟩ = some (.string a0_0) := (blk_cell BK339.out 0).trans rfl
    have hcz7_1 : w3.cell? ⟨gb339, 1, none⟩ = some (.slice A0_1 l0_1.length c0_1) := (blk_cell BK339.out 1).trans rfl
    have hcz7_2 : w3.cell? ⟨gb339, 2, none⟩ = some (.slice A0_2 l0_2.length c0_2) := (blk_cell BK339.out 2).trans rfl
    have hfz7_0 := blk_frozen BK339.out 0
    have hfz7_1 := blk_frozen BK339.out 1
    have hfz7_2 := blk_frozen BK339.out 2
    go_wp2
    repeat (go_quiet (fail); try go_wp2)
    go_meet
    case rel => exact ⟨_, (decide ((l0_2.length : Int) > 6)), (by rfl), H', ⟨by omega⟩, ⟨by exact BK339.out⟩, ⟨HB.out⟩⟩
  ·
   rw [if_neg c4] at H
   have c4b0 : ((a0_0.size : Int) == 6) = false := beq_eq_false_iff_ne.mpr c4
   have c4b1 : ((a0_0.size : Int) != 6) = true := bne_iff_ne.mpr c4
   (skip)
   have H' := Aside0.mk H
   clear H
   have hcz8_0 : w3.cell? ⟨gb339, 0, none⟩ = some (.string a0_0) := (blk_cell BK339.out 0).trans rfl
   have hcz8_1 : w3.cell? ⟨gb339, 1, none⟩ = some (.slice A0_1 l0_1.length c0_1) := (blk_cell BK339.out 1).trans rfl
   have hcz8_2 : w3.cell? ⟨gb339, 2, none⟩ = some (.slice A0_2 l0_2.length c0_2) := (blk_cell BK339.out 2).trans rfl
   have hfz8_0 := blk_frozen BK339.out 0
   have hfz8_1 := blk_frozen BK339.out 1
   have hfz8_2 := blk_frozen BK339.out 2
   go_wp2
   repeat (go_quiet (fail); try go_wp2)
   go_meet
   case rel => exact ⟨_, (true), (by rfl), H', ⟨by omega⟩, ⟨by exact BK339.out⟩, ⟨HB.out⟩⟩
 case rest =>
  clear HC2
  obtain ⟨kq, x21_1, rfl, HA, HJ1, BK339, HB⟩ := hcut
  cases kq with
  | zero => exact absurd HA.out (by simp [spec_AutoOK.j0])
  | succ kj1 =>
   have H := HA.out
   clear HA
   simp only [spec_AutoOK.j0] at H
   by_cases c9 : x21_1 = true
   ·
    subst c9
    rw [if_pos rfl] at H
    obtain rfl := Option.some.inj H
    go_wp2
    repeat (go_quiet (fail); try go_wp2)
    go_ret
    exact ⟨by rfl, HB.out⟩
   ·
    replace c9 := Bool.eq_false_iff.mpr c9
    subst c9
    rw [if_neg (show ¬ (false = true) by decide)] at H
    have H' := Aside0.mk H
    clear H
    go_wp2
    repeat (go_quiet (fail); try go_wp2)
    go_loopg [3] kj1 (fun kq v3 w' => ∃ (x3_2 : Int), v3 = .int .i64 x3_2 ∧ Aside0 (spec_AutoOK.l0 kq x3_2 a0_0 l0_1 l0_2 = some r) ∧ Aside0 (kq ≤ kj1) ∧ Aside0 (w'.heap[gb339]? = some (.cells #[.string a0_0, (.slice A0_1 l0_1.length c0_1), (.slice A0_2 l0_2.length c0_2)] 27 (0, 0))) ∧ Aside0 (Below w.heap.size w w'))
    case atStart => exact ⟨(0), (by rfl), H', ⟨Nat.le_refl _⟩, ⟨by exact BK339.out⟩, ⟨HB.out⟩⟩
    case round =>
     clear H'
     obtain ⟨x3_2, rfl, HA, HK2, BK339, HB⟩ := hrel
     cases gk with
     | zero => exact absurd HA.out (by simp [spec_AutoOK.l0])
     | succ k2 =>
      have H := HA.out
      clear HA
      simp only [spec_AutoOK.l0] at H
      by_cases c10 : x3_2 < (l0_2.length : Int)
      ·
       rw [if_pos c10] at H
       have c10b0 : decide (x3_2 < (l0_2.length : Int)) = true := decide_eq_true c10
       clear c10
       by_cases c11 : 0 ≤ x3_2
       ·
        rw [if_pos c11] at H
        have c11b0 : decide (0 ≤ x3_2) = true := decide_eq_true c11
        clear c11
        by_cases c12 : ((rdOf ByteArray.empty l0_2 x3_2).size : Int) = 16
        ·
         rw [if_pos c12] at H
         have c12b0 : (((rdOf ByteArray.empty l0_2 x3_2).size : Int) == 16) = true := beq_iff_eq.mpr c12
         have c12b1 : (((rdOf ByteArray.empty l0_2 x3_2).size : Int) != 16) = false := bne_eq_false_iff_eq.mpr c12
         clear c12
         have c13b0 := eq_true (of_decide_eq_true (by (with_reducible assumption)) : 0 ≤ x3_2)
         by_cases c14 : x3_2 ≤ (l0_2.length : Int)
         ·
          rw [if_pos c14] at H
          have c14b0 := eq_true c14
          have c14b1 : decide (x3_2 ≤ (l0_2.length : Int)) = true := decide_eq_true c14
          clear c14
          replace H := Option.bind_eq_some_iff.mp H
          obtain ⟨t343, A150, H⟩ := H
          have A15 := Aside0.mk A150
          clear A150
          by_cases c16 : t343 = true
          ·
           subst c16
           rw [if_pos rfl] at H
           obtain rfl := Option.some.inj H
           have hcz17_0 : wr.cell? ⟨gb339, 0, none⟩ = some (.string a0_0) := (blk_cell BK339.out 0).trans rfl
           have hcz17_1 : wr.cell? ⟨gb339, 1, none⟩ = some (.slice A0_1 l0_1.length c0_1) := (blk_cell BK339.out 1).trans rfl
           have hcz17_2 : wr.cell? ⟨gb339, 2, none⟩ = some (.slice A0_2 l0_2.length c0_2) := (blk_cell BK339.out 2).trans rfl
           have hfz17_0 := blk_frozen BK339.out 0
           have hfz17_1 := blk_frozen BK339.out 1
           have hfz17_2 := blk_frozen BK339.out 2
           have p340 : 0 ≤ (x3_2 : Int) := of_decide_eq_true (by (with_reducible assumption))
           have q340 : x3_2 < (l0_2.length : Int) := of_decide_eq_true (by (with_reducible assumption))
           obtain ⟨ad340, e340, hx340_0⟩ := Kd.at_string HR0_2.out x3_2 p340 q340
           cases e340
           replace hx340_0 := (HB.out.cell (World.block_lt_of_cell? w _ hx340_0)).trans hx340_0
           replace p340 := eq_true p340
           replace q340 := eq_true q340
           obtain ⟨i018, hi018, _, hsz18, _⟩ := info_parts info9
           obtain ⟨hcut18, hA18, hC18⟩ := print_take_of (P := Try.prog) Value.string (⟨#[]⟩ : ByteArray) 25 9 .i64 Try.underlying25 hi018 hsz18 (some ad340) c0_2 l0_2 x3_2 (of_decide_eq_true (by (with_reducible assumption))) (of_decide_eq_true (by (with_reducible assumption))) HC0_2.out
           have HR341 := Aside0.mk (Kd.C_of_reads (h1 := fun _ => rfl) (hA18 _ (Kd.reads_of_C HR0_2.out)))
           have HC341 := Aside0.mk hC18
           clear hA18 hC18 hi018 hsz18
           have p342 : 0 ≤ (x3_2 : Int) := of_decide_eq_true (by (with_reducible assumption))
           have q342 : x3_2 < (l0_2.length : Int) := of_decide_eq_true (by (with_reducible assumption))
           obtain ⟨ad342, e342, hx342_0⟩ := Kd.at_string HR0_2.out x3_2 p342 q342
           obtain rfl : ad340 = ad342 := (by injection e342)
           replace hx342_0 := (HB.out.cell (World.block_lt_of_cell? w _ hx342_0)).trans hx342_0
           replace p342 := eq_true p342
           replace q342 := eq_true q342
           have hlen_ : (l0_2.take (x3_2 : Int).toNat).length = (x3_2 : Int).toNat := by have := of_eq_true q342; have := of_eq_true p342; simp only [List.length_take]; omega
           have HQ_ := fun n => spec_l14Text.calls k2 _ _ (l0_2.take (x3_2 : Int).toNat) (rdOf ByteArray.empty l0_2 x3_2) true (wr.drewN n) (Kd.C_drewN (Kd.C_below HR341.out HB.out) n) HC341.out A15.out
           simp only [hlen_] at HQ_
           go_wp2
           go_quiet ((go_at_call 35; refine (HQ_ _).mono ?_; rintro e w' ⟨rfl, ⟨nd, rfl⟩⟩; (try exact ⟨rfl, _, World.drewN_drewN _ _ _⟩)))
           try go_wp2
           go_ret
           exact ⟨by rfl, by repeat ((with_reducible first | exact HB.out | apply pw_below_drewN))⟩
          ·
           replace c16 := Bool.eq_false_iff.mpr c16
           subst c16
           rw [if_neg (show ¬ (false = true) by decide)] at H
           have H' := Aside0.mk H
           clear H
           have hcz19_0 : wr.cell? ⟨gb339, 0, none⟩ = some (.string a0_0) := (blk_cell BK339.out 0).trans rfl
           have hcz19_1 : wr.cell? ⟨gb339, 1, none⟩ = some (.slice A0_1 l0_1.length c0_1) := (blk_cell BK339.out 1).trans rfl
           have hcz19_2 : wr.cell? ⟨gb339, 2, none⟩ = some (.slice A0_2 l0_2.length c0_2) := (blk_cell BK339.out 2).trans rfl
           have hfz19_0 := blk_frozen BK339.out 0
           have hfz19_1 := blk_frozen BK339.out 1
           have hfz19_2 := blk_frozen BK339.out 2
           have p340 : 0 ≤ (x3_2 : Int) := of_decide_eq_true (by (with_reducible assumption))
           have q340 : x3_2 < (l0_2.length : Int) := of_decide_eq_true (by (with_reducible assumption))
           obtain ⟨ad340, e340, hx340_0⟩ := Kd.at_string HR0_2.out x3_2 p340 q340
           cases e340
           replace hx340_0 := (HB.out.cell (World.block_lt_of_cell? w _ hx340_0)).trans hx340_0
           replace p340 := eq_true p340
           replace q340 := eq_true q340
           obtain ⟨i020, hi020, _, hsz20, _⟩ := info_parts info9
           obtain ⟨hcut20, hA20, hC20⟩ := print_take_of (P := Try.prog) Value.string (⟨#[]⟩ : ByteArray) 25 9 .i64 Try.underlying25 hi020 hsz20 (some ad340) c0_2 l0_2 x3_2 (of_decide_eq_true (by (with_reducible assumption))) (of_decide_eq_true (by (with_reducible assumption))) HC0_2.out
           have HR341 := Aside0.mk (Kd.C_of_reads (h1 := fun _ => rfl) (hA20 _ (Kd.reads_of_C HR0_2.out)))
           have HC341 := Aside0.mk hC20
           clear hA20 hC20 hi020 hsz20
           have p342 : 0 ≤ (x3_2 : Int) := of_decide_eq_true (by (with_reducible assumption))
           have q342 : x3_2 < (l0_2.length : Int) := of_decide_eq_true (by (with_reducible assumption))
           obtain ⟨ad342, e342, hx342_0⟩ := Kd.at_string HR0_2.out x3_2 p342 q342
           obtain rfl : ad340 = ad342 := (by injection e342)
           replace hx342_0 := (HB.out.cell (World.block_lt_of_cell? w _ hx342_0)).trans hx342_0
           replace p342 := eq_true p342
           replace q342 := eq_true q342
           have hlen_ : (l0_2.take (x3_2 : Int).toNat).length = (x3_2 : Int).toNat := by have := of_eq_true q342; have := of_eq_true p342; simp only [List.length_take]; omega
           have HQ_ := fun n => spec_l14Text.calls k2 _ _ (l0_2.take (x3_2 : Int).toNat) (rdOf ByteArray.empty l0_2 x3_2) false (wr.drewN n) (Kd.C_drewN (Kd.C_below HR341.out HB.out) n) HC341.out A15.out
           simp only [hlen_] at HQ_
           go_wp2
           go_quiet ((go_at_call 35; refine (HQ_ _).mono ?_; rintro e w' ⟨rfl, ⟨nd, rfl⟩⟩; (try exact ⟨rfl, _, World.drewN_drewN _ _ _⟩)))
           try go_wp2
           go_roundg k2
           case measure => have := HJ1.out; have := HK2.out; omega
           case rel => exact ⟨(wrap64 (x3_2 + 1)), (by rfl), H', ⟨by have := HJ1.out; have := HK2.out; omega⟩, ⟨by (with_reducible repeat (refine blk_drewN ?_ _)); exact BK339.out⟩, ⟨by repeat ((with_reducible first | exact HB.out | apply pw_below_drewN))⟩⟩
         ·
          rw [if_neg c14] at H
          exact absurd H (by simp)
        ·
         rw [if_neg c12] at H
         have c12b0 : (((rdOf ByteArray.empty l0_2 x3_2).size : Int) == 16) = false := beq_eq_false_iff_ne.mpr c12
         have c12b1 : (((rdOf ByteArray.empty l0_2 x3_2).size : Int) != 16) = true := bne_iff_ne.mpr c12
         obtain rfl := Option.some.inj H
         have hcz21_0 : wr.cell? ⟨gb339, 0, none⟩ = some (.string a0_0) := (blk_cell BK339.out 0).trans rfl
         have hcz21_1 : wr.cell? ⟨gb339, 1, none⟩ = some (.slice A0_1 l0_1.length c0_1) := (blk_cell BK339.out 1).trans rfl
         have hcz21_2 : wr.cell? ⟨gb339, 2, none⟩ = some (.slice A0_2 l0_2.length c0_2) := (blk_cell BK339.out 2).trans rfl
         have hfz21_0 := blk_frozen BK339.out 0
         have hfz21_1 := blk_frozen BK339.out 1
         have hfz21_2 := blk_frozen BK339.out 2
         have p340 : 0 ≤ (x3_2 : Int) := of_decide_eq_true (by (with_reducible assumption))
         have q340 : x3_2 < (l0_2.length : Int) := of_decide_eq_true (by (with_reducible assumption))
         obtain ⟨ad340, e340, hx340_0⟩ := Kd.at_string HR0_2.out x3_2 p340 q340
         cases e340
         replace hx340_0 := (HB.out.cell (World.block_lt_of_cell? w _ hx340_0)).trans hx340_0
         replace p340 := eq_true p340
         replace q340 := eq_true q340
         go_wp2
         repeat (go_quiet (fail); try go_wp2)
         go_ret
         exact ⟨by rfl, by repeat ((with_reducible first | exact HB.out | apply pw_below_drewN))⟩
       ·
        rw [if_neg c11] at H
        exact absurd H (by simp)
      ·
       rw [if_neg c10] at H
       have c10b0 : decide (x3_2 < (l0_2.length : Int)) = false := decide_eq_false c10
       clear c10
       have H' := Aside0.mk H
       clear H
       have hcz22_0 : wr.cell? ⟨gb339, 0, none⟩ = some (.string a0_0) := (blk_cell BK339.out 0).trans rfl
       have hcz22_1 : wr.cell? ⟨gb339, 1, none⟩ = some (.slice A0_1 l0_1.length c0_1) := (blk_cell BK339.out 1).trans rfl
       have hcz22_2 : wr.cell? ⟨gb339, 2, none⟩ = some (.slice A0_2 l0_2.length c0_2) := (blk_cell BK339.out 2).trans rfl
       have hfz22_0 := blk_frozen BK339.out 0
       have hfz22_1 := blk_frozen BK339.out 1
       have hfz22_2 := blk_frozen BK339.out 2
       go_wp2
       repeat (go_quiet (fail); try go_wp2)
       go_loopg [4] k2 (fun kq v4 w' => ∃ (x4_3 : Int), v4 = .int .i64 x4_3 ∧ Aside0 (spec_AutoOK.l1 kq x4_3 a0_0 l0_1 l0_2 = some r) ∧ Aside0 (kq ≤ k2) ∧ Aside0 (w'.heap[gb339]? = some (.cells #[.string a0_0, (.slice A0_1 l0_1.length c0_1), (.slice A0_2 l0_2.length c0_2)] 27 (0, 0))) ∧ Aside0 (Below w.heap.size w w'))
       case atStart => exact ⟨(0), (by rfl), H', ⟨Nat.le_refl _⟩, ⟨by exact BK339.out⟩, ⟨HB.out⟩⟩
       case round =>
        clear H'
        try clear c10b0
        try clear hcz22_0
        try clear hcz22_1
        try clear hcz22_2
        try clear hfz22_0
        try clear hfz22_1
        try clear hfz22_2
        obtain ⟨x4_3, rfl, HA, HK3, BK339, HB⟩ := hrel
        cases gk with
        | zero => exact absurd HA.out (by simp [spec_AutoOK.l1])
        | succ k3 =>
         have H := HA.out
         clear HA
         simp only [spec_AutoOK.l1] at H
         by_cases c23 : x4_3 < (l0_1.length : Int)
         ·
          rw [if_pos c23] at H
          have c23b0 : decide (x4_3 < (l0_1.length : Int)) = true := decide_eq_true c23
          clear c23
          by_cases c24 : 0 ≤ x4_3
          ·
           rw [if_pos c24] at H
           have c24b0 : decide (0 ≤ x4_3) = true := decide_eq_true c24
           clear c24
           have HC25 := Aside0.mk H
           clear H
           have hcz26_0 : wr.cell? ⟨gb339, 0, none⟩ = some (.string a0_0) := (blk_cell BK339.out 0).trans rfl
           have hcz26_1 : wr.cell? ⟨gb339, 1, none⟩ = some (.slice A0_1 l0_1.length c0_1) := (blk_cell BK339.out 1).trans rfl
           have hcz26_2 : wr.cell? ⟨gb339, 2, none⟩ = some (.slice A0_2 l0_2.length c0_2) := (blk_cell BK339.out 2).trans rfl
           have hfz26_0 := blk_frozen BK339.out 0
           have hfz26_1 := blk_frozen BK339.out 1
           have hfz26_2 := blk_frozen BK339.out 2
           have p344 : 0 ≤ (x4_3 : Int) := of_decide_eq_true (by (with_reducible assumption))
           have q344 : x4_3 < (l0_1.length : Int) := of_decide_eq_true (by (with_reducible assumption))
           obtain ⟨ad344, e344, hx344_0, hx344_1, hx344_2, hx344_3, hx344_4⟩ := at_T39 HR0_1.out x4_3 p344 q344
           cases e344
           replace hx344_0 := (HB.out.cell (World.block_lt_of_cell? w _ hx344_0)).trans hx344_0
           replace hx344_1 := (HB.out.cell (World.block_lt_of_cell? w _ hx344_1)).trans hx344_1
           replace hx344_2 := (HB.out.cell (World.block_lt_of_cell? w _ hx344_2)).trans hx344_2
           replace hx344_3 := (HB.out.cell (World.block_lt_of_cell? w _ hx344_3)).trans hx344_3
           replace hx344_4 := (HB.out.cell (World.block_lt_of_cell? w _ hx344_4)).trans hx344_4
           replace p344 := eq_true p344
           replace q344 := eq_true q344
           go_upto_region 12 with ((with_reducible refine gate_dst (N := 5) rfl ?_); (try (refine gate_guard (by rfl) ?_; dsimp only)); refine box_event ?hg (N := 5) ?hd (cs := #[.string (⟨#[]⟩ : ByteArray), .int .i64 0, .int .i64 0, .int .i64 0, .int .i64 0]) (t := 39) ?hr ?_; (case hd => rfl); (case hg => rfl); (case hr => (go_simp; done)); intro gb345 hg w27 hbox hb; have n0_ := Aside0.mk (blk_below (g := gb339) (o := .cells #[.string a0_0, .slice (some ad344) l0_1.length c0_1, .slice A0_2 l0_2.length c0_2] 27 (0, 0)) (by exact BK339.out) hb); have n1_ := Aside0.mk (below_step (HB.out) hb); have n2_ := Aside0.mk (hbox); have n3_ := Aside0.mk ((by rw [hg]; exact (below_size (HB.out)) : w.heap.size ≤ gb345)); have n4_ := Aside0.mk ((by rw [hg]; exact (below_size (HB.out)) : w.heap.size ≤ gb345)); have n5_ := Aside0.mk ((by rw [hg]; exact Nat.ne_of_lt (blk_lt (g := gb339) (o := .cells #[.string a0_0, .slice (some ad344) l0_1.length c0_1, .slice A0_2 l0_2.length c0_2] 27 (0, 0)) (by exact BK339.out)) : gb339 ≠ gb345)); have n6_ := Aside0.mk ((by rw [hg]; exact Nat.ne_of_gt (blk_lt (g := gb339) (o := .cells #[.string a0_0, .slice (some ad344) l0_1.length c0_1, .slice A0_2 l0_2.length c0_2] 27 (0, 0)) (by exact BK339.out)) : gb345 ≠ gb339)); clear BK339; clear HB; have BK339 := n0_; have HB := n1_; have BK345 := n2_; have GW345 := n3_; have GE345 := n4_; have NB339_345 := n5_; have NB345_339 := n6_; clear n0_ n1_ n2_ n3_ n4_ n5_ n6_; clear hb hbox hg; have hnb28 := NB345_339.out; have hnc28 := NB339_345.out; have hcz29_0 : w27.cell? ⟨gb345, 0, none⟩ = some (.string (⟨#[]⟩ : ByteArray)) := (blk_cell BK345.out 0).trans rfl; have hcz29_1 : w27.cell? ⟨gb345, 1, none⟩ = some (.int .i64 0) := (blk_cell BK345.out 1).trans rfl; have hcz29_2 : w27.cell? ⟨gb345, 2, none⟩ = some (.int .i64 0) := (blk_cell BK345.out 2).trans rfl; have hcz29_3 : w27.cell? ⟨gb345, 3, none⟩ = some (.int .i64 0) := (blk_cell BK345.out 3).trans rfl; have hcz29_4 : w27.cell? ⟨gb345, 4, none⟩ = some (.int .i64 0) := (blk_cell BK345.out 4).trans rfl; have hfz29_0 := blk_frozen BK345.out 0; have hfz29_1 := blk_frozen BK345.out 1; have hfz29_2 := blk_frozen BK345.out 2; have hfz29_3 := blk_frozen BK345.out 3; have hfz29_4 := blk_frozen BK345.out 4)
           repeat (go_quiet (fail); go_upto_region 12 with (fail))
           (try simp only [Act.put, List.setIfInBounds_toArray, List.set_cons_zero, List.set_cons_succ])
           go_cut [99] (fun v99 wc => ∃ (kq : Nat) (x99_24 : Bool), v99 = .bool x99_24 ∧ Aside0 (spec_AutoOK.j3 kq x4_3 x99_24 a0_0 l0_1 l0_2 ((rd_T39 l0_1 x4_3).f0) ((rd_T39 l0_1 x4_3).f1) ((rd_T39 l0_1 x4_3).f2) ((rd_T39 l0_1 x4_3).f3) ((rd_T39 l0_1 x4_3).f4) = some r) ∧ Aside0 (kq ≤ k3) ∧ Aside0 (wc.heap[gb339]? = some (.cells #[.string a0_0, (.slice (some ad344) l0_1.length c0_1), (.slice A0_2 l0_2.length c0_2)] 27 (0, 0))) ∧ Aside0 (wc.heap[gb345]? = some (.cells #[.string ((rd_T39 l0_1 x4_3).f0), .int .i64 ((rd_T39 l0_1 x4_3).f1), .int .i64 ((rd_T39 l0_1 x4_3).f2), .int .i64 ((rd_T39 l0_1 x4_3).f3), .int .i64 ((rd_T39 l0_1 x4_3).f4)] 39 (0, 0))) ∧ Aside0 (Below w.heap.size w wc))
           case first =>
            have H := HC25.out
            clear HC25
            by_cases c30 : (((rd_T39 l0_1 x4_3).f0).size : Int) = 16
            ·
             rw [if_pos c30] at H
             have c30b0 : ((((rd_T39 l0_1 x4_3).f0).size : Int) == 16) = true := beq_iff_eq.mpr c30
             have c30b1 : ((((rd_T39 l0_1 x4_3).f0).size : Int) != 16) = false := bne_eq_false_iff_eq.mpr c30
             clear c30
             (skip)
             replace H := Option.bind_eq_some_iff.mp H
             obtain ⟨t346, A310, H⟩ := H
             have A31 := Aside0.mk A310
             clear A310
             by_cases c32 : t346 = x4_3
             ·
              rw [if_pos c32] at H
              have c32b0 : (t346 == x4_3) = true := beq_iff_eq.mpr c32
              have c32b1 : (t346 != x4_3) = false := bne_eq_false_iff_eq.mpr c32
              clear c32
              replace H := Option.bind_eq_some_iff.mp H
              obtain ⟨t347, A330, H⟩ := H
              have A33 := Aside0.mk A330
              clear A330
              by_cases c34 : t347 = true
              ·
               subst c34
               rw [if_pos rfl] at H
               have H' := Aside0.mk H
               clear H
               have hnb35 := NB345_339.out
               have hnc35 := NB339_345.out
               have hcz36_0 : w27.cell? ⟨gb345, 0, none⟩ = some (.string (⟨#[]⟩ : ByteArray)) := (blk_cell BK345.out 0).trans rfl
               have hcz36_1 : w27.cell? ⟨gb345, 1, none⟩ = some (.int .i64 0) := (blk_cell BK345.out 1).trans rfl
               have hcz36_2 : w27.cell? ⟨gb345, 2, none⟩ = some (.int .i64 0) := (blk_cell BK345.out 2).trans rfl
               have hcz36_3 : w27.cell? ⟨gb345, 3, none⟩ = some (.int .i64 0) := (blk_cell BK345.out 3).trans rfl
               have hcz36_4 : w27.cell? ⟨gb345, 4, none⟩ = some (.int .i64 0) := (blk_cell BK345.out 4).trans rfl
               have hfz36_0 := blk_frozen BK345.out 0
               have hfz36_1 := blk_frozen BK345.out 1
               have hfz36_2 := blk_frozen BK345.out 2
               have hfz36_3 := blk_frozen BK345.out 3
               have hfz36_4 := blk_frozen BK345.out 4
               have hcz37_0 : w27.cell? ⟨gb339, 0, none⟩ = some (.string a0_0) := (blk_cell BK339.out 0).trans rfl
               have hcz37_1 : w27.cell? ⟨gb339, 1, none⟩ = some (.slice (some ad344) l0_1.length c0_1) := (blk_cell BK339.out 1).trans rfl
               have hcz37_2 : w27.cell? ⟨gb339, 2, none⟩ = some (.slice A0_2 l0_2.length c0_2) := (blk_cell BK339.out 2).trans rfl
               have hfz37_0 := blk_frozen BK339.out 0
               have hfz37_1 := blk_frozen BK339.out 1
               have hfz37_2 := blk_frozen BK339.out 2
               go_wp2_with (first | (go_at_call 36; (with_reducible refine (spec_l14Find.calls k3 _ _ l0_1 ((rd_T39 l0_1 x4_3).f0) t346 _ ?side1 ?side2 A31.out).mono ?_); (case side1 => exact Kd.C_below HR0_1.out (by repeat ((with_reducible first | exact HB.out | refine below_set ?_ GE345.out)))); (case side2 => exact HC0_1.out); rintro e w' ⟨rfl, ⟨nd, rfl⟩⟩; (try first | exact ⟨rfl, _, World.drewN_drewN _ _ _⟩ | exact ⟨rfl, _, Eq.trans (World.drewN_drewN _ _ _) (congrArg (World.drewN _) (Nat.add_assoc _ _ _))⟩)) | (go_at_call 35; (with_reducible refine (spec_l14Text.calls k3 _ _ l0_2 ((rd_T39 l0_1 x4_3).f0) true _ ?side1 ?side2 A33.out).mono ?_); (case side1 => exact Kd.C_below HR0_2.out (by repeat ((with_reducible first | exact HB.out | apply pw_below_drewN | refine below_set ?_ GE345.out)))); (case side2 => exact HC0_2.out); rintro e w' ⟨rfl, ⟨nd, rfl⟩⟩; (try first | exact ⟨rfl, _, World.drewN_drewN _ _ _⟩ | exact ⟨rfl, _, Eq.trans (World.drewN_drewN _ _ _) (congrArg (World.drewN _) (Nat.add_assoc _ _ _))⟩)))
               repeat (go_quiet (fail); try go_wp2_with (fail))
               go_meet
               case rel => exact ⟨_, (true), (by rfl), H', ⟨by have := HJ1.out; have := HK2.out; have := HK3.out; omega⟩, ⟨by (with_reducible repeat (refine blk_drewN ?_ _)); refine blk_far ?_ NB339_345.out _; refine blk_far ?_ NB339_345.out _; refine blk_far ?_ NB339_345.out _; refine blk_far ?_ NB339_345.out _; refine blk_far ?_ NB339_345.out _; exact BK339.out⟩, ⟨by (with_reducible repeat (refine blk_drewN ?_ _)); refine blk_put (cs := #[.string ((rd_T39 l0_1 x4_3).f0), .int .i64 ((rd_T39 l0_1 x4_3).f1), .int .i64 ((rd_T39 l0_1 x4_3).f2), .int .i64 ((rd_T39 l0_1 x4_3).f3), .int .i64 0]) ?_ 4 _ rfl; refine blk_put (cs := #[.string ((rd_T39 l0_1 x4_3).f0), .int .i64 ((rd_T39 l0_1 x4_3).f1), .int .i64 ((rd_T39 l0_1 x4_3).f2), .int .i64 0, .int .i64 0]) ?_ 3 _ rfl; refine blk_put (cs := #[.string ((rd_T39 l0_1 x4_3).f0), .int .i64 ((rd_T39 l0_1 x4_3).f1), .int .i64 0, .int .i64 0, .int .i64 0]) ?_ 2 _ rfl; refine blk_put (cs := #[.string ((rd_T39 l0_1 x4_3).f0), .int .i64 0, .int .i64 0, .int .i64 0, .int .i64 0]) ?_ 1 _ rfl; refine blk_put (cs := #[.string (⟨#[]⟩ : ByteArray), .int .i64 0, .int .i64 0, .int .i64 0, .int .i64 0]) ?_ 0 _ rfl; exact BK345.out⟩, ⟨by repeat ((with_reducible first | exact HB.out | apply pw_below_drewN | refine below_set ?_ GE345.out))⟩⟩
              ·
               replace c34 := Bool.eq_false_iff.mpr c34
               subst c34
               rw [if_neg (show ¬ (false = true) by decide)] at H
               replace H := Option.bind_eq_some_iff.mp H
               obtain ⟨t348, A380, H⟩ := H
               have A38 := Aside0.mk A380
               clear A380
               by_cases c39 : t348 = true
               ·
                subst c39
                rw [if_pos rfl] at H
                replace H := Option.bind_eq_some_iff.mp H
                obtain ⟨t349, A400, H⟩ := H
                have A40 := Aside0.mk A400
                clear A400
                by_cases c41 : t349 = true
                ·
                 subst c41
                 rw [if_pos rfl] at H
                 replace H := Option.bind_eq_some_iff.mp H
                 obtain ⟨t350, A420, H⟩ := H
                 have A42 := Aside0.mk A420
                 clear A420
                 have H' := Aside0.mk H
                 clear H
                 have hnb43 := NB345_339.out
                 have hnc43 := NB339_345.out
                 have hcz44_0 : w27.cell? ⟨gb345, 0, none⟩ = some (.string (⟨#[]⟩ : ByteArray)) := (blk_cell BK345.out 0).trans rfl
                 have hcz44_1 : w27.cell? ⟨gb345, 1, none⟩ = some (.int .i64 0) := (blk_cell BK345.out 1).trans rfl
                 have hcz44_2 : w27.cell? ⟨gb345, 2, none⟩ = some (.int .i64 0) := (blk_cell BK345.out 2).trans rfl
                 have hcz44_3 : w27.cell? ⟨gb345, 3, none⟩ = some (.int .i64 0) := (blk_cell BK345.out 3).trans rfl
                 have hcz44_4 : w27.cell? ⟨gb345, 4, none⟩ = some (.int .i64 0) := (blk_cell BK345.out 4).trans rfl
                 have hfz44_0 := blk_frozen BK345.out 0
                 have hfz44_1 := blk_frozen BK345.out 1
                 have hfz44_2 := blk_frozen BK345.out 2
                 have hfz44_3 := blk_frozen BK345.out 3
                 have hfz44_4 := blk_frozen BK345.out 4
                 have hcz45_0 : w27.cell? ⟨gb339, 0, none⟩ = some (.string a0_0) := (blk_cell BK339.out 0).trans rfl
                 have hcz45_1 : w27.cell? ⟨gb339, 1, none⟩ = some (.slice (some ad344) l0_1.length c0_1) := (blk_cell BK339.out 1).trans rfl
                 have hcz45_2 : w27.cell? ⟨gb339, 2, none⟩ = some (.slice A0_2 l0_2.length c0_2) := (blk_cell BK339.out 2).trans rfl
                 have hfz45_0 := blk_frozen BK339.out 0
                 have hfz45_1 := blk_frozen BK339.out 1
                 have hfz45_2 := blk_frozen BK339.out 2
                 go_wp2_with (first | (go_at_call 36; (with_reducible refine (spec_l14Find.calls k3 _ _ l0_1 ((rd_T39 l0_1 x4_3).f0) t346 _ ?side1 ?side2 A31.out).mono ?_); (case side1 => exact Kd.C_below HR0_1.out (by repeat ((with_reducible first | exact HB.out | refine below_set ?_ GE345.out)))); (case side2 => exact HC0_1.out); rintro e w' ⟨rfl, ⟨nd, rfl⟩⟩; (try first | exact ⟨rfl, _, World.drewN_drewN _ _ _⟩ | exact ⟨rfl, _, Eq.trans (World.drewN_drewN _ _ _) (congrArg (World.drewN _) (Nat.add_assoc _ _ _))⟩)) | (go_at_call 35; (with_reducible refine (spec_l14Text.calls k3 _ _ l0_2 ((rd_T39 l0_1 x4_3).f0) false _ ?side1 ?side2 A33.out).mono ?_); (case side1 => exact Kd.C_below HR0_2.out (by repeat ((with_reducible first | exact HB.out | apply pw_below_drewN | refine below_set ?_ GE345.out)))); (case side2 => exact HC0_2.out); rintro e w' ⟨rfl, ⟨nd, rfl⟩⟩; (try first | exact ⟨rfl, _, World.drewN_drewN _ _ _⟩ | exact ⟨rfl, _, Eq.trans (World.drewN_drewN _ _ _) (congrArg (World.drewN _) (Nat.add_assoc _ _ _))⟩)) | (go_at_call 37; (with_reducible refine (spec_l01In.calls ((rd_T39 l0_1 x4_3).f1) 1 3 true _ A38.out).mono ?_); rintro e w' ⟨rfl, ⟨nd, rfl⟩⟩; (try first | exact ⟨rfl, _, World.drewN_drewN _ _ _⟩ | exact ⟨rfl, _, Eq.trans (World.drewN_drewN _ _ _) (congrArg (World.drewN _) (Nat.add_assoc _ _ _))⟩)) | (go_at_call 37; (with_reducible refine (spec_l01In.calls ((rd_T39 l0_1 x4_3).f3) 1 100000 true _ A40.out).mono ?_); rintro e w' ⟨rfl, ⟨nd, rfl⟩⟩; (try first | exact ⟨rfl, _, World.drewN_drewN _ _ _⟩ | exact ⟨rfl, _, Eq.trans (World.drewN_drewN _ _ _) (congrArg (World.drewN _) (Nat.add_assoc _ _ _))⟩)) | (go_at_call 37; (with_reducible refine (spec_l01In.calls ((rd_T39 l0_1 x4_3).f4) 0 ((rd_T39 l0_1 x4_3).f3) t350 _ A42.out).mono ?_); rintro e w' ⟨rfl, ⟨nd, rfl⟩⟩; (try first | exact ⟨rfl, _, World.drewN_drewN _ _ _⟩ | exact ⟨rfl, _, Eq.trans (World.drewN_drewN _ _ _) (congrArg (World.drewN _) (Nat.add_assoc _ _ _))⟩)))
                 repeat (go_quiet (fail); try go_wp2_with (fail))
                 go_meet
                 case rel => exact ⟨_, (!t350), (by rfl), H', ⟨by have := HJ1.out; have := HK2.out; have := HK3.out; omega⟩, ⟨by (with_reducible repeat (refine blk_drewN ?_ _)); refine blk_far ?_ NB339_345.out _; refine blk_far ?_ NB339_345.out _; refine blk_far ?_ NB339_345.out _; refine blk_far ?_ NB339_345.out _; refine blk_far ?_ NB339_345.out _; exact BK339.out⟩, ⟨by (with_reducible repeat (refine blk_drewN ?_ _)); refine blk_put (cs := #[.string ((rd_T39 l0_1 x4_3).f0), .int .i64 ((rd_T39 l0_1 x4_3).f1), .int .i64 ((rd_T39 l0_1 x4_3).f2), .int .i64 ((rd_T39 l0_1 x4_3).f3), .int .i64 0]) ?_ 4 _ rfl; refine blk_put (cs := #[.string ((rd_T39 l0_1 x4_3).f0), .int .i64 ((rd_T39 l0_1 x4_3).f1), .int .i64 ((rd_T39 l0_1 x4_3).f2), .int .i64 0, .int .i64 0]) ?_ 3 _ rfl; refine blk_put (cs := #[.string ((rd_T39 l0_1 x4_3).f0), .int .i64 ((rd_T39 l0_1 x4_3).f1), .int .i64 0, .int .i64 0, .int .i64 0]) ?_ 2 _ rfl; refine blk_put (cs := #[.string ((rd_T39 l0_1 x4_3).f0), .int .i64 0, .int .i64 0, .int .i64 0, .int .i64 0]) ?_ 1 _ rfl; refine blk_put (cs := #[.string (⟨#[]⟩ : ByteArray), .int .i64 0, .int .i64 0, .int .i64 0, .int .i64 0]) ?_ 0 _ rfl; exact BK345.out⟩, ⟨by repeat ((with_reducible first | exact HB.out | apply pw_below_drewN | refine below_set ?_ GE345.out))⟩⟩
                ·
                 replace c41 := Bool.eq_false_iff.mpr c41
                 subst c41
                 rw [if_neg (show ¬ (false = true) by decide)] at H
                 have H' := Aside0.mk H
                 clear H
                 have hnb46 := NB345_339.out
                 have hnc46 := NB339_345.out
                 have hcz47_0 : w27.cell? ⟨gb345, 0, none⟩ = some (.string (⟨#[]⟩ : ByteArray)) := (blk_cell BK345.out 0).trans rfl
                 have hcz47_1 : w27.cell? ⟨gb345, 1, none⟩ = some (.int .i64 0) := (blk_cell BK345.out 1).trans rfl
                 have hcz47_2 : w27.cell? ⟨gb345, 2, none⟩ = some (.int .i64 0) := (blk_cell BK345.out 2).trans rfl
                 have hcz47_3 : w27.cell? ⟨gb345, 3, none⟩ = some (.int .i64 0) := (blk_cell BK345.out 3).trans rfl
                 have hcz47_4 : w27.cell? ⟨gb345, 4, none⟩ = some (.int .i64 0) := (blk_cell BK345.out 4).trans rfl
                 have hfz47_0 := blk_frozen BK345.out 0
                 have hfz47_1 := blk_frozen BK345.out 1
                 have hfz47_2 := blk_frozen BK345.out 2
                 have hfz47_3 := blk_frozen BK345.out 3
                 have hfz47_4 := blk_frozen BK345.out 4
                 have hcz48_0 : w27.cell? ⟨gb339, 0, none⟩ = some (.string a0_0) := (blk_cell BK339.out 0).trans rfl
                 have hcz48_1 : w27.cell? ⟨gb339, 1, none⟩ = some (.slice (some ad344) l0_1.length c0_1) := (blk_cell BK339.out 1).trans rfl
                 have hcz48_2 : w27.cell? ⟨gb339, 2, none⟩ = some (.slice A0_2 l0_2.length c0_2) := (blk_cell BK339.out 2).trans rfl
                 have hfz48_0 := blk_frozen BK339.out 0
                 have hfz48_1 := blk_frozen BK339.out 1
                 have hfz48_2 := blk_frozen BK339.out 2
                 go_wp2_with (first | (go_at_call 36; (with_reducible refine (spec_l14Find.calls k3 _ _ l0_1 ((rd_T39 l0_1 x4_3).f0) t346 _ ?side1 ?side2 A31.out).mono ?_); (case side1 => exact Kd.C_below HR0_1.out (by repeat ((with_reducible first | exact HB.out | refine below_set ?_ GE345.out)))); (case side2 => exact HC0_1.out); rintro e w' ⟨rfl, ⟨nd, rfl⟩⟩; (try first | exact ⟨rfl, _, World.drewN_drewN _ _ _⟩ | exact ⟨rfl, _, Eq.trans (World.drewN_drewN _ _ _) (congrArg (World.drewN _) (Nat.add_assoc _ _ _))⟩)) | (go_at_call 35; (with_reducible refine (spec_l14Text.calls k3 _ _ l0_2 ((rd_T39 l0_1 x4_3).f0) false _ ?side1 ?side2 A33.out).mono ?_); (case side1 => exact Kd.C_below HR0_2.out (by repeat ((with_reducible first | exact HB.out | apply pw_below_drewN | refine below_set ?_ GE345.out)))); (case side2 => exact HC0_2.out); rintro e w' ⟨rfl, ⟨nd, rfl⟩⟩; (try first | exact ⟨rfl, _, World.drewN_drewN _ _ _⟩ | exact ⟨rfl, _, Eq.trans (World.drewN_drewN _ _ _) (congrArg (World.drewN _) (Nat.add_assoc _ _ _))⟩)) | (go_at_call 37; (with_reducible refine (spec_l01In.calls ((rd_T39 l0_1 x4_3).f1) 1 3 true _ A38.out).mono ?_); rintro e w' ⟨rfl, ⟨nd, rfl⟩⟩; (try first | exact ⟨rfl, _, World.drewN_drewN _ _ _⟩ | exact ⟨rfl, _, Eq.trans (World.drewN_drewN _ _ _) (congrArg (World.drewN _) (Nat.add_assoc _ _ _))⟩)) | (go_at_call 37; (with_reducible refine (spec_l01In.calls ((rd_T39 l0_1 x4_3).f3) 1 100000 false _ A40.out).mono ?_); rintro e w' ⟨rfl, ⟨nd, rfl⟩⟩; (try first | exact ⟨rfl, _, World.drewN_drewN _ _ _⟩ | exact ⟨rfl, _, Eq.trans (World.drewN_drewN _ _ _) (congrArg (World.drewN _) (Nat.add_assoc _ _ _))⟩)))
                 repeat (go_quiet (fail); try go_wp2_with (fail))
                 go_meet
                 case rel => exact ⟨_, (true), (by rfl), H', ⟨by have := HJ1.out; have := HK2.out; have := HK3.out; omega⟩, ⟨by (with_reducible repeat (refine blk_drewN ?_ _)); refine blk_far ?_ NB339_345.out _; refine blk_far ?_ NB339_345.out _; refine blk_far ?_ NB339_345.out _; refine blk_far ?_ NB339_345.out _; refine blk_far ?_ NB339_345.out _; exact BK339.out⟩, ⟨by (with_reducible repeat (refine blk_drewN ?_ _)); refine blk_put (cs := #[.string ((rd_T39 l0_1 x4_3).f0), .int .i64 ((rd_T39 l0_1 x4_3).f1), .int .i64 ((rd_T39 l0_1 x4_3).f2), .int .i64 ((rd_T39 l0_1 x4_3).f3), .int .i64 0]) ?_ 4 _ rfl; refine blk_put (cs := #[.string ((rd_T39 l0_1 x4_3).f0), .int .i64 ((rd_T39 l0_1 x4_3).f1), .int .i64 ((rd_T39 l0_1 x4_3).f2), .int .i64 0, .int .i64 0]) ?_ 3 _ rfl; refine blk_put (cs := #[.string ((rd_T39 l0_1 x4_3).f0), .int .i64 ((rd_T39 l0_1 x4_3).f1), .int .i64 0, .int .i64 0, .int .i64 0]) ?_ 2 _ rfl; refine blk_put (cs := #[.string ((rd_T39 l0_1 x4_3).f0), .int .i64 0, .int .i64 0, .int .i64 0, .int .i64 0]) ?_ 1 _ rfl; refine blk_put (cs := #[.string (⟨#[]⟩ : ByteArray), .int .i64 0, .int .i64 0, .int .i64 0, .int .i64 0]) ?_ 0 _ rfl; exact BK345.out⟩, ⟨by repeat ((with_reducible first | exact HB.out | apply pw_below_drewN | refine below_set ?_ GE345.out))⟩⟩
               ·
                replace c39 := Bool.eq_false_iff.mpr c39
                subst c39
                rw [if_neg (show ¬ (false = true) by decide)] at H
                have H' := Aside0.mk H
                clear H
                have hnb49 := NB345_339.out
                have hnc49 := NB339_345.out
                have hcz50_0 : w27.cell? ⟨gb345, 0, none⟩ = some (.string (⟨#[]⟩ : ByteArray)) := (blk_cell BK345.out 0).trans rfl
                have hcz50_1 : w27.cell? ⟨gb345, 1, none⟩ = some (.int .i64 0) := (blk_cell BK345.out 1).trans rfl
                have hcz50_2 : w27.cell? ⟨gb345, 2, none⟩ = some (.int .i64 0) := (blk_cell BK345.out 2).trans rfl
                have hcz50_3 : w27.cell? ⟨gb345, 3, none⟩ = some (.int .i64 0) := (blk_cell BK345.out 3).trans rfl
                have hcz50_4 : w27.cell? ⟨gb345, 4, none⟩ = some (.int .i64 0) := (blk_cell BK345.out 4).trans rfl
                have hfz50_0 := blk_frozen BK345.out 0
                have hfz50_1 := blk_frozen BK345.out 1
                have hfz50_2 := blk_frozen BK345.out 2
                have hfz50_3 := blk_frozen BK345.out 3
                have hfz50_4 := blk_frozen BK345.out 4
                have hcz51_0 : w27.cell? ⟨gb339, 0, none⟩ = some (.string a0_0) := (blk_cell BK339.out 0).trans rfl
                have hcz51_1 : w27.cell? ⟨gb339, 1, none⟩ = some (.slice (some ad344) l0_1.length c0_1) := (blk_cell BK339.out 1).trans rfl
                have hcz51_2 : w27.cell? ⟨gb339, 2, none⟩ = some (.slice A0_2 l0_2.length c0_2) := (blk_cell BK339.out 2).trans rfl
                have hfz51_0 := blk_frozen BK339.out 0
                have hfz51_1 := blk_frozen BK339.out 1
                have hfz51_2 := blk_frozen BK339.out 2
                go_wp2_with (first | (go_at_call 36; (with_reducible refine (spec_l14Find.calls k3 _ _ l0_1 ((rd_T39 l0_1 x4_3).f0) t346 _ ?side1 ?side2 A31.out).mono ?_); (case side1 => exact Kd.C_below HR0_1.out (by repeat ((with_reducible first | exact HB.out | refine below_set ?_ GE345.out)))); (case side2 => exact HC0_1.out); rintro e w' ⟨rfl, ⟨nd, rfl⟩⟩; (try first | exact ⟨rfl, _, World.drewN_drewN _ _ _⟩ | exact ⟨rfl, _, Eq.trans (World.drewN_drewN _ _ _) (congrArg (World.drewN _) (Nat.add_assoc _ _ _))⟩)) | (go_at_call 35; (with_reducible refine (spec_l14Text.calls k3 _ _ l0_2 ((rd_T39 l0_1 x4_3).f0) false _ ?side1 ?side2 A33.out).mono ?_); (case side1 => exact Kd.C_below HR0_2.out (by repeat ((with_reducible first | exact HB.out | apply pw_below_drewN | refine below_set ?_ GE345.out)))); (case side2 => exact HC0_2.out); rintro e w' ⟨rfl, ⟨nd, rfl⟩⟩; (try first | exact ⟨rfl, _, World.drewN_drewN _ _ _⟩ | exact ⟨rfl, _, Eq.trans (World.drewN_drewN _ _ _) (congrArg (World.drewN _) (Nat.add_assoc _ _ _))⟩)) | (go_at_call 37; (with_reducible refine (spec_l01In.calls ((rd_T39 l0_1 x4_3).f1) 1 3 false _ A38.out).mono ?_); rintro e w' ⟨rfl, ⟨nd, rfl⟩⟩; (try first | exact ⟨rfl, _, World.drewN_drewN _ _ _⟩ | exact ⟨rfl, _, Eq.trans (World.drewN_drewN _ _ _) (congrArg (World.drewN _) (Nat.add_assoc _ _ _))⟩)))
                repeat (go_quiet (fail); try go_wp2_with (fail))
                go_meet
                case rel => exact ⟨_, (true), (by rfl), H', ⟨by have := HJ1.out; have := HK2.out; have := HK3.out; omega⟩, ⟨by (with_reducible repeat (refine blk_drewN ?_ _)); refine blk_far ?_ NB339_345.out _; refine blk_far ?_ NB339_345.out _; refine blk_far ?_ NB339_345.out _; refine blk_far ?_ NB339_345.out _; refine blk_far ?_ NB339_345.out _; exact BK339.out⟩, ⟨by (with_reducible repeat (refine blk_drewN ?_ _)); refine blk_put (cs := #[.string ((rd_T39 l0_1 x4_3).f0), .int .i64 ((rd_T39 l0_1 x4_3).f1), .int .i64 ((rd_T39 l0_1 x4_3).f2), .int .i64 ((rd_T39 l0_1 x4_3).f3), .int .i64 0]) ?_ 4 _ rfl; refine blk_put (cs := #[.string ((rd_T39 l0_1 x4_3).f0), .int .i64 ((rd_T39 l0_1 x4_3).f1), .int .i64 ((rd_T39 l0_1 x4_3).f2), .int .i64 0, .int .i64 0]) ?_ 3 _ rfl; refine blk_put (cs := #[.string ((rd_T39 l0_1 x4_3).f0), .int .i64 ((rd_T39 l0_1 x4_3).f1), .int .i64 0, .int .i64 0, .int .i64 0]) ?_ 2 _ rfl; refine blk_put (cs := #[.string ((rd_T39 l0_1 x4_3).f0), .int .i64 0, .int .i64 0, .int .i64 0, .int .i64 0]) ?_ 1 _ rfl; refine blk_put (cs := #[.string (⟨#[]⟩ : ByteArray), .int .i64 0, .int .i64 0, .int .i64 0, .int .i64 0]) ?_ 0 _ rfl; exact BK345.out⟩, ⟨by repeat ((with_reducible first | exact HB.out | apply pw_below_drewN | refine below_set ?_ GE345.out))⟩⟩
             ·
              rw [if_neg c32] at H
              have c32b0 : (t346 == x4_3) = false := beq_eq_false_iff_ne.mpr c32
              have c32b1 : (t346 != x4_3) = true := bne_iff_ne.mpr c32
              have H' := Aside0.mk H
              clear H
              have hnb52 := NB345_339.out
              have hnc52 := NB339_345.out
              have hcz53_0 : w27.cell? ⟨gb345, 0, none⟩ = some (.string (⟨#[]⟩ : ByteArray)) := (blk_cell BK345.out 0).trans rfl
              have hcz53_1 : w27.cell? ⟨gb345, 1, none⟩ = some (.int .i64 0) := (blk_cell BK345.out 1).trans rfl
              have hcz53_2 : w27.cell? ⟨gb345, 2, none⟩ = some (.int .i64 0) := (blk_cell BK345.out 2).trans rfl
              have hcz53_3 : w27.cell? ⟨gb345, 3, none⟩ = some (.int .i64 0) := (blk_cell BK345.out 3).trans rfl
              have hcz53_4 : w27.cell? ⟨gb345, 4, none⟩ = some (.int .i64 0) := (blk_cell BK345.out 4).trans rfl
              have hfz53_0 := blk_frozen BK345.out 0
              have hfz53_1 := blk_frozen BK345.out 1
              have hfz53_2 := blk_frozen BK345.out 2
              have hfz53_3 := blk_frozen BK345.out 3
              have hfz53_4 := blk_frozen BK345.out 4
              have hcz54_0 : w27.cell? ⟨gb339, 0, none⟩ = some (.string a0_0) := (blk_cell BK339.out 0).trans rfl
              have hcz54_1 : w27.cell? ⟨gb339, 1, none⟩ = some (.slice (some ad344) l0_1.length c0_1) := (blk_cell BK339.out 1).trans rfl
              have hcz54_2 : w27.cell? ⟨gb339, 2, none⟩ = some (.slice A0_2 l0_2.length c0_2) := (blk_cell BK339.out 2).trans rfl
              have hfz54_0 := blk_frozen BK339.out 0
              have hfz54_1 := blk_frozen BK339.out 1
              have hfz54_2 := blk_frozen BK339.out 2
              go_wp2_with (go_at_call 36; (with_reducible refine (spec_l14Find.calls k3 _ _ l0_1 ((rd_T39 l0_1 x4_3).f0) t346 _ ?side1 ?side2 A31.out).mono ?_); (case side1 => exact Kd.C_below HR0_1.out (by repeat ((with_reducible first | exact HB.out | refine below_set ?_ GE345.out)))); (case side2 => exact HC0_1.out); rintro e w' ⟨rfl, ⟨nd, rfl⟩⟩; (try first | exact ⟨rfl, _, World.drewN_drewN _ _ _⟩ | exact ⟨rfl, _, Eq.trans (World.drewN_drewN _ _ _) (congrArg (World.drewN _) (Nat.add_assoc _ _ _))⟩))
              repeat (go_quiet (fail); try go_wp2_with (fail))
              go_meet
              case rel => exact ⟨_, (true), (by rfl), H', ⟨by have := HJ1.out; have := HK2.out; have := HK3.out; omega⟩, ⟨by (with_reducible repeat (refine blk_drewN ?_ _)); refine blk_far ?_ NB339_345.out _; refine blk_far ?_ NB339_345.out _; refine blk_far ?_ NB339_345.out _; refine blk_far ?_ NB339_345.out _; refine blk_far ?_ NB339_345.out _; exact BK339.out⟩, ⟨by (with_reducible repeat (refine blk_drewN ?_ _)); refine blk_put (cs := #[.string ((rd_T39 l0_1 x4_3).f0), .int .i64 ((rd_T39 l0_1 x4_3).f1), .int .i64 ((rd_T39 l0_1 x4_3).f2), .int .i64 ((rd_T39 l0_1 x4_3).f3), .int .i64 0]) ?_ 4 _ rfl; refine blk_put (cs := #[.string ((rd_T39 l0_1 x4_3).f0), .int .i64 ((rd_T39 l0_1 x4_3).f1), .int .i64 ((rd_T39 l0_1 x4_3).f2), .int .i64 0, .int .i64 0]) ?_ 3 _ rfl; refine blk_put (cs := #[.string ((rd_T39 l0_1 x4_3).f0), .int .i64 ((rd_T39 l0_1 x4_3).f1), .int .i64 0, .int .i64 0, .int .i64 0]) ?_ 2 _ rfl; refine blk_put (cs := #[.string ((rd_T39 l0_1 x4_3).f0), .int .i64 0, .int .i64 0, .int .i64 0, .int .i64 0]) ?_ 1 _ rfl; refine blk_put (cs := #[.string (⟨#[]⟩ : ByteArray), .int .i64 0, .int .i64 0, .int .i64 0, .int .i64 0]) ?_ 0 _ rfl; exact BK345.out⟩, ⟨by repeat ((with_reducible first | exact HB.out | apply pw_below_drewN | refine below_set ?_ GE345.out))⟩⟩
            ·
             rw [if_neg c30] at H
             have c30b0 : ((((rd_T39 l0_1 x4_3).f0).size : Int) == 16) = false := beq_eq_false_iff_ne.mpr c30
             have c30b1 : ((((rd_T39 l0_1 x4_3).f0).size : Int) != 16) = true := bne_iff_ne.mpr c30
             (skip)
             have H' := Aside0.mk H
             clear H
             have hnb55 := NB345_339.out
             have hnc55 := NB339_345.out
             have hcz56_0 : w27.cell? ⟨gb345, 0, none⟩ = some (.string (⟨#[]⟩ : ByteArray)) := (blk_cell BK345.out 0).trans rfl
             have hcz56_1 : w27.cell? ⟨gb345, 1, none⟩ = some (.int .i64 0) := (blk_cell BK345.out 1).trans rfl
             have hcz56_2 : w27.cell? ⟨gb345, 2, none⟩ = some (.int .i64 0) := (blk_cell BK345.out 2).trans rfl
             have hcz56_3 : w27.cell? ⟨gb345, 3, none⟩ = some (.int .i64 0) := (blk_cell BK345.out 3).trans rfl
             have hcz56_4 : w27.cell? ⟨gb345, 4, none⟩ = some (.int .i64 0) := (blk_cell BK345.out 4).trans rfl
             have hfz56_0 := blk_frozen BK345.out 0
             have hfz56_1 := blk_frozen BK345.out 1
             have hfz56_2 := blk_frozen BK345.out 2
             have hfz56_3 := blk_frozen BK345.out 3
             have hfz56_4 := blk_frozen BK345.out 4
             go_wp2
             repeat (go_quiet (fail); try go_wp2)
             go_meet
             case rel => exact ⟨_, (true), (by rfl), H', ⟨by have := HJ1.out; have := HK2.out; have := HK3.out; omega⟩, ⟨by refine blk_far ?_ NB339_345.out _; refine blk_far ?_ NB339_345.out _; refine blk_far ?_ NB339_345.out _; refine blk_far ?_ NB339_345.out _; refine blk_far ?_ NB339_345.out _; exact BK339.out⟩, ⟨by refine blk_put (cs := #[.string ((rd_T39 l0_1 x4_3).f0), .int .i64 ((rd_T39 l0_1 x4_3).f1), .int .i64 ((rd_T39 l0_1 x4_3).f2), .int .i64 ((rd_T39 l0_1 x4_3).f3), .int .i64 0]) ?_ 4 _ rfl; refine blk_put (cs := #[.string ((rd_T39 l0_1 x4_3).f0), .int .i64 ((rd_T39 l0_1 x4_3).f1), .int .i64 ((rd_T39 l0_1 x4_3).f2), .int .i64 0, .int .i64 0]) ?_ 3 _ rfl; refine blk_put (cs := #[.string ((rd_T39 l0_1 x4_3).f0), .int .i64 ((rd_T39 l0_1 x4_3).f1), .int .i64 0, .int .i64 0, .int .i64 0]) ?_ 2 _ rfl; refine blk_put (cs := #[.string ((rd_T39 l0_1 x4_3).f0), .int .i64 0, .int .i64 0, .int .i64 0, .int .i64 0]) ?_ 1 _ rfl; refine blk_put (cs := #[.string (⟨#[]⟩ : ByteArray), .int .i64 0, .int .i64 0, .int .i64 0, .int .i64 0]) ?_ 0 _ rfl; exact BK345.out⟩, ⟨by repeat ((with_reducible first | exact HB.out | refine below_set ?_ GE345.out))⟩⟩
           case rest =>
            clear HC25
            try clear c23b0
            try clear c24b0
            try clear hcz26_0
            try clear hcz26_1
            try clear hcz26_2
            try clear hcz29_0
            try clear hcz29_1
            try clear hcz29_2
            try clear hcz29_3
            try clear hcz29_4
            try clear hfz26_0
            try clear hfz26_1
            try clear hfz26_2
            try clear hfz29_0
            try clear hfz29_1
            try clear hfz29_2
            try clear hfz29_3
            try clear hfz29_4
            try clear hx344_0
            try clear hx344_1
            try clear hx344_2
            try clear hx344_3
            try clear hx344_4
            try clear p344
            try clear q344
            obtain ⟨kq, x99_24, rfl, HA, HJ24, BK339, BK345, HB⟩ := hcut
            cases kq with
            | zero => exact absurd HA.out (by simp [spec_AutoOK.j3])
            | succ kj24 =>
             have H := HA.out
             clear HA
             simp only [spec_AutoOK.j3] at H
             by_cases c57 : x99_24 = true
             ·
              subst c57
              rw [if_pos rfl] at H
              obtain rfl := Option.some.inj H
              go_wp2
              repeat (go_quiet (fail); try go_wp2)
              go_ret
              exact ⟨by rfl, HB.out⟩
             ·
              replace c57 := Bool.eq_false_iff.mpr c57
              subst c57
              rw [if_neg (show ¬ (false = true) by decide)] at H
              replace H := Option.bind_eq_some_iff.mp H
              obtain ⟨t351, A580, H⟩ := H
              have A58 := Aside0.mk A580
              clear A580
              by_cases c59 : ((((rd_T39 l0_1 x4_3).f1) == 1) != t351) = true
              ·
               rw [if_pos c59] at H
               have c59b0 : ((((rd_T39 l0_1 x4_3).f1) == 1) != t351) = true := c59
               (try (have c59b1 : decide ((((rd_T39 l0_1 x4_3).f1) == 1) = t351) = false := by simpa using c59))
               (try (have c59b2 : ((((rd_T39 l0_1 x4_3).f1) == 1) == t351) = false := by simpa using c59))
               (try (have c59b3 : ¬ ((((rd_T39 l0_1 x4_3).f1) == 1) = t351) := by simpa using c59))
               clear c59
               obtain rfl := Option.some.inj H
               have hnb60 := NB345_339.out
               have hnc60 := NB339_345.out
               have hcz61_0 : wc.cell? ⟨gb345, 0, none⟩ = some (.string ((rd_T39 l0_1 x4_3).f0)) := (blk_cell BK345.out 0).trans rfl
               have hcz61_1 : wc.cell? ⟨gb345, 1, none⟩ = some (.int .i64 ((rd_T39 l0_1 x4_3).f1)) := (blk_cell BK345.out 1).trans rfl
               have hcz61_2 : wc.cell? ⟨gb345, 2, none⟩ = some (.int .i64 ((rd_T39 l0_1 x4_3).f2)) := (blk_cell BK345.out 2).trans rfl
               have hcz61_3 : wc.cell? ⟨gb345, 3, none⟩ = some (.int .i64 ((rd_T39 l0_1 x4_3).f3)) := (blk_cell BK345.out 3).trans rfl
               have hcz61_4 : wc.cell? ⟨gb345, 4, none⟩ = some (.int .i64 ((rd_T39 l0_1 x4_3).f4)) := (blk_cell BK345.out 4).trans rfl
               have hfz61_0 := blk_frozen BK345.out 0
               have hfz61_1 := blk_frozen BK345.out 1
               have hfz61_2 := blk_frozen BK345.out 2
               have hfz61_3 := blk_frozen BK345.out 3
               have hfz61_4 := blk_frozen BK345.out 4
               go_wp2_with fail
               repeat (go_quiet ((go_at_call 37; (with_reducible refine (spec_l01In.calls ((rd_T39 l0_1 x4_3).f2) 1 3 t351 _ A58.out).mono ?_); rintro e w' ⟨rfl, ⟨nd, rfl⟩⟩; (try exact ⟨rfl, _, World.drewN_drewN _ _ _⟩))); try go_wp2_with (fail))
               go_ret
               exact ⟨by rfl, by repeat ((with_reducible first | exact HB.out | apply pw_below_drewN))⟩
              ·
               rw [if_neg c59] at H
               have c59b0 : ((((rd_T39 l0_1 x4_3).f1) == 1) != t351) = false := by simpa using c59
               (try (have c59b1 : decide ((((rd_T39 l0_1 x4_3).f1) == 1) = t351) = true := by simpa using c59))
               (try (have c59b2 : ((((rd_T39 l0_1 x4_3).f1) == 1) == t351) = true := by simpa using c59))
               clear c59
               by_cases c62 : ((rd_T39 l0_1 x4_3).f1) = 1
               ·
                rw [if_pos c62] at H
                have c62b0 : (((rd_T39 l0_1 x4_3).f1) == 1) = true := beq_iff_eq.mpr c62
                have c62t : t351 = true := by have hz_ := c59b0; rw [c62b0] at hz_; revert hz_; cases t351 <;> simp
                have c62b1 : (((rd_T39 l0_1 x4_3).f1) != 1) = false := bne_eq_false_iff_eq.mpr c62
                clear c62
                have H' := Aside0.mk H
                clear H
                have hnb63 := NB345_339.out
                have hnc63 := NB339_345.out
                have hcz64_0 : wc.cell? ⟨gb345, 0, none⟩ = some (.string ((rd_T39 l0_1 x4_3).f0)) := (blk_cell BK345.out 0).trans rfl
                have hcz64_1 : wc.cell? ⟨gb345, 1, none⟩ = some (.int .i64 ((rd_T39 l0_1 x4_3).f1)) := (blk_cell BK345.out 1).trans rfl
                have hcz64_2 : wc.cell? ⟨gb345, 2, none⟩ = some (.int .i64 ((rd_T39 l0_1 x4_3).f2)) := (blk_cell BK345.out 2).trans rfl
                have hcz64_3 : wc.cell? ⟨gb345, 3, none⟩ = some (.int .i64 ((rd_T39 l0_1 x4_3).f3)) := (blk_cell BK345.out 3).trans rfl
                have hcz64_4 : wc.cell? ⟨gb345, 4, none⟩ = some (.int .i64 ((rd_T39 l0_1 x4_3).f4)) := (blk_cell BK345.out 4).trans rfl
                have hfz64_0 := blk_frozen BK345.out 0
                have hfz64_1 := blk_frozen BK345.out 1
                have hfz64_2 := blk_frozen BK345.out 2
                have hfz64_3 := blk_frozen BK345.out 3
                have hfz64_4 := blk_frozen BK345.out 4
                go_wp2_with fail
                repeat (go_quiet ((go_at_call 37; (with_reducible refine (spec_l01In.calls ((rd_T39 l0_1 x4_3).f2) 1 3 t351 _ A58.out).mono ?_); rintro e w' ⟨rfl, ⟨nd, rfl⟩⟩; (try exact ⟨rfl, _, World.drewN_drewN _ _ _⟩))); try go_wp2_with (fail))
                go_roundg kj24
                case measure => have := HJ1.out; have := HK2.out; have := HK3.out; have := HJ24.out; omega
                case rel => exact ⟨(wrap64 (x4_3 + 1)), (by rfl), H', ⟨by have := HJ1.out; have := HK2.out; have := HK3.out; have := HJ24.out; omega⟩, ⟨by (with_reducible repeat (refine blk_drewN ?_ _)); exact BK339.out⟩, ⟨by repeat ((with_reducible first | exact HB.out | apply pw_below_drewN))⟩⟩
               ·
                rw [if_neg c62] at H
                have c62b0 : (((rd_T39 l0_1 x4_3).f1) == 1) = false := beq_eq_false_iff_ne.mpr c62
                have c62t : t351 = false := by have hz_ := c59b0; rw [c62b0] at hz_; revert hz_; cases t351 <;> simp
                have c62b1 : (((rd_T39 l0_1 x4_3).f1) != 1) = true := bne_iff_ne.mpr c62
                by_cases c65 : ((rd_T39 l0_1 x4_3).f2) = 0
                ·
                 rw [if_pos c65] at H
                 have c65b0 : (((rd_T39 l0_1 x4_3).f2) == 0) = true := beq_iff_eq.mpr c65
                 have c65b1 : (((rd_T39 l0_1 x4_3).f2) != 0) = false := bne_eq_false_iff_eq.mpr c65
                 clear c65
                 by_cases c66 : ((((rd_T39 l0_1 x4_3).f1) == 3) != (((rd_T39 l0_1 x4_3).f4) == 0)) = true
                 ·
                  rw [if_pos c66] at H
                  have c66b0 : ((((rd_T39 l0_1 x4_3).f1) == 3) != (((rd_T39 l0_1 x4_3).f4) == 0)) = true := c66
                  (try (have c66b1 : decide ((((rd_T39 l0_1 x4_3).f1) == 3) = (((rd_T39 l0_1 x4_3).f4) == 0)) = false := by simpa using c66))
                  (try (have c66b2 : ((((rd_T39 l0_1 x4_3).f1) == 3) == (((rd_T39 l0_1 x4_3).f4) == 0)) = false := by simpa using c66))
                  (try (have c66b3 : ¬ ((((rd_T39 l0_1 x4_3).f1) == 3) = (((rd_T39 l0_1 x4_3).f4) == 0)) := by simpa using c66))
                  clear c66
                  obtain rfl := Option.some.inj H
                  have hnb67 := NB345_339.out
                  have hnc67 := NB339_345.out
                  have hcz68_0 : wc.cell? ⟨gb345, 0, none⟩ = some (.string ((rd_T39 l0_1 x4_3).f0)) := (blk_cell BK345.out 0).trans rfl
                  have hcz68_1 : wc.cell? ⟨gb345, 1, none⟩ = some (.int .i64 ((rd_T39 l0_1 x4_3).f1)) := (blk_cell BK345.out 1).trans rfl
                  have hcz68_2 : wc.cell? ⟨gb345, 2, none⟩ = some (.int .i64 ((rd_T39 l0_1 x4_3).f2)) := (blk_cell BK345.out 2).trans rfl
                  have hcz68_3 : wc.cell? ⟨gb345, 3, none⟩ = some (.int .i64 ((rd_T39 l0_1 x4_3).f3)) := (blk_cell BK345.out 3).trans rfl
                  have hcz68_4 : wc.cell? ⟨gb345, 4, none⟩ = some (.int .i64 ((rd_T39 l0_1 x4_3).f4)) := (blk_cell BK345.out 4).trans rfl
                  have hfz68_0 := blk_frozen BK345.out 0
                  have hfz68_1 := blk_frozen BK345.out 1
                  have hfz68_2 := blk_frozen BK345.out 2
                  have hfz68_3 := blk_frozen BK345.out 3
                  have hfz68_4 := blk_frozen BK345.out 4
                  go_wp2_with fail
                  repeat (go_quiet ((go_at_call 37; (with_reducible refine (spec_l01In.calls ((rd_T39 l0_1 x4_3).f2) 1 3 t351 _ A58.out).mono ?_); rintro e w' ⟨rfl, ⟨nd, rfl⟩⟩; (try exact ⟨rfl, _, World.drewN_drewN _ _ _⟩))); try go_wp2_with (fail))
                  go_ret
                  exact ⟨by rfl, by repeat ((with_reducible first | exact HB.out | apply pw_below_drewN))⟩
                 ·
                  rw [if_neg c66] at H
                  have c66b0 : ((((rd_T39 l0_1 x4_3).f1) == 3) != (((rd_T39 l0_1 x4_3).f4) == 0)) = false := by simpa using c66
                  (try (have c66b1 : decide ((((rd_T39 l0_1 x4_3).f1) == 3) = (((rd_T39 l0_1 x4_3).f4) == 0)) = true := by simpa using c66))
                  (try (have c66b2 : ((((rd_T39 l0_1 x4_3).f1) == 3) == (((rd_T39 l0_1 x4_3).f4) == 0)) = true := by simpa using c66))
                  clear c66
                  have H' := Aside0.mk H
                  clear H
                  have hnb69 := NB345_339.out
                  have hnc69 := NB339_345.out
                  have hcz70_0 : wc.cell? ⟨gb345, 0, none⟩ = some (.string ((rd_T39 l0_1 x4_3).f0)) := (blk_cell BK345.out 0).trans rfl
                  have hcz70_1 : wc.cell? ⟨gb345, 1, none⟩ = some (.int .i64 ((rd_T39 l0_1 x4_3).f1)) := (blk_cell BK345.out 1).trans rfl
                  have hcz70_2 : wc.cell? ⟨gb345, 2, none⟩ = some (.int .i64 ((rd_T39 l0_1 x4_3).f2)) := (blk_cell BK345.out 2).trans rfl
                  have hcz70_3 : wc.cell? ⟨gb345, 3, none⟩ = some (.int .i64 ((rd_T39 l0_1 x4_3).f3)) := (blk_cell BK345.out 3).trans rfl
                  have hcz70_4 : wc.cell? ⟨gb345, 4, none⟩ = some (.int .i64 ((rd_T39 l0_1 x4_3).f4)) := (blk_cell BK345.out 4).trans rfl
                  have hfz70_0 := blk_frozen BK345.out 0
                  have hfz70_1 := blk_frozen BK345.out 1
                  have hfz70_2 := blk_frozen BK345.out 2
                  have hfz70_3 := blk_frozen BK345.out 3
                  have hfz70_4 := blk_frozen BK345.out 4
                  go_wp2_with fail
                  repeat (go_quiet ((go_at_call 37; (with_reducible refine (spec_l01In.calls ((rd_T39 l0_1 x4_3).f2) 1 3 t351 _ A58.out).mono ?_); rintro e w' ⟨rfl, ⟨nd, rfl⟩⟩; (try exact ⟨rfl, _, World.drewN_drewN _ _ _⟩))); try go_wp2_with (fail))
                  go_roundg kj24
                  case measure => have := HJ1.out; have := HK2.out; have := HK3.out; have := HJ24.out; omega
                  case rel => exact ⟨(wrap64 (x4_3 + 1)), (by rfl), H', ⟨by have := HJ1.out; have := HK2.out; have := HK3.out; have := HJ24.out; omega⟩, ⟨by (with_reducible repeat (refine blk_drewN ?_ _)); exact BK339.out⟩, ⟨by repeat ((with_reducible first | exact HB.out | apply pw_below_drewN))⟩⟩
                ·
                 rw [if_neg c65] at H
                 have c65b0 : (((rd_T39 l0_1 x4_3).f2) == 0) = false := beq_eq_false_iff_ne.mpr c65
                 have c65b1 : (((rd_T39 l0_1 x4_3).f2) != 0) = true := bne_iff_ne.mpr c65
                 obtain rfl := Option.some.inj H
                 have hnb71 := NB345_339.out
                 have hnc71 := NB339_345.out
                 have hcz72_0 : wc.cell? ⟨gb345, 0, none⟩ = some (.string ((rd_T39 l0_1 x4_3).f0)) := (blk_cell BK345.out 0).trans rfl
                 have hcz72_1 : wc.cell? ⟨gb345, 1, none⟩ = some (.int .i64 ((rd_T39 l0_1 x4_3).f1)) := (blk_cell BK345.out 1).trans rfl
                 have hcz72_2 : wc.cell? ⟨gb345, 2, none⟩ = some (.int .i64 ((rd_T39 l0_1 x4_3).f2)) := (blk_cell BK345.out 2).trans rfl
                 have hcz72_3 : wc.cell? ⟨gb345, 3, none⟩ = some (.int .i64 ((rd_T39 l0_1 x4_3).f3)) := (blk_cell BK345.out 3).trans rfl
                 have hcz72_4 : wc.cell? ⟨gb345, 4, none⟩ = some (.int .i64 ((rd_T39 l0_1 x4_3).f4)) := (blk_cell BK345.out 4).trans rfl
                 have hfz72_0 := blk_frozen BK345.out 0
                 have hfz72_1 := blk_frozen BK345.out 1
                 have hfz72_2 := blk_frozen BK345.out 2
                 have hfz72_3 := blk_frozen BK345.out 3
                 have hfz72_4 := blk_frozen BK345.out 4
                 go_wp2_with fail
                 repeat (go_quiet ((go_at_call 37; (with_reducible refine (spec_l01In.calls ((rd_T39 l0_1 x4_3).f2) 1 3 t351 _ A58.out).mono ?_); rintro e w' ⟨rfl, ⟨nd, rfl⟩⟩; (try exact ⟨rfl, _, World.drewN_drewN _ _ _⟩))); try go_wp2_with (fail))
                 go_ret
                 exact ⟨by rfl, by repeat ((with_reducible first | exact HB.out | apply pw_below_drewN))⟩
          ·
           rw [if_neg c24] at H
           exact absurd H (by simp)
         ·
          rw [if_neg c23] at H
          have c23b0 : decide (x4_3 < (l0_1.length : Int)) = false := decide_eq_false c23
          clear c23
          obtain rfl := Option.some.inj H
          have hcz73_0 : wr.cell? ⟨gb339, 0, none⟩ = some (.string a0_0) := (blk_cell BK339.out 0).trans rfl
          have hcz73_1 : wr.cell? ⟨gb339, 1, none⟩ = some (.slice A0_1 l0_1.length c0_1) := (blk_cell BK339.out 1).trans rfl
          have hcz73_2 : wr.cell? ⟨gb339, 2, none⟩ = some (.slice A0_2 l0_2.length c0_2) := (blk_cell BK339.out 2).trans rfl
          have hfz73_0 := blk_frozen BK339.out 0
          have hfz73_1 := blk_frozen BK339.out 1
          have hfz73_2 := blk_frozen BK339.out 2
          go_wp2
          repeat (go_quiet (fail); try go_wp2)
          go_ret
          exact ⟨by rfl, HB.out⟩
end Go.Proofs.Ytnpbnmhbajiefaa.PFnSources
