-- OWN TEXT of FnSources: made by own_print.sh, finished by hand
import Derived.Test.YtnpbnmhbajiefaaGFnSourcesx0
import Derived.Test.YtnpbnmhbajiefaaGFnSourcesx5
import Derived.Test.YtnpbnmhbajiefaaGFnSourcesx6
namespace Go.Proofs.Ytnpbnmhbajiefaa.PFnSources
open Go.RowKit Go.Proofs.YtnpbnmhbajiefaaW.PrintWords Go.Proofs.YtnpbnmhbajiefaaW.PrintLast Go.Proofs.YtnpbnmhbajiefaaW.PrintMore
attribute [local go_sem] max2_int min2_int max_two min_two max_three min_three max_four min_four   -- for this text's walks alone
set_option linter.unusedVariables false
set_option linter.unusedSimpArgs false
mutual
def impl_AutoOK.j0 : Nat → Bool → ByteArray → List (S39) → List ByteArray → Option (Bool)
 | 0, _, _, _, _ => none
 | k + 1, x23, x304000, x304001, x304002 => if x23 = true then (some false) else (impl_AutoOK.l0 k (([] : List ByteArray)) x304001 (x304001.length : Int) 0 x304000 x304001 x304002)
def impl_AutoOK.l0 : Nat → List ByteArray → List (S39) → Int → Int → ByteArray → List (S39) → List ByteArray → Option (Bool)
 | 0, _, _, _, _, _, _, _ => none
 | k + 1, x3, x26, x27, x28, x304000, x304001, x304002 => if x28 < x27 then (if 0 ≤ x28 then (if x28 < (x26.length : Int) then ((impl_autoAddrOK.f k ((rd_T39 x26 x28).f0) ((rd_T39 x26 x28).f1) ((rd_T39 x26 x28).f2) ((rd_T39 x26 x28).f3) ((rd_T39 x26 x28).f4)).bind fun t310 => (if t310 = true then ((slices_Contains_string_string.f k x3 ((rd_T39 x26 x28).f0)).bind fun t311 => (if t311 = true then (some false) else (if x3.length < 8796093022208 then (impl_AutoOK.l0 k (x3 ++ [(rd_T39 x26 x28).f0]) x26 x27 (wrap64 (x28 + 1)) x304000 x304001 x304002) else (none)))) else (some false))) else (none)) else (none)) else (impl_AutoOK.l1 k x3 x304002 (x304002.length : Int) 0)
def impl_AutoOK.l1 : Nat → List ByteArray → List ByteArray → Int → Int → Option (Bool)
 | 0, _, _, _, _ => none
 | k + 1, x3, x48, x49, x50 => if x50 < x49 then (if 0 ≤ x50 then (if x50 < (x48.length : Int) then ((impl_isSix.f (rdOf ByteArray.empty x48 x50)).bind fun t316 => (if t316 = true then ((slices_Contains_string_string.f k x3 (rdOf ByteArray.empty x48 x50)).bind fun t317 => (if t317 = true then (some false) else (if x3.length < 8796093022208 then (impl_AutoOK.l1 k (x3 ++ [rdOf ByteArray.empty x48 x50]) x48 x49 (wrap64 (x50 + 1))) else (none)))) else (some false))) else (none)) else (none)) else (some true)
end
def impl_AutoOK.f (k : Nat) (a0_0 : ByteArray) (l0_1 : List (S39)) (l0_2 : List ByteArray) : Option (Bool) := (impl_isLink.f a0_0).bind fun t304 => (if t304 = true then (if (l0_1.length : Int) > 6 then (impl_AutoOK.j0 k true a0_0 l0_1 l0_2) else (impl_AutoOK.j0 k (decide ((l0_2.length : Int) > 6)) a0_0 l0_1 l0_2)) else (impl_AutoOK.j0 k true a0_0 l0_1 l0_2))
set_option maxHeartbeats 8000000 in
set_option maxRecDepth 100000 in
theorem impl_AutoOK.calls (k : Nat) (a0_0 : ByteArray) (A0_1 : Option Addr) (c0_1 : Nat) (l0_1 : List (S39)) (A0_2 : Option Addr) (c0_2 : Nat) (l0_2 : List ByteArray) (r : Bool) (w : World) (hr0_1 : Kd.C k39 w A0_1 l0_1.length l0_1) (hc0_1 : l0_1.length ≤ c0_1) (hr0_2 : Kd.C Kd.string w A0_2 l0_2.length l0_2) (hc0_2 : l0_2.length ≤ c0_2) (h : impl_AutoOK.f k a0_0 l0_1 l0_2 = some r) :
  Calls Try.prog 17 #[.agg #[.string a0_0, .slice A0_1 l0_1.length c0_1, .slice A0_2 l0_2.length c0_2]] w fun e w' => e = .returned (.bool r) ∧ Below w.heap.size w w' := by
 have hu27 := Try.underlying27
 have hu39 := Try.underlying39
 have HR0_1 := Aside0.mk hr0_1
 have HC0_1 := Aside0.mk hc0_1
 clear hr0_1 hc0_1
 have HR0_2 := Aside0.mk hr0_2
 have HC0_2 := Aside0.mk hc0_2
 clear hr0_2 hc0_2
 have HB := Aside0.mk (Below.refl w.heap.size w)
 have H : ((impl_isLink.f a0_0).bind fun t304 => (if t304 = true then (if (l0_1.length : Int) > 6 then (impl_AutoOK.j0 k true a0_0 l0_1 l0_2) else (impl_AutoOK.j0 k (decide ((l0_2.length : Int) > 6)) a0_0 l0_1 l0_2)) else (impl_AutoOK.j0 k true a0_0 l0_1 l0_2))) = some r := h
 clear h
 have HC2 := Aside0.mk H
 clear H
 go_enter Try.func17, Try.ntmps17
 go_upto_region 1 with ((with_reducible refine gate_dst (N := 1) rfl ?_); (try (refine gate_guard (by rfl) ?_; dsimp only)); refine box_event ?hg (N := 1) ?hd (cs := #[.string a0_0, .slice A0_1 l0_1.length c0_1, .slice A0_2 l0_2.length c0_2]) (t := 27) ?hr ?_; (case hd => rfl); (case hg => rfl); (case hr => (go_simp; done)); intro gb303 hg w3 hbox hb; have n0_ := Aside0.mk (below_step HB.out hb); have n1_ := Aside0.mk (hbox); have n2_ := Aside0.mk ((by rw [hg]; exact (below_size HB.out) : w.heap.size ≤ gb303)); have n3_ := Aside0.mk ((by rw [hg]; exact (below_size HB.out) : w.heap.size ≤ gb303)); clear HB; have HB := n0_; have BK303 := n1_; have GW303 := n2_; have GE303 := n3_; clear n0_ n1_ n2_ n3_; clear hb hbox hg)
 (try simp only [Act.put, List.setIfInBounds_toArray, List.set_cons_zero, List.set_cons_succ])
 go_cut [23] (fun v23 wc => ∃ (kq : Nat) (x23_1 : Bool), v23 = .bool x23_1 ∧ Aside0 (impl_AutoOK.j0 kq x23_1 a0_0 l0_1 l0_2 = some r) ∧ Aside0 (kq ≤ k) ∧ Aside0 (wc.heap[gb303]? = some (.cells #[.string a0_0, (.slice A0_1 l0_1.length c0_1), (.slice A0_2 l0_2.length c0_2)] 27 (0, 0))) ∧ Aside0 (Below w.heap.size w wc))
 case first =>
  have H := HC2.out
  clear HC2
  replace H := Option.bind_eq_some_iff.mp H
  obtain ⟨t304, A40, H⟩ := H
  have A4 := Aside0.mk A40
  clear A40
  by_cases c5 : t304 = true
  ·
   subst c5
   rw [if_pos rfl] at H
   by_cases c6 : (l0_1.length : Int) > 6
   ·
    rw [if_pos c6] at H
    have c6b0 : decide (6 < (l0_1.length : Int)) = true := decide_eq_true c6
    have c6b1 : decide (6 < l0_1.length) = true := decide_eq_true (by omega)
    clear c6
    (skip)
    have H' := Aside0.mk H
    clear H
    have hcz7_0 : w3.cell? ⟨gb303, 0, none⟩ = some (.string a0_0) := (blk_cell BK303.out 0).trans rfl
    have hcz7_1 : w3.cell? ⟨gb303, 1, none⟩ = some (.slice A0_1 l0_1.length c0_1) := (blk_cell BK303.out 1).trans rfl
    have hcz7_2 : w3.cell? ⟨gb303, 2, none⟩ = some (.slice A0_2 l0_2.length c0_2) := (blk_cell BK303.out 2).trans rfl
    have hfz7_0 := blk_frozen BK303.out 0
    have hfz7_1 := blk_frozen BK303.out 1
    have hfz7_2 := blk_frozen BK303.out 2
    go_wp2_with ((with_reducible refine gate_callee (f := 26) rfl ?_); refine goesL_ (some 10) rfl rfl Try.func26 (by kernel_rfl) rfl #[.string a0_0] rfl (by (try simp only [List.map_toArray, List.map_cons, List.map_nil]); rfl) ?_; (with_reducible refine (impl_isLink.calls a0_0 true _ A4.out).mono ?_); rintro e w' ⟨rfl, ⟨nd, rfl⟩⟩; refine ⟨_, rfl, ?_⟩)
    go_meet
    case rel => exact ⟨_, (true), (by rfl), H', ⟨by omega⟩, ⟨by (with_reducible repeat (refine blk_drewN ?_ _)); exact BK303.out⟩, ⟨by repeat ((with_reducible first | exact HB.out | apply pw_below_drewN))⟩⟩
   ·
    rw [if_neg c6] at H
    have c6b0 : decide (6 < (l0_1.length : Int)) = false := decide_eq_false c6
    have c6b1 : decide (6 < l0_1.length) = false := decide_eq_false (by omega)
    clear c6
    (skip)
    have H' := Aside0.mk H
    clear H
    have hcz8_0 : w3.cell? ⟨gb303, 0, none⟩ = some (.string a0_0) := (blk_cell BK303.out 0).trans rfl
    have hcz8_1 : w3.cell? ⟨gb303, 1, none⟩ = some (.slice A0_1 l0_1.length c0_1) := (blk_cell BK303.out 1).trans rfl
    have hcz8_2 : w3.cell? ⟨gb303, 2, none⟩ = some (.slice A0_2 l0_2.length c0_2) := (blk_cell BK303.out 2).trans rfl
    have hfz8_0 := blk_frozen BK303.out 0
    have hfz8_1 := blk_frozen BK303.out 1
    have hfz8_2 := blk_frozen BK303.out 2
    go_wp2_with ((with_reducible refine gate_callee (f := 26) rfl ?_); refine goesL_ (some 10) rfl rfl Try.func26 (by kernel_rfl) rfl #[.string a0_0] rfl (by (try simp only [List.map_toArray, List.map_cons, List.map_nil]); rfl) ?_; (with_reducible refine (impl_isLink.calls a0_0 true _ A4.out).mono ?_); rintro e w' ⟨rfl, ⟨nd, rfl⟩⟩; refine ⟨_, rfl, ?_⟩)
    go_meet
    case rel => exact ⟨_, (decide ((l0_2.length : Int) > 6)), (by rfl), H', ⟨by omega⟩, ⟨by (with_reducible repeat (refine blk_drewN ?_ _)); exact BK303.out⟩, ⟨by repeat ((with_reducible first | exact HB.out | apply pw_below_drewN))⟩⟩
  ·
   replace c5 := Bool.eq_false_iff.mpr c5
   subst c5
   rw [if_neg (show ¬ (false = true) by decide)] at H
   have H' := Aside0.mk H
   clear H
   have hcz9_0 : w3.cell? ⟨gb303, 0, none⟩ = some (.string a0_0) := (blk_cell BK303.out 0).trans rfl
   have hcz9_1 : w3.cell? ⟨gb303, 1, none⟩ = some (.slice A0_1 l0_1.length c0_1) := (blk_cell BK303.out 1).trans rfl
   have hcz9_2 : w3.cell? ⟨gb303, 2, none⟩ = some (.slice A0_2 l0_2.length c0_2) := (blk_cell BK303.out 2).trans rfl
   have hfz9_0 := blk_frozen BK303.out 0
   have hfz9_1 := blk_frozen BK303.out 1
   have hfz9_2 := blk_frozen BK303.out 2
   go_wp2_with ((with_reducible refine gate_callee (f := 26) rfl ?_); refine goesL_ (some 10) rfl rfl Try.func26 (by kernel_rfl) rfl #[.string a0_0] rfl (by (try simp only [List.map_toArray, List.map_cons, List.map_nil]); rfl) ?_; (with_reducible refine (impl_isLink.calls a0_0 false _ A4.out).mono ?_); rintro e w' ⟨rfl, ⟨nd, rfl⟩⟩; refine ⟨_, rfl, ?_⟩)
   go_meet
   case rel => exact ⟨_, (true), (by rfl), H', ⟨by omega⟩, ⟨by (with_reducible repeat (refine blk_drewN ?_ _)); exact BK303.out⟩, ⟨by repeat ((with_reducible first | exact HB.out | apply pw_below_drewN))⟩⟩
 case rest =>
  clear HC2
  obtain ⟨kq, x23_1, rfl, HA, HJ1, BK303, HB⟩ := hcut
  cases kq with
  | zero => exact absurd HA.out (by simp [impl_AutoOK.j0])
  | succ kj1 =>
   have H := HA.out
   clear HA
   simp only [impl_AutoOK.j0] at H
   by_cases c10 : x23_1 = true
   ·
    subst c10
    rw [if_pos rfl] at H
    obtain rfl := Option.some.inj H
    go_wp2
    go_ret
    exact ⟨by rfl, HB.out⟩
   ·
    replace c10 := Bool.eq_false_iff.mpr c10
    subst c10
    rw [if_neg (show ¬ (false = true) by decide)] at H
    obtain ⟨y305, hy305⟩ : ∃ y_ : List ByteArray, y_ = (([] : List ByteArray)) := ⟨_, rfl⟩
    replace H : (impl_AutoOK.l0 kj1 y305 l0_1 (l0_1.length : Int) 0 a0_0 l0_1 l0_2) = some r := by (rw [hy305]; with_reducible exact H)
    have Ny305 := Aside0.mk hy305
    clear hy305
    have H' := Aside0.mk H
    clear H
    go_wp2_with ((with_reducible refine gate_dst (N := 24) rfl ?_); (try (refine gate_guard (by rfl) ?_; dsimp only)); refine Kd.R_lit Kd.string _ 9 ?hg (N := 24) ?hd (xs := ([] : List ByteArray)) (inner := []) (ok := fun _ => True) (okp := fun _ => True) ?hr ?hp (fun _ hk => hk) trivial (Below.refl _ _) (Nat.le_refl _) (by simp) ?_; (case hd => rfl); (case hg => rfl); (case hr => (go_simp; done)); (case hp => exact (Reps.none _ _)); intro v306 w11 ho12 hb hg_ hnew_; clear hg_ hnew_; (rw [← Ny305.out] at ho12); have n0_ := Aside0.mk (Kd.R_lower ho12 (below_size (HB.out))); have n1_ := Aside0.mk (blk_below (g := gb303) (o := .cells #[.string a0_0, .slice A0_1 l0_1.length c0_1, .slice A0_2 l0_2.length c0_2] 27 (0, 0)) (by exact BK303.out) hb); have n2_ := Aside0.mk (below_step (HB.out) hb); clear BK303; clear HB; have HO307 := n0_; have BK303 := n1_; have HB := n2_; clear n0_ n1_ n2_; clear hb ho12; have hcz13_0 : w11.cell? ⟨gb303, 0, none⟩ = some (.string a0_0) := (blk_cell BK303.out 0).trans rfl; have hcz13_1 : w11.cell? ⟨gb303, 1, none⟩ = some (.slice A0_1 l0_1.length c0_1) := (blk_cell BK303.out 1).trans rfl; have hcz13_2 : w11.cell? ⟨gb303, 2, none⟩ = some (.slice A0_2 l0_2.length c0_2) := (blk_cell BK303.out 2).trans rfl; have hfz13_0 := blk_frozen BK303.out 0; have hfz13_1 := blk_frozen BK303.out 1; have hfz13_2 := blk_frozen BK303.out 2)
    go_loopg [3, 28] kj1 (fun kq v3 v28 w' => ∃ (x3_2 : List ByteArray) (x28_2 : Int), v28 = .int .i64 x28_2 ∧ Aside0 (impl_AutoOK.l0 kq x3_2 l0_1 (l0_1.length : Int) x28_2 a0_0 l0_1 l0_2 = some r) ∧ Aside0 (kq ≤ kj1) ∧ Aside0 (Kd.R Kd.string 9 w' w.heap.size (fun _ => True) v3 x3_2) ∧ Aside0 (w'.heap[gb303]? = some (.cells #[.string a0_0, (.slice A0_1 l0_1.length c0_1), (.slice A0_2 l0_2.length c0_2)] 27 (0, 0))) ∧ Aside0 (Below w.heap.size w w'))
    case atStart => exact ⟨(y305), (0), (by rfl), H', ⟨Nat.le_refl _⟩, ⟨by exact HO307.out⟩, ⟨by exact BK303.out⟩, ⟨HB.out⟩⟩
    case round =>
     clear H'
     try clear hcz13_0
     try clear hcz13_1
     try clear hcz13_2
     try clear hfz13_0
     try clear hfz13_1
     try clear hfz13_2
     obtain ⟨x3_2, x28_2, rfl, HA, HK2, HO_3, BK303, HB⟩ := hrel
     cases gk with
     | zero => exact absurd HA.out (by simp [impl_AutoOK.l0])
     | succ k2 =>
      have H := HA.out
      clear HA
      simp only [impl_AutoOK.l0] at H
      by_cases c14 : x28_2 < (l0_1.length : Int)
      ·
       rw [if_pos c14] at H
       have c14b0 : decide (x28_2 < (l0_1.length : Int)) = true := decide_eq_true c14
       clear c14
       by_cases c15 : 0 ≤ x28_2
       ·
        rw [if_pos c15] at H
        have c15b0 : decide (0 ≤ x28_2) = true := decide_eq_true c15
        clear c15
        by_cases c16 : x28_2 < (l0_1.length : Int)
        ·
         rw [if_pos c16] at H
         have c16b0 : decide (x28_2 < (l0_1.length : Int)) = true := decide_eq_true c16
         clear c16
         replace H := Option.bind_eq_some_iff.mp H
         obtain ⟨t310, A170, H⟩ := H
         have A17 := Aside0.mk A170
         clear A170
         by_cases c18 : t310 = true
         ·
          subst c18
          rw [if_pos rfl] at H
          replace H := Option.bind_eq_some_iff.mp H
          obtain ⟨t311, A190, H⟩ := H
          have A19 := Aside0.mk A190
          clear A190
          by_cases c20 : t311 = true
          ·
           subst c20
           rw [if_pos rfl] at H
           obtain rfl := Option.some.inj H
           have p308 : 0 ≤ (x28_2 : Int) := of_decide_eq_true (by (with_reducible assumption))
           have q308 : x28_2 < (l0_1.length : Int) := of_decide_eq_true (by (with_reducible assumption))
           obtain ⟨ad308, e308, hx308_0, hx308_1, hx308_2, hx308_3, hx308_4⟩ := at_T39 HR0_1.out x28_2 p308 q308
           cases e308
           replace hx308_0 := (HB.out.cell (World.block_lt_of_cell? w _ hx308_0)).trans hx308_0
           replace hx308_1 := (HB.out.cell (World.block_lt_of_cell? w _ hx308_1)).trans hx308_1
           replace hx308_2 := (HB.out.cell (World.block_lt_of_cell? w _ hx308_2)).trans hx308_2
           replace hx308_3 := (HB.out.cell (World.block_lt_of_cell? w _ hx308_3)).trans hx308_3
           replace hx308_4 := (HB.out.cell (World.block_lt_of_cell? w _ hx308_4)).trans hx308_4
           replace p308 := eq_true p308
           replace q308 := eq_true q308
           go_wp2_with (first | ((with_reducible refine gate_dst (N := 5) rfl ?_); (try (refine gate_guard (by rfl) ?_; dsimp only)); refine box_event ?hg (N := 5) ?hd (cs := #[.string (⟨#[]⟩ : ByteArray), .int .i64 0, .int .i64 0, .int .i64 0, .int .i64 0]) (t := 39) ?hr ?_; (case hd => rfl); (case hg => rfl); (case hr => (go_simp; done)); intro gb309 hg w21 hbox hb; have n0_ := Aside0.mk (Kd.R_below (by exact HO_3.out) hb); have n1_ := Aside0.mk (blk_below (g := gb303) (o := .cells #[.string a0_0, .slice (some ad308) l0_1.length c0_1, .slice A0_2 l0_2.length c0_2] 27 (0, 0)) (by exact BK303.out) hb); have n2_ := Aside0.mk (below_step (HB.out) hb); have n3_ := Aside0.mk (hbox); have n4_ := Aside0.mk ((by rw [hg]; exact (below_size (HB.out)) : w.heap.size ≤ gb309)); have n5_ := Aside0.mk ((by rw [hg]; exact (below_size (HB.out)) : w.heap.size ≤ gb309)); have n6_ := Aside0.mk ((by rw [hg]; exact Nat.ne_of_lt (blk_lt (g := gb303) (o := .cells #[.string a0_0, .slice (some ad308) l0_1.length c0_1, .slice A0_2 l0_2.length c0_2] 27 (0, 0)) (by exact BK303.out)) : gb303 ≠ gb309)); have n7_ := Aside0.mk ((by rw [hg]; exact Nat.ne_of_gt (blk_lt (g := gb303) (o := .cells #[.string a0_0, .slice (some ad308) l0_1.length c0_1, .slice A0_2 l0_2.length c0_2] 27 (0, 0)) (by exact BK303.out)) : gb309 ≠ gb303)); clear HO_3; clear BK303; clear HB; have HO_3 := n0_; have BK303 := n1_; have HB := n2_; have BK309 := n3_; have GW309 := n4_; have GE309 := n5_; have NB303_309 := n6_; have NB309_303 := n7_; clear n0_ n1_ n2_ n3_ n4_ n5_ n6_ n7_; clear hb hbox hg; have hnb22 := NB309_303.out; have hnc22 := NB303_309.out; have hcz23_0 : w21.cell? ⟨gb309, 0, none⟩ = some (.string (⟨#[]⟩ : ByteArray)) := (blk_cell BK309.out 0).trans rfl; have hcz23_1 : w21.cell? ⟨gb309, 1, none⟩ = some (.int .i64 0) := (blk_cell BK309.out 1).trans rfl; have hcz23_2 : w21.cell? ⟨gb309, 2, none⟩ = some (.int .i64 0) := (blk_cell BK309.out 2).trans rfl; have hcz23_3 : w21.cell? ⟨gb309, 3, none⟩ = some (.int .i64 0) := (blk_cell BK309.out 3).trans rfl; have hcz23_4 : w21.cell? ⟨gb309, 4, none⟩ = some (.int .i64 0) := (blk_cell BK309.out 4).trans rfl; have hfz23_0 := blk_frozen BK309.out 0; have hfz23_1 := blk_frozen BK309.out 1; have hfz23_2 := blk_frozen BK309.out 2; have hfz23_3 := blk_frozen BK309.out 3; have hfz23_4 := blk_frozen BK309.out 4) | ((with_reducible refine gate_callee (f := 40) rfl ?_); refine goesL_ (some 33) rfl rfl Try.func40 (by kernel_rfl) rfl #[.agg #[.string ((rd_T39 l0_1 x28_2).f0), .int .i64 ((rd_T39 l0_1 x28_2).f1), .int .i64 ((rd_T39 l0_1 x28_2).f2), .int .i64 ((rd_T39 l0_1 x28_2).f3), .int .i64 ((rd_T39 l0_1 x28_2).f4)]] rfl (by (try simp only [List.map_toArray, List.map_cons, List.map_nil]); rfl) ?_; (with_reducible refine (impl_autoAddrOK.calls k2 ((rd_T39 l0_1 x28_2).f0) ((rd_T39 l0_1 x28_2).f1) ((rd_T39 l0_1 x28_2).f2) ((rd_T39 l0_1 x28_2).f3) ((rd_T39 l0_1 x28_2).f4) true _ A17.out).mono ?_); rintro e w24 ⟨rfl, hb⟩; refine ⟨_, rfl, ?_⟩; have n0_ := Aside0.mk (Kd.R_below (by exact (Kd.R_mono (Kd.R_far (p := ⟨gb309, 4, none⟩) (Kd.R_far (p := ⟨gb309, 3, none⟩) (Kd.R_far (p := ⟨gb309, 2, none⟩) (Kd.R_far (p := ⟨gb309, 1, none⟩) (Kd.R_far (p := ⟨gb309, 0, none⟩) (Kd.R_types HO_3.out BK309.out (by decide)) (fun _ hk => hk.2) (.string ((rd_T39 l0_1 x28_2).f0))) (fun _ hk => hk.2) (.int .i64 ((rd_T39 l0_1 x28_2).f1))) (fun _ hk => hk.2) (.int .i64 ((rd_T39 l0_1 x28_2).f2))) (fun _ hk => hk.2) (.int .i64 ((rd_T39 l0_1 x28_2).f3))) (fun _ hk => hk.2) (.int .i64 ((rd_T39 l0_1 x28_2).f4))) (fun _ h_ => h_.1))) hb); have n1_ := Aside0.mk (blk_below (g := gb303) (o := .cells #[.string a0_0, .slice (some ad308) l0_1.length c0_1, .slice A0_2 l0_2.length c0_2] 27 (0, 0)) (by refine blk_far ?_ NB303_309.out _; refine blk_far ?_ NB303_309.out _; refine blk_far ?_ NB303_309.out _; refine blk_far ?_ NB303_309.out _; refine blk_far ?_ NB303_309.out _; exact BK303.out) hb); have n2_ := Aside0.mk (blk_below (g := gb309) (o := .cells #[.string ((rd_T39 l0_1 x28_2).f0), .int .i64 ((rd_T39 l0_1 x28_2).f1), .int .i64 ((rd_T39 l0_1 x28_2).f2), .int .i64 ((rd_T39 l0_1 x28_2).f3), .int .i64 ((rd_T39 l0_1 x28_2).f4)] 39 (0, 0)) (by refine blk_put (cs := #[.string ((rd_T39 l0_1 x28_2).f0), .int .i64 ((rd_T39 l0_1 x28_2).f1), .int .i64 ((rd_T39 l0_1 x28_2).f2), .int .i64 ((rd_T39 l0_1 x28_2).f3), .int .i64 0]) ?_ 4 _ rfl; refine blk_put (cs := #[.string ((rd_T39 l0_1 x28_2).f0), .int .i64 ((rd_T39 l0_1 x28_2).f1), .int .i64 ((rd_T39 l0_1 x28_2).f2), .int .i64 0, .int .i64 0]) ?_ 3 _ rfl; refine blk_put (cs := #[.string ((rd_T39 l0_1 x28_2).f0), .int .i64 ((rd_T39 l0_1 x28_2).f1), .int .i64 0, .int .i64 0, .int .i64 0]) ?_ 2 _ rfl; refine blk_put (cs := #[.string ((rd_T39 l0_1 x28_2).f0), .int .i64 0, .int .i64 0, .int .i64 0, .int .i64 0]) ?_ 1 _ rfl; refine blk_put (cs := #[.string (⟨#[]⟩ : ByteArray), .int .i64 0, .int .i64 0, .int .i64 0, .int .i64 0]) ?_ 0 _ rfl; exact BK309.out) hb); have n3_ := Aside0.mk (below_step (by repeat ((with_reducible first | exact HB.out | refine below_set ?_ GE309.out))) hb); clear HO_3; clear BK303; clear BK309; clear HB; have HO_3 := n0_; have BK303 := n1_; have BK309 := n2_; have HB := n3_; clear n0_ n1_ n2_ n3_; (try clear hb); have hcz25_0 : w24.cell? ⟨gb309, 0, none⟩ = some (.string ((rd_T39 l0_1 x28_2).f0)) := (blk_cell BK309.out 0).trans rfl; have hcz25_1 : w24.cell? ⟨gb309, 1, none⟩ = some (.int .i64 ((rd_T39 l0_1 x28_2).f1)) := (blk_cell BK309.out 1).trans rfl; have hcz25_2 : w24.cell? ⟨gb309, 2, none⟩ = some (.int .i64 ((rd_T39 l0_1 x28_2).f2)) := (blk_cell BK309.out 2).trans rfl; have hcz25_3 : w24.cell? ⟨gb309, 3, none⟩ = some (.int .i64 ((rd_T39 l0_1 x28_2).f3)) := (blk_cell BK309.out 3).trans rfl; have hcz25_4 : w24.cell? ⟨gb309, 4, none⟩ = some (.int .i64 ((rd_T39 l0_1 x28_2).f4)) := (blk_cell BK309.out 4).trans rfl; have hfz25_0 := blk_frozen BK309.out 0; have hfz25_1 := blk_frozen BK309.out 1; have hfz25_2 := blk_frozen BK309.out 2; have hfz25_3 := blk_frozen BK309.out 3; have hfz25_4 := blk_frozen BK309.out 4; obtain ⟨Ao26, co26, eo26⟩ := Kd.R_slice HO_3.out; subst eo26) | (go_at_call 41; (with_reducible refine (slices_Contains_string_string.calls k2 _ _ x3_2 ((rd_T39 l0_1 x28_2).f0) true _ ?side1 ?side2 A19.out).mono ?_); (case side1 => repeat (exact (Kd.R_reads' HO_3.out).2.2)); (case side2 => exact (Kd.R_reads' HO_3.out).2.1); rintro e w' ⟨rfl, ⟨nd, rfl⟩⟩))
           go_ret
           exact ⟨by rfl, by repeat ((with_reducible first | exact HB.out | apply pw_below_drewN))⟩
          ·
           replace c20 := Bool.eq_false_iff.mpr c20
           subst c20
           rw [if_neg (show ¬ (false = true) by decide)] at H
           by_cases c27 : x3_2.length < 8796093022208
           ·
            rw [if_pos c27] at H
            have LMc27 := Aside0.mk c27
            clear c27
            obtain ⟨y312, hy312⟩ : ∃ y_ : List ByteArray, y_ = (x3_2 ++ [(rd_T39 l0_1 x28_2).f0]) := ⟨_, rfl⟩
            replace H : (impl_AutoOK.l0 k2 y312 l0_1 (l0_1.length : Int) (wrap64 (x28_2 + 1)) a0_0 l0_1 l0_2) = some r := by (rw [hy312]; with_reducible exact H)
            have Ny312 := Aside0.mk hy312
            clear hy312
            have H' := Aside0.mk H
            clear H
            have p308 : 0 ≤ (x28_2 : Int) := of_decide_eq_true (by (with_reducible assumption))
            have q308 : x28_2 < (l0_1.length : Int) := of_decide_eq_true (by (with_reducible assumption))
            obtain ⟨ad308, e308, hx308_0, hx308_1, hx308_2, hx308_3, hx308_4⟩ := at_T39 HR0_1.out x28_2 p308 q308
            cases e308
            replace hx308_0 := (HB.out.cell (World.block_lt_of_cell? w _ hx308_0)).trans hx308_0
            replace hx308_1 := (HB.out.cell (World.block_lt_of_cell? w _ hx308_1)).trans hx308_1
            replace hx308_2 := (HB.out.cell (World.block_lt_of_cell? w _ hx308_2)).trans hx308_2
            replace hx308_3 := (HB.out.cell (World.block_lt_of_cell? w _ hx308_3)).trans hx308_3
            replace hx308_4 := (HB.out.cell (World.block_lt_of_cell? w _ hx308_4)).trans hx308_4
            replace p308 := eq_true p308
            replace q308 := eq_true q308
            go_wp2_with (first | ((with_reducible refine gate_dst (N := 5) rfl ?_); (try (refine gate_guard (by rfl) ?_; dsimp only)); refine box_event ?hg (N := 5) ?hd (cs := #[.string (⟨#[]⟩ : ByteArray), .int .i64 0, .int .i64 0, .int .i64 0, .int .i64 0]) (t := 39) ?hr ?_; (case hd => rfl); (case hg => rfl); (case hr => (go_simp; done)); intro gb309 hg w28 hbox hb; have n0_ := Aside0.mk (Kd.R_below (by exact HO_3.out) hb); have n1_ := Aside0.mk (blk_below (g := gb303) (o := .cells #[.string a0_0, .slice (some ad308) l0_1.length c0_1, .slice A0_2 l0_2.length c0_2] 27 (0, 0)) (by exact BK303.out) hb); have n2_ := Aside0.mk (below_step (HB.out) hb); have n3_ := Aside0.mk (hbox); have n4_ := Aside0.mk ((by rw [hg]; exact (below_size (HB.out)) : w.heap.size ≤ gb309)); have n5_ := Aside0.mk ((by rw [hg]; exact (below_size (HB.out)) : w.heap.size ≤ gb309)); have n6_ := Aside0.mk ((by rw [hg]; exact Nat.ne_of_lt (blk_lt (g := gb303) (o := .cells #[.string a0_0, .slice (some ad308) l0_1.length c0_1, .slice A0_2 l0_2.length c0_2] 27 (0, 0)) (by exact BK303.out)) : gb303 ≠ gb309)); have n7_ := Aside0.mk ((by rw [hg]; exact Nat.ne_of_gt (blk_lt (g := gb303) (o := .cells #[.string a0_0, .slice (some ad308) l0_1.length c0_1, .slice A0_2 l0_2.length c0_2] 27 (0, 0)) (by exact BK303.out)) : gb309 ≠ gb303)); clear HO_3; clear BK303; clear HB; have HO_3 := n0_; have BK303 := n1_; have HB := n2_; have BK309 := n3_; have GW309 := n4_; have GE309 := n5_; have NB303_309 := n6_; have NB309_303 := n7_; clear n0_ n1_ n2_ n3_ n4_ n5_ n6_ n7_; clear hb hbox hg; have hnb29 := NB309_303.out; have hnc29 := NB303_309.out; have hcz30_0 : w28.cell? ⟨gb309, 0, none⟩ = some (.string (⟨#[]⟩ : ByteArray)) := (blk_cell BK309.out 0).trans rfl; have hcz30_1 : w28.cell? ⟨gb309, 1, none⟩ = some (.int .i64 0) := (blk_cell BK309.out 1).trans rfl; have hcz30_2 : w28.cell? ⟨gb309, 2, none⟩ = some (.int .i64 0) := (blk_cell BK309.out 2).trans rfl; have hcz30_3 : w28.cell? ⟨gb309, 3, none⟩ = some (.int .i64 0) := (blk_cell BK309.out 3).trans rfl; have hcz30_4 : w28.cell? ⟨gb309, 4, none⟩ = some (.int .i64 0) := (blk_cell BK309.out 4).trans rfl; have hfz30_0 := blk_frozen BK309.out 0; have hfz30_1 := blk_frozen BK309.out 1; have hfz30_2 := blk_frozen BK309.out 2; have hfz30_3 := blk_frozen BK309.out 3; have hfz30_4 := blk_frozen BK309.out 4) | ((with_reducible refine gate_callee (f := 40) rfl ?_); refine goesL_ (some 33) rfl rfl Try.func40 (by kernel_rfl) rfl #[.agg #[.string ((rd_T39 l0_1 x28_2).f0), .int .i64 ((rd_T39 l0_1 x28_2).f1), .int .i64 ((rd_T39 l0_1 x28_2).f2), .int .i64 ((rd_T39 l0_1 x28_2).f3), .int .i64 ((rd_T39 l0_1 x28_2).f4)]] rfl (by (try simp only [List.map_toArray, List.map_cons, List.map_nil]); rfl) ?_; (with_reducible refine (impl_autoAddrOK.calls k2 ((rd_T39 l0_1 x28_2).f0) ((rd_T39 l0_1 x28_2).f1) ((rd_T39 l0_1 x28_2).f2) ((rd_T39 l0_1 x28_2).f3) ((rd_T39 l0_1 x28_2).f4) true _ A17.out).mono ?_); rintro e w31 ⟨rfl, hb⟩; refine ⟨_, rfl, ?_⟩; have n0_ := Aside0.mk (Kd.R_below (by exact (Kd.R_mono (Kd.R_far (p := ⟨gb309, 4, none⟩) (Kd.R_far (p := ⟨gb309, 3, none⟩) (Kd.R_far (p := ⟨gb309, 2, none⟩) (Kd.R_far (p := ⟨gb309, 1, none⟩) (Kd.R_far (p := ⟨gb309, 0, none⟩) (Kd.R_types HO_3.out BK309.out (by decide)) (fun _ hk => hk.2) (.string ((rd_T39 l0_1 x28_2).f0))) (fun _ hk => hk.2) (.int .i64 ((rd_T39 l0_1 x28_2).f1))) (fun _ hk => hk.2) (.int .i64 ((rd_T39 l0_1 x28_2).f2))) (fun _ hk => hk.2) (.int .i64 ((rd_T39 l0_1 x28_2).f3))) (fun _ hk => hk.2) (.int .i64 ((rd_T39 l0_1 x28_2).f4))) (fun _ h_ => h_.1))) hb); have n1_ := Aside0.mk (blk_below (g := gb303) (o := .cells #[.string a0_0, .slice (some ad308) l0_1.length c0_1, .slice A0_2 l0_2.length c0_2] 27 (0, 0)) (by refine blk_far ?_ NB303_309.out _; refine blk_far ?_ NB303_309.out _; refine blk_far ?_ NB303_309.out _; refine blk_far ?_ NB303_309.out _; refine blk_far ?_ NB303_309.out _; exact BK303.out) hb); have n2_ := Aside0.mk (blk_below (g := gb309) (o := .cells #[.string ((rd_T39 l0_1 x28_2).f0), .int .i64 ((rd_T39 l0_1 x28_2).f1), .int .i64 ((rd_T39 l0_1 x28_2).f2), .int .i64 ((rd_T39 l0_1 x28_2).f3), .int .i64 ((rd_T39 l0_1 x28_2).f4)] 39 (0, 0)) (by refine blk_put (cs := #[.string ((rd_T39 l0_1 x28_2).f0), .int .i64 ((rd_T39 l0_1 x28_2).f1), .int .i64 ((rd_T39 l0_1 x28_2).f2), .int .i64 ((rd_T39 l0_1 x28_2).f3), .int .i64 0]) ?_ 4 _ rfl; refine blk_put (cs := #[.string ((rd_T39 l0_1 x28_2).f0), .int .i64 ((rd_T39 l0_1 x28_2).f1), .int .i64 ((rd_T39 l0_1 x28_2).f2), .int .i64 0, .int .i64 0]) ?_ 3 _ rfl; refine blk_put (cs := #[.string ((rd_T39 l0_1 x28_2).f0), .int .i64 ((rd_T39 l0_1 x28_2).f1), .int .i64 0, .int .i64 0, .int .i64 0]) ?_ 2 _ rfl; refine blk_put (cs := #[.string ((rd_T39 l0_1 x28_2).f0), .int .i64 0, .int .i64 0, .int .i64 0, .int .i64 0]) ?_ 1 _ rfl; refine blk_put (cs := #[.string (⟨#[]⟩ : ByteArray), .int .i64 0, .int .i64 0, .int .i64 0, .int .i64 0]) ?_ 0 _ rfl; exact BK309.out) hb); have n3_ := Aside0.mk (below_step (by repeat ((with_reducible first | exact HB.out | refine below_set ?_ GE309.out))) hb); clear HO_3; clear BK303; clear BK309; clear HB; have HO_3 := n0_; have BK303 := n1_; have BK309 := n2_; have HB := n3_; clear n0_ n1_ n2_ n3_; (try clear hb); have hcz32_0 : w31.cell? ⟨gb309, 0, none⟩ = some (.string ((rd_T39 l0_1 x28_2).f0)) := (blk_cell BK309.out 0).trans rfl; have hcz32_1 : w31.cell? ⟨gb309, 1, none⟩ = some (.int .i64 ((rd_T39 l0_1 x28_2).f1)) := (blk_cell BK309.out 1).trans rfl; have hcz32_2 : w31.cell? ⟨gb309, 2, none⟩ = some (.int .i64 ((rd_T39 l0_1 x28_2).f2)) := (blk_cell BK309.out 2).trans rfl; have hcz32_3 : w31.cell? ⟨gb309, 3, none⟩ = some (.int .i64 ((rd_T39 l0_1 x28_2).f3)) := (blk_cell BK309.out 3).trans rfl; have hcz32_4 : w31.cell? ⟨gb309, 4, none⟩ = some (.int .i64 ((rd_T39 l0_1 x28_2).f4)) := (blk_cell BK309.out 4).trans rfl; have hfz32_0 := blk_frozen BK309.out 0; have hfz32_1 := blk_frozen BK309.out 1; have hfz32_2 := blk_frozen BK309.out 2; have hfz32_3 := blk_frozen BK309.out 3; have hfz32_4 := blk_frozen BK309.out 4; obtain ⟨Ao33, co33, eo33⟩ := Kd.R_slice HO_3.out; subst eo33) | (go_at_call 41; (with_reducible refine (slices_Contains_string_string.calls k2 _ _ x3_2 ((rd_T39 l0_1 x28_2).f0) false _ ?side1 ?side2 A19.out).mono ?_); (case side1 => repeat (exact (Kd.R_reads' HO_3.out).2.2)); (case side2 => exact (Kd.R_reads' HO_3.out).2.1); rintro e w' ⟨rfl, ⟨nd, rfl⟩⟩) | ((with_reducible refine gate_builtin (b := .append) (xs := #[.tmp 41, .tmp 44]) rfl ?_); (try (refine gate_guard (by rfl) ?_; dsimp only)); at_builtin; refine Kd.R_append Kd.string (w0 := w) w.heap.size rfl (.tmp 41) (.tmp 44) 25 9 (.string ⟨#[]⟩) 16 rfl Try.underlying25 info9 rfl (by decide) (by omega) (.slice Ao33 x3_2.length co33) x3_2 ((rd_T39 l0_1 x28_2).f0) [.string ((rd_T39 l0_1 x28_2).f0)] (fun _ => True) (fun _ => False) rfl rfl ?aP (fun _ hk => hk.elim) ?aF ?aO ?aB ?aS ?aL ?_; (case aP => exact rfl); (case aB => exact (by repeat ((with_reducible first | exact HB.out | apply pw_below_drewN)))); (case aF => exact (fun _ _ => trivial)); (case aO => exact (by (with_reducible repeat (apply Kd.R_drewN)); exact HO_3.out)); (case aS => exact (below_size (by repeat ((with_reducible first | exact HB.out | apply pw_below_drewN))))); (case aL => have := LMc27.out; omega); intro v313 w34 ho hb hg hat; rw [← Ny312.out] at ho; have n0_ := Aside0.mk (blk_grown (g := gb303) (o := .cells #[.string a0_0, .slice (some ad308) l0_1.length c0_1, .slice A0_2 l0_2.length c0_2] 27 (0, 0)) (by (with_reducible repeat (refine blk_drewN ?_ _)); exact BK303.out) hg (Kd.R_ne HO_3.out BK303.out (by decide))); have n1_ := Aside0.mk (blk_grown (g := gb309) (o := .cells #[.string ((rd_T39 l0_1 x28_2).f0), .int .i64 ((rd_T39 l0_1 x28_2).f1), .int .i64 ((rd_T39 l0_1 x28_2).f2), .int .i64 ((rd_T39 l0_1 x28_2).f3), .int .i64 ((rd_T39 l0_1 x28_2).f4)] 39 (0, 0)) (by (with_reducible repeat (refine blk_drewN ?_ _)); exact BK309.out) hg (Kd.R_ne HO_3.out BK309.out (by decide))); have n2_ := Aside0.mk (hb); have n3_ := Aside0.mk (ho); clear BK303; clear BK309; clear HB; clear HO_3; have BK303 := n0_; have BK309 := n1_; have HB := n2_; have HO314 := n3_; clear n0_ n1_ n2_ n3_; clear ho hb hg hat))
            go_roundg k2
            case measure => have := HJ1.out; have := HK2.out; omega
            case rel => exact ⟨(y312), (wrap64 (x28_2 + 1)), (by rfl), H', ⟨by have := HJ1.out; have := HK2.out; omega⟩, ⟨by exact HO314.out⟩, ⟨by exact BK303.out⟩, ⟨HB.out⟩⟩
           ·
            rw [if_neg c27] at H
            exact absurd H (by simp)
         ·
          replace c18 := Bool.eq_false_iff.mpr c18
          subst c18
          rw [if_neg (show ¬ (false = true) by decide)] at H
          obtain rfl := Option.some.inj H
          have p308 : 0 ≤ (x28_2 : Int) := of_decide_eq_true (by (with_reducible assumption))
          have q308 : x28_2 < (l0_1.length : Int) := of_decide_eq_true (by (with_reducible assumption))
          obtain ⟨ad308, e308, hx308_0, hx308_1, hx308_2, hx308_3, hx308_4⟩ := at_T39 HR0_1.out x28_2 p308 q308
          cases e308
          replace hx308_0 := (HB.out.cell (World.block_lt_of_cell? w _ hx308_0)).trans hx308_0
          replace hx308_1 := (HB.out.cell (World.block_lt_of_cell? w _ hx308_1)).trans hx308_1
          replace hx308_2 := (HB.out.cell (World.block_lt_of_cell? w _ hx308_2)).trans hx308_2
          replace hx308_3 := (HB.out.cell (World.block_lt_of_cell? w _ hx308_3)).trans hx308_3
          replace hx308_4 := (HB.out.cell (World.block_lt_of_cell? w _ hx308_4)).trans hx308_4
          replace p308 := eq_true p308
          replace q308 := eq_true q308
          go_wp2_with (first | ((with_reducible refine gate_dst (N := 5) rfl ?_); (try (refine gate_guard (by rfl) ?_; dsimp only)); refine box_event ?hg (N := 5) ?hd (cs := #[.string (⟨#[]⟩ : ByteArray), .int .i64 0, .int .i64 0, .int .i64 0, .int .i64 0]) (t := 39) ?hr ?_; (case hd => rfl); (case hg => rfl); (case hr => (go_simp; done)); intro gb309 hg w35 hbox hb; have n0_ := Aside0.mk (Kd.R_below (by exact HO_3.out) hb); have n1_ := Aside0.mk (blk_below (g := gb303) (o := .cells #[.string a0_0, .slice (some ad308) l0_1.length c0_1, .slice A0_2 l0_2.length c0_2] 27 (0, 0)) (by exact BK303.out) hb); have n2_ := Aside0.mk (below_step (HB.out) hb); have n3_ := Aside0.mk (hbox); have n4_ := Aside0.mk ((by rw [hg]; exact (below_size (HB.out)) : w.heap.size ≤ gb309)); have n5_ := Aside0.mk ((by rw [hg]; exact (below_size (HB.out)) : w.heap.size ≤ gb309)); have n6_ := Aside0.mk ((by rw [hg]; exact Nat.ne_of_lt (blk_lt (g := gb303) (o := .cells #[.string a0_0, .slice (some ad308) l0_1.length c0_1, .slice A0_2 l0_2.length c0_2] 27 (0, 0)) (by exact BK303.out)) : gb303 ≠ gb309)); have n7_ := Aside0.mk ((by rw [hg]; exact Nat.ne_of_gt (blk_lt (g := gb303) (o := .cells #[.string a0_0, .slice (some ad308) l0_1.length c0_1, .slice A0_2 l0_2.length c0_2] 27 (0, 0)) (by exact BK303.out)) : gb309 ≠ gb303)); clear HO_3; clear BK303; clear HB; have HO_3 := n0_; have BK303 := n1_; have HB := n2_; have BK309 := n3_; have GW309 := n4_; have GE309 := n5_; have NB303_309 := n6_; have NB309_303 := n7_; clear n0_ n1_ n2_ n3_ n4_ n5_ n6_ n7_; clear hb hbox hg; have hnb36 := NB309_303.out; have hnc36 := NB303_309.out; have hcz37_0 : w35.cell? ⟨gb309, 0, none⟩ = some (.string (⟨#[]⟩ : ByteArray)) := (blk_cell BK309.out 0).trans rfl; have hcz37_1 : w35.cell? ⟨gb309, 1, none⟩ = some (.int .i64 0) := (blk_cell BK309.out 1).trans rfl; have hcz37_2 : w35.cell? ⟨gb309, 2, none⟩ = some (.int .i64 0) := (blk_cell BK309.out 2).trans rfl; have hcz37_3 : w35.cell? ⟨gb309, 3, none⟩ = some (.int .i64 0) := (blk_cell BK309.out 3).trans rfl; have hcz37_4 : w35.cell? ⟨gb309, 4, none⟩ = some (.int .i64 0) := (blk_cell BK309.out 4).trans rfl; have hfz37_0 := blk_frozen BK309.out 0; have hfz37_1 := blk_frozen BK309.out 1; have hfz37_2 := blk_frozen BK309.out 2; have hfz37_3 := blk_frozen BK309.out 3; have hfz37_4 := blk_frozen BK309.out 4) | ((with_reducible refine gate_callee (f := 40) rfl ?_); refine goesL_ (some 33) rfl rfl Try.func40 (by kernel_rfl) rfl #[.agg #[.string ((rd_T39 l0_1 x28_2).f0), .int .i64 ((rd_T39 l0_1 x28_2).f1), .int .i64 ((rd_T39 l0_1 x28_2).f2), .int .i64 ((rd_T39 l0_1 x28_2).f3), .int .i64 ((rd_T39 l0_1 x28_2).f4)]] rfl (by (try simp only [List.map_toArray, List.map_cons, List.map_nil]); rfl) ?_; (with_reducible refine (impl_autoAddrOK.calls k2 ((rd_T39 l0_1 x28_2).f0) ((rd_T39 l0_1 x28_2).f1) ((rd_T39 l0_1 x28_2).f2) ((rd_T39 l0_1 x28_2).f3) ((rd_T39 l0_1 x28_2).f4) false _ A17.out).mono ?_); rintro e w38 ⟨rfl, hb⟩; refine ⟨_, rfl, ?_⟩; have n0_ := Aside0.mk (Kd.R_below (by exact (Kd.R_mono (Kd.R_far (p := ⟨gb309, 4, none⟩) (Kd.R_far (p := ⟨gb309, 3, none⟩) (Kd.R_far (p := ⟨gb309, 2, none⟩) (Kd.R_far (p := ⟨gb309, 1, none⟩) (Kd.R_far (p := ⟨gb309, 0, none⟩) (Kd.R_types HO_3.out BK309.out (by decide)) (fun _ hk => hk.2) (.string ((rd_T39 l0_1 x28_2).f0))) (fun _ hk => hk.2) (.int .i64 ((rd_T39 l0_1 x28_2).f1))) (fun _ hk => hk.2) (.int .i64 ((rd_T39 l0_1 x28_2).f2))) (fun _ hk => hk.2) (.int .i64 ((rd_T39 l0_1 x28_2).f3))) (fun _ hk => hk.2) (.int .i64 ((rd_T39 l0_1 x28_2).f4))) (fun _ h_ => h_.1))) hb); have n1_ := Aside0.mk (blk_below (g := gb303) (o := .cells #[.string a0_0, .slice (some ad308) l0_1.length c0_1, .slice A0_2 l0_2.length c0_2] 27 (0, 0)) (by refine blk_far ?_ NB303_309.out _; refine blk_far ?_ NB303_309.out _; refine blk_far ?_ NB303_309.out _; refine blk_far ?_ NB303_309.out _; refine blk_far ?_ NB303_309.out _; exact BK303.out) hb); have n2_ := Aside0.mk (blk_below (g := gb309) (o := .cells #[.string ((rd_T39 l0_1 x28_2).f0), .int .i64 ((rd_T39 l0_1 x28_2).f1), .int .i64 ((rd_T39 l0_1 x28_2).f2), .int .i64 ((rd_T39 l0_1 x28_2).f3), .int .i64 ((rd_T39 l0_1 x28_2).f4)] 39 (0, 0)) (by refine blk_put (cs := #[.string ((rd_T39 l0_1 x28_2).f0), .int .i64 ((rd_T39 l0_1 x28_2).f1), .int .i64 ((rd_T39 l0_1 x28_2).f2), .int .i64 ((rd_T39 l0_1 x28_2).f3), .int .i64 0]) ?_ 4 _ rfl; refine blk_put (cs := #[.string ((rd_T39 l0_1 x28_2).f0), .int .i64 ((rd_T39 l0_1 x28_2).f1), .int .i64 ((rd_T39 l0_1 x28_2).f2), .int .i64 0, .int .i64 0]) ?_ 3 _ rfl; refine blk_put (cs := #[.string ((rd_T39 l0_1 x28_2).f0), .int .i64 ((rd_T39 l0_1 x28_2).f1), .int .i64 0, .int .i64 0, .int .i64 0]) ?_ 2 _ rfl; refine blk_put (cs := #[.string ((rd_T39 l0_1 x28_2).f0), .int .i64 0, .int .i64 0, .int .i64 0, .int .i64 0]) ?_ 1 _ rfl; refine blk_put (cs := #[.string (⟨#[]⟩ : ByteArray), .int .i64 0, .int .i64 0, .int .i64 0, .int .i64 0]) ?_ 0 _ rfl; exact BK309.out) hb); have n3_ := Aside0.mk (below_step (by repeat ((with_reducible first | exact HB.out | refine below_set ?_ GE309.out))) hb); clear HO_3; clear BK303; clear BK309; clear HB; have HO_3 := n0_; have BK303 := n1_; have BK309 := n2_; have HB := n3_; clear n0_ n1_ n2_ n3_; (try clear hb)))
          go_ret
          exact ⟨by rfl, HB.out⟩
        ·
         rw [if_neg c16] at H
         exact absurd H (by simp)
       ·
        rw [if_neg c15] at H
        exact absurd H (by simp)
      ·
       rw [if_neg c14] at H
       have c14b0 : decide (x28_2 < (l0_1.length : Int)) = false := decide_eq_false c14
       clear c14
       have H' := Aside0.mk H
       clear H
       have hcz39_0 : wr.cell? ⟨gb303, 0, none⟩ = some (.string a0_0) := (blk_cell BK303.out 0).trans rfl
       have hcz39_1 : wr.cell? ⟨gb303, 1, none⟩ = some (.slice A0_1 l0_1.length c0_1) := (blk_cell BK303.out 1).trans rfl
       have hcz39_2 : wr.cell? ⟨gb303, 2, none⟩ = some (.slice A0_2 l0_2.length c0_2) := (blk_cell BK303.out 2).trans rfl
       have hfz39_0 := blk_frozen BK303.out 0
       have hfz39_1 := blk_frozen BK303.out 1
       have hfz39_2 := blk_frozen BK303.out 2
       go_wp2
       go_loopg [3, 50] k2 (fun kq v3 v50 w' => ∃ (x3_3 : List ByteArray) (x50_3 : Int), v50 = .int .i64 x50_3 ∧ Aside0 (impl_AutoOK.l1 kq x3_3 l0_2 (l0_2.length : Int) x50_3 = some r) ∧ Aside0 (kq ≤ k2) ∧ Aside0 (Kd.R Kd.string 9 w' w.heap.size (fun _ => True) v3 x3_3) ∧ Aside0 (w'.heap[gb303]? = some (.cells #[.string a0_0, (.slice A0_1 l0_1.length c0_1), (.slice A0_2 l0_2.length c0_2)] 27 (0, 0))) ∧ Aside0 (Below w.heap.size w w'))
       case atStart => exact ⟨(x3_2), (0), (by rfl), H', ⟨Nat.le_refl _⟩, ⟨by exact HO_3.out⟩, ⟨by exact BK303.out⟩, ⟨HB.out⟩⟩
       case round =>
        clear H'
        try clear c14b0
        try clear hcz39_0
        try clear hcz39_1
        try clear hcz39_2
        try clear hfz39_0
        try clear hfz39_1
        try clear hfz39_2
        obtain ⟨x3_3, x50_3, rfl, HA, HK3, HO_3, BK303, HB⟩ := hrel
        cases gk with
        | zero => exact absurd HA.out (by simp [impl_AutoOK.l1])
        | succ k3 =>
         have H := HA.out
         clear HA
         simp only [impl_AutoOK.l1] at H
         by_cases c40 : x50_3 < (l0_2.length : Int)
         ·
          rw [if_pos c40] at H
          have c40b0 : decide (x50_3 < (l0_2.length : Int)) = true := decide_eq_true c40
          clear c40
          by_cases c41 : 0 ≤ x50_3
          ·
           rw [if_pos c41] at H
           have c41b0 : decide (0 ≤ x50_3) = true := decide_eq_true c41
           clear c41
           by_cases c42 : x50_3 < (l0_2.length : Int)
           ·
            rw [if_pos c42] at H
            have c42b0 : decide (x50_3 < (l0_2.length : Int)) = true := decide_eq_true c42
            clear c42
            replace H := Option.bind_eq_some_iff.mp H
            obtain ⟨t316, A430, H⟩ := H
            have A43 := Aside0.mk A430
            clear A430
            by_cases c44 : t316 = true
            ·
             subst c44
             rw [if_pos rfl] at H
             replace H := Option.bind_eq_some_iff.mp H
             obtain ⟨t317, A450, H⟩ := H
             have A45 := Aside0.mk A450
             clear A450
             by_cases c46 : t317 = true
             ·
              subst c46
              rw [if_pos rfl] at H
              obtain rfl := Option.some.inj H
              have p315 : 0 ≤ (x50_3 : Int) := of_decide_eq_true (by (with_reducible assumption))
              have q315 : x50_3 < (l0_2.length : Int) := of_decide_eq_true (by (with_reducible assumption))
              obtain ⟨ad315, e315, hx315_0⟩ := Kd.at_string HR0_2.out x50_3 p315 q315
              cases e315
              replace hx315_0 := (HB.out.cell (World.block_lt_of_cell? w _ hx315_0)).trans hx315_0
              replace p315 := eq_true p315
              replace q315 := eq_true q315
              go_wp2_with (first | ((with_reducible refine gate_callee (f := 28) rfl ?_); refine goesL_ (some 55) rfl rfl Try.func28 (by kernel_rfl) rfl #[.string (rdOf ByteArray.empty l0_2 x50_3)] rfl (by (try simp only [List.map_toArray, List.map_cons, List.map_nil]); rfl) ?_; (with_reducible refine (impl_isSix.calls (rdOf ByteArray.empty l0_2 x50_3) true _ A43.out).mono ?_); rintro e w' ⟨rfl, ⟨nd, rfl⟩⟩; refine ⟨_, rfl, ?_⟩; obtain ⟨Ao47, co47, eo47⟩ := Kd.R_slice HO_3.out; subst eo47) | (go_at_call 41; (with_reducible refine (slices_Contains_string_string.calls k3 _ _ x3_3 (rdOf ByteArray.empty l0_2 x50_3) true _ ?side1 ?side2 A45.out).mono ?_); (case side1 => repeat (exact (Kd.R_reads' HO_3.out).2.2)); (case side2 => exact (Kd.R_reads' HO_3.out).2.1); rintro e w' ⟨rfl, ⟨nd, rfl⟩⟩))
              go_ret
              exact ⟨by rfl, by repeat ((with_reducible first | exact HB.out | apply pw_below_drewN))⟩
             ·
              replace c46 := Bool.eq_false_iff.mpr c46
              subst c46
              rw [if_neg (show ¬ (false = true) by decide)] at H
              by_cases c48 : x3_3.length < 8796093022208
              ·
               rw [if_pos c48] at H
               have LMc48 := Aside0.mk c48
               clear c48
               obtain ⟨y318, hy318⟩ : ∃ y_ : List ByteArray, y_ = (x3_3 ++ [rdOf ByteArray.empty l0_2 x50_3]) := ⟨_, rfl⟩
               replace H : (impl_AutoOK.l1 k3 y318 l0_2 (l0_2.length : Int) (wrap64 (x50_3 + 1))) = some r := by (rw [hy318]; with_reducible exact H)
               have Ny318 := Aside0.mk hy318
               clear hy318
               have H' := Aside0.mk H
               clear H
               have p315 : 0 ≤ (x50_3 : Int) := of_decide_eq_true (by (with_reducible assumption))
               have q315 : x50_3 < (l0_2.length : Int) := of_decide_eq_true (by (with_reducible assumption))
               obtain ⟨ad315, e315, hx315_0⟩ := Kd.at_string HR0_2.out x50_3 p315 q315
               cases e315
               replace hx315_0 := (HB.out.cell (World.block_lt_of_cell? w _ hx315_0)).trans hx315_0
               replace p315 := eq_true p315
               replace q315 := eq_true q315
               go_wp2_with (first | ((with_reducible refine gate_callee (f := 28) rfl ?_); refine goesL_ (some 55) rfl rfl Try.func28 (by kernel_rfl) rfl #[.string (rdOf ByteArray.empty l0_2 x50_3)] rfl (by (try simp only [List.map_toArray, List.map_cons, List.map_nil]); rfl) ?_; (with_reducible refine (impl_isSix.calls (rdOf ByteArray.empty l0_2 x50_3) true _ A43.out).mono ?_); rintro e w' ⟨rfl, ⟨nd, rfl⟩⟩; refine ⟨_, rfl, ?_⟩; obtain ⟨Ao49, co49, eo49⟩ := Kd.R_slice HO_3.out; subst eo49) | (go_at_call 41; (with_reducible refine (slices_Contains_string_string.calls k3 _ _ x3_3 (rdOf ByteArray.empty l0_2 x50_3) false _ ?side1 ?side2 A45.out).mono ?_); (case side1 => repeat (exact (Kd.R_reads' HO_3.out).2.2)); (case side2 => exact (Kd.R_reads' HO_3.out).2.1); rintro e w' ⟨rfl, ⟨nd, rfl⟩⟩) | ((with_reducible refine gate_builtin (b := .append) (xs := #[.tmp 62, .tmp 64]) rfl ?_); (try (refine gate_guard (by rfl) ?_; dsimp only)); at_builtin; refine Kd.R_append Kd.string (w0 := w) w.heap.size rfl (.tmp 62) (.tmp 64) 25 9 (.string ⟨#[]⟩) 16 rfl Try.underlying25 info9 rfl (by decide) (by omega) (.slice Ao49 x3_3.length co49) x3_3 (rdOf ByteArray.empty l0_2 x50_3) [.string (rdOf ByteArray.empty l0_2 x50_3)] (fun _ => True) (fun _ => False) rfl rfl ?aP (fun _ hk => hk.elim) ?aF ?aO ?aB ?aS ?aL ?_; (case aP => exact rfl); (case aB => exact (by repeat ((with_reducible first | exact HB.out | apply pw_below_drewN)))); (case aF => exact (fun _ _ => trivial)); (case aO => exact (by (with_reducible repeat (apply Kd.R_drewN)); exact HO_3.out)); (case aS => exact (below_size (by repeat ((with_reducible first | exact HB.out | apply pw_below_drewN))))); (case aL => have := LMc48.out; omega); intro v319 w50 ho hb hg hat; rw [← Ny318.out] at ho; have n0_ := Aside0.mk (blk_grown (g := gb303) (o := .cells #[.string a0_0, .slice A0_1 l0_1.length c0_1, .slice (some ad315) l0_2.length c0_2] 27 (0, 0)) (by (with_reducible repeat (refine blk_drewN ?_ _)); exact BK303.out) hg (Kd.R_ne HO_3.out BK303.out (by decide))); have n1_ := Aside0.mk (hb); have n2_ := Aside0.mk (ho); clear BK303; clear HB; clear HO_3; have BK303 := n0_; have HB := n1_; have HO320 := n2_; clear n0_ n1_ n2_; clear ho hb hg hat))
               go_roundg k3
               case measure => have := HJ1.out; have := HK2.out; have := HK3.out; omega
               case rel => exact ⟨(y318), (wrap64 (x50_3 + 1)), (by rfl), H', ⟨by have := HJ1.out; have := HK2.out; have := HK3.out; omega⟩, ⟨by exact HO320.out⟩, ⟨by exact BK303.out⟩, ⟨HB.out⟩⟩
              ·
               rw [if_neg c48] at H
               exact absurd H (by simp)
            ·
             replace c44 := Bool.eq_false_iff.mpr c44
             subst c44
             rw [if_neg (show ¬ (false = true) by decide)] at H
             obtain rfl := Option.some.inj H
             have p315 : 0 ≤ (x50_3 : Int) := of_decide_eq_true (by (with_reducible assumption))
             have q315 : x50_3 < (l0_2.length : Int) := of_decide_eq_true (by (with_reducible assumption))
             obtain ⟨ad315, e315, hx315_0⟩ := Kd.at_string HR0_2.out x50_3 p315 q315
             cases e315
             replace hx315_0 := (HB.out.cell (World.block_lt_of_cell? w _ hx315_0)).trans hx315_0
             replace p315 := eq_true p315
             replace q315 := eq_true q315
             go_wp2_with ((with_reducible refine gate_callee (f := 28) rfl ?_); refine goesL_ (some 55) rfl rfl Try.func28 (by kernel_rfl) rfl #[.string (rdOf ByteArray.empty l0_2 x50_3)] rfl (by (try simp only [List.map_toArray, List.map_cons, List.map_nil]); rfl) ?_; (with_reducible refine (impl_isSix.calls (rdOf ByteArray.empty l0_2 x50_3) false _ A43.out).mono ?_); rintro e w' ⟨rfl, ⟨nd, rfl⟩⟩; refine ⟨_, rfl, ?_⟩)
             go_ret
             exact ⟨by rfl, by repeat ((with_reducible first | exact HB.out | apply pw_below_drewN))⟩
           ·
            rw [if_neg c42] at H
            exact absurd H (by simp)
          ·
           rw [if_neg c41] at H
           exact absurd H (by simp)
         ·
          rw [if_neg c40] at H
          have c40b0 : decide (x50_3 < (l0_2.length : Int)) = false := decide_eq_false c40
          clear c40
          obtain rfl := Option.some.inj H
          go_wp2
          go_ret
          exact ⟨by rfl, HB.out⟩
def impl_common.l0 : Nat → ByteArray → ByteArray → Int → Option (Int)
 | 0, _, _, _ => none
 | k + 1, x0, x1, x5 => if x5 < (x0.size : Int) then (if x5 < (x1.size : Int) then (if 0 ≤ x5 then (if (bt x0 x5) = (bt x1 x5) then (impl_common.l0 k x0 x1 (wrap64 (x5 + 1))) else (some x5)) else (none)) else (some x5)) else (some x5)
def impl_common.f (k : Nat) (a0 : ByteArray) (a1 : ByteArray) : Option (Int) := impl_common.l0 k a0 a1 0
theorem impl_common.mono_l : ∀ k, (∀ y0 y1 y2, LeO (impl_common.l0 k y0 y1 y2) (impl_common.l0 (k + 1) y0 y1 y2))
 | 0 => fun _ _ _ r h => by simp [impl_common.l0] at h
 | k + 1 => by
  have ih0 := impl_common.mono_l k
  ·
   intro y0 y1 y2
   unfold impl_common.l0
   repeat' first
   | (with_reducible exact ih0 _ _ _)
   | (with_reducible exact LeO.refl _)
   | (with_reducible exact LeO.none _)
   | (with_reducible refine LeO.ite ?_ ?_)
   | (with_reducible refine LeO.bind ?_ (fun _ => ?_))
   | exact ih0 _ _ _
   | exact LeO.none _
   | refine LeO.ite ?_ ?_
   | refine LeO.bind ?_ (fun _ => ?_)
theorem impl_common.mono : ∀ a0 a1 k, LeO (impl_common.f k a0 a1) (impl_common.f (k + 1) a0 a1) := by
 intro a0 a1 k
 have ih0 := impl_common.mono_l k
 unfold impl_common.f
 repeat' first
   | (with_reducible exact ih0 _ _ _)
   | (with_reducible exact LeO.refl _)
   | (with_reducible exact LeO.none _)
   | (with_reducible refine LeO.ite ?_ ?_)
   | (with_reducible refine LeO.bind ?_ (fun _ => ?_))
   | exact ih0 _ _ _
   | exact LeO.none _
   | refine LeO.ite ?_ ?_
   | refine LeO.bind ?_ (fun _ => ?_)
set_option maxHeartbeats 8000000 in
set_option maxRecDepth 100000 in
theorem impl_common.calls (k : Nat) (a0 : ByteArray) (a1 : ByteArray) (r : Int) (w : World) (h : impl_common.f k a0 a1 = some r) :
  Calls Try.prog 29 #[.string a0, .string a1] w fun e w' => e = .returned (.int .i64 r) ∧ Drawn0 w w' := by
 have H : (impl_common.l0 k a0 a1 0) = some r := h
 clear h
 have H' := Aside0.mk H
 clear H
 go_enter Try.func29, Try.ntmps29
 go_wp2
 repeat (go_quiet (fail); try go_wp2)
 go_loopg [5] k (fun kq v5 w' => ∃ (x5_1 : Int), v5 = .int .i64 x5_1 ∧ Aside0 (impl_common.l0 kq a0 a1 x5_1 = some r) ∧ Aside0 (kq ≤ k) ∧ Drawn0 w w')
 case atStart => exact ⟨(0), (by rfl), H', ⟨Nat.le_refl _⟩, by repeat (exact Drawn0.refl _)⟩
 case round =>
  clear H'
  obtain ⟨x5_1, rfl, HA, HK1, ⟨m1, rfl⟩⟩ := hrel
  cases gk with
  | zero => exact absurd HA.out (by simp [impl_common.l0])
  | succ k1 =>
   have H := HA.out
   clear HA
   simp only [impl_common.l0] at H
   by_cases c3 : x5_1 < (a0.size : Int)
   ·
    rw [if_pos c3] at H
    have c3b0 : decide (x5_1 < (a0.size : Int)) = true := decide_eq_true c3
    clear c3
    by_cases c4 : x5_1 < (a1.size : Int)
    ·
     rw [if_pos c4] at H
     have c4b0 : decide (x5_1 < (a1.size : Int)) = true := decide_eq_true c4
     clear c4
     by_cases c5 : 0 ≤ x5_1
     ·
      rw [if_pos c5] at H
      have c5b0 : decide (0 ≤ x5_1) = true := decide_eq_true c5
      clear c5
      by_cases c8 : (bt a0 x5_1) = (bt a1 x5_1)
      ·
       rw [if_pos c8] at H
       have c8b0 : ((bt a0 x5_1) == (bt a1 x5_1)) = true := beq_iff_eq.mpr c8
       have c8b1 : ((bt a0 x5_1) != (bt a1 x5_1)) = false := bne_eq_false_iff_eq.mpr c8
       clear c8
       have H' := Aside0.mk H
       clear H
       have p6 : 0 ≤ (x5_1 : Int) := of_decide_eq_true (by (with_reducible assumption))
       have q6 : x5_1 < (a0.size : Int) := of_decide_eq_true (by (with_reducible assumption))
       have hx6 := bt_at a0 x5_1
       replace p6 := eq_true p6
       replace q6 := eq_true q6
       have p7 : 0 ≤ (x5_1 : Int) := of_decide_eq_true (by (with_reducible assumption))
       have q7 : x5_1 < (a1.size : Int) := of_decide_eq_true (by (with_reducible assumption))
       have hx7 := bt_at a1 x5_1
       replace p7 := eq_true p7
       replace q7 := eq_true q7
       go_wp2
       repeat (go_quiet (fail); try go_wp2)
       go_roundg k1
       case measure => have := HK1.out; omega
       case rel => exact ⟨(wrap64 (x5_1 + 1)), (by rfl), H', ⟨by have := HK1.out; omega⟩, by repeat (first | exact Drawn0.refl _ | apply Drawn0.step)⟩
      ·
       rw [if_neg c8] at H
       have c8b0 : ((bt a0 x5_1) == (bt a1 x5_1)) = false := beq_eq_false_iff_ne.mpr c8
       have c8b1 : ((bt a0 x5_1) != (bt a1 x5_1)) = true := bne_iff_ne.mpr c8
       obtain rfl := Option.some.inj H
       have p6 : 0 ≤ (x5_1 : Int) := of_decide_eq_true (by (with_reducible assumption))
       have q6 : x5_1 < (a0.size : Int) := of_decide_eq_true (by (with_reducible assumption))
       have hx6 := bt_at a0 x5_1
       replace p6 := eq_true p6
       replace q6 := eq_true q6
       have p7 : 0 ≤ (x5_1 : Int) := of_decide_eq_true (by (with_reducible assumption))
       have q7 : x5_1 < (a1.size : Int) := of_decide_eq_true (by (with_reducible assumption))
       have hx7 := bt_at a1 x5_1
       replace p7 := eq_true p7
       replace q7 := eq_true q7
       go_wp2
       repeat (go_quiet (fail); try go_wp2)
       go_ret
       exact ⟨by rfl, by repeat (first | exact Drawn0.refl _ | apply Drawn0.step)⟩
     ·
      rw [if_neg c5] at H
      exact absurd H (by simp)
    ·
     rw [if_neg c4] at H
     have c4b0 : decide (x5_1 < (a1.size : Int)) = false := decide_eq_false c4
     clear c4
     obtain rfl := Option.some.inj H
     go_wp2
     repeat (go_quiet (fail); try go_wp2)
     go_ret
     exact ⟨by rfl, by repeat (first | exact Drawn0.refl _ | apply Drawn0.step)⟩
   ·
    rw [if_neg c3] at H
    have c3b0 : decide (x5_1 < (a0.size : Int)) = false := decide_eq_false c3
    clear c3
    obtain rfl := Option.some.inj H
    go_wp2
    repeat (go_quiet (fail); try go_wp2)
    go_ret
    exact ⟨by rfl, by repeat (first | exact Drawn0.refl _ | apply Drawn0.step)⟩
end Go.Proofs.Ytnpbnmhbajiefaa.PFnSources
