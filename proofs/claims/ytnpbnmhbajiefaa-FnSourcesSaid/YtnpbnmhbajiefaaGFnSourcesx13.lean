-- OWN TEXT of FnSources: made by own_print.sh, finished by hand
import Derived.Test.YtnpbnmhbajiefaaHV
import Derived.Test.YtnpbnmhbajiefaaGFnSourcesx0
import Derived.Test.YtnpbnmhbajiefaaGFnSourcesx1
import Derived.Test.YtnpbnmhbajiefaaGFnSourcesx5
import Derived.Test.YtnpbnmhbajiefaaGFnSourcesx6
import Derived.Test.YtnpbnmhbajiefaaGFnSourcesx8
import Derived.Test.YtnpbnmhbajiefaaGFnSourcesx11
import Derived.Test.YtnpbnmhbajiefaaGFnSourcesx12
namespace Go.Proofs.Ytnpbnmhbajiefaa.PFnSources
open Go.RowKit Go.Proofs.YtnpbnmhbajiefaaW.PrintWords Go.Proofs.YtnpbnmhbajiefaaW.PrintLast Go.Proofs.YtnpbnmhbajiefaaW.PrintMore
attribute [local go_sem] max2_int min2_int max_two min_two max_three min_three max_four min_four   -- for this text's walks alone
set_option linter.unusedVariables false
set_option linter.unusedSimpArgs false
mutual
def laws_FnSources.j0 : Nat → List Int → List Int → Bool → Option (Bool)
 | 0, _, _, _ => none
 | k + 1, x0, x1, x28 => if x28 = true then (some true) else ((spec_LinkOf.f x0).bind fun t379 => ((spec_AutoActsOf.f k x0 t379).bind fun t380 => ((spec_AutoRun.f k t379 t380).bind fun bt383 => ((impl_LinkLocal.f k t379).bind fun bt395 => (if 0 ≤ (mn (bt395.1.size : Int) 8) then (if (mn (bt395.1.size : Int) 8) ≤ (bt395.1.size : Int) then (if (bt395.1.extract 0 ((mn (bt395.1.size : Int) 8) : Int).toNat).size + 8 ≤ 9223372036854775807 then ((impl_EuiAddr.f k ((bt395.1.extract 0 ((mn (bt395.1.size : Int) 8) : Int).toNat) ++ (⟨#[49, 50, 51, 52, 53, 54, 55, 56]⟩ : ByteArray)) t379).bind fun bt397 => (if bt395.2 = 0 then (if bt397.2 = 0 then (if bt397.1.toList = bt395.1.toList then (laws_FnSources.j1 k x1 bt397.1 ((bt397.1.size : Int) != 16) bt383.1 bt383.2.1 bt383.2.2.1) else (laws_FnSources.j1 k x1 bt397.1 true bt383.1 bt383.2.1 bt383.2.2.1)) else (laws_FnSources.j1 k x1 bt397.1 true bt383.1 bt383.2.1 bt383.2.2.1)) else (laws_FnSources.j1 k x1 bt397.1 true bt383.1 bt383.2.1 bt383.2.2.1))) else (none)) else (none)) else (none))))))
def laws_FnSources.j1 : Nat → List Int → ByteArray → Bool → ByteArray → List (S39) → List ByteArray → Option (Bool)
 | 0, _, _, _, _, _, _ => none
 | k + 1, x1, x11, x71, x395000, x395001, x395002 => if x71 = true then (none) else ((laws_at.f x1 0 2).bind fun t399 => (if t399 = 0 then ((laws_at.f x1 1 3).bind fun t400 => ((laws_at.f x1 2 3).bind fun t401 => ((some (([(t400) % 256, (t401) % 256] : List Int) : List Int)).bind fun y402 => (if 2 + (strOfNums y402).size ≤ 9223372036854775807 then (if ((⟨#[32, 1]⟩ : ByteArray) ++ (strOfNums y402)).size + 12 ≤ 9223372036854775807 then (laws_FnSources.j2 k (((⟨#[32, 1]⟩ : ByteArray) ++ (strOfNums y402)) ++ (⟨#[49, 50, 51, 52, 53, 54, 55, 56, 57, 48, 49, 50]⟩ : ByteArray)) x395000 x395001 x395002) else (none)) else (none))))) else (laws_FnSources.j2 k x11 x395000 x395001 x395002)))
def laws_FnSources.j2 : Nat → ByteArray → ByteArray → List (S39) → List ByteArray → Option (Bool)
 | 0, _, _, _, _ => none
 | k + 1, x11, x395000, x395001, x395002 => (impl_SourceFor.f k x395000 x395001 x395002 x11).bind fun bt405 => ((spec_SourceFor.f k x395000 x395001 x395002 x11).bind fun bt407 => (if 2 ≤ (x11.size : Int) then (if 2 + (x11.extract 2 x11.size).size ≤ 9223372036854775807 then ((impl_GroupLink.f k ((⟨#[255, 2]⟩ : ByteArray) ++ (x11.extract 2 x11.size))).bind fun bt409 => (if bt405.2 = bt407.2 then (if bt405.1.toList = bt407.1.toList then (if bt409.2 = 0 then (if 12 ≤ (x11.size : Int) then (if 2 + (x11.extract 12 x11.size).size ≤ 9223372036854775807 then (laws_FnSources.j3 k bt405.1 bt405.2 (bt409.1.toList != ((⟨#[51, 51]⟩ : ByteArray) ++ (x11.extract 12 x11.size)).toList) x395000 x395001 x395002) else (none)) else (none)) else (laws_FnSources.j3 k bt405.1 bt405.2 true x395000 x395001 x395002)) else (laws_FnSources.j3 k bt405.1 bt405.2 true x395000 x395001 x395002)) else (laws_FnSources.j3 k bt405.1 bt405.2 true x395000 x395001 x395002))) else (none)) else (none)))
def laws_FnSources.j3 : Nat → ByteArray → Int → Bool → ByteArray → List (S39) → List ByteArray → Option (Bool)
 | 0, _, _, _, _, _, _ => none
 | k + 1, x13, x14, x122, x395000, x395001, x395002 => if x122 = true then (none) else (laws_FnSources.l0 k x13 x14 0 x395000 x395001 x395002)
def laws_FnSources.l0 : Nat → ByteArray → Int → Int → ByteArray → List (S39) → List ByteArray → Option (Bool)
 | 0, _, _, _, _, _, _ => none
 | k + 1, x13, x14, x19, x395000, x395001, x395002 => if x19 < (x395001.length : Int) then (if 0 ≤ x19 then (if x14 = 0 then (laws_FnSources.j5 k x13 x14 x19 false x395000 x395001 x395002 ((rd_T39 x395001 x19).f0) ((rd_T39 x395001 x19).f1) ((rd_T39 x395001 x19).f2) ((rd_T39 x395001 x19).f3) ((rd_T39 x395001 x19).f4)) else (laws_FnSources.j5 k x13 x14 x19 (((rd_T39 x395001 x19).f1) != 1) x395000 x395001 x395002 ((rd_T39 x395001 x19).f0) ((rd_T39 x395001 x19).f1) ((rd_T39 x395001 x19).f2) ((rd_T39 x395001 x19).f3) ((rd_T39 x395001 x19).f4))) else (none)) else (some true)
def laws_FnSources.j5 : Nat → ByteArray → Int → Int → Bool → ByteArray → List (S39) → List ByteArray → ByteArray → Int → Int → Int → Int → Option (Bool)
 | 0, _, _, _, _, _, _, _, _, _, _, _, _ => none
 | k + 1, x13, x14, x19, x141, x395000, x395001, x395002, x413000, x413001, x413002, x413003, x413004 => if x141 = true then (none) else (if x413000.toList = x13.toList then (if x413001 = 1 then (none) else (laws_FnSources.l0 k x13 x14 (wrap64 (x19 + 1)) x395000 x395001 x395002)) else (laws_FnSources.l0 k x13 x14 (wrap64 (x19 + 1)) x395000 x395001 x395002))
end
def laws_FnSources.f (k : Nat) (l0 : List Int) (l1 : List Int) : Option (Bool) := if (l0.length : Int) > 1048576 then (laws_FnSources.j0 k l0 l1 true) else (laws_FnSources.j0 k l0 l1 (decide ((l1.length : Int) > 1048576)))
set_option maxHeartbeats 8000000 in
set_option maxRecDepth 100000 in
theorem laws_FnSources.calls (k : Nat) (A0 : Option Addr) (c0 : Nat) (l0 : List Int) (A1 : Option Addr) (c1 : Nat) (l1 : List Int) (r : Bool) (w : World) (hr0 : Kd.C (Kd.int .u8) w A0 l0.length l0) (hc0 : l0.length ≤ c0) (hr1 : Kd.C (Kd.int .u8) w A1 l1.length l1) (hc1 : l1.length ≤ c1) (h : laws_FnSources.f k l0 l1 = some r) :
  Calls Try.prog 3 #[.slice A0 l0.length c0, .slice A1 l1.length c1] w fun e w' => e = .returned (.bool r) ∧ Below w.heap.size w w' := by
 have hu27 := Try.underlying27
 have hu39 := Try.underlying39
 have HR0 := Aside0.mk hr0
 have HC0 := Aside0.mk hc0
 clear hr0 hc0
 have HR1 := Aside0.mk hr1
 have HC1 := Aside0.mk hc1
 clear hr1 hc1
 have HB := Aside0.mk (Below.refl w.heap.size w)
 have H : (if (l0.length : Int) > 1048576 then (laws_FnSources.j0 k l0 l1 true) else (laws_FnSources.j0 k l0 l1 (decide ((l1.length : Int) > 1048576)))) = some r := h
 clear h
 have HC3 := Aside0.mk H
 clear H
 go_enter Try.func3, Try.ntmps3
 go_upto_region 1 with (fail)
 go_cut [28] (fun v28 wc => ∃ (kq : Nat) (x28_2 : Bool), v28 = .bool x28_2 ∧ Aside0 (laws_FnSources.j0 kq l0 l1 x28_2 = some r) ∧ Aside0 (kq ≤ k) ∧ Aside0 (Below w.heap.size w wc))
 case first =>
  have H := HC3.out
  clear HC3
  by_cases c4 : (l0.length : Int) > 1048576
  ·
   rw [if_pos c4] at H
   have c4b0 : decide (1048576 < (l0.length : Int)) = true := decide_eq_true c4
   have c4b1 : decide (1048576 < l0.length) = true := decide_eq_true (by omega)
   clear c4
   (skip)
   have H' := Aside0.mk H
   clear H
   go_wp2
   go_meet
   case rel => exact ⟨_, (true), (by rfl), H', ⟨by omega⟩, ⟨HB.out⟩⟩
  ·
   rw [if_neg c4] at H
   have c4b0 : decide (1048576 < (l0.length : Int)) = false := decide_eq_false c4
   have c4b1 : decide (1048576 < l0.length) = false := decide_eq_false (by omega)
   clear c4
   (skip)
   have H' := Aside0.mk H
   clear H
   go_wp2
   go_meet
   case rel => exact ⟨_, (decide ((l1.length : Int) > 1048576)), (by rfl), H', ⟨by omega⟩, ⟨HB.out⟩⟩
 case rest =>
  clear HC3
  obtain ⟨kq, x28_2, rfl, HA, HJ2, HB⟩ := hcut
  cases kq with
  | zero => exact absurd HA.out (by simp [laws_FnSources.j0])
  | succ kj2 =>
   have H := HA.out
   clear HA
   simp only [laws_FnSources.j0] at H
   by_cases c5 : x28_2 = true
   ·
    subst c5
    rw [if_pos rfl] at H
    obtain rfl := Option.some.inj H
    go_wp2
    go_ret
    exact ⟨by rfl, HB.out⟩
   ·
    replace c5 := Bool.eq_false_iff.mpr c5
    subst c5
    rw [if_neg (show ¬ (false = true) by decide)] at H
    replace H := Option.bind_eq_some_iff.mp H
    obtain ⟨t379, A60, H⟩ := H
    have A6 := Aside0.mk A60
    clear A60
    replace H := Option.bind_eq_some_iff.mp H
    obtain ⟨t380, A70, H⟩ := H
    have A7 := Aside0.mk A70
    clear A70
    replace H := Option.bind_eq_some_iff.mp H
    obtain ⟨⟨t383, t384, t387, t390, t393⟩, A80, H⟩ := H
    have A8 := Aside0.mk A80
    clear A80
    replace H := Option.bind_eq_some_iff.mp H
    obtain ⟨⟨t395, t396⟩, A90, H⟩ := H
    have A9 := Aside0.mk A90
    clear A90
    obtain ⟨ji10, hji10⟩ : ∃ j_ : Int, (mn (t395.size : Int) 8) = j_ := ⟨_, rfl⟩
    replace H : (if 0 ≤ (ji10) then (if (ji10) ≤ (t395.size : Int) then (if (t395.extract 0 ((ji10) : Int).toNat).size + 8 ≤ 9223372036854775807 then ((impl_EuiAddr.f kj2 ((t395.extract 0 ((ji10) : Int).toNat) ++ (⟨#[49, 50, 51, 52, 53, 54, 55, 56]⟩ : ByteArray)) t379).bind fun bt397 => (if t396 = 0 then (if bt397.2 = 0 then (if bt397.1.toList = t395.toList then (laws_FnSources.j1 kj2 l1 bt397.1 ((bt397.1.size : Int) != 16) t383 t384 t387) else (laws_FnSources.j1 kj2 l1 bt397.1 true t383 t384 t387)) else (laws_FnSources.j1 kj2 l1 bt397.1 true t383 t384 t387)) else (laws_FnSources.j1 kj2 l1 bt397.1 true t383 t384 t387))) else (none)) else (none)) else (none)) = some r := by (rw [hji10] at H; exact H)
    (try rw [hji10] at A6)
    (try rw [hji10] at A7)
    (try rw [hji10] at A8)
    (try rw [hji10] at A9)
    (try (have hji10h : ji10 ≤ 8 := by (rw [← hji10]; unfold mn; (repeat' split) <;> omega)))
    (try (have hji10g : ji10 ≤ 64 := by omega))
    (try (have hji10l : 0 ≤ ji10 := by (rw [← hji10]; unfold mn; (repeat' split) <;> omega)))
    (try (have hji10m : 0 ≤ ji10 := by omega))
    have hji10_ : (if 8 < (t395.size : Int) then 8 else (t395.size : Int)) = ji10 := hji10
    by_cases c11 : 0 ≤ (ji10)
    ·
     rw [if_pos c11] at H
     have c11b0 := eq_true c11
     have c11b1 : decide (0 ≤ (ji10)) = true := decide_eq_true c11
     clear c11
     by_cases c12 : (ji10) ≤ (t395.size : Int)
     ·
      rw [if_pos c12] at H
      have c12b0 := eq_true c12
      have c12b1 : decide ((ji10) ≤ (t395.size : Int)) = true := decide_eq_true c12
      clear c12
      by_cases c13 : (t395.extract 0 ((ji10) : Int).toNat).size + 8 ≤ 9223372036854775807
      ·
       rw [if_pos c13] at H
       have c13b0 := eq_true c13
       have c13b1 : decide ((t395.extract 0 ((ji10) : Int).toNat).size + 8 ≤ 9223372036854775807) = true := decide_eq_true c13
       try have c13b2 : (9223372036854775807 < (t395.extract 0 ((ji10) : Int).toNat).size + 8) = False := eq_false (Nat.not_lt.2 c13)
       replace H := Option.bind_eq_some_iff.mp H
       obtain ⟨⟨t397, t398⟩, A140, H⟩ := H
       have A14 := Aside0.mk A140
       clear A140
       have HC15 := Aside0.mk H
       clear H
       go_upto_region 7 with (first | ((with_reducible refine gate_callee (f := 5) rfl ?_); refine goesL_ (some 30) rfl rfl Try.func5 (by kernel_rfl) rfl #[.slice A0 l0.length c0] rfl (by (try simp only [List.map_toArray, List.map_cons, List.map_nil]); rfl) ?_; (with_reducible refine (spec_LinkOf.calls _ _ l0 t379 _ ?side1 ?side2 A6.out).mono ?_); (case side1 => repeat (exact (Kd.C_below HR0.out HB.out))); (case side2 => exact HC0.out); rintro e w16 ⟨rfl, hb⟩; refine ⟨_, rfl, ?_⟩; have n0_ := Aside0.mk (below_step HB.out hb); clear HB; have HB := n0_; clear n0_; (try clear hb)) | ((with_reducible refine gate_callee (f := 7) rfl ?_); refine goesL_ (some 35) rfl rfl Try.func7 (by kernel_rfl) rfl #[.slice A0 l0.length c0, .string t379] rfl (by (try simp only [List.map_toArray, List.map_cons, List.map_nil]); rfl) ?_; (with_reducible refine (spec_AutoActsOf.calls kj2 _ _ l0 t379 t380 _ ?side1 ?side2 A7.out).mono ?_); (case side1 => repeat (exact (Kd.C_below HR0.out HB.out))); (case side2 => exact HC0.out); rintro e w17 ⟨v381, rfl, ho0, hb⟩; refine ⟨_, rfl, ?_⟩; have n0_ := Aside0.mk (Kd.R_lower ho0 (below_size HB.out)); have n1_ := Aside0.mk (below_step HB.out hb); clear HB; have HO382 := n0_; have HB := n1_; clear n0_ n1_; (try clear hb); (try clear ho0); obtain ⟨Ao18, co18, eo18⟩ := Kd.R_slice HO382.out; subst eo18) | ((with_reducible refine gate_callee (f := 6) rfl ?_); refine goesL_ (some 36) rfl rfl Try.func6 (by kernel_rfl) rfl #[.string t379, .slice Ao18 t380.length co18] rfl (by (try simp only [List.map_toArray, List.map_cons, List.map_nil]); rfl) ?_; (with_reducible refine (spec_AutoRun.calls kj2 t379 _ _ t380 t383 t384 t387 t390 t393 _ ?side1 ?side2 A8.out).mono ?_); (case side1 => repeat (exact (Kd.R_reads' HO382.out).2.2)); (case side2 => exact (Kd.R_reads' HO382.out).2.1); rintro e w19 ⟨v385, v388, v391, rfl, ho0, ho1, ho2, hb⟩; refine ⟨_, rfl, ?_⟩; have n0_ := Aside0.mk (Kd.R_below (by exact HO382.out) hb); have n1_ := Aside0.mk (Kd.R_lower ho0 (below_size HB.out)); have n2_ := Aside0.mk (Kd.R_lower ho1 (below_size HB.out)); have n3_ := Aside0.mk trivial; have n4_ := Aside0.mk (below_step HB.out hb); clear HO382; clear HB; have HO382 := n0_; have HO386 := n1_; have HO389 := n2_; have HO392 := n3_; have HB := n4_; clear n0_ n1_ n2_ n3_ n4_; (try clear hb); (try clear ho0); (try clear ho1); (try clear ho2)) | ((with_reducible refine gate_dst (N := 6) rfl ?_); (try (refine gate_guard (by rfl) ?_; dsimp only)); refine box_event ?hg (N := 6) ?hd (cs := #[.string (⟨#[]⟩ : ByteArray), .slice none 0 0, .slice none 0 0]) (t := 27) ?hr ?_; (case hd => rfl); (case hg => rfl); (case hr => (go_simp; done)); intro gb394 hg w20 hbox hb; have n0_ := Aside0.mk (Kd.R_below (by exact HO382.out) hb); have n1_ := Aside0.mk (Kd.R_below (by exact HO386.out) hb); have n2_ := Aside0.mk (Kd.R_below (by exact HO389.out) hb); have n3_ := Aside0.mk trivial; have n4_ := Aside0.mk (below_step HB.out hb); have n5_ := Aside0.mk (hbox); have n6_ := Aside0.mk ((by rw [hg]; exact (below_size HB.out) : w.heap.size ≤ gb394)); have n7_ := Aside0.mk ((by rw [hg]; exact (below_size HB.out) : w.heap.size ≤ gb394)); clear HO382; clear HO386; clear HO389; clear HO392; clear HB; have HO382 := n0_; have HO386 := n1_; have HO389 := n2_; have HO392 := n3_; have HB := n4_; have BK394 := n5_; have GW394 := n6_; have GE394 := n7_; clear n0_ n1_ n2_ n3_ n4_ n5_ n6_ n7_; clear hb hbox hg; have hcz21_0 : w20.cell? ⟨gb394, 0, none⟩ = some (.string (⟨#[]⟩ : ByteArray)) := (blk_cell BK394.out 0).trans rfl; have hcz21_1 : w20.cell? ⟨gb394, 1, none⟩ = some (.slice none 0 0) := (blk_cell BK394.out 1).trans rfl; have hcz21_2 : w20.cell? ⟨gb394, 2, none⟩ = some (.slice none 0 0) := (blk_cell BK394.out 2).trans rfl; have hfz21_0 := blk_frozen BK394.out 0; have hfz21_1 := blk_frozen BK394.out 1; have hfz21_2 := blk_frozen BK394.out 2; obtain ⟨Ao22, co22, eo22⟩ := Kd.R_slice HO386.out; subst eo22; obtain ⟨Ao23, co23, eo23⟩ := Kd.R_slice HO389.out; subst eo23) | ((with_reducible refine gate_callee (f := 8) rfl ?_); refine goesL_ (some 42) rfl rfl Try.func8 (by kernel_rfl) rfl #[.string t379] rfl (by (try simp only [List.map_toArray, List.map_cons, List.map_nil]); rfl) ?_; (with_reducible refine (impl_LinkLocal.calls kj2 t379 t395 t396 _ A9.out).mono ?_); rintro e w24 ⟨rfl, hb⟩; refine ⟨_, rfl, ?_⟩; have n0_ := Aside0.mk (Kd.R_below (by exact (Kd.R_mono (Kd.R_far (p := ⟨gb394, 2, none⟩) (Kd.R_far (p := ⟨gb394, 1, none⟩) (Kd.R_far (p := ⟨gb394, 0, none⟩) (Kd.R_types HO382.out BK394.out (by decide)) (fun _ hk => hk.2) (.string t383)) (fun _ hk => hk.2) (.slice Ao22 t384.length co22)) (fun _ hk => hk.2) (.slice Ao23 t387.length co23)) (fun _ h_ => h_.1))) hb); have n1_ := Aside0.mk (Kd.R_below (by exact (Kd.R_mono (Kd.R_far (p := ⟨gb394, 2, none⟩) (Kd.R_far (p := ⟨gb394, 1, none⟩) (Kd.R_far (p := ⟨gb394, 0, none⟩) (Kd.R_types HO386.out BK394.out (by decide)) (fun _ hk => hk.2) (.string t383)) (fun _ hk => hk.2) (.slice Ao22 t384.length co22)) (fun _ hk => hk.2) (.slice Ao23 t387.length co23)) (fun _ h_ => h_.1))) hb); have n2_ := Aside0.mk (Kd.R_below (by exact (Kd.R_mono (Kd.R_far (p := ⟨gb394, 2, none⟩) (Kd.R_far (p := ⟨gb394, 1, none⟩) (Kd.R_far (p := ⟨gb394, 0, none⟩) (Kd.R_types HO389.out BK394.out (by decide)) (fun _ hk => hk.2) (.string t383)) (fun _ hk => hk.2) (.slice Ao22 t384.length co22)) (fun _ hk => hk.2) (.slice Ao23 t387.length co23)) (fun _ h_ => h_.1))) hb); have n3_ := Aside0.mk trivial; have n4_ := Aside0.mk (blk_below (g := gb394) (o := .cells #[.string t383, .slice Ao22 t384.length co22, .slice Ao23 t387.length co23] 27 (0, 0)) (by refine blk_put (cs := #[.string t383, .slice Ao22 t384.length co22, .slice none 0 0]) ?_ 2 _ rfl; refine blk_put (cs := #[.string t383, .slice none 0 0, .slice none 0 0]) ?_ 1 _ rfl; refine blk_put (cs := #[.string (⟨#[]⟩ : ByteArray), .slice none 0 0, .slice none 0 0]) ?_ 0 _ rfl; exact BK394.out) hb); have n5_ := Aside0.mk (below_step (by repeat ((with_reducible first | exact HB.out | refine below_set ?_ GE394.out))) hb); clear HO382; clear HO386; clear HO389; clear HO392; clear BK394; clear HB; have HO382 := n0_; have HO386 := n1_; have HO389 := n2_; have HO392 := n3_; have BK394 := n4_; have HB := n5_; clear n0_ n1_ n2_ n3_ n4_ n5_; (try clear hb)) | ((with_reducible refine gate_callee (f := 9) rfl ?_); refine goesL_ (some 53) rfl rfl Try.func9 (by kernel_rfl) rfl #[.string ((t395.extract 0 ((ji10) : Int).toNat) ++ (⟨#[49, 50, 51, 52, 53, 54, 55, 56]⟩ : ByteArray)), .string t379] rfl (by (try simp only [List.map_toArray, List.map_cons, List.map_nil]); rfl) ?_; (with_reducible refine (impl_EuiAddr.calls kj2 ((t395.extract 0 ((ji10) : Int).toNat) ++ (⟨#[49, 50, 51, 52, 53, 54, 55, 56]⟩ : ByteArray)) t379 t397 t398 _ A14.out).mono ?_); rintro e w25 ⟨rfl, hb⟩; refine ⟨_, rfl, ?_⟩; have n0_ := Aside0.mk (Kd.R_below (by exact HO382.out) hb); have n1_ := Aside0.mk (Kd.R_below (by exact HO386.out) hb); have n2_ := Aside0.mk (Kd.R_below (by exact HO389.out) hb); have n3_ := Aside0.mk trivial; have n4_ := Aside0.mk (blk_below (g := gb394) (o := .cells #[.string t383, .slice Ao22 t384.length co22, .slice Ao23 t387.length co23] 27 (0, 0)) (by exact BK394.out) hb); have n5_ := Aside0.mk (below_step (HB.out) hb); clear HO382; clear HO386; clear HO389; clear HO392; clear BK394; clear HB; have HO382 := n0_; have HO386 := n1_; have HO389 := n2_; have HO392 := n3_; have BK394 := n4_; have HB := n5_; clear n0_ n1_ n2_ n3_ n4_ n5_; (try clear hb)))
       (try simp only [Act.put, List.setIfInBounds_toArray, List.set_cons_zero, List.set_cons_succ])
       go_cut [71] (fun v71 wc => ∃ (kq : Nat) (x71_14 : Bool), v71 = .bool x71_14 ∧ Aside0 (laws_FnSources.j1 kq l1 t397 x71_14 t383 t384 t387 = some r) ∧ Aside0 (kq ≤ kj2) ∧ Aside0 (Kd.R k39 39 wc w.heap.size (fun _ => True) (.slice Ao22 t384.length co22) t384) ∧ Aside0 (Kd.R Kd.string 9 wc w.heap.size (fun _ => True) (.slice Ao23 t387.length co23) t387) ∧ Aside0 (wc.heap[gb394]? = some (.cells #[.string t383, (.slice Ao22 t384.length co22), (.slice Ao23 t387.length co23)] 27 (0, 0))) ∧ Aside0 (Below w.heap.size w wc))
       case first =>
        have H := HC15.out
        clear HC15
        by_cases c26 : t396 = 0
        ·
         rw [if_pos c26] at H
         have c26b0 : (t396 == 0) = true := beq_iff_eq.mpr c26
         have c26b1 : (t396 != 0) = false := bne_eq_false_iff_eq.mpr c26
         clear c26
         (skip)
         by_cases c27 : t398 = 0
         ·
          rw [if_pos c27] at H
          have c27b0 : (t398 == 0) = true := beq_iff_eq.mpr c27
          have c27b1 : (t398 != 0) = false := bne_eq_false_iff_eq.mpr c27
          clear c27
          by_cases c28 : t397.toList = t395.toList
          ·
           rw [if_pos c28] at H
           have c28b0 : (t397.toList == t395.toList) = true := beq_iff_eq.mpr c28
           have c28b1 : (t397.toList != t395.toList) = false := bne_eq_false_iff_eq.mpr c28
           clear c28
           have H' := Aside0.mk H
           clear H
           go_wp2
           go_meet
           case rel => exact ⟨_, (((t397.size : Int) != 16)), (by rfl), H', ⟨by have := HJ2.out; omega⟩, ⟨by exact HO386.out⟩, ⟨by exact HO389.out⟩, ⟨by exact BK394.out⟩, ⟨HB.out⟩⟩
          ·
           rw [if_neg c28] at H
           have c28b0 : (t397.toList == t395.toList) = false := beq_eq_false_iff_ne.mpr c28
           have c28b1 : (t397.toList != t395.toList) = true := bne_iff_ne.mpr c28
           have H' := Aside0.mk H
           clear H
           go_wp2
           go_meet
           case rel => exact ⟨_, (true), (by rfl), H', ⟨by have := HJ2.out; omega⟩, ⟨by exact HO386.out⟩, ⟨by exact HO389.out⟩, ⟨by exact BK394.out⟩, ⟨HB.out⟩⟩
         ·
          rw [if_neg c27] at H
          have c27b0 : (t398 == 0) = false := beq_eq_false_iff_ne.mpr c27
          have c27b1 : (t398 != 0) = true := bne_iff_ne.mpr c27
          have H' := Aside0.mk H
          clear H
          go_wp2
          go_meet
          case rel => exact ⟨_, (true), (by rfl), H', ⟨by have := HJ2.out; omega⟩, ⟨by exact HO386.out⟩, ⟨by exact HO389.out⟩, ⟨by exact BK394.out⟩, ⟨HB.out⟩⟩
        ·
         rw [if_neg c26] at H
         have c26b0 : (t396 == 0) = false := beq_eq_false_iff_ne.mpr c26
         have c26b1 : (t396 != 0) = true := bne_iff_ne.mpr c26
         (skip)
         have H' := Aside0.mk H
         clear H
         go_wp2
         go_meet
         case rel => exact ⟨_, (true), (by rfl), H', ⟨by have := HJ2.out; omega⟩, ⟨by exact HO386.out⟩, ⟨by exact HO389.out⟩, ⟨by exact BK394.out⟩, ⟨HB.out⟩⟩
       case rest =>
        clear HC15
        try clear c11b0
        try clear c11b1
        try clear c12b0
        try clear c12b1
        try clear c13
        try clear c13b0
        try clear c13b1
        try clear c13b2
        try clear hcz21_0
        try clear hcz21_1
        try clear hcz21_2
        try clear hfz21_0
        try clear hfz21_1
        try clear hfz21_2
        obtain ⟨kq, x71_14, rfl, HA, HJ14, HO_395001, HO_395002, BK394, HB⟩ := hcut
        cases kq with
        | zero => exact absurd HA.out (by simp [laws_FnSources.j1])
        | succ kj14 =>
         have H := HA.out
         clear HA
         simp only [laws_FnSources.j1] at H
         by_cases c29 : x71_14 = true
         ·
          subst c29
          rw [if_pos rfl] at H
          exact absurd H (by simp)
         ·
          replace c29 := Bool.eq_false_iff.mpr c29
          subst c29
          rw [if_neg (show ¬ (false = true) by decide)] at H
          replace H := Option.bind_eq_some_iff.mp H
          obtain ⟨t399, A300, H⟩ := H
          have A30 := Aside0.mk A300
          clear A300
          have HC31 := Aside0.mk H
          clear H
          go_upto_if 74 with (((with_reducible refine gate_callee (f := 10) rfl ?_); refine goesL_ (some 73) rfl rfl Try.func10 (by kernel_rfl) rfl #[.slice A1 l1.length c1, .int .i64 0, .int .i64 2] rfl (by (try simp only [List.map_toArray, List.map_cons, List.map_nil]); rfl) ?_; (with_reducible refine (laws_at.calls _ _ l1 0 2 t399 _ ?side1 ?side2 A30.out).mono ?_); (case side1 => repeat (exact (Kd.C_below HR1.out HB.out))); (case side2 => exact HC1.out); rintro e w' ⟨rfl, ⟨nd, rfl⟩⟩; refine ⟨_, rfl, ?_⟩))
          (try simp only [Act.put, List.setIfInBounds_toArray, List.set_cons_zero, List.set_cons_succ])
          go_cut [11] (fun v11 wc => ∃ (kq : Nat) (x11_30 : ByteArray), v11 = .string x11_30 ∧ Aside0 (laws_FnSources.j2 kq x11_30 t383 t384 t387 = some r) ∧ Aside0 (kq ≤ kj14) ∧ Aside0 (Kd.R k39 39 wc w.heap.size (fun _ => True) (.slice Ao22 t384.length co22) t384) ∧ Aside0 (Kd.R Kd.string 9 wc w.heap.size (fun _ => True) (.slice Ao23 t387.length co23) t387) ∧ Aside0 (wc.heap[gb394]? = some (.cells #[.string t383, (.slice Ao22 t384.length co22), (.slice Ao23 t387.length co23)] 27 (0, 0))) ∧ Aside0 (Below w.heap.size w wc))
          case first =>
           have H := HC31.out
           clear HC31
           by_cases c32 : t399 = 0
           ·
            rw [if_pos c32] at H
            have c32b0 : (t399 == 0) = true := beq_iff_eq.mpr c32
            have c32b1 : (t399 != 0) = false := bne_eq_false_iff_eq.mpr c32
            clear c32
            (rw [c32b0])
            replace H := Option.bind_eq_some_iff.mp H
            obtain ⟨t400, A330, H⟩ := H
            have A33 := Aside0.mk A330
            clear A330
            replace H := Option.bind_eq_some_iff.mp H
            obtain ⟨t401, A340, H⟩ := H
            have A34 := Aside0.mk A340
            clear A340
            obtain ⟨y402, hy402⟩ : ∃ y_ : List Int, y_ = (([(t400) % 256, (t401) % 256] : List Int)) := ⟨_, rfl⟩
            replace H : (if 2 + (strOfNums y402).size ≤ 9223372036854775807 then (if ((⟨#[32, 1]⟩ : ByteArray) ++ (strOfNums y402)).size + 12 ≤ 9223372036854775807 then (laws_FnSources.j2 kj14 (((⟨#[32, 1]⟩ : ByteArray) ++ (strOfNums y402)) ++ (⟨#[49, 50, 51, 52, 53, 54, 55, 56, 57, 48, 49, 50]⟩ : ByteArray)) t383 t384 t387) else (none)) else (none)) = some r := by (have H2_ := (Option.bind_some _ _).symm.trans H; rw [hy402]; with_reducible exact H2_)
            have Ny402 := Aside0.mk hy402
            clear hy402
            by_cases c35 : 2 + (strOfNums y402).size ≤ 9223372036854775807
            ·
             rw [if_pos c35] at H
             have c35b0 := eq_true c35
             have c35b1 : decide (2 + (strOfNums y402).size ≤ 9223372036854775807) = true := decide_eq_true c35
             try have c35b2 : (9223372036854775807 < 2 + (strOfNums y402).size) = False := eq_false (Nat.not_lt.2 c35)
             by_cases c36 : ((⟨#[32, 1]⟩ : ByteArray) ++ (strOfNums y402)).size + 12 ≤ 9223372036854775807
             ·
              rw [if_pos c36] at H
              have c36b0 := eq_true c36
              have c36b1 : decide (((⟨#[32, 1]⟩ : ByteArray) ++ (strOfNums y402)).size + 12 ≤ 9223372036854775807) = true := decide_eq_true c36
              try have c36b2 : (9223372036854775807 < ((⟨#[32, 1]⟩ : ByteArray) ++ (strOfNums y402)).size + 12) = False := eq_false (Nat.not_lt.2 c36)
              try have c36b3 : (9223372036854775807 < 2 + (strOfNums y402).size + 12) = False := eq_false (by have h_ := c36; simp only [ByteArray.size_append, ByteArray.size_extract, show (⟨#[32, 1]⟩ : ByteArray).size = 2 from rfl] at h_; omega)
              have H' := Aside0.mk H
              clear H
              go_wp2_with (first | ((with_reducible refine gate_callee (f := 10) rfl ?_); refine goesL_ (some 76) rfl rfl Try.func10 (by kernel_rfl) rfl #[.slice A1 l1.length c1, .int .i64 1, .int .i64 3] rfl (by (try simp only [List.map_toArray, List.map_cons, List.map_nil]); rfl) ?_; (with_reducible refine (laws_at.calls _ _ l1 1 3 t400 _ ?side1 ?side2 A33.out).mono ?_); (case side1 => repeat (first | exact (Kd.C_below HR1.out HB.out) | (with_reducible refine Kd.C_drewN ?_ _))); (case side2 => exact HC1.out); rintro e w' ⟨rfl, ⟨nd, rfl⟩⟩; refine ⟨_, rfl, ?_⟩) | ((with_reducible refine gate_callee (f := 10) rfl ?_); refine goesL_ (some 79) rfl rfl Try.func10 (by kernel_rfl) rfl #[.slice A1 l1.length c1, .int .i64 2, .int .i64 3] rfl (by (try simp only [List.map_toArray, List.map_cons, List.map_nil]); rfl) ?_; (with_reducible refine (laws_at.calls _ _ l1 2 3 t401 _ ?side1 ?side2 A34.out).mono ?_); (case side1 => repeat ((exact (Kd.C_below HR1.out (by repeat ((with_reducible first | exact HB.out | apply pw_below_drewN))))))); (case side2 => exact HC1.out); rintro e w' ⟨rfl, ⟨nd, rfl⟩⟩; refine ⟨_, rfl, ?_⟩) | ((with_reducible refine gate_dst (N := 81) rfl ?_); (try (refine gate_guard (by rfl) ?_; dsimp only)); refine Kd.R_lit (Kd.int .u8) _ 5 ?hg (N := 81) ?hd (xs := ([(t400) % 256, (t401) % 256] : List Int)) (inner := [.int .u8 ((t400) % 256), .int .u8 ((t401) % 256)]) (ok := fun _ => True) (okp := fun _ => True) ?hr ?hp (fun _ hk => hk) trivial (Below.refl _ _) (Nat.le_refl _) (by simp) ?_; (case hd => rfl); (case hg => rfl); (case hr => (go_simp; done)); (case hp => exact (Reps.one (show Kd.M (Kd.int .u8) _ _ _ ((t400) % 256) [.int .u8 ((t400) % 256)] from rfl) (Reps.one (show Kd.M (Kd.int .u8) _ _ _ ((t401) % 256) [.int .u8 ((t401) % 256)] from rfl) (Reps.none _ _)))); intro v403 w37 ho38 hb hg_ hnew_; clear hg_ hnew_; (rw [← Ny402.out] at ho38); have n0_ := Aside0.mk (Kd.R_below (by (with_reducible repeat (apply Kd.R_drewN)); exact HO_395001.out) hb); have n1_ := Aside0.mk (Kd.R_below (by (with_reducible repeat (apply Kd.R_drewN)); exact HO_395002.out) hb); have n2_ := Aside0.mk (Kd.R_lower ho38 (below_size (by repeat ((with_reducible first | exact HB.out | apply pw_below_drewN))))); have n3_ := Aside0.mk (blk_below (g := gb394) (o := .cells #[.string t383, .slice Ao22 t384.length co22, .slice Ao23 t387.length co23] 27 (0, 0)) (by (with_reducible repeat (refine blk_drewN ?_ _)); exact BK394.out) hb); have n4_ := Aside0.mk (below_step (by repeat ((with_reducible first | exact HB.out | apply pw_below_drewN))) hb); clear HO_395001; clear HO_395002; clear BK394; clear HB; have HO_395001 := n0_; have HO_395002 := n1_; have HO404 := n2_; have BK394 := n3_; have HB := n4_; clear n0_ n1_ n2_ n3_ n4_; clear hb ho38; have hcv39 := own_string (P := Try.prog) Try.underlying22 Try.underlying5 Try.underlying9 (Kd.own_of_R HO404.out)))
              go_meet
              case rel => exact ⟨_, (((⟨#[32, 1]⟩ : ByteArray) ++ (strOfNums y402)) ++ (⟨#[49, 50, 51, 52, 53, 54, 55, 56, 57, 48, 49, 50]⟩ : ByteArray)), (by rfl), H', ⟨by have := HJ2.out; have := HJ14.out; omega⟩, ⟨by exact HO_395001.out⟩, ⟨by exact HO_395002.out⟩, ⟨by exact BK394.out⟩, ⟨HB.out⟩⟩
             ·
              rw [if_neg c36] at H
              exact absurd H (by simp)
            ·
             rw [if_neg c35] at H
             exact absurd H (by simp)
           ·
            rw [if_neg c32] at H
            have c32b0 : (t399 == 0) = false := beq_eq_false_iff_ne.mpr c32
            have c32b1 : (t399 != 0) = true := bne_iff_ne.mpr c32
            (rw [c32b0])
            have H' := Aside0.mk H
            clear H
            go_wp2
            go_meet
            case rel => exact ⟨_, (t397), (by rfl), H', ⟨by have := HJ2.out; have := HJ14.out; omega⟩, ⟨by (with_reducible repeat (apply Kd.R_drewN)); exact HO_395001.out⟩, ⟨by (with_reducible repeat (apply Kd.R_drewN)); exact HO_395002.out⟩, ⟨by (with_reducible repeat (refine blk_drewN ?_ _)); exact BK394.out⟩, ⟨by repeat ((with_reducible first | exact HB.out | apply pw_below_drewN))⟩⟩
          case rest =>
           clear HC31
           obtain ⟨kq, x11_30, rfl, HA, HJ30, HO_395001, HO_395002, BK394, HB⟩ := hcut
           cases kq with
           | zero => exact absurd HA.out (by simp [laws_FnSources.j2])
           | succ kj30 =>
            have H := HA.out
            clear HA
            simp only [laws_FnSources.j2] at H
            replace H := Option.bind_eq_some_iff.mp H
            obtain ⟨⟨t405, t406⟩, A400, H⟩ := H
            have A40 := Aside0.mk A400
            clear A400
            replace H := Option.bind_eq_some_iff.mp H
            obtain ⟨⟨t407, t408⟩, A410, H⟩ := H
            have A41 := Aside0.mk A410
            clear A410
            by_cases c42 : 2 ≤ (x11_30.size : Int)
            ·
             rw [if_pos c42] at H
             have c42b0 := eq_true c42
             have c42b1 : decide (2 ≤ (x11_30.size : Int)) = true := decide_eq_true c42
             clear c42
             by_cases c43 : 2 + (x11_30.extract 2 x11_30.size).size ≤ 9223372036854775807
             ·
              rw [if_pos c43] at H
              have c43b0 := eq_true c43
              have c43b1 : decide (2 + (x11_30.extract 2 x11_30.size).size ≤ 9223372036854775807) = true := decide_eq_true c43
              try have c43b2 : (9223372036854775807 < 2 + (x11_30.extract 2 x11_30.size).size) = False := eq_false (Nat.not_lt.2 c43)
              try have c43b3 : (9223372036854775807 < 2 + (x11_30.size - 2)) = False := eq_false (by have h_ := c43; simp only [ByteArray.size_append, ByteArray.size_extract] at h_; omega)
              replace H := Option.bind_eq_some_iff.mp H
              obtain ⟨⟨t409, t410⟩, A440, H⟩ := H
              have A44 := Aside0.mk A440
              clear A440
              have HC45 := Aside0.mk H
              clear H
              have hcz46_0 : wc.cell? ⟨gb394, 0, none⟩ = some (.string t383) := (blk_cell BK394.out 0).trans rfl
              have hcz46_1 : wc.cell? ⟨gb394, 1, none⟩ = some (.slice Ao22 t384.length co22) := (blk_cell BK394.out 1).trans rfl
              have hcz46_2 : wc.cell? ⟨gb394, 2, none⟩ = some (.slice Ao23 t387.length co23) := (blk_cell BK394.out 2).trans rfl
              have hfz46_0 := blk_frozen BK394.out 0
              have hfz46_1 := blk_frozen BK394.out 1
              have hfz46_2 := blk_frozen BK394.out 2
              go_upto_region 14 with (first | ((with_reducible refine gate_callee (f := 11) rfl ?_); refine goesL_ (some 88) rfl rfl Try.func11 (by kernel_rfl) rfl #[.agg #[.string t383, .slice Ao22 t384.length co22, .slice Ao23 t387.length co23], .string x11_30] rfl (by (try simp only [List.map_toArray, List.map_cons, List.map_nil]); rfl) ?_; (with_reducible refine (impl_SourceFor.calls kj30 t383 _ _ t384 _ _ t387 x11_30 t405 t406 _ ?side1 ?side2 ?side3 ?side4 A40.out).mono ?_); (case side1 => repeat (exact (Kd.R_reads' HO_395001.out).2.2)); (case side2 => exact (Kd.R_reads' HO_395001.out).2.1); (case side3 => repeat (exact (Kd.R_reads' HO_395002.out).2.2)); (case side4 => exact (Kd.R_reads' HO_395002.out).2.1); rintro e w47 ⟨rfl, hb⟩; refine ⟨_, rfl, ?_⟩; have n0_ := Aside0.mk (Kd.R_below (by exact HO_395001.out) hb); have n1_ := Aside0.mk (Kd.R_below (by exact HO_395002.out) hb); have n2_ := Aside0.mk (blk_below (g := gb394) (o := .cells #[.string t383, .slice Ao22 t384.length co22, .slice Ao23 t387.length co23] 27 (0, 0)) (by exact BK394.out) hb); have n3_ := Aside0.mk (below_step (HB.out) hb); clear HO_395001; clear HO_395002; clear BK394; clear HB; have HO_395001 := n0_; have HO_395002 := n1_; have BK394 := n2_; have HB := n3_; clear n0_ n1_ n2_ n3_; (try clear hb); have hcz48_0 : w47.cell? ⟨gb394, 0, none⟩ = some (.string t383) := (blk_cell BK394.out 0).trans rfl; have hcz48_1 : w47.cell? ⟨gb394, 1, none⟩ = some (.slice Ao22 t384.length co22) := (blk_cell BK394.out 1).trans rfl; have hcz48_2 : w47.cell? ⟨gb394, 2, none⟩ = some (.slice Ao23 t387.length co23) := (blk_cell BK394.out 2).trans rfl; have hfz48_0 := blk_frozen BK394.out 0; have hfz48_1 := blk_frozen BK394.out 1; have hfz48_2 := blk_frozen BK394.out 2) | ((with_reducible refine gate_callee (f := 12) rfl ?_); refine goesL_ (some 94) rfl rfl Try.func12 (by kernel_rfl) rfl #[.agg #[.string t383, .slice Ao22 t384.length co22, .slice Ao23 t387.length co23], .string x11_30] rfl (by (try simp only [List.map_toArray, List.map_cons, List.map_nil]); rfl) ?_; (with_reducible refine (spec_SourceFor.calls kj30 t383 _ _ t384 _ _ t387 x11_30 t407 t408 _ ?side1 ?side2 ?side3 ?side4 A41.out).mono ?_); (case side1 => repeat (exact (Kd.R_reads' HO_395001.out).2.2)); (case side2 => exact (Kd.R_reads' HO_395001.out).2.1); (case side3 => repeat (exact (Kd.R_reads' HO_395002.out).2.2)); (case side4 => exact (Kd.R_reads' HO_395002.out).2.1); rintro e w49 ⟨rfl, hb⟩; refine ⟨_, rfl, ?_⟩; have n0_ := Aside0.mk (Kd.R_below (by exact HO_395001.out) hb); have n1_ := Aside0.mk (Kd.R_below (by exact HO_395002.out) hb); have n2_ := Aside0.mk (blk_below (g := gb394) (o := .cells #[.string t383, .slice Ao22 t384.length co22, .slice Ao23 t387.length co23] 27 (0, 0)) (by exact BK394.out) hb); have n3_ := Aside0.mk (below_step (HB.out) hb); clear HO_395001; clear HO_395002; clear BK394; clear HB; have HO_395001 := n0_; have HO_395002 := n1_; have BK394 := n2_; have HB := n3_; clear n0_ n1_ n2_ n3_; (try clear hb)) | ((with_reducible refine gate_callee (f := 13) rfl ?_); refine goesL_ (some 101) rfl rfl Try.func13 (by kernel_rfl) rfl #[.string ((⟨#[255, 2]⟩ : ByteArray) ++ (x11_30.extract 2 x11_30.size))] rfl (by (try simp only [List.map_toArray, List.map_cons, List.map_nil]); rfl) ?_; (with_reducible refine (impl_GroupLink.calls kj30 ((⟨#[255, 2]⟩ : ByteArray) ++ (x11_30.extract 2 x11_30.size)) t409 t410 _ A44.out).mono ?_); rintro e w50 ⟨rfl, hb⟩; refine ⟨_, rfl, ?_⟩; have n0_ := Aside0.mk (Kd.R_below (by exact HO_395001.out) hb); have n1_ := Aside0.mk (Kd.R_below (by exact HO_395002.out) hb); have n2_ := Aside0.mk (blk_below (g := gb394) (o := .cells #[.string t383, .slice Ao22 t384.length co22, .slice Ao23 t387.length co23] 27 (0, 0)) (by exact BK394.out) hb); have n3_ := Aside0.mk (below_step (HB.out) hb); clear HO_395001; clear HO_395002; clear BK394; clear HB; have HO_395001 := n0_; have HO_395002 := n1_; have BK394 := n2_; have HB := n3_; clear n0_ n1_ n2_ n3_; (try clear hb)))
              (try simp only [Act.put, List.setIfInBounds_toArray, List.set_cons_zero, List.set_cons_succ])
              go_cut [122] (fun v122 wc => ∃ (kq : Nat) (x122_44 : Bool), v122 = .bool x122_44 ∧ Aside0 (laws_FnSources.j3 kq t405 t406 x122_44 t383 t384 t387 = some r) ∧ Aside0 (kq ≤ kj30) ∧ Aside0 (Kd.R k39 39 wc w.heap.size (fun _ => True) (.slice Ao22 t384.length co22) t384) ∧ Aside0 (Kd.R Kd.string 9 wc w.heap.size (fun _ => True) (.slice Ao23 t387.length co23) t387) ∧ Aside0 (wc.heap[gb394]? = some (.cells #[.string t383, (.slice Ao22 t384.length co22), (.slice Ao23 t387.length co23)] 27 (0, 0))) ∧ Aside0 (Below w.heap.size w wc))
              case first =>
               have H := HC45.out
               clear HC45
               by_cases c51 : t406 = t408
               ·
                rw [if_pos c51] at H
                have c51b0 : (t406 == t408) = true := beq_iff_eq.mpr c51
                have c51b1 : (t406 != t408) = false := bne_eq_false_iff_eq.mpr c51
                clear c51
                (skip)
                by_cases c52 : t405.toList = t407.toList
                ·
                 rw [if_pos c52] at H
                 have c52b0 : (t405.toList == t407.toList) = true := beq_iff_eq.mpr c52
                 have c52b1 : (t405.toList != t407.toList) = false := bne_eq_false_iff_eq.mpr c52
                 clear c52
                 by_cases c53 : t410 = 0
                 ·
                  rw [if_pos c53] at H
                  have c53b0 : (t410 == 0) = true := beq_iff_eq.mpr c53
                  have c53b1 : (t410 != 0) = false := bne_eq_false_iff_eq.mpr c53
                  clear c53
                  by_cases c54 : 12 ≤ (x11_30.size : Int)
                  ·
                   rw [if_pos c54] at H
                   have c54b0 := eq_true c54
                   have c54b1 : decide (12 ≤ (x11_30.size : Int)) = true := decide_eq_true c54
                   clear c54
                   by_cases c55 : 2 + (x11_30.extract 12 x11_30.size).size ≤ 9223372036854775807
                   ·
                    rw [if_pos c55] at H
                    have c55b0 := eq_true c55
                    have c55b1 : decide (2 + (x11_30.extract 12 x11_30.size).size ≤ 9223372036854775807) = true := decide_eq_true c55
                    try have c55b2 : (9223372036854775807 < 2 + (x11_30.extract 12 x11_30.size).size) = False := eq_false (Nat.not_lt.2 c55)
                    try have c55b3 : (9223372036854775807 < 2 + (x11_30.size - 12)) = False := eq_false (by have h_ := c55; simp only [ByteArray.size_append, ByteArray.size_extract] at h_; omega)
                    have H' := Aside0.mk H
                    clear H
                    go_wp2
                    go_meet
                    case rel => exact ⟨_, ((t409.toList != ((⟨#[51, 51]⟩ : ByteArray) ++ (x11_30.extract 12 x11_30.size)).toList)), (by rfl), H', ⟨by have := HJ2.out; have := HJ14.out; have := HJ30.out; omega⟩, ⟨by exact HO_395001.out⟩, ⟨by exact HO_395002.out⟩, ⟨by exact BK394.out⟩, ⟨HB.out⟩⟩
                   ·
                    rw [if_neg c55] at H
                    exact absurd H (by simp)
                  ·
                   rw [if_neg c54] at H
                   exact absurd H (by simp)
                 ·
                  rw [if_neg c53] at H
                  have c53b0 : (t410 == 0) = false := beq_eq_false_iff_ne.mpr c53
                  have c53b1 : (t410 != 0) = true := bne_iff_ne.mpr c53
                  have H' := Aside0.mk H
                  clear H
                  go_wp2
                  go_meet
                  case rel => exact ⟨_, (true), (by rfl), H', ⟨by have := HJ2.out; have := HJ14.out; have := HJ30.out; omega⟩, ⟨by exact HO_395001.out⟩, ⟨by exact HO_395002.out⟩, ⟨by exact BK394.out⟩, ⟨HB.out⟩⟩
                ·
                 rw [if_neg c52] at H
                 have c52b0 : (t405.toList == t407.toList) = false := beq_eq_false_iff_ne.mpr c52
                 have c52b1 : (t405.toList != t407.toList) = true := bne_iff_ne.mpr c52
                 have H' := Aside0.mk H
                 clear H
                 go_wp2
                 go_meet
                 case rel => exact ⟨_, (true), (by rfl), H', ⟨by have := HJ2.out; have := HJ14.out; have := HJ30.out; omega⟩, ⟨by exact HO_395001.out⟩, ⟨by exact HO_395002.out⟩, ⟨by exact BK394.out⟩, ⟨HB.out⟩⟩
               ·
                rw [if_neg c51] at H
                have c51b0 : (t406 == t408) = false := beq_eq_false_iff_ne.mpr c51
                have c51b1 : (t406 != t408) = true := bne_iff_ne.mpr c51
                (skip)
                have H' := Aside0.mk H
                clear H
                go_wp2
                go_meet
                case rel => exact ⟨_, (true), (by rfl), H', ⟨by have := HJ2.out; have := HJ14.out; have := HJ30.out; omega⟩, ⟨by exact HO_395001.out⟩, ⟨by exact HO_395002.out⟩, ⟨by exact BK394.out⟩, ⟨HB.out⟩⟩
              case rest =>
               clear HC45
               try clear c42b0
               try clear c42b1
               try clear c43
               try clear c43b0
               try clear c43b1
               try clear c43b2
               try clear hcz46_0
               try clear hcz46_1
               try clear hcz46_2
               try clear hcz48_0
               try clear hcz48_1
               try clear hcz48_2
               try clear hfz46_0
               try clear hfz46_1
               try clear hfz46_2
               try clear hfz48_0
               try clear hfz48_1
               try clear hfz48_2
               obtain ⟨kq, x122_44, rfl, HA, HJ44, HO_395001, HO_395002, BK394, HB⟩ := hcut
               cases kq with
               | zero => exact absurd HA.out (by simp [laws_FnSources.j3])
               | succ kj44 =>
                have H := HA.out
                clear HA
                simp only [laws_FnSources.j3] at H
                by_cases c56 : x122_44 = true
                ·
                 subst c56
                 rw [if_pos rfl] at H
                 exact absurd H (by simp)
                ·
                 replace c56 := Bool.eq_false_iff.mpr c56
                 subst c56
                 rw [if_neg (show ¬ (false = true) by decide)] at H
                 have H' := Aside0.mk H
                 clear H
                 go_wp2
                 go_loopg [19] kj44 (fun kq v19 w' => ∃ (x19_5 : Int), v19 = .int .i64 x19_5 ∧ Aside0 (laws_FnSources.l0 kq t405 t406 x19_5 t383 t384 t387 = some r) ∧ Aside0 (kq ≤ kj44) ∧ Aside0 (Kd.R k39 39 w' w.heap.size (fun _ => True) (.slice Ao22 t384.length co22) t384) ∧ Aside0 (Kd.R Kd.string 9 w' w.heap.size (fun _ => True) (.slice Ao23 t387.length co23) t387) ∧ Aside0 (w'.heap[gb394]? = some (.cells #[.string t383, (.slice Ao22 t384.length co22), (.slice Ao23 t387.length co23)] 27 (0, 0))) ∧ Aside0 (Below w.heap.size w w'))
                 case atStart => exact ⟨(0), (by rfl), H', ⟨Nat.le_refl _⟩, ⟨by exact HO_395001.out⟩, ⟨by exact HO_395002.out⟩, ⟨by exact BK394.out⟩, ⟨HB.out⟩⟩
                 case round =>
                  clear H'
                  obtain ⟨x19_5, rfl, HA, HK5, HO_395001, HO_395002, BK394, HB⟩ := hrel
                  cases gk with
                  | zero => exact absurd HA.out (by simp [laws_FnSources.l0])
                  | succ k5 =>
                   have H := HA.out
                   clear HA
                   simp only [laws_FnSources.l0] at H
                   by_cases c57 : x19_5 < (t384.length : Int)
                   ·
                    rw [if_pos c57] at H
                    have c57b0 : decide (x19_5 < (t384.length : Int)) = true := decide_eq_true c57
                    clear c57
                    by_cases c58 : 0 ≤ x19_5
                    ·
                     rw [if_pos c58] at H
                     have c58b0 : decide (0 ≤ x19_5) = true := decide_eq_true c58
                     clear c58
                     have HC59 := Aside0.mk H
                     clear H
                     have hcz60_0 : wr.cell? ⟨gb394, 0, none⟩ = some (.string t383) := (blk_cell BK394.out 0).trans rfl
                     have hcz60_1 : wr.cell? ⟨gb394, 1, none⟩ = some (.slice Ao22 t384.length co22) := (blk_cell BK394.out 1).trans rfl
                     have hcz60_2 : wr.cell? ⟨gb394, 2, none⟩ = some (.slice Ao23 t387.length co23) := (blk_cell BK394.out 2).trans rfl
                     have hfz60_0 := blk_frozen BK394.out 0
                     have hfz60_1 := blk_frozen BK394.out 1
                     have hfz60_2 := blk_frozen BK394.out 2
                     have p411 : 0 ≤ (x19_5 : Int) := of_decide_eq_true (by (with_reducible assumption))
                     have q411 : x19_5 < (t384.length : Int) := of_decide_eq_true (by (with_reducible assumption))
                     obtain ⟨ad411, e411, hx411_0, hx411_1, hx411_2, hx411_3, hx411_4⟩ := at_T39 (Kd.R_reads' HO_395001.out).2.2 x19_5 p411 q411
                     cases e411
                     replace p411 := eq_true p411
                     replace q411 := eq_true q411
                     go_upto_region 20 with ((with_reducible refine gate_dst (N := 20) rfl ?_); (try (refine gate_guard (by rfl) ?_; dsimp only)); refine box_event ?hg (N := 20) ?hd (cs := #[.string (⟨#[]⟩ : ByteArray), .int .i64 0, .int .i64 0, .int .i64 0, .int .i64 0]) (t := 39) ?hr ?_; (case hd => rfl); (case hg => rfl); (case hr => (go_simp; done)); intro gb412 hg w61 hbox hb; have n0_ := Aside0.mk (Kd.R_below (Kd.R_elderB (by exact HO_395001.out) gb412 (Nat.le_of_eq hg.symm)) hb); have n1_ := Aside0.mk (Kd.R_below (by exact HO_395002.out) hb); have n2_ := Aside0.mk (blk_below (g := gb394) (o := .cells #[.string t383, .slice (some ad411) t384.length co22, .slice Ao23 t387.length co23] 27 (0, 0)) (by exact BK394.out) hb); have n3_ := Aside0.mk (below_step (HB.out) hb); have n4_ := Aside0.mk (hbox); have n5_ := Aside0.mk ((by rw [hg]; exact (below_size (HB.out)) : w.heap.size ≤ gb412)); have n6_ := Aside0.mk ((by rw [hg]; exact (below_size (HB.out)) : w.heap.size ≤ gb412)); have n7_ := Aside0.mk ((by rw [hg]; exact Nat.ne_of_lt (blk_lt (g := gb394) (o := .cells #[.string t383, .slice (some ad411) t384.length co22, .slice Ao23 t387.length co23] 27 (0, 0)) (by exact BK394.out)) : gb394 ≠ gb412)); have n8_ := Aside0.mk ((by rw [hg]; exact Nat.ne_of_gt (blk_lt (g := gb394) (o := .cells #[.string t383, .slice (some ad411) t384.length co22, .slice Ao23 t387.length co23] 27 (0, 0)) (by exact BK394.out)) : gb412 ≠ gb394)); clear HO_395001; clear HO_395002; clear BK394; clear HB; have HO_395001 := n0_; have HO_395002 := n1_; have BK394 := n2_; have HB := n3_; have BK412 := n4_; have GW412 := n5_; have GE412 := n6_; have NB394_412 := n7_; have NB412_394 := n8_; clear n0_ n1_ n2_ n3_ n4_ n5_ n6_ n7_ n8_; clear hb hbox hg; have hnb62 := NB412_394.out; have hnc62 := NB394_412.out; have hcz63_0 : w61.cell? ⟨gb412, 0, none⟩ = some (.string (⟨#[]⟩ : ByteArray)) := (blk_cell BK412.out 0).trans rfl; have hcz63_1 : w61.cell? ⟨gb412, 1, none⟩ = some (.int .i64 0) := (blk_cell BK412.out 1).trans rfl; have hcz63_2 : w61.cell? ⟨gb412, 2, none⟩ = some (.int .i64 0) := (blk_cell BK412.out 2).trans rfl; have hcz63_3 : w61.cell? ⟨gb412, 3, none⟩ = some (.int .i64 0) := (blk_cell BK412.out 3).trans rfl; have hcz63_4 : w61.cell? ⟨gb412, 4, none⟩ = some (.int .i64 0) := (blk_cell BK412.out 4).trans rfl; have hfz63_0 := blk_frozen BK412.out 0; have hfz63_1 := blk_frozen BK412.out 1; have hfz63_2 := blk_frozen BK412.out 2; have hfz63_3 := blk_frozen BK412.out 3; have hfz63_4 := blk_frozen BK412.out 4)
                     (try simp only [Act.put, List.setIfInBounds_toArray, List.set_cons_zero, List.set_cons_succ])
                     go_cut [141] (fun v141 wc => ∃ (kq : Nat) (x141_58 : Bool), v141 = .bool x141_58 ∧ Aside0 (laws_FnSources.j5 kq t405 t406 x19_5 x141_58 t383 t384 t387 ((rd_T39 t384 x19_5).f0) ((rd_T39 t384 x19_5).f1) ((rd_T39 t384 x19_5).f2) ((rd_T39 t384 x19_5).f3) ((rd_T39 t384 x19_5).f4) = some r) ∧ Aside0 (kq ≤ k5) ∧ Aside0 (Kd.R k39 39 wc w.heap.size (fun k_ => k_ ≠ gb412) (.slice (some ad411) t384.length co22) t384) ∧ Aside0 (Kd.R Kd.string 9 wc w.heap.size (fun _ => True) (.slice Ao23 t387.length co23) t387) ∧ Aside0 (wc.heap[gb394]? = some (.cells #[.string t383, (.slice (some ad411) t384.length co22), (.slice Ao23 t387.length co23)] 27 (0, 0))) ∧ Aside0 (wc.heap[gb412]? = some (.cells #[.string ((rd_T39 t384 x19_5).f0), .int .i64 ((rd_T39 t384 x19_5).f1), .int .i64 ((rd_T39 t384 x19_5).f2), .int .i64 ((rd_T39 t384 x19_5).f3), .int .i64 ((rd_T39 t384 x19_5).f4)] 39 (0, 0))) ∧ Aside0 (Below w.heap.size w wc))
                     case first =>
                      have H := HC59.out
                      clear HC59
                      by_cases c64 : t406 = 0
                      ·
                       rw [if_pos c64] at H
                       have c64b0 : (t406 == 0) = true := beq_iff_eq.mpr c64
                       have c64b1 : (t406 != 0) = false := bne_eq_false_iff_eq.mpr c64
                       clear c64
                       (skip)
                       have H' := Aside0.mk H
                       clear H
                       go_wp2
                       go_meet
                       case rel => exact ⟨_, (false), (by rfl), H', ⟨by have := HJ2.out; have := HJ14.out; have := HJ30.out; have := HJ44.out; have := HK5.out; omega⟩, ⟨by exact Kd.R_mono (Kd.R_far (p := ⟨gb412, 4, none⟩) (Kd.R_far (p := ⟨gb412, 3, none⟩) (Kd.R_far (p := ⟨gb412, 2, none⟩) (Kd.R_far (p := ⟨gb412, 1, none⟩) (Kd.R_far (p := ⟨gb412, 0, none⟩) (Kd.R_mono HO_395001.out (fun k_ hk => (⟨hk, hk.2⟩ : _ ∧ k_ ≠ gb412))) (fun _ hk => hk.2) (.string ((rd_T39 t384 x19_5).f0))) (fun _ hk => hk.2) (.int .i64 ((rd_T39 t384 x19_5).f1))) (fun _ hk => hk.2) (.int .i64 ((rd_T39 t384 x19_5).f2))) (fun _ hk => hk.2) (.int .i64 ((rd_T39 t384 x19_5).f3))) (fun _ hk => hk.2) (.int .i64 ((rd_T39 t384 x19_5).f4))) (fun _ hk => hk.1.2)⟩, ⟨by exact Kd.R_mono (Kd.R_far (p := ⟨gb412, 4, none⟩) (Kd.R_far (p := ⟨gb412, 3, none⟩) (Kd.R_far (p := ⟨gb412, 2, none⟩) (Kd.R_far (p := ⟨gb412, 1, none⟩) (Kd.R_far (p := ⟨gb412, 0, none⟩) (Kd.R_types HO_395002.out BK412.out (by decide)) (fun _ hk => hk.2) (.string ((rd_T39 t384 x19_5).f0))) (fun _ hk => hk.2) (.int .i64 ((rd_T39 t384 x19_5).f1))) (fun _ hk => hk.2) (.int .i64 ((rd_T39 t384 x19_5).f2))) (fun _ hk => hk.2) (.int .i64 ((rd_T39 t384 x19_5).f3))) (fun _ hk => hk.2) (.int .i64 ((rd_T39 t384 x19_5).f4))) (fun _ hk => trivial)⟩, ⟨by refine blk_far ?_ NB394_412.out _; refine blk_far ?_ NB394_412.out _; refine blk_far ?_ NB394_412.out _; refine blk_far ?_ NB394_412.out _; refine blk_far ?_ NB394_412.out _; exact BK394.out⟩, ⟨by refine blk_put (cs := #[.string ((rd_T39 t384 x19_5).f0), .int .i64 ((rd_T39 t384 x19_5).f1), .int .i64 ((rd_T39 t384 x19_5).f2), .int .i64 ((rd_T39 t384 x19_5).f3), .int .i64 0]) ?_ 4 _ rfl; refine blk_put (cs := #[.string ((rd_T39 t384 x19_5).f0), .int .i64 ((rd_T39 t384 x19_5).f1), .int .i64 ((rd_T39 t384 x19_5).f2), .int .i64 0, .int .i64 0]) ?_ 3 _ rfl; refine blk_put (cs := #[.string ((rd_T39 t384 x19_5).f0), .int .i64 ((rd_T39 t384 x19_5).f1), .int .i64 0, .int .i64 0, .int .i64 0]) ?_ 2 _ rfl; refine blk_put (cs := #[.string ((rd_T39 t384 x19_5).f0), .int .i64 0, .int .i64 0, .int .i64 0, .int .i64 0]) ?_ 1 _ rfl; refine blk_put (cs := #[.string (⟨#[]⟩ : ByteArray), .int .i64 0, .int .i64 0, .int .i64 0, .int .i64 0]) ?_ 0 _ rfl; exact BK412.out⟩, ⟨by repeat ((with_reducible first | exact HB.out | refine below_set ?_ GE412.out))⟩⟩
                      ·
                       rw [if_neg c64] at H
                       have c64b0 : (t406 == 0) = false := beq_eq_false_iff_ne.mpr c64
                       have c64b1 : (t406 != 0) = true := bne_iff_ne.mpr c64
                       (skip)
                       have H' := Aside0.mk H
                       clear H
                       have hnb65 := NB412_394.out
                       have hnc65 := NB394_412.out
                       have hcz66_0 : w61.cell? ⟨gb412, 0, none⟩ = some (.string (⟨#[]⟩ : ByteArray)) := (blk_cell BK412.out 0).trans rfl
                       have hcz66_1 : w61.cell? ⟨gb412, 1, none⟩ = some (.int .i64 0) := (blk_cell BK412.out 1).trans rfl
                       have hcz66_2 : w61.cell? ⟨gb412, 2, none⟩ = some (.int .i64 0) := (blk_cell BK412.out 2).trans rfl
                       have hcz66_3 : w61.cell? ⟨gb412, 3, none⟩ = some (.int .i64 0) := (blk_cell BK412.out 3).trans rfl
                       have hcz66_4 : w61.cell? ⟨gb412, 4, none⟩ = some (.int .i64 0) := (blk_cell BK412.out 4).trans rfl
                       have hfz66_0 := blk_frozen BK412.out 0
                       have hfz66_1 := blk_frozen BK412.out 1
                       have hfz66_2 := blk_frozen BK412.out 2
                       have hfz66_3 := blk_frozen BK412.out 3
                       have hfz66_4 := blk_frozen BK412.out 4
                       go_wp2
                       go_meet
                       case rel => exact ⟨_, ((((rd_T39 t384 x19_5).f1) != 1)), (by rfl), H', ⟨by have := HJ2.out; have := HJ14.out; have := HJ30.out; have := HJ44.out; have := HK5.out; omega⟩, ⟨by exact Kd.R_mono (Kd.R_far (p := ⟨gb412, 4, none⟩) (Kd.R_far (p := ⟨gb412, 3, none⟩) (Kd.R_far (p := ⟨gb412, 2, none⟩) (Kd.R_far (p := ⟨gb412, 1, none⟩) (Kd.R_far (p := ⟨gb412, 0, none⟩) (Kd.R_mono HO_395001.out (fun k_ hk => (⟨hk, hk.2⟩ : _ ∧ k_ ≠ gb412))) (fun _ hk => hk.2) (.string ((rd_T39 t384 x19_5).f0))) (fun _ hk => hk.2) (.int .i64 ((rd_T39 t384 x19_5).f1))) (fun _ hk => hk.2) (.int .i64 ((rd_T39 t384 x19_5).f2))) (fun _ hk => hk.2) (.int .i64 ((rd_T39 t384 x19_5).f3))) (fun _ hk => hk.2) (.int .i64 ((rd_T39 t384 x19_5).f4))) (fun _ hk => hk.1.2)⟩, ⟨by exact Kd.R_mono (Kd.R_far (p := ⟨gb412, 4, none⟩) (Kd.R_far (p := ⟨gb412, 3, none⟩) (Kd.R_far (p := ⟨gb412, 2, none⟩) (Kd.R_far (p := ⟨gb412, 1, none⟩) (Kd.R_far (p := ⟨gb412, 0, none⟩) (Kd.R_types HO_395002.out BK412.out (by decide)) (fun _ hk => hk.2) (.string ((rd_T39 t384 x19_5).f0))) (fun _ hk => hk.2) (.int .i64 ((rd_T39 t384 x19_5).f1))) (fun _ hk => hk.2) (.int .i64 ((rd_T39 t384 x19_5).f2))) (fun _ hk => hk.2) (.int .i64 ((rd_T39 t384 x19_5).f3))) (fun _ hk => hk.2) (.int .i64 ((rd_T39 t384 x19_5).f4))) (fun _ hk => trivial)⟩, ⟨by refine blk_far ?_ NB394_412.out _; refine blk_far ?_ NB394_412.out _; refine blk_far ?_ NB394_412.out _; refine blk_far ?_ NB394_412.out _; refine blk_far ?_ NB394_412.out _; exact BK394.out⟩, ⟨by refine blk_put (cs := #[.string ((rd_T39 t384 x19_5).f0), .int .i64 ((rd_T39 t384 x19_5).f1), .int .i64 ((rd_T39 t384 x19_5).f2), .int .i64 ((rd_T39 t384 x19_5).f3), .int .i64 0]) ?_ 4 _ rfl; refine blk_put (cs := #[.string ((rd_T39 t384 x19_5).f0), .int .i64 ((rd_T39 t384 x19_5).f1), .int .i64 ((rd_T39 t384 x19_5).f2), .int .i64 0, .int .i64 0]) ?_ 3 _ rfl; refine blk_put (cs := #[.string ((rd_T39 t384 x19_5).f0), .int .i64 ((rd_T39 t384 x19_5).f1), .int .i64 0, .int .i64 0, .int .i64 0]) ?_ 2 _ rfl; refine blk_put (cs := #[.string ((rd_T39 t384 x19_5).f0), .int .i64 0, .int .i64 0, .int .i64 0, .int .i64 0]) ?_ 1 _ rfl; refine blk_put (cs := #[.string (⟨#[]⟩ : ByteArray), .int .i64 0, .int .i64 0, .int .i64 0, .int .i64 0]) ?_ 0 _ rfl; exact BK412.out⟩, ⟨by repeat ((with_reducible first | exact HB.out | refine below_set ?_ GE412.out))⟩⟩
                     case rest =>
                      clear HC59
                      try clear c57b0
                      try clear c58b0
                      try clear hcz60_0
                      try clear hcz60_1
                      try clear hcz60_2
                      try clear hcz63_0
                      try clear hcz63_1
                      try clear hcz63_2
                      try clear hcz63_3
                      try clear hcz63_4
                      try clear hfz60_0
                      try clear hfz60_1
                      try clear hfz60_2
                      try clear hfz63_0
                      try clear hfz63_1
                      try clear hfz63_2
                      try clear hfz63_3
                      try clear hfz63_4
                      try clear hx411_0
                      try clear hx411_1
                      try clear hx411_2
                      try clear hx411_3
                      try clear hx411_4
                      try clear p411
                      try clear q411
                      obtain ⟨kq, x141_58, rfl, HA, HJ58, HO_395001, HO_395002, BK394, BK412, HB⟩ := hcut
                      cases kq with
                      | zero => exact absurd HA.out (by simp [laws_FnSources.j5])
                      | succ kj58 =>
                       have H := HA.out
                       clear HA
                       simp only [laws_FnSources.j5] at H
                       by_cases c67 : x141_58 = true
                       ·
                        subst c67
                        rw [if_pos rfl] at H
                        exact absurd H (by simp)
                       ·
                        replace c67 := Bool.eq_false_iff.mpr c67
                        subst c67
                        rw [if_neg (show ¬ (false = true) by decide)] at H
                        by_cases c68 : ((rd_T39 t384 x19_5).f0).toList = t405.toList
                        ·
                         rw [if_pos c68] at H
                         have c68b0 : (((rd_T39 t384 x19_5).f0).toList == t405.toList) = true := beq_iff_eq.mpr c68
                         have c68b1 : (((rd_T39 t384 x19_5).f0).toList != t405.toList) = false := bne_eq_false_iff_eq.mpr c68
                         clear c68
                         by_cases c69 : ((rd_T39 t384 x19_5).f1) = 1
                         ·
                          rw [if_pos c69] at H
                          exact absurd H (by simp)
                         ·
                          rw [if_neg c69] at H
                          have c69b0 : (((rd_T39 t384 x19_5).f1) == 1) = false := beq_eq_false_iff_ne.mpr c69
                          have c69b1 : (((rd_T39 t384 x19_5).f1) != 1) = true := bne_iff_ne.mpr c69
                          have H' := Aside0.mk H
                          clear H
                          have hnb70 := NB412_394.out
                          have hnc70 := NB394_412.out
                          have hcz71_0 : wc.cell? ⟨gb412, 0, none⟩ = some (.string ((rd_T39 t384 x19_5).f0)) := (blk_cell BK412.out 0).trans rfl
                          have hcz71_1 : wc.cell? ⟨gb412, 1, none⟩ = some (.int .i64 ((rd_T39 t384 x19_5).f1)) := (blk_cell BK412.out 1).trans rfl
                          have hcz71_2 : wc.cell? ⟨gb412, 2, none⟩ = some (.int .i64 ((rd_T39 t384 x19_5).f2)) := (blk_cell BK412.out 2).trans rfl
                          have hcz71_3 : wc.cell? ⟨gb412, 3, none⟩ = some (.int .i64 ((rd_T39 t384 x19_5).f3)) := (blk_cell BK412.out 3).trans rfl
                          have hcz71_4 : wc.cell? ⟨gb412, 4, none⟩ = some (.int .i64 ((rd_T39 t384 x19_5).f4)) := (blk_cell BK412.out 4).trans rfl
                          have hfz71_0 := blk_frozen BK412.out 0
                          have hfz71_1 := blk_frozen BK412.out 1
                          have hfz71_2 := blk_frozen BK412.out 2
                          have hfz71_3 := blk_frozen BK412.out 3
                          have hfz71_4 := blk_frozen BK412.out 4
                          go_wp2
                          go_roundg kj58
                          case measure => have := HJ2.out; have := HJ14.out; have := HJ30.out; have := HJ44.out; have := HK5.out; have := HJ58.out; omega
                          case rel => exact ⟨(wrap64 (x19_5 + 1)), (by rfl), H', ⟨by have := HJ2.out; have := HJ14.out; have := HJ30.out; have := HJ44.out; have := HK5.out; have := HJ58.out; omega⟩, ⟨by exact Kd.R_mono HO_395001.out (fun _ hk => trivial)⟩, ⟨by exact HO_395002.out⟩, ⟨by exact BK394.out⟩, ⟨HB.out⟩⟩
                        ·
                         rw [if_neg c68] at H
                         have c68b0 : (((rd_T39 t384 x19_5).f0).toList == t405.toList) = false := beq_eq_false_iff_ne.mpr c68
                         have c68b1 : (((rd_T39 t384 x19_5).f0).toList != t405.toList) = true := bne_iff_ne.mpr c68
                         have H' := Aside0.mk H
                         clear H
                         have hnb72 := NB412_394.out
                         have hnc72 := NB394_412.out
                         have hcz73_0 : wc.cell? ⟨gb412, 0, none⟩ = some (.string ((rd_T39 t384 x19_5).f0)) := (blk_cell BK412.out 0).trans rfl
                         have hcz73_1 : wc.cell? ⟨gb412, 1, none⟩ = some (.int .i64 ((rd_T39 t384 x19_5).f1)) := (blk_cell BK412.out 1).trans rfl
                         have hcz73_2 : wc.cell? ⟨gb412, 2, none⟩ = some (.int .i64 ((rd_T39 t384 x19_5).f2)) := (blk_cell BK412.out 2).trans rfl
                         have hcz73_3 : wc.cell? ⟨gb412, 3, none⟩ = some (.int .i64 ((rd_T39 t384 x19_5).f3)) := (blk_cell BK412.out 3).trans rfl
                         have hcz73_4 : wc.cell? ⟨gb412, 4, none⟩ = some (.int .i64 ((rd_T39 t384 x19_5).f4)) := (blk_cell BK412.out 4).trans rfl
                         have hfz73_0 := blk_frozen BK412.out 0
                         have hfz73_1 := blk_frozen BK412.out 1
                         have hfz73_2 := blk_frozen BK412.out 2
                         have hfz73_3 := blk_frozen BK412.out 3
                         have hfz73_4 := blk_frozen BK412.out 4
                         go_wp2
                         go_roundg kj58
                         case measure => have := HJ2.out; have := HJ14.out; have := HJ30.out; have := HJ44.out; have := HK5.out; have := HJ58.out; omega
                         case rel => exact ⟨(wrap64 (x19_5 + 1)), (by rfl), H', ⟨by have := HJ2.out; have := HJ14.out; have := HJ30.out; have := HJ44.out; have := HK5.out; have := HJ58.out; omega⟩, ⟨by exact Kd.R_mono HO_395001.out (fun _ hk => trivial)⟩, ⟨by exact HO_395002.out⟩, ⟨by exact BK394.out⟩, ⟨HB.out⟩⟩
                    ·
                     rw [if_neg c58] at H
                     exact absurd H (by simp)
                   ·
                    rw [if_neg c57] at H
                    have c57b0 : decide (x19_5 < (t384.length : Int)) = false := decide_eq_false c57
                    clear c57
                    obtain rfl := Option.some.inj H
                    have hcz74_0 : wr.cell? ⟨gb394, 0, none⟩ = some (.string t383) := (blk_cell BK394.out 0).trans rfl
                    have hcz74_1 : wr.cell? ⟨gb394, 1, none⟩ = some (.slice Ao22 t384.length co22) := (blk_cell BK394.out 1).trans rfl
                    have hcz74_2 : wr.cell? ⟨gb394, 2, none⟩ = some (.slice Ao23 t387.length co23) := (blk_cell BK394.out 2).trans rfl
                    have hfz74_0 := blk_frozen BK394.out 0
                    have hfz74_1 := blk_frozen BK394.out 1
                    have hfz74_2 := blk_frozen BK394.out 2
                    go_wp2
                    go_ret
                    exact ⟨by rfl, HB.out⟩
             ·
              rw [if_neg c43] at H
              exact absurd H (by simp)
            ·
             rw [if_neg c42] at H
             exact absurd H (by simp)
      ·
       rw [if_neg c13] at H
       exact absurd H (by simp)
     ·
      rw [if_neg c12] at H
      exact absurd H (by simp)
    ·
     rw [if_neg c11] at H
     exact absurd H (by simp)
end Go.Proofs.Ytnpbnmhbajiefaa.PFnSources
