-- OWN TEXT of FnSources: made by own_print.sh, finished by hand
import Derived.Test.YtnpbnmhbajiefaaGFnSourcesx0
import Derived.Test.YtnpbnmhbajiefaaGFnSourcesx5
import Derived.Test.YtnpbnmhbajiefaaGFnSourcesx6
namespace Go.Proofs.Ytnpbnmhbajiefaa.PFnSources
open Go.RowKit Go.Proofs.YtnpbnmhbajiefaaW.PrintWords Go.Proofs.YtnpbnmhbajiefaaW.PrintLast Go.Proofs.YtnpbnmhbajiefaaW.PrintMore
attribute [local go_sem] max2_int min2_int max_two min_two max_three min_three max_four min_four   -- for this text's walks alone
set_option linter.unusedVariables false
set_option linter.unusedSimpArgs false
def impl_GroupLink.j0 : Nat → ByteArray → Bool → Option (ByteArray × Int)
 | 0, _, _ => none
 | k + 1, x0, x13 => if x13 = true then (if 12 ≤ (x0.size : Int) then (if 2 + (x0.extract 12 x0.size).size ≤ 9223372036854775807 then (some ((⟨#[51, 51]⟩ : ByteArray) ++ (x0.extract 12 x0.size), 0)) else (none)) else (none)) else (if (x0.size : Int) = 4 then (if 0 < (x0.size : Int) then ((impl_inRange.f (wrap64 (bt x0 0)) 224 239).bind fun t375 => (if t375 = true then (if 1 < (x0.size : Int) then ((some (([Int.tmod (bt x0 1) 128] : List Int) : List Int)).bind fun y376 => (if 3 + (strOfNums y376).size ≤ 9223372036854775807 then (if 2 ≤ (x0.size : Int) then (if ((⟨#[1, 0, 94]⟩ : ByteArray) ++ (strOfNums y376)).size + (x0.extract 2 x0.size).size ≤ 9223372036854775807 then (some (((⟨#[1, 0, 94]⟩ : ByteArray) ++ (strOfNums y376)) ++ (x0.extract 2 x0.size), 0)) else (none)) else (none)) else (none))) else (none)) else (some ((⟨#[]⟩ : ByteArray), 1)))) else (none)) else (some ((⟨#[]⟩ : ByteArray), 1)))
def impl_GroupLink.f (k : Nat) (a0 : ByteArray) : Option (ByteArray × Int) := (impl_tooLong.f k (([a0] : List ByteArray))).bind fun t373 => (if t373 = true then (none) else ((impl_isSix.f a0).bind fun t374 => (if t374 = true then (if 0 < (a0.size : Int) then (impl_GroupLink.j0 k a0 ((bt a0 0) == 255)) else (none)) else (impl_GroupLink.j0 k a0 false))))
def impl_GroupLink.T6 : Bool × List (List Nat × List Nat) := (true, [([], []), ([0], [0]), ([1], [1]), ([2], [2]), ([3], [3]), ([4], [4]), ([], []), ([6], [6]), ([5, 7], [5, 7]), ([8, 0, 1, 2, 3, 4, 5, 6, 7, 8], [8]), ([9, 0, 1, 2, 3, 4, 5, 6, 7, 8, 9], [])])
def impl_GroupLink.B6 : List Nat := [0, 1, 3, 7, 15, 31, 0, 64, 255, 511, 1023]
theorem impl_GroupLink.tab6 : rtab .any (opsOf Try.f13 6) = impl_GroupLink.T6 := by kernel_rfl
theorem impl_GroupLink.bits6 : waitsOk impl_GroupLink.T6.2 impl_GroupLink.B6 = true := by kernel_rfl
set_option maxHeartbeats 8000000 in
set_option maxRecDepth 100000 in
theorem impl_GroupLink.calls (k : Nat) (a0 : ByteArray) (r1 : ByteArray) (r2 : Int) (w : World) (h : impl_GroupLink.f k a0 = some (r1, r2)) :
  Calls Try.prog 13 #[.string a0] w fun e w' => e = .returned (.tuple #[.string r1, .int .i64 r2]) ∧ Below w.heap.size w w' := by
 have HB := Aside0.mk (Below.refl w.heap.size w)
 have H : ((impl_tooLong.f k (([a0] : List ByteArray))).bind fun t373 => (if t373 = true then (none) else ((impl_isSix.f a0).bind fun t374 => (if t374 = true then (if 0 < (a0.size : Int) then (impl_GroupLink.j0 k a0 ((bt a0 0) == 255)) else (none)) else (impl_GroupLink.j0 k a0 false))))) = some (r1, r2) := h
 clear h
 obtain ⟨y370, hy370⟩ : ∃ y_ : List ByteArray, y_ = (([a0] : List ByteArray)) := ⟨_, rfl⟩
 replace H : ((impl_tooLong.f k y370).bind fun t373 => (if t373 = true then (none) else ((impl_isSix.f a0).bind fun t374 => (if t374 = true then (if 0 < (a0.size : Int) then (impl_GroupLink.j0 k a0 ((bt a0 0) == 255)) else (none)) else (impl_GroupLink.j0 k a0 false))))) = some (r1, r2) := by (rw [hy370]; with_reducible exact H)
 have Ny370 := Aside0.mk hy370
 clear hy370
 replace H := Option.bind_eq_some_iff.mp H
 obtain ⟨t373, A20, H⟩ := H
 have A2 := Aside0.mk A20
 clear A20
 by_cases c3 : t373 = true
 ·
  subst c3
  rw [if_pos rfl] at H
  exact absurd H (by simp)
 ·
  replace c3 := Bool.eq_false_iff.mpr c3
  subst c3
  rw [if_neg (show ¬ (false = true) by decide)] at H
  have HC4 := Aside0.mk H
  clear H
  go_enter Try.func13, Try.ntmps13
  go_upto_region 3 with (first | ((with_reducible refine gate_dst (N := 5) rfl ?_); refine Kd.R_lit Kd.string _ 9 ?hg (N := 5) ?hd (xs := ([a0] : List ByteArray)) (inner := [.string a0]) (ok := fun _ => True) (okp := fun _ => True) ?hr ?hp (fun _ hk => hk) trivial (Below.refl _ _) (Nat.le_refl _) (by simp) ?_; (case hd => rfl); (case hg => rfl); (case hr => (go_simp; done)); (case hp => exact (Reps.one (show Kd.M Kd.string _ _ _ a0 [.string a0] from rfl) (Reps.none _ _))); intro v371 w5 ho6 hb hg_ hnew_; clear hg_ hnew_; (rw [← Ny370.out] at ho6); have n0_ := Aside0.mk (Kd.R_lower ho6 (below_size HB.out)); have n1_ := Aside0.mk (below_step HB.out hb); clear HB; have HO372 := n0_; have HB := n1_; clear n0_ n1_; clear hb ho6; obtain ⟨Ao7, co7, eo7⟩ := Kd.R_slice HO372.out; subst eo7) | ((with_reducible refine gate_callee (f := 25) rfl ?_); refine goesL_ (some 6) rfl rfl Try.func25 (by kernel_rfl) rfl #[.slice Ao7 y370.length co7] rfl (by (try simp only [List.map_toArray, List.map_cons, List.map_nil]); rfl) ?_; (with_reducible refine (impl_tooLong.calls k _ _ y370 false _ ?side1 ?side2 A2.out).mono ?_); (case side1 => repeat (exact (Kd.R_reads' HO372.out).2.2)); (case side2 => exact (Kd.R_reads' HO372.out).2.1); rintro e w' ⟨rfl, ⟨nd, rfl⟩⟩; refine ⟨_, rfl, ?_⟩))
  (try simp only [Act.put, List.setIfInBounds_toArray, List.set_cons_zero, List.set_cons_succ])
  go_cut [13] (fun v13 wc => ∃ (kq : Nat) (x13_3 : Bool), v13 = .bool x13_3 ∧ Aside0 (impl_GroupLink.j0 kq a0 x13_3 = some (r1, r2)) ∧ Aside0 (kq ≤ k) ∧ Aside0 (Below w.heap.size w wc))
  case first =>
   have H := HC4.out
   clear HC4
   replace H := Option.bind_eq_some_iff.mp H
   obtain ⟨t374, A80, H⟩ := H
   have A8 := Aside0.mk A80
   clear A80
   by_cases c9 : t374 = true
   ·
    subst c9
    rw [if_pos rfl] at H
    by_cases c10 : 0 < (a0.size : Int)
    ·
     rw [if_pos c10] at H
     have c10b0 : decide (0 < (a0.size : Int)) = true := decide_eq_true c10
     have c10b1 : decide (0 < a0.size) = true := decide_eq_true (by omega)
     clear c10
     (skip)
     have H' := Aside0.mk H
     clear H
     go_wp2_with ((with_reducible refine gate_callee (f := 28) rfl ?_); refine goesL_ (some 8) rfl rfl Try.func28 (by kernel_rfl) rfl #[.string a0] rfl (by (try simp only [List.map_toArray, List.map_cons, List.map_nil]); rfl) ?_; (with_reducible refine (impl_isSix.calls a0 true _ A8.out).mono ?_); rintro e w' ⟨rfl, ⟨nd, rfl⟩⟩; refine ⟨_, rfl, ?_⟩; have p11 : 0 ≤ (0 : Int) := (by omega); have q11 : 0 < a0.size := (by have : (0 : Int) < (a0.size : Int) := of_decide_eq_true (by (with_reducible assumption)); omega); have hx11 : ∀ h : 0 < a0.size, ((a0[0]'h).toNat : Int) = bt a0 0 := bt_at a0 0; clear p11; have qi11 : (0 < (a0.size : Int)) = True := eq_true (of_decide_eq_true (by (with_reducible assumption))); replace q11 := eq_true q11)
     go_meet
     case rel => exact ⟨_, (((bt a0 0) == 255)), (by rfl), H', ⟨by omega⟩, ⟨by repeat ((with_reducible first | exact HB.out | apply pw_below_drewN))⟩⟩
    ·
     rw [if_neg c10] at H
     exact absurd H (by simp)
   ·
    replace c9 := Bool.eq_false_iff.mpr c9
    subst c9
    rw [if_neg (show ¬ (false = true) by decide)] at H
    have H' := Aside0.mk H
    clear H
    go_wp2_with ((with_reducible refine gate_callee (f := 28) rfl ?_); refine goesL_ (some 8) rfl rfl Try.func28 (by kernel_rfl) rfl #[.string a0] rfl (by (try simp only [List.map_toArray, List.map_cons, List.map_nil]); rfl) ?_; (with_reducible refine (impl_isSix.calls a0 false _ A8.out).mono ?_); rintro e w' ⟨rfl, ⟨nd, rfl⟩⟩; refine ⟨_, rfl, ?_⟩)
    go_meet
    case rel => exact ⟨_, (false), (by rfl), H', ⟨by omega⟩, ⟨by repeat ((with_reducible first | exact HB.out | apply pw_below_drewN))⟩⟩
  case rest =>
   clear HC4
   obtain ⟨kq, x13_3, rfl, HA, HJ3, HB⟩ := hcut
   cases kq with
   | zero => exact absurd HA.out (by simp [impl_GroupLink.j0])
   | succ kj3 =>
    have H := HA.out
    clear HA
    simp only [impl_GroupLink.j0] at H
    by_cases c12 : x13_3 = true
    ·
     subst c12
     rw [if_pos rfl] at H
     by_cases c13 : 12 ≤ (a0.size : Int)
     ·
      rw [if_pos c13] at H
      have c13b0 := eq_true c13
      have c13b1 : decide (12 ≤ (a0.size : Int)) = true := decide_eq_true c13
      clear c13
      by_cases c14 : 2 + (a0.extract 12 a0.size).size ≤ 9223372036854775807
      ·
       rw [if_pos c14] at H
       have c14b0 := eq_true c14
       have c14b1 : decide (2 + (a0.extract 12 a0.size).size ≤ 9223372036854775807) = true := decide_eq_true c14
       try have c14b2 : (9223372036854775807 < 2 + (a0.extract 12 a0.size).size) = False := eq_false (Nat.not_lt.2 c14)
       try have c14b3 : (9223372036854775807 < 2 + (a0.size - 12)) = False := eq_false (by have h_ := c14; simp only [ByteArray.size_append, ByteArray.size_extract] at h_; omega)
       simp only [Option.some.injEq, Prod.mk.injEq] at H
       obtain ⟨rfl, rfl⟩ := H
       go_wp2
       go_ret2
       exact ⟨by rfl, HB.out⟩
      ·
       rw [if_neg c14] at H
       exact absurd H (by simp)
     ·
      rw [if_neg c13] at H
      exact absurd H (by simp)
    ·
     replace c12 := Bool.eq_false_iff.mpr c12
     subst c12
     rw [if_neg (show ¬ (false = true) by decide)] at H
     by_cases c15 : (a0.size : Int) = 4
     ·
      rw [if_pos c15] at H
      have c15b0 : ((a0.size : Int) == 4) = true := beq_iff_eq.mpr c15
      have c15b1 : ((a0.size : Int) != 4) = false := bne_eq_false_iff_eq.mpr c15
      clear c15
      by_cases c16 : 0 < (a0.size : Int)
      ·
       rw [if_pos c16] at H
       have c16b0 : decide (0 < (a0.size : Int)) = true := decide_eq_true c16
       have c16b1 : decide (0 < a0.size) = true := decide_eq_true (by omega)
       clear c16
       replace H := Option.bind_eq_some_iff.mp H
       obtain ⟨t375, A180, H⟩ := H
       have A18 := Aside0.mk A180
       clear A180
       by_cases c19 : t375 = true
       ·
        subst c19
        rw [if_pos rfl] at H
        by_cases c20 : 1 < (a0.size : Int)
        ·
         rw [if_pos c20] at H
         have c20b0 : decide (1 < (a0.size : Int)) = true := decide_eq_true c20
         have c20b1 : decide (1 < a0.size) = true := decide_eq_true (by omega)
         clear c20
         obtain ⟨y376, hy376⟩ : ∃ y_ : List Int, y_ = (([Int.tmod (bt a0 1) 128] : List Int)) := ⟨_, rfl⟩
         replace H : (if 3 + (strOfNums y376).size ≤ 9223372036854775807 then (if 2 ≤ (a0.size : Int) then (if ((⟨#[1, 0, 94]⟩ : ByteArray) ++ (strOfNums y376)).size + (a0.extract 2 a0.size).size ≤ 9223372036854775807 then (some (((⟨#[1, 0, 94]⟩ : ByteArray) ++ (strOfNums y376)) ++ (a0.extract 2 a0.size), 0)) else (none)) else (none)) else (none)) = some (r1, r2) := by (have H2_ := (Option.bind_some _ _).symm.trans H; rw [hy376]; with_reducible exact H2_)
         have Ny376 := Aside0.mk hy376
         clear hy376
         by_cases c22 : 3 + (strOfNums y376).size ≤ 9223372036854775807
         ·
          rw [if_pos c22] at H
          have c22b0 := eq_true c22
          have c22b1 : decide (3 + (strOfNums y376).size ≤ 9223372036854775807) = true := decide_eq_true c22
          try have c22b2 : (9223372036854775807 < 3 + (strOfNums y376).size) = False := eq_false (Nat.not_lt.2 c22)
          by_cases c23 : 2 ≤ (a0.size : Int)
          ·
           rw [if_pos c23] at H
           have c23b0 := eq_true c23
           have c23b1 : decide (2 ≤ (a0.size : Int)) = true := decide_eq_true c23
           clear c23
           by_cases c24 : ((⟨#[1, 0, 94]⟩ : ByteArray) ++ (strOfNums y376)).size + (a0.extract 2 a0.size).size ≤ 9223372036854775807
           ·
            rw [if_pos c24] at H
            have c24b0 := eq_true c24
            have c24b1 : decide (((⟨#[1, 0, 94]⟩ : ByteArray) ++ (strOfNums y376)).size + (a0.extract 2 a0.size).size ≤ 9223372036854775807) = true := decide_eq_true c24
            try have c24b2 : (9223372036854775807 < ((⟨#[1, 0, 94]⟩ : ByteArray) ++ (strOfNums y376)).size + (a0.extract 2 a0.size).size) = False := eq_false (Nat.not_lt.2 c24)
            try have c24b3 : (9223372036854775807 < 3 + (strOfNums y376).size + (a0.size - 2)) = False := eq_false (by have h_ := c24; simp only [ByteArray.size_append, ByteArray.size_extract, show (⟨#[1, 0, 94]⟩ : ByteArray).size = 3 from rfl] at h_; omega)
            simp only [Option.some.injEq, Prod.mk.injEq] at H
            obtain ⟨rfl, rfl⟩ := H
            have p17 : 0 ≤ (0 : Int) := (by omega)
            have q17 : 0 < a0.size := (by have : (0 : Int) < (a0.size : Int) := of_decide_eq_true (by (with_reducible assumption)); omega)
            have hx17 : ∀ h : 0 < a0.size, ((a0[0]'h).toNat : Int) = bt a0 0 := bt_at a0 0
            clear p17
            have qi17 : (0 < (a0.size : Int)) = True := eq_true (of_decide_eq_true (by (with_reducible assumption)))
            replace q17 := eq_true q17
            try go_wp2_with (go_at_call 32; (with_reducible refine (impl_inRange.calls (wrap64 (bt a0 0)) 224 239 true _ A18.out).mono ?_); rintro e w' ⟨rfl, ⟨nd, rfl⟩⟩)
            (try (rw [drewN_self wc]; generalize hq_ : World.drewN wc _ = wc; have n0_ : Aside0 (Below w.heap.size w wc) := ⟨by rw [← hq_]; exact (by repeat ((with_reducible first | exact HB.out | apply pw_below_drewN)))⟩; clear HB hq_; have HB := n0_; clear n0_))
            have n0_ := Aside0.mk (below_drew1 HB.out)
            clear HB
            have HB := n0_
            clear n0_
            have p21 : 0 ≤ (1 : Int) := (by omega)
            have q21 : 1 < a0.size := (by have : (1 : Int) < (a0.size : Int) := of_decide_eq_true (by (with_reducible assumption)); omega)
            have hx21 : ∀ h : 1 < a0.size, ((a0[1]'h).toNat : Int) = bt a0 1 := bt_at a0 1
            clear p21
            have qi21 : (1 < (a0.size : Int)) = True := eq_true (of_decide_eq_true (by (with_reducible assumption)))
            replace q21 := eq_true q21
            refine start_ (n := 11) (S := fun w' => True) (ds := []) #[false, false, false, false, false, false, false, false, false, false, false] (by kernel_rfl) rfl rfl trivial (fun hHeld => ?_); refine with_tabW impl_GroupLink.tab6 impl_GroupLink.bits6 (fun HT_ HW_ => ?_)
            generalize wc.drew = w25 at HB hHeld ⊢
            refine pure_ (i := 0) (N := some 26) (v := ?_) (a' := ?_) #[true, false, false, false, false, false, false, false, false, false, false] rfl rfl (any_of HT_.out (by kernel_rfl)) (fun _ _ _ h => h) (Or.inl ⟨by rfl, ?_⟩) ?_ ?_
            rotate_left
            ·
             intro w'
             go_simp
             with_reducible rfl
            rotate_left
            ·
             simp only [Act.put, pq]
             rfl
            refine pure_ (i := 6) (N := some 32) (v := ?_) (a' := ?_) #[true, false, false, false, false, false, true, false, false, false, false] rfl rfl (any_of HT_.out (by kernel_rfl)) (fun _ _ _ h => h) (Or.inl ⟨by rfl, ?_⟩) ?_ ?_
            rotate_left
            ·
             intro w'
             go_simp
             with_reducible rfl
            rotate_left
            ·
             simp only [Act.put, pq]
             rfl
            refine pure_ (i := 7) (N := some 33) (v := ?_) (a' := ?_) #[true, false, false, false, false, false, true, true, false, false, false] rfl rfl (any_of HT_.out (by kernel_rfl)) (fun _ _ _ h => h) (Or.inl ⟨by rfl, ?_⟩) ?_ ?_
            rotate_left
            ·
             intro w'
             go_simp
             with_reducible rfl
            rotate_left
            ·
             simp only [Act.put, pq]
             rfl
            refine take_ (i := 1) (N := some 27) (v := ?_) (a' := ?_) #[true, true, false, false, false, false, true, true, false, false, false] rfl rfl (take_ofW HT_.out HW_.out (by kernel_rfl)) (fun _ _ _ h => h) (Or.inl ⟨by rfl, ?_⟩) hHeld ?_ ?_
            rotate_left
            ·
             intro w' _
             go_simp
             with_reducible rfl
            rotate_left
            ·
             simp only [Act.put, pq]
             rfl
            refine pure_ (i := 2) (N := some 28) (v := ?_) (a' := ?_) #[true, true, true, false, false, false, true, true, false, false, false] rfl rfl (any_of HT_.out (by kernel_rfl)) (fun _ _ _ h => h) (Or.inl ⟨by rfl, ?_⟩) ?_ ?_
            rotate_left
            ·
             intro w'
             go_simp
             with_reducible rfl
            rotate_left
            ·
             simp only [Act.put, pq]
             rfl
            refine one_ (i := 3) (N := some 29) #[true, true, true, true, false, false, true, true, false, false, false] rfl rfl (one_of HT_.out (by kernel_rfl)) (by decide) (fun K hK => ?_)
            refine Kd.R_lit_step (Kd.int .u8) _ 5 ?hg (N := 29) ?hd (xs := ([Int.tmod (bt a0 1) 128] : List Int)) (inner := [.int .u8 (Int.tmod (bt a0 1) 128)]) (ok := fun _ => True) (okp := fun _ => True) ?hr ?hp (fun _ hk => hk) trivial (Below.refl _ _) (Nat.le_refl _) (by simp) ?_; (case hd => rfl); (case hg => rfl); (case hr => (go_simp; done)); (case hp => exact (Reps.one (show Kd.M (Kd.int .u8) _ _ _ (Int.tmod (bt a0 1) 128) [.int .u8 (Int.tmod (bt a0 1) 128)] from rfl) (Reps.none _ _)))
            intro v377 w26 ho27 hb hg_ hnew_
            clear hg_ hnew_
            (rw [← Ny376.out] at ho27)
            have n0_ := Aside0.mk (Kd.R_lower ho27 (below_size HB.out))
            have n1_ := Aside0.mk (below_step HB.out hb)
            clear HB
            have HO378 := n0_
            have HB := n1_
            clear n0_ n1_
            clear hb ho27
            refine hK.out _ _ trivial (fun hHeld => ?_)
            clear hK K
            refine norm_ (a' := ?_) ?_ ?_
            rotate_left
            ·
             show Act.put _ (some 29) _ = _
             simp only [Act.put, pq]
             rfl
            refine one_ (i := 4) (N := some 30) #[true, true, true, true, true, false, true, true, false, false, false] rfl rfl (one_of HT_.out (by kernel_rfl)) (by decide) (fun K hK => ?_)
            have hcv28 := own_string (P := Try.prog) Try.underlying22 Try.underlying5 Try.underlying9 (Kd.own_of_R HO378.out)
            refine value_ (w1 := ?_) (v := ?_) (by rfl) rfl ?_ ?_
            rotate_left 2
            ·
             go_simp
             constructor
             ·
              rfl
             ·
              rfl
            clear hcv28
            refine hK.out _ _ trivial (fun hHeld => ?_)
            clear hK K
            refine norm_ (a' := ?_) ?_ ?_
            rotate_left
            ·
             show Act.put _ (some 30) _ = _
             simp only [Act.put, pq]
             rfl
            refine pure_ (i := 5) (N := some 31) (v := ?_) (a' := ?_) #[true, true, true, true, true, true, true, true, false, false, false] rfl rfl (any_of HT_.out (by kernel_rfl)) (fun _ _ _ h => h) (Or.inl ⟨by rfl, ?_⟩) ?_ ?_
            rotate_left
            ·
             intro w'
             go_simp
             with_reducible rfl
            rotate_left
            ·
             simp only [Act.put, pq]
             rfl
            refine pure_ (i := 8) (N := some 34) (v := ?_) (a' := ?_) #[true, true, true, true, true, true, true, true, true, false, false] rfl rfl (any_of HT_.out (by kernel_rfl)) (fun _ _ _ h => h) (Or.inl ⟨by rfl, ?_⟩) ?_ ?_
            rotate_left
            ·
             intro w'
             go_simp
             with_reducible rfl
            rotate_left
            ·
             simp only [Act.put, pq]
             rfl
            refine pure_ (i := 9) (N := some 2) (v := ?_) (a' := ?_) #[true, true, true, true, true, true, true, true, true, true, false] rfl rfl (any_of HT_.out (by kernel_rfl)) (fun _ _ _ h => h) (Or.inl ⟨by rfl, ?_⟩) ?_ ?_
            rotate_left
            ·
             intro w'
             go_simp
             with_reducible rfl
            rotate_left
            ·
             simp only [Act.put, pq]
             rfl
            refine pure_ (i := 10) (N := some 3) (v := ?_) (a' := ?_) #[true, true, true, true, true, true, true, true, true, true, true] rfl rfl (any_of HT_.out (by kernel_rfl)) (fun _ _ _ h => h) (Or.inl ⟨by rfl, ?_⟩) ?_ ?_
            rotate_left
            ·
             intro w'
             go_simp
             with_reducible rfl
            rotate_left
            ·
             simp only [Act.put, pq]
             rfl
            refine done_ (done_of HT_.out (by kernel_rfl)) ?_
            try go_wp2
            go_ret2
            exact ⟨by rfl, HB.out⟩
           ·
            rw [if_neg c24] at H
            exact absurd H (by simp)
          ·
           rw [if_neg c23] at H
           exact absurd H (by simp)
         ·
          rw [if_neg c22] at H
          exact absurd H (by simp)
        ·
         rw [if_neg c20] at H
         exact absurd H (by simp)
       ·
        replace c19 := Bool.eq_false_iff.mpr c19
        subst c19
        rw [if_neg (show ¬ (false = true) by decide)] at H
        simp only [Option.some.injEq, Prod.mk.injEq] at H
        obtain ⟨rfl, rfl⟩ := H
        have p17 : 0 ≤ (0 : Int) := (by omega)
        have q17 : 0 < a0.size := (by have : (0 : Int) < (a0.size : Int) := of_decide_eq_true (by (with_reducible assumption)); omega)
        have hx17 : ∀ h : 0 < a0.size, ((a0[0]'h).toNat : Int) = bt a0 0 := bt_at a0 0
        clear p17
        have qi17 : (0 < (a0.size : Int)) = True := eq_true (of_decide_eq_true (by (with_reducible assumption)))
        replace q17 := eq_true q17
        go_wp2_with (go_at_call 32; (with_reducible refine (impl_inRange.calls (wrap64 (bt a0 0)) 224 239 false _ A18.out).mono ?_); rintro e w' ⟨rfl, ⟨nd, rfl⟩⟩)
        go_ret2
        exact ⟨by rfl, by repeat ((with_reducible first | exact HB.out | apply pw_below_drewN))⟩
      ·
       rw [if_neg c16] at H
       exact absurd H (by simp)
     ·
      rw [if_neg c15] at H
      have c15b0 : ((a0.size : Int) == 4) = false := beq_eq_false_iff_ne.mpr c15
      have c15b1 : ((a0.size : Int) != 4) = true := bne_iff_ne.mpr c15
      simp only [Option.some.injEq, Prod.mk.injEq] at H
      obtain ⟨rfl, rfl⟩ := H
      go_wp2
      go_ret2
      exact ⟨by rfl, HB.out⟩
end Go.Proofs.Ytnpbnmhbajiefaa.PFnSources
