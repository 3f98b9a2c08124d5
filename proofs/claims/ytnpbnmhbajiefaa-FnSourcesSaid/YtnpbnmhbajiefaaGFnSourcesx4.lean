-- OWN TEXT of FnSources: made by own_print.sh, finished by hand
import Derived.Test.YtnpbnmhbajiefaaGFnSourcesx0
import Derived.Test.YtnpbnmhbajiefaaGFnSourcesx1
namespace Go.Proofs.Ytnpbnmhbajiefaa.PFnSources
open Go.RowKit Go.Proofs.YtnpbnmhbajiefaaW.PrintWords Go.Proofs.YtnpbnmhbajiefaaW.PrintLast Go.Proofs.YtnpbnmhbajiefaaW.PrintMore
attribute [local go_sem] max2_int min2_int max_two min_two max_three min_three max_four min_four   -- for this text's walks alone
set_option linter.unusedVariables false
set_option linter.unusedSimpArgs false
def spec_l00Src_prefix64.f (s0_0 : List Int) (s0_1 : Int) (s0_2 : Int) : Option (ByteArray × Int × Int) := (spec_l00Src_next.f s0_0 s0_1 s0_2 3).bind fun bt186 => ((spec_l00Src_next.f s0_0 bt186.2.1 bt186.2.2 3).bind fun bt189 => ((some (([(bt186.1) % 256, (bt189.1) % 256, 0, 0, 0, 0] : List Int) : List Int)).bind fun y192 => (if 2 + (strOfNums y192).size ≤ 9223372036854775807 then (if 8 ≤ 281474976710656 then ((some (List.replicate 8 0 : List Int)).bind fun y195 => (if ((⟨#[32, 1]⟩ : ByteArray) ++ (strOfNums y192)).size + (strOfNums y195).size ≤ 9223372036854775807 then (some (((⟨#[32, 1]⟩ : ByteArray) ++ (strOfNums y192)) ++ (strOfNums y195), bt189.2.1, bt189.2.2)) else (none))) else (none)) else (none))))
def spec_l00Src_prefix64.T1 : Bool × List (List Nat × List Nat) := (true, [([], []), ([0], [0]), ([1], [1]), ([], []), ([3, 1], [3]), ([4], [4]), ([2, 5], [2, 5]), ([6], [6]), ([7], [7]), ([], []), ([9], [9]), ([8, 10], [8, 10]), ([11, 4, 0, 1, 2, 3, 4, 5, 6, 7, 8, 9, 10, 11], [11])])
def spec_l00Src_prefix64.B1 : List Nat := [0, 1, 3, 0, 11, 27, 63, 127, 255, 0, 512, 2047, 4095]
theorem spec_l00Src_prefix64.tab1 : rtab .any (opsOf Try.f62 1) = spec_l00Src_prefix64.T1 := by kernel_rfl
theorem spec_l00Src_prefix64.bits1 : waitsOk spec_l00Src_prefix64.T1.2 spec_l00Src_prefix64.B1 = true := by kernel_rfl
set_option maxHeartbeats 8000000 in
set_option maxRecDepth 100000 in
theorem spec_l00Src_prefix64.calls (g : Nat) (s0_0 : List Int) (s0_1 : Int) (s0_2 : Int) (r1 : ByteArray) (r2 : Int) (r3 : Int) (w0 w : World) (hI : IsS77 w0 w g s0_0 s0_1 s0_2) (hB : Below w0.heap.size w0 w) (h : spec_l00Src_prefix64.f s0_0 s0_1 s0_2 = some (r1, r2, r3)) :
  Calls Try.prog 62 #[.pointer (some ⟨g, 0, none⟩)] w fun e w' => e = .returned (.string r1) ∧ IsS77 w0 w' g s0_0 r2 r3 ∧ Below w0.heap.size w0 w' ∧ KeepBut w w' g none := by
 have HI0 := Aside0.mk hI
 have HK := Aside0.mk (KeepBut.refl w g none)
 have HL := Aside0.mk hB.size
 clear hI
 have HW0 := Aside0.mk hB.size
 have HB := Aside0.mk hB
 clear hB
 have H : ((spec_l00Src_next.f s0_0 s0_1 s0_2 3).bind fun bt186 => ((spec_l00Src_next.f s0_0 bt186.2.1 bt186.2.2 3).bind fun bt189 => ((some (([(bt186.1) % 256, (bt189.1) % 256, 0, 0, 0, 0] : List Int) : List Int)).bind fun y192 => (if 2 + (strOfNums y192).size ≤ 9223372036854775807 then (if 8 ≤ 281474976710656 then ((some (List.replicate 8 0 : List Int)).bind fun y195 => (if ((⟨#[32, 1]⟩ : ByteArray) ++ (strOfNums y192)).size + (strOfNums y195).size ≤ 9223372036854775807 then (some (((⟨#[32, 1]⟩ : ByteArray) ++ (strOfNums y192)) ++ (strOfNums y195), bt189.2.1, bt189.2.2)) else (none))) else (none)) else (none))))) = some (r1, r2, r3) := h
 clear h
 replace H := Option.bind_eq_some_iff.mp H
 obtain ⟨⟨t186, t187, t188⟩, A20, H⟩ := H
 have A2 := Aside0.mk A20
 clear A20
 replace H := Option.bind_eq_some_iff.mp H
 obtain ⟨⟨t189, t190, t191⟩, A30, H⟩ := H
 have A3 := Aside0.mk A30
 clear A30
 obtain ⟨y192, hy192⟩ : ∃ y_ : List Int, y_ = (([(t186) % 256, (t189) % 256, 0, 0, 0, 0] : List Int)) := ⟨_, rfl⟩
 replace H : (if 2 + (strOfNums y192).size ≤ 9223372036854775807 then (if 8 ≤ 281474976710656 then ((some (List.replicate 8 0 : List Int)).bind fun y195 => (if ((⟨#[32, 1]⟩ : ByteArray) ++ (strOfNums y192)).size + (strOfNums y195).size ≤ 9223372036854775807 then (some (((⟨#[32, 1]⟩ : ByteArray) ++ (strOfNums y192)) ++ (strOfNums y195), t190, t191)) else (none))) else (none)) else (none)) = some (r1, r2, r3) := by (have H2_ := (Option.bind_some _ _).symm.trans H; rw [hy192]; with_reducible exact H2_)
 have Ny192 := Aside0.mk hy192
 clear hy192
 by_cases c4 : 2 + (strOfNums y192).size ≤ 9223372036854775807
 ·
  rw [if_pos c4] at H
  have c4b0 := eq_true c4
  have c4b1 : decide (2 + (strOfNums y192).size ≤ 9223372036854775807) = true := decide_eq_true c4
  try have c4b2 : (9223372036854775807 < 2 + (strOfNums y192).size) = False := eq_false (Nat.not_lt.2 c4)
  by_cases c5 : 8 ≤ 281474976710656
  ·
   rw [if_pos c5] at H
   have c5b0 := eq_true c5
   have c5b1 : decide (8 ≤ 281474976710656) = true := decide_eq_true c5
   clear c5
   obtain ⟨y195, hy195⟩ : ∃ y_ : List Int, y_ = (List.replicate 8 0) := ⟨_, rfl⟩
   replace H : (if ((⟨#[32, 1]⟩ : ByteArray) ++ (strOfNums y192)).size + (strOfNums y195).size ≤ 9223372036854775807 then (some (((⟨#[32, 1]⟩ : ByteArray) ++ (strOfNums y192)) ++ (strOfNums y195), t190, t191)) else (none)) = some (r1, r2, r3) := by (have H2_ := (Option.bind_some _ _).symm.trans H; rw [hy195]; with_reducible exact H2_)
   have Ny195 := Aside0.mk hy195
   clear hy195
   by_cases c6 : ((⟨#[32, 1]⟩ : ByteArray) ++ (strOfNums y192)).size + (strOfNums y195).size ≤ 9223372036854775807
   ·
    rw [if_pos c6] at H
    have c6b0 := eq_true c6
    have c6b1 : decide (((⟨#[32, 1]⟩ : ByteArray) ++ (strOfNums y192)).size + (strOfNums y195).size ≤ 9223372036854775807) = true := decide_eq_true c6
    try have c6b2 : (9223372036854775807 < ((⟨#[32, 1]⟩ : ByteArray) ++ (strOfNums y192)).size + (strOfNums y195).size) = False := eq_false (Nat.not_lt.2 c6)
    try have c6b3 : (9223372036854775807 < 2 + (strOfNums y192).size + (strOfNums y195).size) = False := eq_false (by have h_ := c6; simp only [ByteArray.size_append, ByteArray.size_extract, show (⟨#[32, 1]⟩ : ByteArray).size = 2 from rfl] at h_; omega)
    simp only [Option.some.injEq, Prod.mk.injEq] at H
    obtain ⟨rfl, rfl, rfl⟩ := H
    go_enter Try.func62, Try.ntmps62
    try go_wp2
    have n0_ := Aside0.mk (IsS77.drew HI0.out)
    have n1_ := Aside0.mk (keep_drew HK.out)
    have n2_ := Aside0.mk (below_drew1 HB.out)
    clear HI0
    clear HK
    clear HB
    have HI0 := n0_
    have HK := n1_
    have HB := n2_
    clear n0_ n1_ n2_
    refine start_ (n := 13) (S := fun w' => True) (ds := []) #[false, false, false, false, false, false, false, false, false, false, false, false, false] (by kernel_rfl) rfl rfl trivial (fun hHeld => ?_); refine with_tabW spec_l00Src_prefix64.tab1 spec_l00Src_prefix64.bits1 (fun HT_ HW_ => ?_)
    generalize w.drew = w7 at HI0 HK HB hHeld ⊢
    refine pure_ (i := 0) (N := some 3) (v := ?_) (a' := ?_) #[true, false, false, false, false, false, false, false, false, false, false, false, false] rfl rfl (any_of HT_.out (by kernel_rfl)) (fun _ _ _ h => h) (Or.inl ⟨by rfl, ?_⟩) ?_ ?_
    rotate_left
    ·
     intro w'
     go_simp
     with_reducible rfl
    rotate_left
    ·
     simp only [Act.put, pq]
     rfl
    refine pure_ (i := 3) (N := some 6) (v := ?_) (a' := ?_) #[true, false, false, true, false, false, false, false, false, false, false, false, false] rfl rfl (any_of HT_.out (by kernel_rfl)) (fun _ _ _ h => h) (Or.inl ⟨by rfl, ?_⟩) ?_ ?_
    rotate_left
    ·
     intro w'
     go_simp
     with_reducible rfl
    rotate_left
    ·
     simp only [Act.put, pq]
     rfl
    refine join_ (σ := Value × Value) 2 #[true, true, true, true, true, true, true, true, true, true, true, false, false] (fun s_ => [(4, .int .i64 t186), (7, .int .i64 t189), (9, s_.1), (10, .string (strOfNums y192)), (12, s_.2), (13, .string (strOfNums y195)), (5, .int .u8 ((t186) % 256)), (8, .int .u8 ((t189) % 256)), (11, .string ((⟨#[32, 1]⟩ : ByteArray) ++ (strOfNums y192)))]) (fun s_ w' => (Kd.R (Kd.int .u8) 5 w' w.heap.size (fun k_ => some k_ ≠ (s_.2 : Value).ownBlock) s_.1 y192) ∧ (Kd.R (Kd.int .u8) 5 w' w.heap.size (fun k_ => some k_ ≠ (s_.1 : Value).ownBlock) s_.2 y195) ∧ (IsS77 w0 w' g s0_0 t190 t191) ∧ (KeepBut w w' g none) ∧ (Below w0.heap.size w0 w')) ?_ ?_
    rotate_left
    ·
     intro hJ1_4_6_7_9_10
     refine join_ (σ := Value × Value) 3 #[true, true, true, true, true, true, true, true, true, true, false, false, false] (fun s_ => [(4, .int .i64 t186), (7, .int .i64 t189), (9, s_.1), (10, .string (strOfNums y192)), (12, s_.2), (5, .int .u8 ((t186) % 256)), (8, .int .u8 ((t189) % 256)), (11, .string ((⟨#[32, 1]⟩ : ByteArray) ++ (strOfNums y192)))]) (fun s_ w' => (Kd.R (Kd.int .u8) 5 w' w.heap.size (fun k_ => some k_ ≠ (s_.2 : Value).ownBlock) s_.1 y192) ∧ (Kd.R (Kd.int .u8) 5 w' w.heap.size (fun k_ => some k_ ≠ (s_.1 : Value).ownBlock) s_.2 y195) ∧ (IsS77 w0 w' g s0_0 t190 t191) ∧ (KeepBut w w' g none) ∧ (Below w0.heap.size w0 w')) ?_ ?_
     rotate_left
     ·
      intro hJ1_4_6_7_9
      refine join_ (σ := Value × Value) 4 #[true, true, true, true, true, true, true, false, false, true, true, false, false] (fun s_ => [(4, .int .i64 t186), (7, .int .i64 t189), (9, s_.1), (12, s_.2), (13, .string (strOfNums y195)), (5, .int .u8 ((t186) % 256)), (8, .int .u8 ((t189) % 256))]) (fun s_ w' => (Kd.R (Kd.int .u8) 5 w' w.heap.size (fun k_ => some k_ ≠ (s_.2 : Value).ownBlock) s_.1 y192) ∧ (Kd.R (Kd.int .u8) 5 w' w.heap.size (fun k_ => some k_ ≠ (s_.1 : Value).ownBlock) s_.2 y195) ∧ (IsS77 w0 w' g s0_0 t190 t191) ∧ (KeepBut w w' g none) ∧ (Below w0.heap.size w0 w')) ?_ ?_
      rotate_left
      ·
       intro hJ1_4_6_9_10
       refine join_ (σ := Value) 4 #[true, true, true, true, true, true, true, true, true, false, false, false, false] (fun s_ => [(4, .int .i64 t186), (7, .int .i64 t189), (9, s_), (10, .string (strOfNums y192)), (5, .int .u8 ((t186) % 256)), (8, .int .u8 ((t189) % 256)), (11, .string ((⟨#[32, 1]⟩ : ByteArray) ++ (strOfNums y192)))]) (fun s_ w' => (Kd.R (Kd.int .u8) 5 w' w.heap.size (fun _ => True) s_ y192) ∧ (IsS77 w0 w' g s0_0 t190 t191) ∧ (KeepBut w w' g none) ∧ (Below w0.heap.size w0 w')) ?_ ?_
       rotate_left
       ·
        intro hJ1_4_6_7
        refine join_ (σ := Value × Value) 5 #[true, true, true, true, true, true, true, false, false, true, false, false, false] (fun s_ => [(4, .int .i64 t186), (7, .int .i64 t189), (9, s_.1), (12, s_.2), (5, .int .u8 ((t186) % 256)), (8, .int .u8 ((t189) % 256))]) (fun s_ w' => (Kd.R (Kd.int .u8) 5 w' w.heap.size (fun k_ => some k_ ≠ (s_.2 : Value).ownBlock) s_.1 y192) ∧ (Kd.R (Kd.int .u8) 5 w' w.heap.size (fun k_ => some k_ ≠ (s_.1 : Value).ownBlock) s_.2 y195) ∧ (IsS77 w0 w' g s0_0 t190 t191) ∧ (KeepBut w w' g none) ∧ (Below w0.heap.size w0 w')) ?_ ?_
        rotate_left
        ·
         intro hJ1_4_6_9
         refine join_ (σ := Value) 5 #[true, true, true, true, true, true, false, false, false, true, true, false, false] (fun s_ => [(4, .int .i64 t186), (7, .int .i64 t189), (12, s_), (13, .string (strOfNums y195)), (5, .int .u8 ((t186) % 256)), (8, .int .u8 ((t189) % 256))]) (fun s_ w' => (Kd.R (Kd.int .u8) 5 w' w.heap.size (fun _ => True) s_ y195) ∧ (IsS77 w0 w' g s0_0 t190 t191) ∧ (KeepBut w w' g none) ∧ (Below w0.heap.size w0 w')) ?_ ?_
         rotate_left
         ·
          intro hJ1_4_9_10
          refine join_ (σ := Value) 6 #[true, true, true, true, true, true, true, false, false, false, false, false, false] (fun s_ => [(4, .int .i64 t186), (7, .int .i64 t189), (9, s_), (5, .int .u8 ((t186) % 256)), (8, .int .u8 ((t189) % 256))]) (fun s_ w' => (Kd.R (Kd.int .u8) 5 w' w.heap.size (fun _ => True) s_ y192) ∧ (IsS77 w0 w' g s0_0 t190 t191) ∧ (KeepBut w w' g none) ∧ (Below w0.heap.size w0 w')) ?_ ?_
          rotate_left
          ·
           intro hJ1_4_6
           refine join_ (σ := Value) 6 #[true, true, true, true, true, true, false, false, false, true, false, false, false] (fun s_ => [(4, .int .i64 t186), (7, .int .i64 t189), (12, s_), (5, .int .u8 ((t186) % 256)), (8, .int .u8 ((t189) % 256))]) (fun s_ w' => (Kd.R (Kd.int .u8) 5 w' w.heap.size (fun _ => True) s_ y195) ∧ (IsS77 w0 w' g s0_0 t190 t191) ∧ (KeepBut w w' g none) ∧ (Below w0.heap.size w0 w')) ?_ ?_
           rotate_left
           ·
            intro hJ1_4_9
            refine join_ (σ := Value) 7 #[true, true, true, true, false, false, false, false, false, true, true, false, false] (fun s_ => [(4, .int .i64 t186), (12, s_), (13, .string (strOfNums y195)), (5, .int .u8 ((t186) % 256))]) (fun s_ w' => (Kd.R (Kd.int .u8) 5 w' w.heap.size (fun _ => True) s_ y195) ∧ (IsS77 w0 w' g s0_0 t187 t188) ∧ (KeepBut w w' g none) ∧ (Below w0.heap.size w0 w')) ?_ ?_
            rotate_left
            ·
             intro hJ1_9_10
             refine join_ (σ := Unit) 7 #[true, true, true, true, true, true, false, false, false, false, false, false, false] (fun s_ => [(4, .int .i64 t186), (7, .int .i64 t189), (5, .int .u8 ((t186) % 256)), (8, .int .u8 ((t189) % 256))]) (fun s_ w' => (IsS77 w0 w' g s0_0 t190 t191) ∧ (KeepBut w w' g none) ∧ (Below w0.heap.size w0 w')) ?_ ?_
             rotate_left
             ·
              intro hJ1_4
              refine join_ (σ := Value) 8 #[true, true, true, true, false, false, false, false, false, true, false, false, false] (fun s_ => [(4, .int .i64 t186), (12, s_), (5, .int .u8 ((t186) % 256))]) (fun s_ w' => (Kd.R (Kd.int .u8) 5 w' w.heap.size (fun _ => True) s_ y195) ∧ (IsS77 w0 w' g s0_0 t187 t188) ∧ (KeepBut w w' g none) ∧ (Below w0.heap.size w0 w')) ?_ ?_
              rotate_left
              ·
               intro hJ1_9
               refine join_ (σ := Value) 9 #[true, false, false, true, false, false, false, false, false, true, true, false, false] (fun s_ => [(12, s_), (13, .string (strOfNums y195))]) (fun s_ w' => (Kd.R (Kd.int .u8) 5 w' w.heap.size (fun _ => True) s_ y195) ∧ (IsS77 w0 w' g s0_0 s0_1 s0_2) ∧ (KeepBut w w' g none) ∧ (Below w0.heap.size w0 w')) ?_ ?_
               rotate_left
               ·
                intro hJ9_10
                refine join_ (σ := Unit) 9 #[true, true, true, true, false, false, false, false, false, false, false, false, false] (fun s_ => [(4, .int .i64 t186), (5, .int .u8 ((t186) % 256))]) (fun s_ w' => (IsS77 w0 w' g s0_0 t187 t188) ∧ (KeepBut w w' g none) ∧ (Below w0.heap.size w0 w')) ?_ ?_
                rotate_left
                ·
                 intro hJ1
                 refine join_ (σ := Value) 10 #[true, false, false, true, false, false, false, false, false, true, false, false, false] (fun s_ => [(12, s_)]) (fun s_ w' => (Kd.R (Kd.int .u8) 5 w' w.heap.size (fun _ => True) s_ y195) ∧ (IsS77 w0 w' g s0_0 s0_1 s0_2) ∧ (KeepBut w w' g none) ∧ (Below w0.heap.size w0 w')) ?_ ?_
                 rotate_left
                 ·
                  intro hJ9
                  refine two_ (i := 1) (j := 9) (Ni := some 4) (Nj := some 12) #[true, true, false, true, false, false, false, false, false, false, false, false, false] #[true, false, false, true, false, false, false, false, false, true, false, false, false] rfl rfl rfl rfl (two_of HT_.out (by kernel_rfl)) (by decide) (by decide) (fun K hK => ?_) (fun K hK => ?_)
                  ·
                   skip
                   refine goes_ Try.func44 (by kernel_rfl) rfl #[.pointer (some ⟨g, 0, none⟩), .int .i64 3] (by rfl) rfl rfl (by (try simp only [List.map_toArray, List.map_cons, List.map_nil]); rfl) ?_
                   with_reducible refine (spec_l00Src_next.calls g s0_0 s0_1 s0_2 3 t186 t187 t188 w0 _ ?side1 ?side2 A2.out).mono ?_
                   (case side1 => repeat ((with_reducible exact HI0.out)))
                   (case side2 => repeat ((with_reducible exact HB.out)))
                   rintro e w8 ⟨rfl, hi, hb, hk⟩
                   refine ⟨_, rfl, ?_⟩
                   have n0_ := Aside0.mk (KeepBut.trans HK.out hk (.inl rfl))
                   have n1_ := Aside0.mk (hb)
                   have n2_ := Aside0.mk (hi)
                   clear HK
                   clear HB
                   clear HI0
                   have HK := n0_
                   have HB := n1_
                   have HI0 := n2_
                   clear n0_ n1_ n2_
                   (try clear hb)
                   (skip)
                   (try clear hk)
                   (try clear hi)
                   refine hK.out _ _ trivial (fun hHeld => ?_)
                   clear hK K
                   refine norm_ (a' := ?_) ?_ ?_
                   rotate_left
                   ·
                    show Act.put _ (some 4) _ = _
                    simp only [Act.put, pq]
                    rfl
                   refine pure_ (i := 2) (N := some 5) (v := ?_) (a' := ?_) #[true, true, true, true, false, false, false, false, false, false, false, false, false] rfl rfl (any_of HT_.out (by kernel_rfl)) (fun _ _ _ h => h) (Or.inl ⟨by rfl, ?_⟩) ?_ ?_
                   rotate_left
                   ·
                    intro w'
                    go_simp
                    with_reducible rfl
                   rotate_left
                   ·
                    simp only [Act.put, pq]
                    rfl
                   exact norm_ (by (simp only [putAll, Act.put, pq]; rfl)) (hJ1 () _ ⟨(HI0.out), HK.out, (HB.out)⟩)
                  ·
                   skip
                   refine Kd.R_make_step (Kd.int .u8) _ 5 (by rfl) (N := 12) rfl 22 _ _ rfl 8 rfl rfl Try.underlying22 (.int .u8 0) 1 info5 rfl (by decide) (by omega) 0 (ok := fun _ => True) (okp := fun _ => True) rfl (fun _ hk => hk) trivial (by omega) (by omega) (Below.refl _ _) (Nat.le_refl _) ?_
                   intro v196 w8 ho9 hb hg_ hnew_
                   clear hg_ hnew_
                   ((simp only [Int.reduceToNat] at ho9; rw [← Ny195.out] at ho9))
                   have n0_ := Aside0.mk (Kd.R_lower ho9 (keep_size (w := w) (g := g) (row := none) HK.out))
                   have n1_ := Aside0.mk (IsS77.below (HI0.out) hb)
                   have n2_ := Aside0.mk (KeepBut.trans HK.out (KeepBut.of_below hb g none) (.inl rfl))
                   have n3_ := Aside0.mk (below_step (HB.out) hb)
                   clear HI0
                   clear HK
                   clear HB
                   have HO197 := n0_
                   have HI0 := n1_
                   have HK := n2_
                   have HB := n3_
                   clear n0_ n1_ n2_ n3_
                   clear hb ho9
                   refine hK.out _ _ trivial (fun hHeld => ?_)
                   clear hK K
                   refine norm_ (a' := ?_) ?_ ?_
                   rotate_left
                   ·
                    show Act.put _ (some 12) _ = _
                    simp only [Act.put, pq]
                    rfl
                   exact norm_ (by (simp only [putAll, Act.put, pq]; done)) (hJ9 (v196) _ ⟨(by exact HO197.out), (HI0.out), HK.out, (HB.out)⟩)
                 ·
                  skip
                  rintro v196 w10 ⟨h0_, h1_, h2_, h3_⟩
                  have n0_ : Aside0 (Kd.R (Kd.int .u8) 5 w10 w.heap.size (fun _ => True) v196 y195) := ⟨h0_⟩
                  have n1_ : Aside0 (IsS77 w0 w10 g s0_0 s0_1 s0_2) := ⟨h1_⟩
                  have n2_ : Aside0 (KeepBut w w10 g none) := ⟨h2_⟩
                  have n3_ : Aside0 (Below w0.heap.size w0 w10) := ⟨h3_⟩
                  clear HI0
                  clear HK
                  clear HB
                  clear h0_ h1_ h2_ h3_
                  have HO197 := n0_
                  have HI0 := n1_
                  have HK := n2_
                  have HB := n3_
                  clear n0_ n1_ n2_ n3_
                  have hHeld := trivial
                  refine norm_ (a' := ?_) ?_ ?_
                  rotate_left
                  ·
                   simp only [putAll, Act.put, pq]
                   rfl
                  refine two_ (i := 1) (j := 10) (Ni := some 4) (Nj := some 13) #[true, true, false, true, false, false, false, false, false, true, false, false, false] #[true, false, false, true, false, false, false, false, false, true, true, false, false] rfl rfl rfl rfl (two_of HT_.out (by kernel_rfl)) (by decide) (by decide) (fun K hK => ?_) (fun K hK => ?_)
                  ·
                   skip
                   refine goes_ Try.func44 (by kernel_rfl) rfl #[.pointer (some ⟨g, 0, none⟩), .int .i64 3] (by rfl) rfl rfl (by (try simp only [List.map_toArray, List.map_cons, List.map_nil]); rfl) ?_
                   with_reducible refine (spec_l00Src_next.calls g s0_0 s0_1 s0_2 3 t186 t187 t188 w0 _ ?side1 ?side2 A2.out).mono ?_
                   (case side1 => repeat ((with_reducible exact HI0.out)))
                   (case side2 => repeat ((with_reducible exact HB.out)))
                   rintro e w11 ⟨rfl, hi, hb, hk⟩
                   refine ⟨_, rfl, ?_⟩
                   have n0_ := Aside0.mk (Kd.R_mono (Kd.R_keep (IsS77.apart (show IsS77 w0 _ g s0_0 s0_1 s0_2 from HI0.out) (by exact HO197.out) (by decide)) hk (fun _ h => h.2)) (fun _ h => h.1))
                   have n1_ := Aside0.mk (KeepBut.trans HK.out hk (.inl rfl))
                   have n2_ := Aside0.mk (hb)
                   have n3_ := Aside0.mk (hi)
                   clear HO197
                   clear HK
                   clear HB
                   clear HI0
                   have HO197 := n0_
                   have HK := n1_
                   have HB := n2_
                   have HI0 := n3_
                   clear n0_ n1_ n2_ n3_
                   (try clear hb)
                   (skip)
                   (try clear hk)
                   (try clear hi)
                   refine hK.out _ _ trivial (fun hHeld => ?_)
                   clear hK K
                   refine norm_ (a' := ?_) ?_ ?_
                   rotate_left
                   ·
                    show Act.put _ (some 4) _ = _
                    simp only [Act.put, pq]
                    rfl
                   refine pure_ (i := 2) (N := some 5) (v := ?_) (a' := ?_) #[true, true, true, true, false, false, false, false, false, true, false, false, false] rfl rfl (any_of HT_.out (by kernel_rfl)) (fun _ _ _ h => h) (Or.inl ⟨by rfl, ?_⟩) ?_ ?_
                   rotate_left
                   ·
                    intro w'
                    go_simp
                    with_reducible rfl
                   rotate_left
                   ·
                    simp only [Act.put, pq]
                    rfl
                   exact norm_ (by (simp only [putAll, Act.put, pq]; rfl)) (hJ1_9 (v196) _ ⟨(by exact HO197.out), (HI0.out), HK.out, (HB.out)⟩)
                  ·
                   skip
                   have hcv11 := own_string (P := Try.prog) Try.underlying22 Try.underlying5 Try.underlying9 (Kd.own_of_R HO197.out)
                   refine value_ (w1 := ?_) (v := ?_) (by rfl) rfl ?_ ?_
                   rotate_left 2
                   ·
                    go_simp
                    constructor
                    ·
                     rfl
                    ·
                     rfl
                   clear hcv11
                   refine hK.out _ _ trivial (fun hHeld => ?_)
                   clear hK K
                   refine norm_ (a' := ?_) ?_ ?_
                   rotate_left
                   ·
                    show Act.put _ (some 13) _ = _
                    simp only [Act.put, pq]
                    rfl
                   exact norm_ (by (simp only [putAll, Act.put, pq]; done)) (hJ9_10 (v196) _ ⟨(by exact HO197.out), (HI0.out), HK.out, (HB.out)⟩)
                ·
                 skip
                 rintro _ w9 ⟨h0_, h1_, h2_⟩
                 have n0_ : Aside0 (IsS77 w0 w9 g s0_0 t187 t188) := ⟨h0_⟩
                 have n1_ : Aside0 (KeepBut w w9 g none) := ⟨h1_⟩
                 have n2_ : Aside0 (Below w0.heap.size w0 w9) := ⟨h2_⟩
                 clear HI0
                 clear HK
                 clear HB
                 clear h0_ h1_ h2_
                 have HI0 := n0_
                 have HK := n1_
                 have HB := n2_
                 clear n0_ n1_ n2_
                 have hHeld := trivial
                 refine norm_ (a' := ?_) ?_ ?_
                 rotate_left
                 ·
                  simp only [putAll, Act.put, pq]
                  rfl
                 refine two_ (i := 4) (j := 9) (Ni := some 7) (Nj := some 12) #[true, true, true, true, true, false, false, false, false, false, false, false, false] #[true, true, true, true, false, false, false, false, false, true, false, false, false] rfl rfl rfl rfl (two_of HT_.out (by kernel_rfl)) (by decide) (by decide) (fun K hK => ?_) (fun K hK => ?_)
                 ·
                  skip
                  refine goes_ Try.func44 (by kernel_rfl) rfl #[.pointer (some ⟨g, 0, none⟩), .int .i64 3] (by rfl) rfl rfl (by (try simp only [List.map_toArray, List.map_cons, List.map_nil]); rfl) ?_
                  with_reducible refine (spec_l00Src_next.calls g s0_0 t187 t188 3 t189 t190 t191 w0 _ ?side1 ?side2 A3.out).mono ?_
                  (case side1 => repeat ((with_reducible exact HI0.out)))
                  (case side2 => repeat ((with_reducible exact HB.out)))
                  rintro e w10 ⟨rfl, hi, hb, hk⟩
                  refine ⟨_, rfl, ?_⟩
                  have n0_ := Aside0.mk (KeepBut.trans HK.out hk (.inl rfl))
                  have n1_ := Aside0.mk (hb)
                  have n2_ := Aside0.mk (hi)
                  clear HK
                  clear HB
                  clear HI0
                  have HK := n0_
                  have HB := n1_
                  have HI0 := n2_
                  clear n0_ n1_ n2_
                  (try clear hb)
                  (skip)
                  (try clear hk)
                  (try clear hi)
                  refine hK.out _ _ trivial (fun hHeld => ?_)
                  clear hK K
                  refine norm_ (a' := ?_) ?_ ?_
                  rotate_left
                  ·
                   show Act.put _ (some 7) _ = _
                   simp only [Act.put, pq]
                   rfl
                  refine pure_ (i := 5) (N := some 8) (v := ?_) (a' := ?_) #[true, true, true, true, true, true, false, false, false, false, false, false, false] rfl rfl (any_of HT_.out (by kernel_rfl)) (fun _ _ _ h => h) (Or.inl ⟨by rfl, ?_⟩) ?_ ?_
                  rotate_left
                  ·
                   intro w'
                   go_simp
                   with_reducible rfl
                  rotate_left
                  ·
                   simp only [Act.put, pq]
                   rfl
                  exact norm_ (by (simp only [putAll, Act.put, pq]; rfl)) (hJ1_4 () _ ⟨(HI0.out), HK.out, (HB.out)⟩)
                 ·
                  skip
                  refine Kd.R_make_step (Kd.int .u8) _ 5 (by rfl) (N := 12) rfl 22 _ _ rfl 8 rfl rfl Try.underlying22 (.int .u8 0) 1 info5 rfl (by decide) (by omega) 0 (ok := fun _ => True) (okp := fun _ => True) rfl (fun _ hk => hk) trivial (by omega) (by omega) (Below.refl _ _) (Nat.le_refl _) ?_
                  intro v196 w10 ho11 hb hg_ hnew_
                  clear hg_ hnew_
                  ((simp only [Int.reduceToNat] at ho11; rw [← Ny195.out] at ho11))
                  have n0_ := Aside0.mk (Kd.R_lower ho11 (keep_size (w := w) (g := g) (row := none) HK.out))
                  have n1_ := Aside0.mk (IsS77.below (HI0.out) hb)
                  have n2_ := Aside0.mk (KeepBut.trans HK.out (KeepBut.of_below hb g none) (.inl rfl))
                  have n3_ := Aside0.mk (below_step (HB.out) hb)
                  clear HI0
                  clear HK
                  clear HB
                  have HO197 := n0_
                  have HI0 := n1_
                  have HK := n2_
                  have HB := n3_
                  clear n0_ n1_ n2_ n3_
                  clear hb ho11
                  refine hK.out _ _ trivial (fun hHeld => ?_)
                  clear hK K
                  refine norm_ (a' := ?_) ?_ ?_
                  rotate_left
                  ·
                   show Act.put _ (some 12) _ = _
                   simp only [Act.put, pq]
                   rfl
                  exact norm_ (by (simp only [putAll, Act.put, pq]; done)) (hJ1_9 (v196) _ ⟨(by exact HO197.out), (HI0.out), HK.out, (HB.out)⟩)
               ·
                skip
                rintro v196 w11 ⟨h0_, h1_, h2_, h3_⟩
                have n0_ : Aside0 (Kd.R (Kd.int .u8) 5 w11 w.heap.size (fun _ => True) v196 y195) := ⟨h0_⟩
                have n1_ : Aside0 (IsS77 w0 w11 g s0_0 s0_1 s0_2) := ⟨h1_⟩
                have n2_ : Aside0 (KeepBut w w11 g none) := ⟨h2_⟩
                have n3_ : Aside0 (Below w0.heap.size w0 w11) := ⟨h3_⟩
                clear HI0
                clear HK
                clear HB
                clear h0_ h1_ h2_ h3_
                have HO197 := n0_
                have HI0 := n1_
                have HK := n2_
                have HB := n3_
                clear n0_ n1_ n2_ n3_
                have hHeld := trivial
                refine norm_ (a' := ?_) ?_ ?_
                rotate_left
                ·
                 simp only [putAll, Act.put, pq]
                 rfl
                refine one_ (i := 1) (N := some 4) #[true, true, false, true, false, false, false, false, false, true, true, false, false] rfl rfl (one_of HT_.out (by kernel_rfl)) (by decide) (fun K hK => ?_)
                refine goes_ Try.func44 (by kernel_rfl) rfl #[.pointer (some ⟨g, 0, none⟩), .int .i64 3] (by rfl) rfl rfl (by (try simp only [List.map_toArray, List.map_cons, List.map_nil]); rfl) ?_
                with_reducible refine (spec_l00Src_next.calls g s0_0 s0_1 s0_2 3 t186 t187 t188 w0 _ ?side1 ?side2 A2.out).mono ?_
                (case side1 => repeat ((with_reducible exact HI0.out)))
                (case side2 => repeat ((with_reducible exact HB.out)))
                rintro e w12 ⟨rfl, hi, hb, hk⟩
                refine ⟨_, rfl, ?_⟩
                have n0_ := Aside0.mk (Kd.R_mono (Kd.R_keep (IsS77.apart (show IsS77 w0 _ g s0_0 s0_1 s0_2 from HI0.out) (by exact HO197.out) (by decide)) hk (fun _ h => h.2)) (fun _ h => h.1))
                have n1_ := Aside0.mk (KeepBut.trans HK.out hk (.inl rfl))
                have n2_ := Aside0.mk (hb)
                have n3_ := Aside0.mk (hi)
                clear HO197
                clear HK
                clear HB
                clear HI0
                have HO197 := n0_
                have HK := n1_
                have HB := n2_
                have HI0 := n3_
                clear n0_ n1_ n2_ n3_
                (try clear hb)
                (skip)
                (try clear hk)
                (try clear hi)
                refine hK.out _ _ trivial (fun hHeld => ?_)
                clear hK K
                refine norm_ (a' := ?_) ?_ ?_
                rotate_left
                ·
                 show Act.put _ (some 4) _ = _
                 simp only [Act.put, pq]
                 rfl
                refine pure_ (i := 2) (N := some 5) (v := ?_) (a' := ?_) #[true, true, true, true, false, false, false, false, false, true, true, false, false] rfl rfl (any_of HT_.out (by kernel_rfl)) (fun _ _ _ h => h) (Or.inl ⟨by rfl, ?_⟩) ?_ ?_
                rotate_left
                ·
                 intro w'
                 go_simp
                 with_reducible rfl
                rotate_left
                ·
                 simp only [Act.put, pq]
                 rfl
                exact norm_ (by (simp only [putAll, Act.put, pq]; rfl)) (hJ1_9_10 (v196) _ ⟨(by exact HO197.out), (HI0.out), HK.out, (HB.out)⟩)
              ·
               skip
               rintro v196 w11 ⟨h0_, h1_, h2_, h3_⟩
               have n0_ : Aside0 (Kd.R (Kd.int .u8) 5 w11 w.heap.size (fun _ => True) v196 y195) := ⟨h0_⟩
               have n1_ : Aside0 (IsS77 w0 w11 g s0_0 t187 t188) := ⟨h1_⟩
               have n2_ : Aside0 (KeepBut w w11 g none) := ⟨h2_⟩
               have n3_ : Aside0 (Below w0.heap.size w0 w11) := ⟨h3_⟩
               clear HI0
               clear HK
               clear HB
               clear h0_ h1_ h2_ h3_
               have HO197 := n0_
               have HI0 := n1_
               have HK := n2_
               have HB := n3_
               clear n0_ n1_ n2_ n3_
               have hHeld := trivial
               refine norm_ (a' := ?_) ?_ ?_
               rotate_left
               ·
                simp only [putAll, Act.put, pq]
                rfl
               refine two_ (i := 4) (j := 10) (Ni := some 7) (Nj := some 13) #[true, true, true, true, true, false, false, false, false, true, false, false, false] #[true, true, true, true, false, false, false, false, false, true, true, false, false] rfl rfl rfl rfl (two_of HT_.out (by kernel_rfl)) (by decide) (by decide) (fun K hK => ?_) (fun K hK => ?_)
               ·
                skip
                refine goes_ Try.func44 (by kernel_rfl) rfl #[.pointer (some ⟨g, 0, none⟩), .int .i64 3] (by rfl) rfl rfl (by (try simp only [List.map_toArray, List.map_cons, List.map_nil]); rfl) ?_
                with_reducible refine (spec_l00Src_next.calls g s0_0 t187 t188 3 t189 t190 t191 w0 _ ?side1 ?side2 A3.out).mono ?_
                (case side1 => repeat ((with_reducible exact HI0.out)))
                (case side2 => repeat ((with_reducible exact HB.out)))
                rintro e w12 ⟨rfl, hi, hb, hk⟩
                refine ⟨_, rfl, ?_⟩
                have n0_ := Aside0.mk (Kd.R_mono (Kd.R_keep (IsS77.apart (show IsS77 w0 _ g s0_0 t187 t188 from HI0.out) (by exact HO197.out) (by decide)) hk (fun _ h => h.2)) (fun _ h => h.1))
                have n1_ := Aside0.mk (KeepBut.trans HK.out hk (.inl rfl))
                have n2_ := Aside0.mk (hb)
                have n3_ := Aside0.mk (hi)
                clear HO197
                clear HK
                clear HB
                clear HI0
                have HO197 := n0_
                have HK := n1_
                have HB := n2_
                have HI0 := n3_
                clear n0_ n1_ n2_ n3_
                (try clear hb)
                (skip)
                (try clear hk)
                (try clear hi)
                refine hK.out _ _ trivial (fun hHeld => ?_)
                clear hK K
                refine norm_ (a' := ?_) ?_ ?_
                rotate_left
                ·
                 show Act.put _ (some 7) _ = _
                 simp only [Act.put, pq]
                 rfl
                refine pure_ (i := 5) (N := some 8) (v := ?_) (a' := ?_) #[true, true, true, true, true, true, false, false, false, true, false, false, false] rfl rfl (any_of HT_.out (by kernel_rfl)) (fun _ _ _ h => h) (Or.inl ⟨by rfl, ?_⟩) ?_ ?_
                rotate_left
                ·
                 intro w'
                 go_simp
                 with_reducible rfl
                rotate_left
                ·
                 simp only [Act.put, pq]
                 rfl
                exact norm_ (by (simp only [putAll, Act.put, pq]; rfl)) (hJ1_4_9 (v196) _ ⟨(by exact HO197.out), (HI0.out), HK.out, (HB.out)⟩)
               ·
                skip
                have hcv12 := own_string (P := Try.prog) Try.underlying22 Try.underlying5 Try.underlying9 (Kd.own_of_R HO197.out)
                refine value_ (w1 := ?_) (v := ?_) (by rfl) rfl ?_ ?_
                rotate_left 2
                ·
                 go_simp
                 constructor
                 ·
                  rfl
                 ·
                  rfl
                clear hcv12
                refine hK.out _ _ trivial (fun hHeld => ?_)
                clear hK K
                refine norm_ (a' := ?_) ?_ ?_
                rotate_left
                ·
                 show Act.put _ (some 13) _ = _
                 simp only [Act.put, pq]
                 rfl
                exact norm_ (by (simp only [putAll, Act.put, pq]; done)) (hJ1_9_10 (v196) _ ⟨(by exact HO197.out), (HI0.out), HK.out, (HB.out)⟩)
             ·
              skip
              rintro _ w10 ⟨h0_, h1_, h2_⟩
              have n0_ : Aside0 (IsS77 w0 w10 g s0_0 t190 t191) := ⟨h0_⟩
              have n1_ : Aside0 (KeepBut w w10 g none) := ⟨h1_⟩
              have n2_ : Aside0 (Below w0.heap.size w0 w10) := ⟨h2_⟩
              clear HI0
              clear HK
              clear HB
              clear h0_ h1_ h2_
              have HI0 := n0_
              have HK := n1_
              have HB := n2_
              clear n0_ n1_ n2_
              have hHeld := trivial
              refine norm_ (a' := ?_) ?_ ?_
              rotate_left
              ·
               simp only [putAll, Act.put, pq]
               rfl
              refine two_ (i := 6) (j := 9) (Ni := some 9) (Nj := some 12) #[true, true, true, true, true, true, true, false, false, false, false, false, false] #[true, true, true, true, true, true, false, false, false, true, false, false, false] rfl rfl rfl rfl (two_of HT_.out (by kernel_rfl)) (by decide) (by decide) (fun K hK => ?_) (fun K hK => ?_)
              ·
               skip
               refine Kd.R_lit_step (Kd.int .u8) _ 5 ?hg (N := 9) ?hd (xs := ([(t186) % 256, (t189) % 256, 0, 0, 0, 0] : List Int)) (inner := [.int .u8 ((t186) % 256), .int .u8 ((t189) % 256), .int .u8 0, .int .u8 0, .int .u8 0, .int .u8 0]) (ok := fun _ => True) (okp := fun _ => True) ?hr ?hp (fun _ hk => hk) trivial (Below.refl _ _) (Nat.le_refl _) (by simp) ?_; (case hd => rfl); (case hg => rfl); (case hr => (go_simp; done)); (case hp => exact (Reps.one (show Kd.M (Kd.int .u8) _ _ _ ((t186) % 256) [.int .u8 ((t186) % 256)] from rfl) (Reps.one (show Kd.M (Kd.int .u8) _ _ _ ((t189) % 256) [.int .u8 ((t189) % 256)] from rfl) (Reps.one (show Kd.M (Kd.int .u8) _ _ _ 0 [.int .u8 0] from rfl) (Reps.one (show Kd.M (Kd.int .u8) _ _ _ 0 [.int .u8 0] from rfl) (Reps.one (show Kd.M (Kd.int .u8) _ _ _ 0 [.int .u8 0] from rfl) (Reps.one (show Kd.M (Kd.int .u8) _ _ _ 0 [.int .u8 0] from rfl) (Reps.none _ _))))))))
               intro v193 w11 ho12 hb hg_ hnew_
               clear hg_ hnew_
               (rw [← Ny192.out] at ho12)
               have n0_ := Aside0.mk (Kd.R_lower ho12 (keep_size (w := w) (g := g) (row := none) HK.out))
               have n1_ := Aside0.mk (IsS77.below (HI0.out) hb)
               have n2_ := Aside0.mk (KeepBut.trans HK.out (KeepBut.of_below hb g none) (.inl rfl))
               have n3_ := Aside0.mk (below_step (HB.out) hb)
               clear HI0
               clear HK
               clear HB
               have HO194 := n0_
               have HI0 := n1_
               have HK := n2_
               have HB := n3_
               clear n0_ n1_ n2_ n3_
               clear hb ho12
               refine hK.out _ _ trivial (fun hHeld => ?_)
               clear hK K
               refine norm_ (a' := ?_) ?_ ?_
               rotate_left
               ·
                show Act.put _ (some 9) _ = _
                simp only [Act.put, pq]
                rfl
               exact norm_ (by (simp only [putAll, Act.put, pq]; done)) (hJ1_4_6 (v193) _ ⟨(by exact HO194.out), (HI0.out), HK.out, (HB.out)⟩)
              ·
               skip
               refine Kd.R_make_step (Kd.int .u8) _ 5 (by rfl) (N := 12) rfl 22 _ _ rfl 8 rfl rfl Try.underlying22 (.int .u8 0) 1 info5 rfl (by decide) (by omega) 0 (ok := fun _ => True) (okp := fun _ => True) rfl (fun _ hk => hk) trivial (by omega) (by omega) (Below.refl _ _) (Nat.le_refl _) ?_
               intro v196 w11 ho12 hb hg_ hnew_
               clear hg_ hnew_
               ((simp only [Int.reduceToNat] at ho12; rw [← Ny195.out] at ho12))
               have n0_ := Aside0.mk (Kd.R_lower ho12 (keep_size (w := w) (g := g) (row := none) HK.out))
               have n1_ := Aside0.mk (IsS77.below (HI0.out) hb)
               have n2_ := Aside0.mk (KeepBut.trans HK.out (KeepBut.of_below hb g none) (.inl rfl))
               have n3_ := Aside0.mk (below_step (HB.out) hb)
               clear HI0
               clear HK
               clear HB
               have HO197 := n0_
               have HI0 := n1_
               have HK := n2_
               have HB := n3_
               clear n0_ n1_ n2_ n3_
               clear hb ho12
               refine hK.out _ _ trivial (fun hHeld => ?_)
               clear hK K
               refine norm_ (a' := ?_) ?_ ?_
               rotate_left
               ·
                show Act.put _ (some 12) _ = _
                simp only [Act.put, pq]
                rfl
               exact norm_ (by (simp only [putAll, Act.put, pq]; done)) (hJ1_4_9 (v196) _ ⟨(by exact HO197.out), (HI0.out), HK.out, (HB.out)⟩)
            ·
             skip
             rintro v196 w12 ⟨h0_, h1_, h2_, h3_⟩
             have n0_ : Aside0 (Kd.R (Kd.int .u8) 5 w12 w.heap.size (fun _ => True) v196 y195) := ⟨h0_⟩
             have n1_ : Aside0 (IsS77 w0 w12 g s0_0 t187 t188) := ⟨h1_⟩
             have n2_ : Aside0 (KeepBut w w12 g none) := ⟨h2_⟩
             have n3_ : Aside0 (Below w0.heap.size w0 w12) := ⟨h3_⟩
             clear HI0
             clear HK
             clear HB
             clear h0_ h1_ h2_ h3_
             have HO197 := n0_
             have HI0 := n1_
             have HK := n2_
             have HB := n3_
             clear n0_ n1_ n2_ n3_
             have hHeld := trivial
             refine norm_ (a' := ?_) ?_ ?_
             rotate_left
             ·
              simp only [putAll, Act.put, pq]
              rfl
             refine one_ (i := 4) (N := some 7) #[true, true, true, true, true, false, false, false, false, true, true, false, false] rfl rfl (one_of HT_.out (by kernel_rfl)) (by decide) (fun K hK => ?_)
             refine goes_ Try.func44 (by kernel_rfl) rfl #[.pointer (some ⟨g, 0, none⟩), .int .i64 3] (by rfl) rfl rfl (by (try simp only [List.map_toArray, List.map_cons, List.map_nil]); rfl) ?_
             with_reducible refine (spec_l00Src_next.calls g s0_0 t187 t188 3 t189 t190 t191 w0 _ ?side1 ?side2 A3.out).mono ?_
             (case side1 => repeat ((with_reducible exact HI0.out)))
             (case side2 => repeat ((with_reducible exact HB.out)))
             rintro e w13 ⟨rfl, hi, hb, hk⟩
             refine ⟨_, rfl, ?_⟩
             have n0_ := Aside0.mk (Kd.R_mono (Kd.R_keep (IsS77.apart (show IsS77 w0 _ g s0_0 t187 t188 from HI0.out) (by exact HO197.out) (by decide)) hk (fun _ h => h.2)) (fun _ h => h.1))
             have n1_ := Aside0.mk (KeepBut.trans HK.out hk (.inl rfl))
             have n2_ := Aside0.mk (hb)
             have n3_ := Aside0.mk (hi)
             clear HO197
             clear HK
             clear HB
             clear HI0
             have HO197 := n0_
             have HK := n1_
             have HB := n2_
             have HI0 := n3_
             clear n0_ n1_ n2_ n3_
             (try clear hb)
             (skip)
             (try clear hk)
             (try clear hi)
             refine hK.out _ _ trivial (fun hHeld => ?_)
             clear hK K
             refine norm_ (a' := ?_) ?_ ?_
             rotate_left
             ·
              show Act.put _ (some 7) _ = _
              simp only [Act.put, pq]
              rfl
             refine pure_ (i := 5) (N := some 8) (v := ?_) (a' := ?_) #[true, true, true, true, true, true, false, false, false, true, true, false, false] rfl rfl (any_of HT_.out (by kernel_rfl)) (fun _ _ _ h => h) (Or.inl ⟨by rfl, ?_⟩) ?_ ?_
             rotate_left
             ·
              intro w'
              go_simp
              with_reducible rfl
             rotate_left
             ·
              simp only [Act.put, pq]
              rfl
             exact norm_ (by (simp only [putAll, Act.put, pq]; rfl)) (hJ1_4_9_10 (v196) _ ⟨(by exact HO197.out), (HI0.out), HK.out, (HB.out)⟩)
           ·
            skip
            rintro v196 w12 ⟨h0_, h1_, h2_, h3_⟩
            have n0_ : Aside0 (Kd.R (Kd.int .u8) 5 w12 w.heap.size (fun _ => True) v196 y195) := ⟨h0_⟩
            have n1_ : Aside0 (IsS77 w0 w12 g s0_0 t190 t191) := ⟨h1_⟩
            have n2_ : Aside0 (KeepBut w w12 g none) := ⟨h2_⟩
            have n3_ : Aside0 (Below w0.heap.size w0 w12) := ⟨h3_⟩
            clear HI0
            clear HK
            clear HB
            clear h0_ h1_ h2_ h3_
            have HO197 := n0_
            have HI0 := n1_
            have HK := n2_
            have HB := n3_
            clear n0_ n1_ n2_ n3_
            have hHeld := trivial
            refine norm_ (a' := ?_) ?_ ?_
            rotate_left
            ·
             simp only [putAll, Act.put, pq]
             rfl
            refine two_ (i := 6) (j := 10) (Ni := some 9) (Nj := some 13) #[true, true, true, true, true, true, true, false, false, true, false, false, false] #[true, true, true, true, true, true, false, false, false, true, true, false, false] rfl rfl rfl rfl (two_of HT_.out (by kernel_rfl)) (by decide) (by decide) (fun K hK => ?_) (fun K hK => ?_)
            ·
             skip
             refine Kd.R_lit_step (Kd.int .u8) _ 5 ?hg (N := 9) ?hd (xs := ([(t186) % 256, (t189) % 256, 0, 0, 0, 0] : List Int)) (inner := [.int .u8 ((t186) % 256), .int .u8 ((t189) % 256), .int .u8 0, .int .u8 0, .int .u8 0, .int .u8 0]) (ok := fun _ => True) (okp := fun _ => True) ?hr ?hp (fun _ hk => hk) trivial (Below.refl _ _) (Nat.le_refl _) (by simp) ?_; (case hd => rfl); (case hg => rfl); (case hr => (go_simp; done)); (case hp => exact (Reps.one (show Kd.M (Kd.int .u8) _ _ _ ((t186) % 256) [.int .u8 ((t186) % 256)] from rfl) (Reps.one (show Kd.M (Kd.int .u8) _ _ _ ((t189) % 256) [.int .u8 ((t189) % 256)] from rfl) (Reps.one (show Kd.M (Kd.int .u8) _ _ _ 0 [.int .u8 0] from rfl) (Reps.one (show Kd.M (Kd.int .u8) _ _ _ 0 [.int .u8 0] from rfl) (Reps.one (show Kd.M (Kd.int .u8) _ _ _ 0 [.int .u8 0] from rfl) (Reps.one (show Kd.M (Kd.int .u8) _ _ _ 0 [.int .u8 0] from rfl) (Reps.none _ _))))))))
             intro v193 w13 ho14 hb hg_ hnew_
             clear hg_ hnew_
             (rw [← Ny192.out] at ho14)
             have n0_ := Aside0.mk (Kd.R_elder' (by exact HO197.out) (Kd.R_base ho14) hb)
             have n1_ := Aside0.mk (Kd.R_lower (Kd.R_new' ho14 (Kd.R_lt (by exact HO197.out))) (keep_size (w := w) (g := g) (row := none) HK.out))
             have n2_ := Aside0.mk (IsS77.below (HI0.out) hb)
             have n3_ := Aside0.mk (KeepBut.trans HK.out (KeepBut.of_below hb g none) (.inl rfl))
             have n4_ := Aside0.mk (below_step (HB.out) hb)
             clear HO197
             clear HI0
             clear HK
             clear HB
             have HO197 := n0_
             have HO194 := n1_
             have HI0 := n2_
             have HK := n3_
             have HB := n4_
             clear n0_ n1_ n2_ n3_ n4_
             clear hb ho14
             refine hK.out _ _ trivial (fun hHeld => ?_)
             clear hK K
             refine norm_ (a' := ?_) ?_ ?_
             rotate_left
             ·
              show Act.put _ (some 9) _ = _
              simp only [Act.put, pq]
              rfl
             exact norm_ (by (simp only [putAll, Act.put, pq]; done)) (hJ1_4_6_9 (v193, v196) _ ⟨(by exact Kd.R_mono HO194.out (fun _ hk => hk.2)), (by exact Kd.R_mono HO197.out (fun _ hk => hk.2)), (HI0.out), HK.out, (HB.out)⟩)
            ·
             skip
             have hcv13 := own_string (P := Try.prog) Try.underlying22 Try.underlying5 Try.underlying9 (Kd.own_of_R HO197.out)
             refine value_ (w1 := ?_) (v := ?_) (by rfl) rfl ?_ ?_
             rotate_left 2
             ·
              go_simp
              constructor
              ·
               rfl
              ·
               rfl
             clear hcv13
             refine hK.out _ _ trivial (fun hHeld => ?_)
             clear hK K
             refine norm_ (a' := ?_) ?_ ?_
             rotate_left
             ·
              show Act.put _ (some 13) _ = _
              simp only [Act.put, pq]
              rfl
             exact norm_ (by (simp only [putAll, Act.put, pq]; done)) (hJ1_4_9_10 (v196) _ ⟨(by exact HO197.out), (HI0.out), HK.out, (HB.out)⟩)
          ·
           skip
           rintro v193 w12 ⟨h0_, h1_, h2_, h3_⟩
           have n0_ : Aside0 (Kd.R (Kd.int .u8) 5 w12 w.heap.size (fun _ => True) v193 y192) := ⟨h0_⟩
           have n1_ : Aside0 (IsS77 w0 w12 g s0_0 t190 t191) := ⟨h1_⟩
           have n2_ : Aside0 (KeepBut w w12 g none) := ⟨h2_⟩
           have n3_ : Aside0 (Below w0.heap.size w0 w12) := ⟨h3_⟩
           clear HI0
           clear HK
           clear HB
           clear h0_ h1_ h2_ h3_
           have HO194 := n0_
           have HI0 := n1_
           have HK := n2_
           have HB := n3_
           clear n0_ n1_ n2_ n3_
           have hHeld := trivial
           refine norm_ (a' := ?_) ?_ ?_
           rotate_left
           ·
            simp only [putAll, Act.put, pq]
            rfl
           refine two_ (i := 7) (j := 9) (Ni := some 10) (Nj := some 12) #[true, true, true, true, true, true, true, true, false, false, false, false, false] #[true, true, true, true, true, true, true, false, false, true, false, false, false] rfl rfl rfl rfl (two_of HT_.out (by kernel_rfl)) (by decide) (by decide) (fun K hK => ?_) (fun K hK => ?_)
           ·
            skip
            have hcv13 := own_string (P := Try.prog) Try.underlying22 Try.underlying5 Try.underlying9 (Kd.own_of_R HO194.out)
            refine value_ (w1 := ?_) (v := ?_) (by rfl) rfl ?_ ?_
            rotate_left 2
            ·
             go_simp
             constructor
             ·
              rfl
             ·
              rfl
            clear hcv13
            refine hK.out _ _ trivial (fun hHeld => ?_)
            clear hK K
            refine norm_ (a' := ?_) ?_ ?_
            rotate_left
            ·
             show Act.put _ (some 10) _ = _
             simp only [Act.put, pq]
             rfl
            refine pure_ (i := 8) (N := some 11) (v := ?_) (a' := ?_) #[true, true, true, true, true, true, true, true, true, false, false, false, false] rfl rfl (any_of HT_.out (by kernel_rfl)) (fun _ _ _ h => h) (Or.inl ⟨by rfl, ?_⟩) ?_ ?_
            rotate_left
            ·
             intro w'
             go_simp
             with_reducible rfl
            rotate_left
            ·
             simp only [Act.put, pq]
             rfl
            exact norm_ (by (simp only [putAll, Act.put, pq]; done)) (hJ1_4_6_7 (v193) _ ⟨(by exact HO194.out), (HI0.out), HK.out, (HB.out)⟩)
           ·
            skip
            refine Kd.R_make_step (Kd.int .u8) _ 5 (by rfl) (N := 12) rfl 22 _ _ rfl 8 rfl rfl Try.underlying22 (.int .u8 0) 1 info5 rfl (by decide) (by omega) 0 (ok := fun _ => True) (okp := fun _ => True) rfl (fun _ hk => hk) trivial (by omega) (by omega) (Below.refl _ _) (Nat.le_refl _) ?_
            intro v196 w13 ho14 hb hg_ hnew_
            clear hg_ hnew_
            ((simp only [Int.reduceToNat] at ho14; rw [← Ny195.out] at ho14))
            have n0_ := Aside0.mk (Kd.R_elder' (by exact HO194.out) (Kd.R_base ho14) hb)
            have n1_ := Aside0.mk (Kd.R_lower (Kd.R_new' ho14 (Kd.R_lt (by exact HO194.out))) (keep_size (w := w) (g := g) (row := none) HK.out))
            have n2_ := Aside0.mk (IsS77.below (HI0.out) hb)
            have n3_ := Aside0.mk (KeepBut.trans HK.out (KeepBut.of_below hb g none) (.inl rfl))
            have n4_ := Aside0.mk (below_step (HB.out) hb)
            clear HO194
            clear HI0
            clear HK
            clear HB
            have HO194 := n0_
            have HO197 := n1_
            have HI0 := n2_
            have HK := n3_
            have HB := n4_
            clear n0_ n1_ n2_ n3_ n4_
            clear hb ho14
            refine hK.out _ _ trivial (fun hHeld => ?_)
            clear hK K
            refine norm_ (a' := ?_) ?_ ?_
            rotate_left
            ·
             show Act.put _ (some 12) _ = _
             simp only [Act.put, pq]
             rfl
            exact norm_ (by (simp only [putAll, Act.put, pq]; done)) (hJ1_4_6_9 (v193, v196) _ ⟨(by exact Kd.R_mono HO194.out (fun _ hk => hk.2)), (by exact Kd.R_mono HO197.out (fun _ hk => hk.2)), (HI0.out), HK.out, (HB.out)⟩)
         ·
          skip
          rintro v196 w13 ⟨h0_, h1_, h2_, h3_⟩
          have n0_ : Aside0 (Kd.R (Kd.int .u8) 5 w13 w.heap.size (fun _ => True) v196 y195) := ⟨h0_⟩
          have n1_ : Aside0 (IsS77 w0 w13 g s0_0 t190 t191) := ⟨h1_⟩
          have n2_ : Aside0 (KeepBut w w13 g none) := ⟨h2_⟩
          have n3_ : Aside0 (Below w0.heap.size w0 w13) := ⟨h3_⟩
          clear HI0
          clear HK
          clear HB
          clear h0_ h1_ h2_ h3_
          have HO197 := n0_
          have HI0 := n1_
          have HK := n2_
          have HB := n3_
          clear n0_ n1_ n2_ n3_
          have hHeld := trivial
          refine norm_ (a' := ?_) ?_ ?_
          rotate_left
          ·
           simp only [putAll, Act.put, pq]
           rfl
          refine one_ (i := 6) (N := some 9) #[true, true, true, true, true, true, true, false, false, true, true, false, false] rfl rfl (one_of HT_.out (by kernel_rfl)) (by decide) (fun K hK => ?_)
          refine Kd.R_lit_step (Kd.int .u8) _ 5 ?hg (N := 9) ?hd (xs := ([(t186) % 256, (t189) % 256, 0, 0, 0, 0] : List Int)) (inner := [.int .u8 ((t186) % 256), .int .u8 ((t189) % 256), .int .u8 0, .int .u8 0, .int .u8 0, .int .u8 0]) (ok := fun _ => True) (okp := fun _ => True) ?hr ?hp (fun _ hk => hk) trivial (Below.refl _ _) (Nat.le_refl _) (by simp) ?_; (case hd => rfl); (case hg => rfl); (case hr => (go_simp; done)); (case hp => exact (Reps.one (show Kd.M (Kd.int .u8) _ _ _ ((t186) % 256) [.int .u8 ((t186) % 256)] from rfl) (Reps.one (show Kd.M (Kd.int .u8) _ _ _ ((t189) % 256) [.int .u8 ((t189) % 256)] from rfl) (Reps.one (show Kd.M (Kd.int .u8) _ _ _ 0 [.int .u8 0] from rfl) (Reps.one (show Kd.M (Kd.int .u8) _ _ _ 0 [.int .u8 0] from rfl) (Reps.one (show Kd.M (Kd.int .u8) _ _ _ 0 [.int .u8 0] from rfl) (Reps.one (show Kd.M (Kd.int .u8) _ _ _ 0 [.int .u8 0] from rfl) (Reps.none _ _))))))))
          intro v193 w14 ho15 hb hg_ hnew_
          clear hg_ hnew_
          (rw [← Ny192.out] at ho15)
          have n0_ := Aside0.mk (Kd.R_elder' (by exact HO197.out) (Kd.R_base ho15) hb)
          have n1_ := Aside0.mk (Kd.R_lower (Kd.R_new' ho15 (Kd.R_lt (by exact HO197.out))) (keep_size (w := w) (g := g) (row := none) HK.out))
          have n2_ := Aside0.mk (IsS77.below (HI0.out) hb)
          have n3_ := Aside0.mk (KeepBut.trans HK.out (KeepBut.of_below hb g none) (.inl rfl))
          have n4_ := Aside0.mk (below_step (HB.out) hb)
          clear HO197
          clear HI0
          clear HK
          clear HB
          have HO197 := n0_
          have HO194 := n1_
          have HI0 := n2_
          have HK := n3_
          have HB := n4_
          clear n0_ n1_ n2_ n3_ n4_
          clear hb ho15
          refine hK.out _ _ trivial (fun hHeld => ?_)
          clear hK K
          refine norm_ (a' := ?_) ?_ ?_
          rotate_left
          ·
           show Act.put _ (some 9) _ = _
           simp only [Act.put, pq]
           rfl
          exact norm_ (by (simp only [putAll, Act.put, pq]; done)) (hJ1_4_6_9_10 (v193, v196) _ ⟨(by exact Kd.R_mono HO194.out (fun _ hk => hk.2)), (by exact Kd.R_mono HO197.out (fun _ hk => hk.2)), (HI0.out), HK.out, (HB.out)⟩)
        ·
         skip
         rintro ⟨v193, v196⟩ w14 ⟨h0_, h1_, h2_, h3_, h4_⟩
         have n0_ : Aside0 (Kd.R (Kd.int .u8) 5 w14 w.heap.size (fun k_ => some k_ ≠ (v196 : Value).ownBlock) v193 y192) := ⟨h0_⟩
         have n1_ : Aside0 (Kd.R (Kd.int .u8) 5 w14 w.heap.size (fun k_ => some k_ ≠ (v193 : Value).ownBlock) v196 y195) := ⟨h1_⟩
         have n2_ : Aside0 (IsS77 w0 w14 g s0_0 t190 t191) := ⟨h2_⟩
         have n3_ : Aside0 (KeepBut w w14 g none) := ⟨h3_⟩
         have n4_ : Aside0 (Below w0.heap.size w0 w14) := ⟨h4_⟩
         clear HI0
         clear HK
         clear HB
         clear h0_ h1_ h2_ h3_ h4_
         have HO194 := n0_
         have HO197 := n1_
         have HI0 := n2_
         have HK := n3_
         have HB := n4_
         clear n0_ n1_ n2_ n3_ n4_
         have hHeld := trivial
         refine norm_ (a' := ?_) ?_ ?_
         rotate_left
         ·
          simp only [putAll, Act.put, pq]
          rfl
         refine two_ (i := 7) (j := 10) (Ni := some 10) (Nj := some 13) #[true, true, true, true, true, true, true, true, false, true, false, false, false] #[true, true, true, true, true, true, true, false, false, true, true, false, false] rfl rfl rfl rfl (two_of HT_.out (by kernel_rfl)) (by decide) (by decide) (fun K hK => ?_) (fun K hK => ?_)
         ·
          skip
          have hcv15 := own_string (P := Try.prog) Try.underlying22 Try.underlying5 Try.underlying9 (Kd.own_of_R HO194.out)
          refine value_ (w1 := ?_) (v := ?_) (by rfl) rfl ?_ ?_
          rotate_left 2
          ·
           go_simp
           constructor
           ·
            rfl
           ·
            rfl
          clear hcv15
          refine hK.out _ _ trivial (fun hHeld => ?_)
          clear hK K
          refine norm_ (a' := ?_) ?_ ?_
          rotate_left
          ·
           show Act.put _ (some 10) _ = _
           simp only [Act.put, pq]
           rfl
          refine pure_ (i := 8) (N := some 11) (v := ?_) (a' := ?_) #[true, true, true, true, true, true, true, true, true, true, false, false, false] rfl rfl (any_of HT_.out (by kernel_rfl)) (fun _ _ _ h => h) (Or.inl ⟨by rfl, ?_⟩) ?_ ?_
          rotate_left
          ·
           intro w'
           go_simp
           with_reducible rfl
          rotate_left
          ·
           simp only [Act.put, pq]
           rfl
          exact norm_ (by (simp only [putAll, Act.put, pq]; done)) (hJ1_4_6_7_9 (v193, v196) _ ⟨(by exact HO194.out), (by exact HO197.out), (HI0.out), HK.out, (HB.out)⟩)
         ·
          skip
          have hcv15 := own_string (P := Try.prog) Try.underlying22 Try.underlying5 Try.underlying9 (Kd.own_of_R HO197.out)
          refine value_ (w1 := ?_) (v := ?_) (by rfl) rfl ?_ ?_
          rotate_left 2
          ·
           go_simp
           constructor
           ·
            rfl
           ·
            rfl
          clear hcv15
          refine hK.out _ _ trivial (fun hHeld => ?_)
          clear hK K
          refine norm_ (a' := ?_) ?_ ?_
          rotate_left
          ·
           show Act.put _ (some 13) _ = _
           simp only [Act.put, pq]
           rfl
          exact norm_ (by (simp only [putAll, Act.put, pq]; done)) (hJ1_4_6_9_10 (v193, v196) _ ⟨(by exact HO194.out), (by exact HO197.out), (HI0.out), HK.out, (HB.out)⟩)
       ·
        skip
        rintro v193 w13 ⟨h0_, h1_, h2_, h3_⟩
        have n0_ : Aside0 (Kd.R (Kd.int .u8) 5 w13 w.heap.size (fun _ => True) v193 y192) := ⟨h0_⟩
        have n1_ : Aside0 (IsS77 w0 w13 g s0_0 t190 t191) := ⟨h1_⟩
        have n2_ : Aside0 (KeepBut w w13 g none) := ⟨h2_⟩
        have n3_ : Aside0 (Below w0.heap.size w0 w13) := ⟨h3_⟩
        clear HI0
        clear HK
        clear HB
        clear h0_ h1_ h2_ h3_
        have HO194 := n0_
        have HI0 := n1_
        have HK := n2_
        have HB := n3_
        clear n0_ n1_ n2_ n3_
        have hHeld := trivial
        refine norm_ (a' := ?_) ?_ ?_
        rotate_left
        ·
         simp only [putAll, Act.put, pq]
         rfl
        refine one_ (i := 9) (N := some 12) #[true, true, true, true, true, true, true, true, true, true, false, false, false] rfl rfl (one_of HT_.out (by kernel_rfl)) (by decide) (fun K hK => ?_)
        refine Kd.R_make_step (Kd.int .u8) _ 5 (by rfl) (N := 12) rfl 22 _ _ rfl 8 rfl rfl Try.underlying22 (.int .u8 0) 1 info5 rfl (by decide) (by omega) 0 (ok := fun _ => True) (okp := fun _ => True) rfl (fun _ hk => hk) trivial (by omega) (by omega) (Below.refl _ _) (Nat.le_refl _) ?_
        intro v196 w14 ho15 hb hg_ hnew_
        clear hg_ hnew_
        ((simp only [Int.reduceToNat] at ho15; rw [← Ny195.out] at ho15))
        have n0_ := Aside0.mk (Kd.R_elder' (by exact HO194.out) (Kd.R_base ho15) hb)
        have n1_ := Aside0.mk (Kd.R_lower (Kd.R_new' ho15 (Kd.R_lt (by exact HO194.out))) (keep_size (w := w) (g := g) (row := none) HK.out))
        have n2_ := Aside0.mk (IsS77.below (HI0.out) hb)
        have n3_ := Aside0.mk (KeepBut.trans HK.out (KeepBut.of_below hb g none) (.inl rfl))
        have n4_ := Aside0.mk (below_step (HB.out) hb)
        clear HO194
        clear HI0
        clear HK
        clear HB
        have HO194 := n0_
        have HO197 := n1_
        have HI0 := n2_
        have HK := n3_
        have HB := n4_
        clear n0_ n1_ n2_ n3_ n4_
        clear hb ho15
        refine hK.out _ _ trivial (fun hHeld => ?_)
        clear hK K
        refine norm_ (a' := ?_) ?_ ?_
        rotate_left
        ·
         show Act.put _ (some 12) _ = _
         simp only [Act.put, pq]
         rfl
        exact norm_ (by (simp only [putAll, Act.put, pq]; done)) (hJ1_4_6_7_9 (v193, v196) _ ⟨(by exact Kd.R_mono HO194.out (fun _ hk => hk.2)), (by exact Kd.R_mono HO197.out (fun _ hk => hk.2)), (HI0.out), HK.out, (HB.out)⟩)
      ·
       skip
       rintro ⟨v193, v196⟩ w15 ⟨h0_, h1_, h2_, h3_, h4_⟩
       have n0_ : Aside0 (Kd.R (Kd.int .u8) 5 w15 w.heap.size (fun k_ => some k_ ≠ (v196 : Value).ownBlock) v193 y192) := ⟨h0_⟩
       have n1_ : Aside0 (Kd.R (Kd.int .u8) 5 w15 w.heap.size (fun k_ => some k_ ≠ (v193 : Value).ownBlock) v196 y195) := ⟨h1_⟩
       have n2_ : Aside0 (IsS77 w0 w15 g s0_0 t190 t191) := ⟨h2_⟩
       have n3_ : Aside0 (KeepBut w w15 g none) := ⟨h3_⟩
       have n4_ : Aside0 (Below w0.heap.size w0 w15) := ⟨h4_⟩
       clear HI0
       clear HK
       clear HB
       clear h0_ h1_ h2_ h3_ h4_
       have HO194 := n0_
       have HO197 := n1_
       have HI0 := n2_
       have HK := n3_
       have HB := n4_
       clear n0_ n1_ n2_ n3_ n4_
       have hHeld := trivial
       refine norm_ (a' := ?_) ?_ ?_
       rotate_left
       ·
        simp only [putAll, Act.put, pq]
        rfl
       refine one_ (i := 7) (N := some 10) #[true, true, true, true, true, true, true, true, false, true, true, false, false] rfl rfl (one_of HT_.out (by kernel_rfl)) (by decide) (fun K hK => ?_)
       have hcv16 := own_string (P := Try.prog) Try.underlying22 Try.underlying5 Try.underlying9 (Kd.own_of_R HO194.out)
       refine value_ (w1 := ?_) (v := ?_) (by rfl) rfl ?_ ?_
       rotate_left 2
       ·
        go_simp
        constructor
        ·
         rfl
        ·
         rfl
       clear hcv16
       refine hK.out _ _ trivial (fun hHeld => ?_)
       clear hK K
       refine norm_ (a' := ?_) ?_ ?_
       rotate_left
       ·
        show Act.put _ (some 10) _ = _
        simp only [Act.put, pq]
        rfl
       refine pure_ (i := 8) (N := some 11) (v := ?_) (a' := ?_) #[true, true, true, true, true, true, true, true, true, true, true, false, false] rfl rfl (any_of HT_.out (by kernel_rfl)) (fun _ _ _ h => h) (Or.inl ⟨by rfl, ?_⟩) ?_ ?_
       rotate_left
       ·
        intro w'
        go_simp
        with_reducible rfl
       rotate_left
       ·
        simp only [Act.put, pq]
        rfl
       exact norm_ (by (simp only [putAll, Act.put, pq]; done)) (hJ1_4_6_7_9_10 (v193, v196) _ ⟨(by exact HO194.out), (by exact HO197.out), (HI0.out), HK.out, (HB.out)⟩)
     ·
      skip
      rintro ⟨v193, v196⟩ w15 ⟨h0_, h1_, h2_, h3_, h4_⟩
      have n0_ : Aside0 (Kd.R (Kd.int .u8) 5 w15 w.heap.size (fun k_ => some k_ ≠ (v196 : Value).ownBlock) v193 y192) := ⟨h0_⟩
      have n1_ : Aside0 (Kd.R (Kd.int .u8) 5 w15 w.heap.size (fun k_ => some k_ ≠ (v193 : Value).ownBlock) v196 y195) := ⟨h1_⟩
      have n2_ : Aside0 (IsS77 w0 w15 g s0_0 t190 t191) := ⟨h2_⟩
      have n3_ : Aside0 (KeepBut w w15 g none) := ⟨h3_⟩
      have n4_ : Aside0 (Below w0.heap.size w0 w15) := ⟨h4_⟩
      clear HI0
      clear HK
      clear HB
      clear h0_ h1_ h2_ h3_ h4_
      have HO194 := n0_
      have HO197 := n1_
      have HI0 := n2_
      have HK := n3_
      have HB := n4_
      clear n0_ n1_ n2_ n3_ n4_
      have hHeld := trivial
      refine norm_ (a' := ?_) ?_ ?_
      rotate_left
      ·
       simp only [putAll, Act.put, pq]
       rfl
      refine one_ (i := 10) (N := some 13) #[true, true, true, true, true, true, true, true, true, true, true, false, false] rfl rfl (one_of HT_.out (by kernel_rfl)) (by decide) (fun K hK => ?_)
      have hcv16 := own_string (P := Try.prog) Try.underlying22 Try.underlying5 Try.underlying9 (Kd.own_of_R HO197.out)
      refine value_ (w1 := ?_) (v := ?_) (by rfl) rfl ?_ ?_
      rotate_left 2
      ·
       go_simp
       constructor
       ·
        rfl
       ·
        rfl
      clear hcv16
      refine hK.out _ _ trivial (fun hHeld => ?_)
      clear hK K
      refine norm_ (a' := ?_) ?_ ?_
      rotate_left
      ·
       show Act.put _ (some 13) _ = _
       simp only [Act.put, pq]
       rfl
      exact norm_ (by (simp only [putAll, Act.put, pq]; done)) (hJ1_4_6_7_9_10 (v193, v196) _ ⟨(by exact HO194.out), (by exact HO197.out), (HI0.out), HK.out, (HB.out)⟩)
    rintro ⟨v193, v196⟩ w16 ⟨h0_, h1_, h2_, h3_, h4_⟩
    have n0_ : Aside0 (Kd.R (Kd.int .u8) 5 w16 w.heap.size (fun k_ => some k_ ≠ (v196 : Value).ownBlock) v193 y192) := ⟨h0_⟩
    have n1_ : Aside0 (Kd.R (Kd.int .u8) 5 w16 w.heap.size (fun k_ => some k_ ≠ (v193 : Value).ownBlock) v196 y195) := ⟨h1_⟩
    have n2_ : Aside0 (IsS77 w0 w16 g s0_0 t190 t191) := ⟨h2_⟩
    have n3_ : Aside0 (KeepBut w w16 g none) := ⟨h3_⟩
    have n4_ : Aside0 (Below w0.heap.size w0 w16) := ⟨h4_⟩
    clear HI0
    clear HK
    clear HB
    clear h0_ h1_ h2_ h3_ h4_
    have HO194 := n0_
    have HO197 := n1_
    have HI0 := n2_
    have HK := n3_
    have HB := n4_
    clear n0_ n1_ n2_ n3_ n4_
    have hHeld := trivial
    refine norm_ (a' := ?_) ?_ ?_
    rotate_left
    ·
     simp only [putAll, Act.put, pq]
     rfl
    refine pure_ (i := 11) (N := some 14) (v := ?_) (a' := ?_) #[true, true, true, true, true, true, true, true, true, true, true, true, false] rfl rfl (any_of HT_.out (by kernel_rfl)) (fun _ _ _ h => h) (Or.inl ⟨by rfl, ?_⟩) ?_ ?_
    rotate_left
    ·
     intro w'
     go_simp
     with_reducible rfl
    rotate_left
    ·
     simp only [Act.put, pq]
     rfl
    refine pure_ (i := 12) (N := some 2) (v := ?_) (a' := ?_) #[true, true, true, true, true, true, true, true, true, true, true, true, true] rfl rfl (any_of HT_.out (by kernel_rfl)) (fun _ _ _ h => h) (Or.inl ⟨by rfl, ?_⟩) ?_ ?_
    rotate_left
    ·
     intro w'
     go_simp
     with_reducible rfl
    rotate_left
    ·
     simp only [Act.put, pq]
     rfl
    refine done_ (done_of HT_.out (by kernel_rfl)) ?_
    try go_wp2
    go_ret
    exact ⟨by rfl, HI0.out, HB.out, HK.out⟩
   ·
    rw [if_neg c6] at H
    exact absurd H (by simp)
  ·
   rw [if_neg c5] at H
   exact absurd H (by simp)
 ·
  rw [if_neg c4] at H
  exact absurd H (by simp)
end Go.Proofs.Ytnpbnmhbajiefaa.PFnSources
