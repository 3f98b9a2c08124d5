-- PRINTED BY print.sh 35421559b90ae4d0a3588c463048766b98c2df88dd9212a6774a882060cdf62d: not written by this session
import Derived.Test.YtacjjlnjmmfmnaaPFnExactStateWordx0
namespace Go.Proofs.Ytacjjlnjmmfmnaa.PFnExactStateWord
open Go.RowKit Go.Proofs.YtacjjlnjmmfmnaaW.PrintWords Go.Proofs.YtacjjlnjmmfmnaaW.PrintLast Go.Proofs.YtacjjlnjmmfmnaaW.PrintMore
attribute [local go_sem] max2_int min2_int max_two min_two max_three min_three max_four min_four   -- for this text's walks alone
set_option linter.unusedVariables false
set_option linter.unusedSimpArgs false

/-! ### spec_l01In: function 13 -/
def spec_l01In.f (a0 : Int) (a1 : Int) (a2 : Int) : Option (Bool) := if a0 ≥ a1 then (some (decide (a0 ≤ a2))) else (some false)
set_option maxHeartbeats 8000000 in
set_option maxRecDepth 100000 in
theorem spec_l01In.calls (a0 : Int) (a1 : Int) (a2 : Int) (r : Bool) (w : World) (h : spec_l01In.f a0 a1 a2 = some r) :
    Calls Try.prog 13 #[.int .i64 a0, .int .i64 a1, .int .i64 a2] w fun e w' => e = .returned (.bool r) ∧ Drawn0 w w' := by
  have H : (if a0 ≥ a1 then (some (decide (a0 ≤ a2))) else (some false)) = some r := h
  clear h
  by_cases c4 : a0 ≥ a1
  · rw [if_pos c4] at H
    have c4b0 : decide (a1 ≤ a0) = true := decide_eq_true c4
    clear c4
    obtain rfl := Option.some.inj H
    go_enter Try.func13, Try.ntmps13
    go_wp2
    go_ret
    exact ⟨by first | rfl | (simp; done) | (simp [*]; done), by repeat (first | exact Drawn0.refl _ | apply Drawn0.step)⟩
  · rw [if_neg c4] at H
    have c4b0 : decide (a1 ≤ a0) = false := decide_eq_false c4
    clear c4
    obtain rfl := Option.some.inj H
    go_enter Try.func13, Try.ntmps13
    go_wp2
    go_ret
    exact ⟨by first | rfl | (simp; done) | (simp [*]; done), by repeat (first | exact Drawn0.refl _ | apply Drawn0.step)⟩

/-! ### spec_l18Words: function 14 -/
def spec_l18Words.f  : Option (List ByteArray) := some (([(⟨#[99, 108, 111, 115, 101, 100]⟩ : ByteArray), (⟨#[108, 105, 115, 116, 101, 110]⟩ : ByteArray), (⟨#[115, 121, 110, 45, 115, 101, 110, 116]⟩ : ByteArray), (⟨#[115, 121, 110, 45, 103, 111, 116]⟩ : ByteArray), (⟨#[111, 112, 101, 110]⟩ : ByteArray), (⟨#[102, 105, 110, 45, 119, 97, 105, 116, 45, 49]⟩ : ByteArray), (⟨#[102, 105, 110, 45, 119, 97, 105, 116, 45, 50]⟩ : ByteArray), (⟨#[99, 108, 111, 115, 101, 45, 119, 97, 105, 116]⟩ : ByteArray), (⟨#[99, 108, 111, 115, 105, 110, 103]⟩ : ByteArray), (⟨#[108, 97, 115, 116, 45, 97, 99, 107]⟩ : ByteArray), (⟨#[116, 105, 109, 101, 45, 119, 97, 105, 116]⟩ : ByteArray)] : List ByteArray))
set_option maxHeartbeats 8000000 in
set_option maxRecDepth 100000 in
theorem spec_l18Words.calls  (r : List ByteArray) (w : World) (h : spec_l18Words.f  = some r) :
    Calls Try.prog 14 #[] w fun e w' => ∃ v0_ : Value, e = .returned (v0_) ∧ Kd.R Kd.string 9 w' w.heap.size (fun _ => True) v0_ r ∧ Below w.heap.size w w' := by
  have HB := Aside0.mk (Below.refl w.heap.size w)
  have H : (some (([(⟨#[99, 108, 111, 115, 101, 100]⟩ : ByteArray), (⟨#[108, 105, 115, 116, 101, 110]⟩ : ByteArray), (⟨#[115, 121, 110, 45, 115, 101, 110, 116]⟩ : ByteArray), (⟨#[115, 121, 110, 45, 103, 111, 116]⟩ : ByteArray), (⟨#[111, 112, 101, 110]⟩ : ByteArray), (⟨#[102, 105, 110, 45, 119, 97, 105, 116, 45, 49]⟩ : ByteArray), (⟨#[102, 105, 110, 45, 119, 97, 105, 116, 45, 50]⟩ : ByteArray), (⟨#[99, 108, 111, 115, 101, 45, 119, 97, 105, 116]⟩ : ByteArray), (⟨#[99, 108, 111, 115, 105, 110, 103]⟩ : ByteArray), (⟨#[108, 97, 115, 116, 45, 97, 99, 107]⟩ : ByteArray), (⟨#[116, 105, 109, 101, 45, 119, 97, 105, 116]⟩ : ByteArray)] : List ByteArray))) = some r := h
  clear h
  obtain ⟨y101, hy101⟩ : ∃ y_ : List ByteArray, y_ = (([(⟨#[99, 108, 111, 115, 101, 100]⟩ : ByteArray), (⟨#[108, 105, 115, 116, 101, 110]⟩ : ByteArray), (⟨#[115, 121, 110, 45, 115, 101, 110, 116]⟩ : ByteArray), (⟨#[115, 121, 110, 45, 103, 111, 116]⟩ : ByteArray), (⟨#[111, 112, 101, 110]⟩ : ByteArray), (⟨#[102, 105, 110, 45, 119, 97, 105, 116, 45, 49]⟩ : ByteArray), (⟨#[102, 105, 110, 45, 119, 97, 105, 116, 45, 50]⟩ : ByteArray), (⟨#[99, 108, 111, 115, 101, 45, 119, 97, 105, 116]⟩ : ByteArray), (⟨#[99, 108, 111, 115, 105, 110, 103]⟩ : ByteArray), (⟨#[108, 97, 115, 116, 45, 97, 99, 107]⟩ : ByteArray), (⟨#[116, 105, 109, 101, 45, 119, 97, 105, 116]⟩ : ByteArray)] : List ByteArray)) := ⟨_, rfl⟩
  replace H : (some y101) = some r := by first | (rw [hy101]; with_reducible exact H) | (have H2_ := (Option.bind_some _ _).symm.trans H; rw [hy101]; with_reducible exact H2_) | (have H2_ := (Option.bind_some _ _).symm.trans H; with_reducible exact H2_) | with_reducible exact H | (rw [hy101]; exact H) | exact H
  have Ny101 := Aside0.mk hy101
  clear hy101
  obtain rfl := Option.some.inj H
  go_enter Try.func14, Try.ntmps14
  go_wp2_with (first | ((with_reducible refine gate_dst (N := 1) rfl ?_); refine Kd.R_lit Kd.string _ 9 ?hg (N := 1) ?hd (xs := ([(⟨#[99, 108, 111, 115, 101, 100]⟩ : ByteArray), (⟨#[108, 105, 115, 116, 101, 110]⟩ : ByteArray), (⟨#[115, 121, 110, 45, 115, 101, 110, 116]⟩ : ByteArray), (⟨#[115, 121, 110, 45, 103, 111, 116]⟩ : ByteArray), (⟨#[111, 112, 101, 110]⟩ : ByteArray), (⟨#[102, 105, 110, 45, 119, 97, 105, 116, 45, 49]⟩ : ByteArray), (⟨#[102, 105, 110, 45, 119, 97, 105, 116, 45, 50]⟩ : ByteArray), (⟨#[99, 108, 111, 115, 101, 45, 119, 97, 105, 116]⟩ : ByteArray), (⟨#[99, 108, 111, 115, 105, 110, 103]⟩ : ByteArray), (⟨#[108, 97, 115, 116, 45, 97, 99, 107]⟩ : ByteArray), (⟨#[116, 105, 109, 101, 45, 119, 97, 105, 116]⟩ : ByteArray)] : List ByteArray)) (inner := [.string (⟨#[99, 108, 111, 115, 101, 100]⟩ : ByteArray), .string (⟨#[108, 105, 115, 116, 101, 110]⟩ : ByteArray), .string (⟨#[115, 121, 110, 45, 115, 101, 110, 116]⟩ : ByteArray), .string (⟨#[115, 121, 110, 45, 103, 111, 116]⟩ : ByteArray), .string (⟨#[111, 112, 101, 110]⟩ : ByteArray), .string (⟨#[102, 105, 110, 45, 119, 97, 105, 116, 45, 49]⟩ : ByteArray), .string (⟨#[102, 105, 110, 45, 119, 97, 105, 116, 45, 50]⟩ : ByteArray), .string (⟨#[99, 108, 111, 115, 101, 45, 119, 97, 105, 116]⟩ : ByteArray), .string (⟨#[99, 108, 111, 115, 105, 110, 103]⟩ : ByteArray), .string (⟨#[108, 97, 115, 116, 45, 97, 99, 107]⟩ : ByteArray), .string (⟨#[116, 105, 109, 101, 45, 119, 97, 105, 116]⟩ : ByteArray)]) (ok := fun _ => True) (okp := fun _ => True) ?hr ?hp (fun _ hk => hk) trivial (Below.refl _ _) (Nat.le_refl _) (by simp) ?_; (case hd => rfl); (case hg => rfl); (case hr => first | (go_simp; done) | (go_simp; rfl)); (case hp => exact (Reps.one (show Kd.M Kd.string _ _ _ (⟨#[99, 108, 111, 115, 101, 100]⟩ : ByteArray) [.string (⟨#[99, 108, 111, 115, 101, 100]⟩ : ByteArray)] from rfl) (Reps.one (show Kd.M Kd.string _ _ _ (⟨#[108, 105, 115, 116, 101, 110]⟩ : ByteArray) [.string (⟨#[108, 105, 115, 116, 101, 110]⟩ : ByteArray)] from rfl) (Reps.one (show Kd.M Kd.string _ _ _ (⟨#[115, 121, 110, 45, 115, 101, 110, 116]⟩ : ByteArray) [.string (⟨#[115, 121, 110, 45, 115, 101, 110, 116]⟩ : ByteArray)] from rfl) (Reps.one (show Kd.M Kd.string _ _ _ (⟨#[115, 121, 110, 45, 103, 111, 116]⟩ : ByteArray) [.string (⟨#[115, 121, 110, 45, 103, 111, 116]⟩ : ByteArray)] from rfl) (Reps.one (show Kd.M Kd.string _ _ _ (⟨#[111, 112, 101, 110]⟩ : ByteArray) [.string (⟨#[111, 112, 101, 110]⟩ : ByteArray)] from rfl) (Reps.one (show Kd.M Kd.string _ _ _ (⟨#[102, 105, 110, 45, 119, 97, 105, 116, 45, 49]⟩ : ByteArray) [.string (⟨#[102, 105, 110, 45, 119, 97, 105, 116, 45, 49]⟩ : ByteArray)] from rfl) (Reps.one (show Kd.M Kd.string _ _ _ (⟨#[102, 105, 110, 45, 119, 97, 105, 116, 45, 50]⟩ : ByteArray) [.string (⟨#[102, 105, 110, 45, 119, 97, 105, 116, 45, 50]⟩ : ByteArray)] from rfl) (Reps.one (show Kd.M Kd.string _ _ _ (⟨#[99, 108, 111, 115, 101, 45, 119, 97, 105, 116]⟩ : ByteArray) [.string (⟨#[99, 108, 111, 115, 101, 45, 119, 97, 105, 116]⟩ : ByteArray)] from rfl) (Reps.one (show Kd.M Kd.string _ _ _ (⟨#[99, 108, 111, 115, 105, 110, 103]⟩ : ByteArray) [.string (⟨#[99, 108, 111, 115, 105, 110, 103]⟩ : ByteArray)] from rfl) (Reps.one (show Kd.M Kd.string _ _ _ (⟨#[108, 97, 115, 116, 45, 97, 99, 107]⟩ : ByteArray) [.string (⟨#[108, 97, 115, 116, 45, 97, 99, 107]⟩ : ByteArray)] from rfl) (Reps.one (show Kd.M Kd.string _ _ _ (⟨#[116, 105, 109, 101, 45, 119, 97, 105, 116]⟩ : ByteArray) [.string (⟨#[116, 105, 109, 101, 45, 119, 97, 105, 116]⟩ : ByteArray)] from rfl) (Reps.none _ _))))))))))))); intro v102 w1 ho2 hb hg_ hnew_; clear hg_ hnew_; (first | rw [← Ny101.out] at ho2 | (simp only [Int.reduceToNat] at ho2; rw [← Ny101.out] at ho2)); have n0_ := Aside0.mk (Kd.R_lower ho2 (below_size (by repeat (first | (with_reducible first | exact HB.out | apply below_alloc | apply pw_below_drewN | apply below_drew1) | exact HB.out)))); have n1_ := Aside0.mk (below_step (by repeat (first | (with_reducible first | exact HB.out | apply below_alloc | apply pw_below_drewN | apply below_drew1) | exact HB.out)) hb); clear HB; have HO103 := n0_; have HB := n1_; clear n0_ n1_; clear hb ho2))
  go_ret
  exact ⟨_, by first | rfl | (simp [errW_none, errW_some] <;> rfl) | (simp [*, errW_none, errW_some] <;> rfl), by (with_reducible repeat (first | apply Kd.R_alloc | apply Kd.R_drewN | apply Kd.R_drew)); exact HO103.out, by repeat (first | (with_reducible first | exact HB.out | apply below_alloc | apply pw_below_drewN | apply below_drew1) | exact HB.out)⟩

/-! ### spec_StateWord: function 5 -/
def spec_StateWord.f (a0 : Int) : Option (ByteArray × Int) := (spec_l01In.f a0 0 10).bind fun t104 => (if t104 = true then ((spec_l18Words.f).bind fun t105 => (if 0 ≤ a0 then (if a0 < (t105.length : Int) then (some (rdOf ByteArray.empty t105 a0, 0)) else (none)) else (none))) else (some ((⟨#[]⟩ : ByteArray), 4)))
set_option maxHeartbeats 8000000 in
set_option maxRecDepth 100000 in
theorem spec_StateWord.calls (a0 : Int) (r1 : ByteArray) (r2 : Int) (w : World) (h : spec_StateWord.f a0 = some (r1, r2)) :
    Calls Try.prog 5 #[.int .i64 a0] w fun e w' => e = .returned (.tuple #[.string r1, .int .i64 r2]) ∧ Below w.heap.size w w' := by
  have HB := Aside0.mk (Below.refl w.heap.size w)
  have H : ((spec_l01In.f a0 0 10).bind fun t104 => (if t104 = true then ((spec_l18Words.f).bind fun t105 => (if 0 ≤ a0 then (if a0 < (t105.length : Int) then (some (rdOf ByteArray.empty t105 a0, 0)) else (none)) else (none))) else (some ((⟨#[]⟩ : ByteArray), 4)))) = some (r1, r2) := h
  clear h
  replace H := Option.bind_eq_some_iff.mp H
  obtain ⟨t104, A20, H⟩ := H
  replace H : (if t104 = true then ((spec_l18Words.f).bind fun t105 => (if 0 ≤ a0 then (if a0 < (t105.length : Int) then (some (rdOf ByteArray.empty t105 a0, 0)) else (none)) else (none))) else (some ((⟨#[]⟩ : ByteArray), 4))) = some (r1, r2) := H
  have A2 := Aside0.mk A20
  clear A20
  by_cases c3 : t104 = true
  · subst c3
    have H1 : ((spec_l18Words.f).bind fun t105 => (if 0 ≤ a0 then (if a0 < (t105.length : Int) then (some (rdOf ByteArray.empty t105 a0, 0)) else (none)) else (none))) = some (r1, r2) := by rw [if_pos rfl] at H; exact H
    clear H
    have H := H1
    clear H1
    replace H := Option.bind_eq_some_iff.mp H
    obtain ⟨t105, A40, H⟩ := H
    replace H : (if 0 ≤ a0 then (if a0 < (t105.length : Int) then (some (rdOf ByteArray.empty t105 a0, 0)) else (none)) else (none)) = some (r1, r2) := H
    have A4 := Aside0.mk A40
    clear A40
    by_cases c5 : 0 ≤ a0
    · rw [if_pos c5] at H
      have c5b0 : decide (0 ≤ a0) = true := decide_eq_true c5
      clear c5
      by_cases c6 : a0 < (t105.length : Int)
      · rw [if_pos c6] at H
        have c6b0 : decide (a0 < (t105.length : Int)) = true := decide_eq_true c6
        clear c6
        simp only [Option.some.injEq, Prod.mk.injEq] at H
        obtain ⟨rfl, rfl⟩ := H
        go_enter Try.func5, Try.ntmps5
        go_wp2_with (first | ((with_reducible refine gate_callee (f := 13) rfl ?_); refine goesL_ (some 5) rfl rfl Try.func13 (by kernel_rfl) rfl #[.int .i64 a0, .int .i64 0, .int .i64 10] rfl (by (try simp only [List.map_toArray, List.map_cons, List.map_nil]); first | done | rfl | (simp only [List.length_drop, List.length_take]; rfl)) ?_; (with_reducible refine (spec_l01In.calls a0 0 10 true _ A2.out).mono ?_); rintro e w' ⟨rfl, ⟨nd, rfl⟩⟩; refine ⟨_, rfl, ?_⟩) | ((with_reducible refine gate_callee (f := 14) rfl ?_); refine goesL_ (some 7) rfl rfl Try.func14 (by kernel_rfl) rfl #[] rfl (by (try simp only [List.map_toArray, List.map_cons, List.map_nil]); first | done | rfl | (simp only [List.length_drop, List.length_take]; rfl)) ?_; (with_reducible refine (spec_l18Words.calls  t105 _ A4.out).mono ?_); rintro e w7 ⟨v106, rfl, ho0, hb⟩; refine ⟨_, rfl, ?_⟩; have n0_ := Aside0.mk (Kd.R_lower ho0 (below_size (by repeat (first | (with_reducible first | exact HB.out | apply below_alloc | apply pw_below_drewN | apply below_drew1) | exact HB.out)))); have n1_ := Aside0.mk (below_step (by repeat (first | (with_reducible first | exact HB.out | apply below_alloc | apply pw_below_drewN | apply below_drew1) | exact HB.out)) hb); clear HB; have HO107 := n0_; have HB := n1_; clear n0_ n1_; (try clear hb); (try clear hb2); (try clear hk); (try clear hi); (try clear ho0); obtain ⟨Ao8, co8, eo8⟩ := Kd.R_slice HO107.out; subst eo8; have p108 : 0 ≤ (a0 : Int) := of_decide_eq_true (by first | (with_reducible assumption) | assumption); have q108 : a0 < (t105.length : Int) := of_decide_eq_true (by first | (with_reducible assumption) | assumption); obtain ⟨ad108, e108, hx108_0⟩ := Kd.at_string (Kd.R_reads' HO107.out).2.2 a0 p108 q108; cases e108; replace p108 := eq_true p108; replace q108 := eq_true q108))
        go_ret2
        exact ⟨by first | rfl | (simp [errW_none, errW_some] <;> rfl) | (simp [*, errW_none, errW_some] <;> rfl), by repeat (first | (with_reducible first | exact HB.out | apply below_alloc | apply pw_below_drewN | apply below_drew1) | exact HB.out)⟩
      · rw [if_neg c6] at H
        exact absurd H (by simp)
    · rw [if_neg c5] at H
      exact absurd H (by simp)
  · replace c3 := Bool.eq_false_iff.mpr c3
    subst c3
    have H1 : (some ((⟨#[]⟩ : ByteArray), 4)) = some (r1, r2) := by rw [if_neg (show ¬ (false = true) by decide)] at H; exact H
    clear H
    have H := H1
    clear H1
    simp only [Option.some.injEq, Prod.mk.injEq] at H
    obtain ⟨rfl, rfl⟩ := H
    go_enter Try.func5, Try.ntmps5
    go_wp2_with (first | ((with_reducible refine gate_callee (f := 13) rfl ?_); refine goesL_ (some 5) rfl rfl Try.func13 (by kernel_rfl) rfl #[.int .i64 a0, .int .i64 0, .int .i64 10] rfl (by (try simp only [List.map_toArray, List.map_cons, List.map_nil]); first | done | rfl | (simp only [List.length_drop, List.length_take]; rfl)) ?_; (with_reducible refine (spec_l01In.calls a0 0 10 false _ A2.out).mono ?_); rintro e w' ⟨rfl, ⟨nd, rfl⟩⟩; refine ⟨_, rfl, ?_⟩))
    go_ret2
    exact ⟨by first | rfl | (simp [errW_none, errW_some] <;> rfl) | (simp [*, errW_none, errW_some] <;> rfl), by repeat (first | (with_reducible first | exact HB.out | apply below_alloc | apply pw_below_drewN | apply below_drew1) | exact HB.out)⟩

/-! ### impl_StateWord: function 6 -/
def impl_StateWord.f (a0 : Int) : Option (ByteArray × Int) := (some (([(⟨#[99, 108, 111, 115, 101, 100]⟩ : ByteArray), (⟨#[108, 105, 115, 116, 101, 110]⟩ : ByteArray), (⟨#[115, 121, 110, 45, 115, 101, 110, 116]⟩ : ByteArray), (⟨#[115, 121, 110, 45, 103, 111, 116]⟩ : ByteArray), (⟨#[111, 112, 101, 110]⟩ : ByteArray), (⟨#[102, 105, 110, 45, 119, 97, 105, 116, 45, 49]⟩ : ByteArray), (⟨#[102, 105, 110, 45, 119, 97, 105, 116, 45, 50]⟩ : ByteArray), (⟨#[99, 108, 111, 115, 101, 45, 119, 97, 105, 116]⟩ : ByteArray), (⟨#[99, 108, 111, 115, 105, 110, 103]⟩ : ByteArray), (⟨#[108, 97, 115, 116, 45, 97, 99, 107]⟩ : ByteArray), (⟨#[116, 105, 109, 101, 45, 119, 97, 105, 116]⟩ : ByteArray)] : List ByteArray) : List ByteArray)).bind fun y109 => (if a0 < 0 then (some ((⟨#[]⟩ : ByteArray), 4)) else (if a0 ≥ (y109.length : Int) then (some ((⟨#[]⟩ : ByteArray), 4)) else (if 0 ≤ a0 then (if a0 < (y109.length : Int) then (some (rdOf ByteArray.empty y109 a0, 0)) else (none)) else (none))))
set_option maxHeartbeats 8000000 in
set_option maxRecDepth 100000 in
theorem impl_StateWord.calls (a0 : Int) (r1 : ByteArray) (r2 : Int) (w : World) (h : impl_StateWord.f a0 = some (r1, r2)) :
    Calls Try.prog 6 #[.int .i64 a0] w fun e w' => e = .returned (.tuple #[.string r1, .int .i64 r2]) ∧ Below w.heap.size w w' := by
  have HB := Aside0.mk (Below.refl w.heap.size w)
  have H : ((some (([(⟨#[99, 108, 111, 115, 101, 100]⟩ : ByteArray), (⟨#[108, 105, 115, 116, 101, 110]⟩ : ByteArray), (⟨#[115, 121, 110, 45, 115, 101, 110, 116]⟩ : ByteArray), (⟨#[115, 121, 110, 45, 103, 111, 116]⟩ : ByteArray), (⟨#[111, 112, 101, 110]⟩ : ByteArray), (⟨#[102, 105, 110, 45, 119, 97, 105, 116, 45, 49]⟩ : ByteArray), (⟨#[102, 105, 110, 45, 119, 97, 105, 116, 45, 50]⟩ : ByteArray), (⟨#[99, 108, 111, 115, 101, 45, 119, 97, 105, 116]⟩ : ByteArray), (⟨#[99, 108, 111, 115, 105, 110, 103]⟩ : ByteArray), (⟨#[108, 97, 115, 116, 45, 97, 99, 107]⟩ : ByteArray), (⟨#[116, 105, 109, 101, 45, 119, 97, 105, 116]⟩ : ByteArray)] : List ByteArray) : List ByteArray)).bind fun y109 => (if a0 < 0 then (some ((⟨#[]⟩ : ByteArray), 4)) else (if a0 ≥ (y109.length : Int) then (some ((⟨#[]⟩ : ByteArray), 4)) else (if 0 ≤ a0 then (if a0 < (y109.length : Int) then (some (rdOf ByteArray.empty y109 a0, 0)) else (none)) else (none))))) = some (r1, r2) := h
  clear h
  obtain ⟨y109, hy109⟩ : ∃ y_ : List ByteArray, y_ = (([(⟨#[99, 108, 111, 115, 101, 100]⟩ : ByteArray), (⟨#[108, 105, 115, 116, 101, 110]⟩ : ByteArray), (⟨#[115, 121, 110, 45, 115, 101, 110, 116]⟩ : ByteArray), (⟨#[115, 121, 110, 45, 103, 111, 116]⟩ : ByteArray), (⟨#[111, 112, 101, 110]⟩ : ByteArray), (⟨#[102, 105, 110, 45, 119, 97, 105, 116, 45, 49]⟩ : ByteArray), (⟨#[102, 105, 110, 45, 119, 97, 105, 116, 45, 50]⟩ : ByteArray), (⟨#[99, 108, 111, 115, 101, 45, 119, 97, 105, 116]⟩ : ByteArray), (⟨#[99, 108, 111, 115, 105, 110, 103]⟩ : ByteArray), (⟨#[108, 97, 115, 116, 45, 97, 99, 107]⟩ : ByteArray), (⟨#[116, 105, 109, 101, 45, 119, 97, 105, 116]⟩ : ByteArray)] : List ByteArray)) := ⟨_, rfl⟩
  replace H : (if a0 < 0 then (some ((⟨#[]⟩ : ByteArray), 4)) else (if a0 ≥ (y109.length : Int) then (some ((⟨#[]⟩ : ByteArray), 4)) else (if 0 ≤ a0 then (if a0 < (y109.length : Int) then (some (rdOf ByteArray.empty y109 a0, 0)) else (none)) else (none)))) = some (r1, r2) := by first | (rw [hy109]; with_reducible exact H) | (have H2_ := (Option.bind_some _ _).symm.trans H; rw [hy109]; with_reducible exact H2_) | (have H2_ := (Option.bind_some _ _).symm.trans H; with_reducible exact H2_) | with_reducible exact H | (rw [hy109]; exact H) | exact H
  have Ny109 := Aside0.mk hy109
  clear hy109
  by_cases c2 : a0 < 0
  · rw [if_pos c2] at H
    have c2b0 : decide (a0 < 0) = true := decide_eq_true c2
    clear c2
    simp only [Option.some.injEq, Prod.mk.injEq] at H
    obtain ⟨rfl, rfl⟩ := H
    go_enter Try.func6, Try.ntmps6
    go_wp2_with (first | ((with_reducible refine gate_dst (N := 5) rfl ?_); (try (refine gate_guard (by rfl) ?_; dsimp only)); refine Kd.R_lit Kd.string _ 9 ?hg (N := 5) ?hd (xs := ([(⟨#[99, 108, 111, 115, 101, 100]⟩ : ByteArray), (⟨#[108, 105, 115, 116, 101, 110]⟩ : ByteArray), (⟨#[115, 121, 110, 45, 115, 101, 110, 116]⟩ : ByteArray), (⟨#[115, 121, 110, 45, 103, 111, 116]⟩ : ByteArray), (⟨#[111, 112, 101, 110]⟩ : ByteArray), (⟨#[102, 105, 110, 45, 119, 97, 105, 116, 45, 49]⟩ : ByteArray), (⟨#[102, 105, 110, 45, 119, 97, 105, 116, 45, 50]⟩ : ByteArray), (⟨#[99, 108, 111, 115, 101, 45, 119, 97, 105, 116]⟩ : ByteArray), (⟨#[99, 108, 111, 115, 105, 110, 103]⟩ : ByteArray), (⟨#[108, 97, 115, 116, 45, 97, 99, 107]⟩ : ByteArray), (⟨#[116, 105, 109, 101, 45, 119, 97, 105, 116]⟩ : ByteArray)] : List ByteArray)) (inner := [.string (⟨#[99, 108, 111, 115, 101, 100]⟩ : ByteArray), .string (⟨#[108, 105, 115, 116, 101, 110]⟩ : ByteArray), .string (⟨#[115, 121, 110, 45, 115, 101, 110, 116]⟩ : ByteArray), .string (⟨#[115, 121, 110, 45, 103, 111, 116]⟩ : ByteArray), .string (⟨#[111, 112, 101, 110]⟩ : ByteArray), .string (⟨#[102, 105, 110, 45, 119, 97, 105, 116, 45, 49]⟩ : ByteArray), .string (⟨#[102, 105, 110, 45, 119, 97, 105, 116, 45, 50]⟩ : ByteArray), .string (⟨#[99, 108, 111, 115, 101, 45, 119, 97, 105, 116]⟩ : ByteArray), .string (⟨#[99, 108, 111, 115, 105, 110, 103]⟩ : ByteArray), .string (⟨#[108, 97, 115, 116, 45, 97, 99, 107]⟩ : ByteArray), .string (⟨#[116, 105, 109, 101, 45, 119, 97, 105, 116]⟩ : ByteArray)]) (ok := fun _ => True) (okp := fun _ => True) ?hr ?hp (fun _ hk => hk) trivial (Below.refl _ _) (Nat.le_refl _) (by simp) ?_; (case hd => rfl); (case hg => rfl); (case hr => first | (go_simp; done) | (go_simp; rfl)); (case hp => exact (Reps.one (show Kd.M Kd.string _ _ _ (⟨#[99, 108, 111, 115, 101, 100]⟩ : ByteArray) [.string (⟨#[99, 108, 111, 115, 101, 100]⟩ : ByteArray)] from rfl) (Reps.one (show Kd.M Kd.string _ _ _ (⟨#[108, 105, 115, 116, 101, 110]⟩ : ByteArray) [.string (⟨#[108, 105, 115, 116, 101, 110]⟩ : ByteArray)] from rfl) (Reps.one (show Kd.M Kd.string _ _ _ (⟨#[115, 121, 110, 45, 115, 101, 110, 116]⟩ : ByteArray) [.string (⟨#[115, 121, 110, 45, 115, 101, 110, 116]⟩ : ByteArray)] from rfl) (Reps.one (show Kd.M Kd.string _ _ _ (⟨#[115, 121, 110, 45, 103, 111, 116]⟩ : ByteArray) [.string (⟨#[115, 121, 110, 45, 103, 111, 116]⟩ : ByteArray)] from rfl) (Reps.one (show Kd.M Kd.string _ _ _ (⟨#[111, 112, 101, 110]⟩ : ByteArray) [.string (⟨#[111, 112, 101, 110]⟩ : ByteArray)] from rfl) (Reps.one (show Kd.M Kd.string _ _ _ (⟨#[102, 105, 110, 45, 119, 97, 105, 116, 45, 49]⟩ : ByteArray) [.string (⟨#[102, 105, 110, 45, 119, 97, 105, 116, 45, 49]⟩ : ByteArray)] from rfl) (Reps.one (show Kd.M Kd.string _ _ _ (⟨#[102, 105, 110, 45, 119, 97, 105, 116, 45, 50]⟩ : ByteArray) [.string (⟨#[102, 105, 110, 45, 119, 97, 105, 116, 45, 50]⟩ : ByteArray)] from rfl) (Reps.one (show Kd.M Kd.string _ _ _ (⟨#[99, 108, 111, 115, 101, 45, 119, 97, 105, 116]⟩ : ByteArray) [.string (⟨#[99, 108, 111, 115, 101, 45, 119, 97, 105, 116]⟩ : ByteArray)] from rfl) (Reps.one (show Kd.M Kd.string _ _ _ (⟨#[99, 108, 111, 115, 105, 110, 103]⟩ : ByteArray) [.string (⟨#[99, 108, 111, 115, 105, 110, 103]⟩ : ByteArray)] from rfl) (Reps.one (show Kd.M Kd.string _ _ _ (⟨#[108, 97, 115, 116, 45, 97, 99, 107]⟩ : ByteArray) [.string (⟨#[108, 97, 115, 116, 45, 97, 99, 107]⟩ : ByteArray)] from rfl) (Reps.one (show Kd.M Kd.string _ _ _ (⟨#[116, 105, 109, 101, 45, 119, 97, 105, 116]⟩ : ByteArray) [.string (⟨#[116, 105, 109, 101, 45, 119, 97, 105, 116]⟩ : ByteArray)] from rfl) (Reps.none _ _))))))))))))); intro v110 w3 ho4 hb hg_ hnew_; clear hg_ hnew_; (first | rw [← Ny109.out] at ho4 | (simp only [Int.reduceToNat] at ho4; rw [← Ny109.out] at ho4)); have n0_ := Aside0.mk (Kd.R_lower ho4 (below_size (by repeat (first | (with_reducible first | exact HB.out | apply below_alloc | apply pw_below_drewN | apply below_drew1) | exact HB.out)))); have n1_ := Aside0.mk (below_step (by repeat (first | (with_reducible first | exact HB.out | apply below_alloc | apply pw_below_drewN | apply below_drew1) | exact HB.out)) hb); clear HB; have HO111 := n0_; have HB := n1_; clear n0_ n1_; clear hb ho4))
    go_ret2
    exact ⟨by first | rfl | (simp [errW_none, errW_some] <;> rfl) | (simp [*, errW_none, errW_some] <;> rfl), by repeat (first | (with_reducible first | exact HB.out | apply below_alloc | apply pw_below_drewN | apply below_drew1) | exact HB.out)⟩
  · rw [if_neg c2] at H
    have c2b0 : decide (a0 < 0) = false := decide_eq_false c2
    clear c2
    by_cases c5 : a0 ≥ (y109.length : Int)
    · rw [if_pos c5] at H
      have c5b0 : decide ((y109.length : Int) ≤ a0) = true := decide_eq_true c5
      clear c5
      simp only [Option.some.injEq, Prod.mk.injEq] at H
      obtain ⟨rfl, rfl⟩ := H
      go_enter Try.func6, Try.ntmps6
      go_wp2_with (first | ((with_reducible refine gate_dst (N := 5) rfl ?_); (try (refine gate_guard (by rfl) ?_; dsimp only)); refine Kd.R_lit Kd.string _ 9 ?hg (N := 5) ?hd (xs := ([(⟨#[99, 108, 111, 115, 101, 100]⟩ : ByteArray), (⟨#[108, 105, 115, 116, 101, 110]⟩ : ByteArray), (⟨#[115, 121, 110, 45, 115, 101, 110, 116]⟩ : ByteArray), (⟨#[115, 121, 110, 45, 103, 111, 116]⟩ : ByteArray), (⟨#[111, 112, 101, 110]⟩ : ByteArray), (⟨#[102, 105, 110, 45, 119, 97, 105, 116, 45, 49]⟩ : ByteArray), (⟨#[102, 105, 110, 45, 119, 97, 105, 116, 45, 50]⟩ : ByteArray), (⟨#[99, 108, 111, 115, 101, 45, 119, 97, 105, 116]⟩ : ByteArray), (⟨#[99, 108, 111, 115, 105, 110, 103]⟩ : ByteArray), (⟨#[108, 97, 115, 116, 45, 97, 99, 107]⟩ : ByteArray), (⟨#[116, 105, 109, 101, 45, 119, 97, 105, 116]⟩ : ByteArray)] : List ByteArray)) (inner := [.string (⟨#[99, 108, 111, 115, 101, 100]⟩ : ByteArray), .string (⟨#[108, 105, 115, 116, 101, 110]⟩ : ByteArray), .string (⟨#[115, 121, 110, 45, 115, 101, 110, 116]⟩ : ByteArray), .string (⟨#[115, 121, 110, 45, 103, 111, 116]⟩ : ByteArray), .string (⟨#[111, 112, 101, 110]⟩ : ByteArray), .string (⟨#[102, 105, 110, 45, 119, 97, 105, 116, 45, 49]⟩ : ByteArray), .string (⟨#[102, 105, 110, 45, 119, 97, 105, 116, 45, 50]⟩ : ByteArray), .string (⟨#[99, 108, 111, 115, 101, 45, 119, 97, 105, 116]⟩ : ByteArray), .string (⟨#[99, 108, 111, 115, 105, 110, 103]⟩ : ByteArray), .string (⟨#[108, 97, 115, 116, 45, 97, 99, 107]⟩ : ByteArray), .string (⟨#[116, 105, 109, 101, 45, 119, 97, 105, 116]⟩ : ByteArray)]) (ok := fun _ => True) (okp := fun _ => True) ?hr ?hp (fun _ hk => hk) trivial (Below.refl _ _) (Nat.le_refl _) (by simp) ?_; (case hd => rfl); (case hg => rfl); (case hr => first | (go_simp; done) | (go_simp; rfl)); (case hp => exact (Reps.one (show Kd.M Kd.string _ _ _ (⟨#[99, 108, 111, 115, 101, 100]⟩ : ByteArray) [.string (⟨#[99, 108, 111, 115, 101, 100]⟩ : ByteArray)] from rfl) (Reps.one (show Kd.M Kd.string _ _ _ (⟨#[108, 105, 115, 116, 101, 110]⟩ : ByteArray) [.string (⟨#[108, 105, 115, 116, 101, 110]⟩ : ByteArray)] from rfl) (Reps.one (show Kd.M Kd.string _ _ _ (⟨#[115, 121, 110, 45, 115, 101, 110, 116]⟩ : ByteArray) [.string (⟨#[115, 121, 110, 45, 115, 101, 110, 116]⟩ : ByteArray)] from rfl) (Reps.one (show Kd.M Kd.string _ _ _ (⟨#[115, 121, 110, 45, 103, 111, 116]⟩ : ByteArray) [.string (⟨#[115, 121, 110, 45, 103, 111, 116]⟩ : ByteArray)] from rfl) (Reps.one (show Kd.M Kd.string _ _ _ (⟨#[111, 112, 101, 110]⟩ : ByteArray) [.string (⟨#[111, 112, 101, 110]⟩ : ByteArray)] from rfl) (Reps.one (show Kd.M Kd.string _ _ _ (⟨#[102, 105, 110, 45, 119, 97, 105, 116, 45, 49]⟩ : ByteArray) [.string (⟨#[102, 105, 110, 45, 119, 97, 105, 116, 45, 49]⟩ : ByteArray)] from rfl) (Reps.one (show Kd.M Kd.string _ _ _ (⟨#[102, 105, 110, 45, 119, 97, 105, 116, 45, 50]⟩ : ByteArray) [.string (⟨#[102, 105, 110, 45, 119, 97, 105, 116, 45, 50]⟩ : ByteArray)] from rfl) (Reps.one (show Kd.M Kd.string _ _ _ (⟨#[99, 108, 111, 115, 101, 45, 119, 97, 105, 116]⟩ : ByteArray) [.string (⟨#[99, 108, 111, 115, 101, 45, 119, 97, 105, 116]⟩ : ByteArray)] from rfl) (Reps.one (show Kd.M Kd.string _ _ _ (⟨#[99, 108, 111, 115, 105, 110, 103]⟩ : ByteArray) [.string (⟨#[99, 108, 111, 115, 105, 110, 103]⟩ : ByteArray)] from rfl) (Reps.one (show Kd.M Kd.string _ _ _ (⟨#[108, 97, 115, 116, 45, 97, 99, 107]⟩ : ByteArray) [.string (⟨#[108, 97, 115, 116, 45, 97, 99, 107]⟩ : ByteArray)] from rfl) (Reps.one (show Kd.M Kd.string _ _ _ (⟨#[116, 105, 109, 101, 45, 119, 97, 105, 116]⟩ : ByteArray) [.string (⟨#[116, 105, 109, 101, 45, 119, 97, 105, 116]⟩ : ByteArray)] from rfl) (Reps.none _ _))))))))))))); intro v110 w6 ho7 hb hg_ hnew_; clear hg_ hnew_; (first | rw [← Ny109.out] at ho7 | (simp only [Int.reduceToNat] at ho7; rw [← Ny109.out] at ho7)); have n0_ := Aside0.mk (Kd.R_lower ho7 (below_size (by repeat (first | (with_reducible first | exact HB.out | apply below_alloc | apply pw_below_drewN | apply below_drew1) | exact HB.out)))); have n1_ := Aside0.mk (below_step (by repeat (first | (with_reducible first | exact HB.out | apply below_alloc | apply pw_below_drewN | apply below_drew1) | exact HB.out)) hb); clear HB; have HO111 := n0_; have HB := n1_; clear n0_ n1_; clear hb ho7; obtain ⟨Ao8, co8, eo8⟩ := Kd.R_slice HO111.out; subst eo8))
      go_ret2
      exact ⟨by first | rfl | (simp [errW_none, errW_some] <;> rfl) | (simp [*, errW_none, errW_some] <;> rfl), by repeat (first | (with_reducible first | exact HB.out | apply below_alloc | apply pw_below_drewN | apply below_drew1) | exact HB.out)⟩
    · rw [if_neg c5] at H
      have c5b0 : decide ((y109.length : Int) ≤ a0) = false := decide_eq_false c5
      clear c5
      by_cases c9 : 0 ≤ a0
      · rw [if_pos c9] at H
        have c9b0 : decide (0 ≤ a0) = true := decide_eq_true c9
        clear c9
        by_cases c10 : a0 < (y109.length : Int)
        · rw [if_pos c10] at H
          have c10b0 : decide (a0 < (y109.length : Int)) = true := decide_eq_true c10
          clear c10
          simp only [Option.some.injEq, Prod.mk.injEq] at H
          obtain ⟨rfl, rfl⟩ := H
          go_enter Try.func6, Try.ntmps6
          go_wp2_with (first | ((with_reducible refine gate_dst (N := 5) rfl ?_); (try (refine gate_guard (by rfl) ?_; dsimp only)); refine Kd.R_lit Kd.string _ 9 ?hg (N := 5) ?hd (xs := ([(⟨#[99, 108, 111, 115, 101, 100]⟩ : ByteArray), (⟨#[108, 105, 115, 116, 101, 110]⟩ : ByteArray), (⟨#[115, 121, 110, 45, 115, 101, 110, 116]⟩ : ByteArray), (⟨#[115, 121, 110, 45, 103, 111, 116]⟩ : ByteArray), (⟨#[111, 112, 101, 110]⟩ : ByteArray), (⟨#[102, 105, 110, 45, 119, 97, 105, 116, 45, 49]⟩ : ByteArray), (⟨#[102, 105, 110, 45, 119, 97, 105, 116, 45, 50]⟩ : ByteArray), (⟨#[99, 108, 111, 115, 101, 45, 119, 97, 105, 116]⟩ : ByteArray), (⟨#[99, 108, 111, 115, 105, 110, 103]⟩ : ByteArray), (⟨#[108, 97, 115, 116, 45, 97, 99, 107]⟩ : ByteArray), (⟨#[116, 105, 109, 101, 45, 119, 97, 105, 116]⟩ : ByteArray)] : List ByteArray)) (inner := [.string (⟨#[99, 108, 111, 115, 101, 100]⟩ : ByteArray), .string (⟨#[108, 105, 115, 116, 101, 110]⟩ : ByteArray), .string (⟨#[115, 121, 110, 45, 115, 101, 110, 116]⟩ : ByteArray), .string (⟨#[115, 121, 110, 45, 103, 111, 116]⟩ : ByteArray), .string (⟨#[111, 112, 101, 110]⟩ : ByteArray), .string (⟨#[102, 105, 110, 45, 119, 97, 105, 116, 45, 49]⟩ : ByteArray), .string (⟨#[102, 105, 110, 45, 119, 97, 105, 116, 45, 50]⟩ : ByteArray), .string (⟨#[99, 108, 111, 115, 101, 45, 119, 97, 105, 116]⟩ : ByteArray), .string (⟨#[99, 108, 111, 115, 105, 110, 103]⟩ : ByteArray), .string (⟨#[108, 97, 115, 116, 45, 97, 99, 107]⟩ : ByteArray), .string (⟨#[116, 105, 109, 101, 45, 119, 97, 105, 116]⟩ : ByteArray)]) (ok := fun _ => True) (okp := fun _ => True) ?hr ?hp (fun _ hk => hk) trivial (Below.refl _ _) (Nat.le_refl _) (by simp) ?_; (case hd => rfl); (case hg => rfl); (case hr => first | (go_simp; done) | (go_simp; rfl)); (case hp => exact (Reps.one (show Kd.M Kd.string _ _ _ (⟨#[99, 108, 111, 115, 101, 100]⟩ : ByteArray) [.string (⟨#[99, 108, 111, 115, 101, 100]⟩ : ByteArray)] from rfl) (Reps.one (show Kd.M Kd.string _ _ _ (⟨#[108, 105, 115, 116, 101, 110]⟩ : ByteArray) [.string (⟨#[108, 105, 115, 116, 101, 110]⟩ : ByteArray)] from rfl) (Reps.one (show Kd.M Kd.string _ _ _ (⟨#[115, 121, 110, 45, 115, 101, 110, 116]⟩ : ByteArray) [.string (⟨#[115, 121, 110, 45, 115, 101, 110, 116]⟩ : ByteArray)] from rfl) (Reps.one (show Kd.M Kd.string _ _ _ (⟨#[115, 121, 110, 45, 103, 111, 116]⟩ : ByteArray) [.string (⟨#[115, 121, 110, 45, 103, 111, 116]⟩ : ByteArray)] from rfl) (Reps.one (show Kd.M Kd.string _ _ _ (⟨#[111, 112, 101, 110]⟩ : ByteArray) [.string (⟨#[111, 112, 101, 110]⟩ : ByteArray)] from rfl) (Reps.one (show Kd.M Kd.string _ _ _ (⟨#[102, 105, 110, 45, 119, 97, 105, 116, 45, 49]⟩ : ByteArray) [.string (⟨#[102, 105, 110, 45, 119, 97, 105, 116, 45, 49]⟩ : ByteArray)] from rfl) (Reps.one (show Kd.M Kd.string _ _ _ (⟨#[102, 105, 110, 45, 119, 97, 105, 116, 45, 50]⟩ : ByteArray) [.string (⟨#[102, 105, 110, 45, 119, 97, 105, 116, 45, 50]⟩ : ByteArray)] from rfl) (Reps.one (show Kd.M Kd.string _ _ _ (⟨#[99, 108, 111, 115, 101, 45, 119, 97, 105, 116]⟩ : ByteArray) [.string (⟨#[99, 108, 111, 115, 101, 45, 119, 97, 105, 116]⟩ : ByteArray)] from rfl) (Reps.one (show Kd.M Kd.string _ _ _ (⟨#[99, 108, 111, 115, 105, 110, 103]⟩ : ByteArray) [.string (⟨#[99, 108, 111, 115, 105, 110, 103]⟩ : ByteArray)] from rfl) (Reps.one (show Kd.M Kd.string _ _ _ (⟨#[108, 97, 115, 116, 45, 97, 99, 107]⟩ : ByteArray) [.string (⟨#[108, 97, 115, 116, 45, 97, 99, 107]⟩ : ByteArray)] from rfl) (Reps.one (show Kd.M Kd.string _ _ _ (⟨#[116, 105, 109, 101, 45, 119, 97, 105, 116]⟩ : ByteArray) [.string (⟨#[116, 105, 109, 101, 45, 119, 97, 105, 116]⟩ : ByteArray)] from rfl) (Reps.none _ _))))))))))))); intro v110 w11 ho12 hb hg_ hnew_; clear hg_ hnew_; (first | rw [← Ny109.out] at ho12 | (simp only [Int.reduceToNat] at ho12; rw [← Ny109.out] at ho12)); have n0_ := Aside0.mk (Kd.R_lower ho12 (below_size (by repeat (first | (with_reducible first | exact HB.out | apply below_alloc | apply pw_below_drewN | apply below_drew1) | exact HB.out)))); have n1_ := Aside0.mk (below_step (by repeat (first | (with_reducible first | exact HB.out | apply below_alloc | apply pw_below_drewN | apply below_drew1) | exact HB.out)) hb); clear HB; have HO111 := n0_; have HB := n1_; clear n0_ n1_; clear hb ho12; obtain ⟨Ao13, co13, eo13⟩ := Kd.R_slice HO111.out; subst eo13; have p112 : 0 ≤ (a0 : Int) := of_decide_eq_true (by first | (with_reducible assumption) | assumption); have q112 : a0 < (y109.length : Int) := of_decide_eq_true (by first | (with_reducible assumption) | assumption); obtain ⟨ad112, e112, hx112_0⟩ := Kd.at_string (Kd.R_reads' HO111.out).2.2 a0 p112 q112; cases e112; replace p112 := eq_true p112; replace q112 := eq_true q112))
          go_ret2
          exact ⟨by first | rfl | (simp [errW_none, errW_some] <;> rfl) | (simp [*, errW_none, errW_some] <;> rfl), by repeat (first | (with_reducible first | exact HB.out | apply below_alloc | apply pw_below_drewN | apply below_drew1) | exact HB.out)⟩
        · rw [if_neg c10] at H
          exact absurd H (by simp)
      · rw [if_neg c9] at H
        exact absurd H (by simp)

/-! ### laws_FnExactStateWord: function 3 -/
def laws_FnExactStateWord.f (a0 : Int) : Option (Bool) := (spec_StateWord.f a0).bind fun bt113 => ((impl_StateWord.f a0).bind fun bt115 => (if bt115.1.toList = bt113.1.toList then (if bt115.2 = bt113.2 then (some true) else (some false)) else (some false)))
set_option maxHeartbeats 8000000 in
set_option maxRecDepth 100000 in
theorem laws_FnExactStateWord.calls (a0 : Int) (r : Bool) (w : World) (h : laws_FnExactStateWord.f a0 = some r) :
    Calls Try.prog 3 #[.int .i64 a0] w fun e w' => e = .returned (.bool r) ∧ Below w.heap.size w w' := by
  have HB := Aside0.mk (Below.refl w.heap.size w)
  have H : ((spec_StateWord.f a0).bind fun bt113 => ((impl_StateWord.f a0).bind fun bt115 => (if bt115.1.toList = bt113.1.toList then (if bt115.2 = bt113.2 then (some true) else (some false)) else (some false)))) = some r := h
  clear h
  replace H := Option.bind_eq_some_iff.mp H
  obtain ⟨⟨t113, t114⟩, A20, H⟩ := H
  replace H : ((impl_StateWord.f a0).bind fun bt115 => (if bt115.1.toList = t113.toList then (if bt115.2 = t114 then (some true) else (some false)) else (some false))) = some r := H
  have A2 := Aside0.mk A20
  clear A20
  replace H := Option.bind_eq_some_iff.mp H
  obtain ⟨⟨t115, t116⟩, A30, H⟩ := H
  replace H : (if t115.toList = t113.toList then (if t116 = t114 then (some true) else (some false)) else (some false)) = some r := H
  have A3 := Aside0.mk A30
  clear A30
  by_cases c4 : t115.toList = t113.toList
  · rw [if_pos c4] at H
    have c4b0 : (t115.toList == t113.toList) = true := beq_iff_eq.mpr c4
    have c4b1 : (t115.toList != t113.toList) = false := bne_eq_false_iff_eq.mpr c4
    clear c4
    by_cases c5 : t116 = t114
    · rw [if_pos c5] at H
      have c5b0 : (t116 == t114) = true := beq_iff_eq.mpr c5
      have c5b1 : (t116 != t114) = false := bne_eq_false_iff_eq.mpr c5
      clear c5
      obtain rfl := Option.some.inj H
      go_enter Try.func3, Try.ntmps3
      go_wp2_with (first | ((with_reducible refine gate_callee (f := 5) rfl ?_); refine goesL_ (some 9) rfl rfl Try.func5 (by kernel_rfl) rfl #[.int .i64 a0] rfl (by (try simp only [List.map_toArray, List.map_cons, List.map_nil]); first | done | rfl | (simp only [List.length_drop, List.length_take]; rfl)) ?_; (with_reducible refine (spec_StateWord.calls a0 t113 t114 _ A2.out).mono ?_); rintro e w6 ⟨rfl, hb⟩; refine ⟨_, rfl, ?_⟩; have n0_ := Aside0.mk (below_step (by repeat (first | (with_reducible first | exact HB.out | apply below_alloc | apply pw_below_drewN | apply below_drew1) | exact HB.out)) hb); clear HB; have HB := n0_; clear n0_; (try clear hb); (try clear hb2); (try clear hk); (try clear hi)) | ((with_reducible refine gate_callee (f := 6) rfl ?_); refine goesL_ (some 14) rfl rfl Try.func6 (by kernel_rfl) rfl #[.int .i64 a0] rfl (by (try simp only [List.map_toArray, List.map_cons, List.map_nil]); first | done | rfl | (simp only [List.length_drop, List.length_take]; rfl)) ?_; (with_reducible refine (impl_StateWord.calls a0 t115 t116 _ A3.out).mono ?_); rintro e w7 ⟨rfl, hb⟩; refine ⟨_, rfl, ?_⟩; have n0_ := Aside0.mk (below_step (by repeat (first | (with_reducible first | exact HB.out | apply below_alloc | apply pw_below_drewN | apply below_drew1) | exact HB.out)) hb); clear HB; have HB := n0_; clear n0_; (try clear hb); (try clear hb2); (try clear hk); (try clear hi)))
      go_ret
      exact ⟨by first | rfl | (simp [errW_none, errW_some] <;> rfl) | (simp [*, errW_none, errW_some] <;> rfl), by repeat (first | (with_reducible first | exact HB.out | apply below_alloc | apply pw_below_drewN | apply below_drew1) | exact HB.out)⟩
    · rw [if_neg c5] at H
      have c5b0 : (t116 == t114) = false := beq_eq_false_iff_ne.mpr c5
      have c5b1 : (t116 != t114) = true := bne_iff_ne.mpr c5
      obtain rfl := Option.some.inj H
      go_enter Try.func3, Try.ntmps3
      go_wp2_with (first | ((with_reducible refine gate_callee (f := 5) rfl ?_); refine goesL_ (some 9) rfl rfl Try.func5 (by kernel_rfl) rfl #[.int .i64 a0] rfl (by (try simp only [List.map_toArray, List.map_cons, List.map_nil]); first | done | rfl | (simp only [List.length_drop, List.length_take]; rfl)) ?_; (with_reducible refine (spec_StateWord.calls a0 t113 t114 _ A2.out).mono ?_); rintro e w8 ⟨rfl, hb⟩; refine ⟨_, rfl, ?_⟩; have n0_ := Aside0.mk (below_step (by repeat (first | (with_reducible first | exact HB.out | apply below_alloc | apply pw_below_drewN | apply below_drew1) | exact HB.out)) hb); clear HB; have HB := n0_; clear n0_; (try clear hb); (try clear hb2); (try clear hk); (try clear hi)) | ((with_reducible refine gate_callee (f := 6) rfl ?_); refine goesL_ (some 14) rfl rfl Try.func6 (by kernel_rfl) rfl #[.int .i64 a0] rfl (by (try simp only [List.map_toArray, List.map_cons, List.map_nil]); first | done | rfl | (simp only [List.length_drop, List.length_take]; rfl)) ?_; (with_reducible refine (impl_StateWord.calls a0 t115 t116 _ A3.out).mono ?_); rintro e w9 ⟨rfl, hb⟩; refine ⟨_, rfl, ?_⟩; have n0_ := Aside0.mk (below_step (by repeat (first | (with_reducible first | exact HB.out | apply below_alloc | apply pw_below_drewN | apply below_drew1) | exact HB.out)) hb); clear HB; have HB := n0_; clear n0_; (try clear hb); (try clear hb2); (try clear hk); (try clear hi)))
      go_ret
      exact ⟨by first | rfl | (simp [errW_none, errW_some] <;> rfl) | (simp [*, errW_none, errW_some] <;> rfl), by repeat (first | (with_reducible first | exact HB.out | apply below_alloc | apply pw_below_drewN | apply below_drew1) | exact HB.out)⟩
  · rw [if_neg c4] at H
    have c4b0 : (t115.toList == t113.toList) = false := beq_eq_false_iff_ne.mpr c4
    have c4b1 : (t115.toList != t113.toList) = true := bne_iff_ne.mpr c4
    obtain rfl := Option.some.inj H
    go_enter Try.func3, Try.ntmps3
    go_wp2_with (first | ((with_reducible refine gate_callee (f := 5) rfl ?_); refine goesL_ (some 9) rfl rfl Try.func5 (by kernel_rfl) rfl #[.int .i64 a0] rfl (by (try simp only [List.map_toArray, List.map_cons, List.map_nil]); first | done | rfl | (simp only [List.length_drop, List.length_take]; rfl)) ?_; (with_reducible refine (spec_StateWord.calls a0 t113 t114 _ A2.out).mono ?_); rintro e w10 ⟨rfl, hb⟩; refine ⟨_, rfl, ?_⟩; have n0_ := Aside0.mk (below_step (by repeat (first | (with_reducible first | exact HB.out | apply below_alloc | apply pw_below_drewN | apply below_drew1) | exact HB.out)) hb); clear HB; have HB := n0_; clear n0_; (try clear hb); (try clear hb2); (try clear hk); (try clear hi)) | ((with_reducible refine gate_callee (f := 6) rfl ?_); refine goesL_ (some 14) rfl rfl Try.func6 (by kernel_rfl) rfl #[.int .i64 a0] rfl (by (try simp only [List.map_toArray, List.map_cons, List.map_nil]); first | done | rfl | (simp only [List.length_drop, List.length_take]; rfl)) ?_; (with_reducible refine (impl_StateWord.calls a0 t115 t116 _ A3.out).mono ?_); rintro e w11 ⟨rfl, hb⟩; refine ⟨_, rfl, ?_⟩; have n0_ := Aside0.mk (below_step (by repeat (first | (with_reducible first | exact HB.out | apply below_alloc | apply pw_below_drewN | apply below_drew1) | exact HB.out)) hb); clear HB; have HB := n0_; clear n0_; (try clear hb); (try clear hb2); (try clear hk); (try clear hi)))
    go_ret
    exact ⟨by first | rfl | (simp [errW_none, errW_some] <;> rfl) | (simp [*, errW_none, errW_some] <;> rfl), by repeat (first | (with_reducible first | exact HB.out | apply below_alloc | apply pw_below_drewN | apply below_drew1) | exact HB.out)⟩

/-- THE ONE PURE STATEMENT of laws_FnExactStateWord: yours. -/
def laws_FnExactStateWord.Pure : Prop := ∀ (a0 : Int), (Lit.int .i64 a0).wf = true → laws_FnExactStateWord.f a0 = some true
theorem laws_FnExactStateWord.walk (P : laws_FnExactStateWord.Pure) (a0 : Int) (w : World) (w0 : (Lit.int .i64 a0).wf = true) :
    Calls Try.prog 3 #[.int .i64 a0] w fun e w' => e = .returned (.bool true) ∧ Below w.heap.size w w' := by
  have h := P a0 w0
  refine (laws_FnExactStateWord.calls a0 true w h).mono ?_
  rintro e w' ⟨rfl, hd⟩
  exact ⟨rfl, hd⟩

end Go.Proofs.Ytacjjlnjmmfmnaa.PFnExactStateWord
