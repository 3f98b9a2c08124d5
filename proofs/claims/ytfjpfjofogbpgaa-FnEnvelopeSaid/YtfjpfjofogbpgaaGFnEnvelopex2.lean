-- OWN TEXT of FnEnvelope: made by own_print.sh, finished by hand
import Derived.Test.YtfjpfjofogbpgaaGFnEnvelopex0
import Derived.Test.YtfjpfjofogbpgaaGFnEnvelopex1
namespace Go.Proofs.Ytfjpfjofogbpgaa.PFnEnvelope
open Go.RowKit Go.Proofs.YtfjpfjofogbpgaaW.PrintWords Go.Proofs.YtfjpfjofogbpgaaW.PrintLast Go.Proofs.YtfjpfjofogbpgaaW.PrintMore
attribute [local go_sem] max2_int min2_int max_two min_two max_three min_three max_four min_four   -- for this text's walks alone
set_option linter.unusedVariables false
set_option linter.unusedSimpArgs false

/-! ### spec_l00Src_bucket: function 43 -/
def spec_l00Src_bucket.f (s0_0 : List Int) (s0_1 : Int) (s0_2 : Int) : Option (Int × Int × Int × Int × Int × Int) := (spec_l00Src_next.f s0_0 s0_1 s0_2 20).bind fun bt122 => ((some (([wrap64 (1 + bt122.1), 100, 10000] : List Int) : List Int)).bind fun y125 => ((spec_l00Src_next.f s0_0 bt122.2.1 bt122.2.2 3).bind fun bt128 => (if 0 ≤ bt128.1 then (if bt128.1 < (y125.length : Int) then ((spec_l00Src_next.f s0_0 bt128.2.1 bt128.2.2 5).bind fun bt132 => ((some (([bt132.1, 0, 1000] : List Int) : List Int)).bind fun y135 => ((spec_l00Src_next.f s0_0 bt132.2.1 bt132.2.2 3).bind fun bt138 => (if 0 ≤ bt138.1 then (if bt138.1 < (y135.length : Int) then ((spec_l00Src_next.f s0_0 bt138.2.1 bt138.2.2 (wrap64 ((rd y125 bt128.1) + 1))).bind fun bt142 => ((spec_l00Src_next.f s0_0 bt142.2.1 bt142.2.2 100).bind fun bt145 => ((spec_l00Src_next.f s0_0 bt145.2.1 bt145.2.2 20).bind fun bt148 => ((some (([0, bt145.1, wrap64 (1000000 - bt148.1)] : List Int) : List Int)).bind fun y151 => ((spec_l00Src_next.f s0_0 bt148.2.1 bt148.2.2 3).bind fun bt154 => (if 0 ≤ bt154.1 then (if bt154.1 < (y151.length : Int) then (some (rd y135 bt138.1, rd y125 bt128.1, bt142.1, rd y151 bt154.1, bt154.2.1, bt154.2.2)) else (none)) else (none))))))) else (none)) else (none))))) else (none)) else (none))))
def spec_l00Src_bucket.T2 : Bool × List (List Nat × List Nat) := (true, [([], []), ([0], [0]), ([1], [1]), ([], []), ([3, 1], [3]), ([2, 4], [2, 4]), ([5], [5]), ([], []), ([], []), ([], []), ([9], [9]), ([8, 10, 4], [8, 10]), ([], []), ([12, 11], [12]), ([], []), ([14, 13], [14]), ([15], [15]), ([13, 16], [13, 16]), ([], []), ([18, 15], [18]), ([17, 19], [17, 19]), ([20], [20]), ([6, 7, 11, 21], [6, 7, 11, 21]), ([22, 19, 0, 1, 2, 3, 4, 5, 6, 7, 8, 9, 10, 11, 12, 13, 14, 15, 16, 17, 18, 19, 20, 21, 22], [22])])
def spec_l00Src_bucket.B2 : List Nat := [0, 1, 3, 0, 11, 31, 63, 0, 0, 0, 512, 1819, 0, 7963, 0, 32539, 65307, 130843, 0, 327451, 1048347, 2096923, 4194303, 8388607]
theorem spec_l00Src_bucket.tab2 : rtab .any (opsOf Try.f43 2) = spec_l00Src_bucket.T2 := by kernel_rfl
theorem spec_l00Src_bucket.bits2 : waitsOk spec_l00Src_bucket.T2.2 spec_l00Src_bucket.B2 = true := by kernel_rfl
set_option maxHeartbeats 8000000 in
set_option maxRecDepth 100000 in
theorem spec_l00Src_bucket.calls (g : Nat) (s0_0 : List Int) (s0_1 : Int) (s0_2 : Int) (r1 : Int) (r2 : Int) (r3 : Int) (r4 : Int) (r5 : Int) (r6 : Int) (w0 w : World) (hI : IsS67 w0 w g s0_0 s0_1 s0_2) (hB : Below w0.heap.size w0 w) (h : spec_l00Src_bucket.f s0_0 s0_1 s0_2 = some (r1, r2, r3, r4, r5, r6)) :
    Calls Try.prog 43 #[.pointer (some ⟨g, 0, none⟩)] w fun e w' => e = .returned (.agg #[.int .i64 r1, .int .i64 r2, .int .i64 r3, .int .i64 r4]) ∧ IsS67 w0 w' g s0_0 r5 r6 ∧ Below w0.heap.size w0 w' ∧ KeepBut w w' g none := by
  have hu25 := Try.underlying25
  have HI0 := Aside0.mk hI
  have HK := Aside0.mk (KeepBut.refl w g none)
  have HL := Aside0.mk hB.size
  clear hI
  have HW0 := Aside0.mk hB.size
  have HB := Aside0.mk hB
  clear hB
  have H : ((spec_l00Src_next.f s0_0 s0_1 s0_2 20).bind fun bt122 => ((some (([wrap64 (1 + bt122.1), 100, 10000] : List Int) : List Int)).bind fun y125 => ((spec_l00Src_next.f s0_0 bt122.2.1 bt122.2.2 3).bind fun bt128 => (if 0 ≤ bt128.1 then (if bt128.1 < (y125.length : Int) then ((spec_l00Src_next.f s0_0 bt128.2.1 bt128.2.2 5).bind fun bt132 => ((some (([bt132.1, 0, 1000] : List Int) : List Int)).bind fun y135 => ((spec_l00Src_next.f s0_0 bt132.2.1 bt132.2.2 3).bind fun bt138 => (if 0 ≤ bt138.1 then (if bt138.1 < (y135.length : Int) then ((spec_l00Src_next.f s0_0 bt138.2.1 bt138.2.2 (wrap64 ((rd y125 bt128.1) + 1))).bind fun bt142 => ((spec_l00Src_next.f s0_0 bt142.2.1 bt142.2.2 100).bind fun bt145 => ((spec_l00Src_next.f s0_0 bt145.2.1 bt145.2.2 20).bind fun bt148 => ((some (([0, bt145.1, wrap64 (1000000 - bt148.1)] : List Int) : List Int)).bind fun y151 => ((spec_l00Src_next.f s0_0 bt148.2.1 bt148.2.2 3).bind fun bt154 => (if 0 ≤ bt154.1 then (if bt154.1 < (y151.length : Int) then (some (rd y135 bt138.1, rd y125 bt128.1, bt142.1, rd y151 bt154.1, bt154.2.1, bt154.2.2)) else (none)) else (none))))))) else (none)) else (none))))) else (none)) else (none))))) = some (r1, r2, r3, r4, r5, r6) := h
  clear h
  replace H := Option.bind_eq_some_iff.mp H
  obtain ⟨⟨t122, t123, t124⟩, A20, H⟩ := H
  replace H : ((some (([wrap64 (1 + t122), 100, 10000] : List Int) : List Int)).bind fun y125 => ((spec_l00Src_next.f s0_0 t123 t124 3).bind fun bt128 => (if 0 ≤ bt128.1 then (if bt128.1 < (y125.length : Int) then ((spec_l00Src_next.f s0_0 bt128.2.1 bt128.2.2 5).bind fun bt132 => ((some (([bt132.1, 0, 1000] : List Int) : List Int)).bind fun y135 => ((spec_l00Src_next.f s0_0 bt132.2.1 bt132.2.2 3).bind fun bt138 => (if 0 ≤ bt138.1 then (if bt138.1 < (y135.length : Int) then ((spec_l00Src_next.f s0_0 bt138.2.1 bt138.2.2 (wrap64 ((rd y125 bt128.1) + 1))).bind fun bt142 => ((spec_l00Src_next.f s0_0 bt142.2.1 bt142.2.2 100).bind fun bt145 => ((spec_l00Src_next.f s0_0 bt145.2.1 bt145.2.2 20).bind fun bt148 => ((some (([0, bt145.1, wrap64 (1000000 - bt148.1)] : List Int) : List Int)).bind fun y151 => ((spec_l00Src_next.f s0_0 bt148.2.1 bt148.2.2 3).bind fun bt154 => (if 0 ≤ bt154.1 then (if bt154.1 < (y151.length : Int) then (some (rd y135 bt138.1, rd y125 bt128.1, bt142.1, rd y151 bt154.1, bt154.2.1, bt154.2.2)) else (none)) else (none))))))) else (none)) else (none))))) else (none)) else (none)))) = some (r1, r2, r3, r4, r5, r6) := H
  have A2 := Aside0.mk A20
  clear A20
  obtain ⟨y125, hy125⟩ : ∃ y_ : List Int, y_ = (([wrap64 (1 + t122), 100, 10000] : List Int)) := ⟨_, rfl⟩
  replace H : ((spec_l00Src_next.f s0_0 t123 t124 3).bind fun bt128 => (if 0 ≤ bt128.1 then (if bt128.1 < (y125.length : Int) then ((spec_l00Src_next.f s0_0 bt128.2.1 bt128.2.2 5).bind fun bt132 => ((some (([bt132.1, 0, 1000] : List Int) : List Int)).bind fun y135 => ((spec_l00Src_next.f s0_0 bt132.2.1 bt132.2.2 3).bind fun bt138 => (if 0 ≤ bt138.1 then (if bt138.1 < (y135.length : Int) then ((spec_l00Src_next.f s0_0 bt138.2.1 bt138.2.2 (wrap64 ((rd y125 bt128.1) + 1))).bind fun bt142 => ((spec_l00Src_next.f s0_0 bt142.2.1 bt142.2.2 100).bind fun bt145 => ((spec_l00Src_next.f s0_0 bt145.2.1 bt145.2.2 20).bind fun bt148 => ((some (([0, bt145.1, wrap64 (1000000 - bt148.1)] : List Int) : List Int)).bind fun y151 => ((spec_l00Src_next.f s0_0 bt148.2.1 bt148.2.2 3).bind fun bt154 => (if 0 ≤ bt154.1 then (if bt154.1 < (y151.length : Int) then (some (rd y135 bt138.1, rd y125 bt128.1, bt142.1, rd y151 bt154.1, bt154.2.1, bt154.2.2)) else (none)) else (none))))))) else (none)) else (none))))) else (none)) else (none))) = some (r1, r2, r3, r4, r5, r6) := by first | (rw [hy125]; with_reducible exact H) | (have H2_ := (Option.bind_some _ _).symm.trans H; rw [hy125]; with_reducible exact H2_) | (have H2_ := (Option.bind_some _ _).symm.trans H; with_reducible exact H2_) | with_reducible exact H | (rw [hy125]; exact H) | exact H
  have Ny125 := Aside0.mk hy125
  clear hy125
  replace H := Option.bind_eq_some_iff.mp H
  obtain ⟨⟨t128, t129, t130⟩, A30, H⟩ := H
  replace H : (if 0 ≤ t128 then (if t128 < (y125.length : Int) then ((spec_l00Src_next.f s0_0 t129 t130 5).bind fun bt132 => ((some (([bt132.1, 0, 1000] : List Int) : List Int)).bind fun y135 => ((spec_l00Src_next.f s0_0 bt132.2.1 bt132.2.2 3).bind fun bt138 => (if 0 ≤ bt138.1 then (if bt138.1 < (y135.length : Int) then ((spec_l00Src_next.f s0_0 bt138.2.1 bt138.2.2 (wrap64 ((rd y125 t128) + 1))).bind fun bt142 => ((spec_l00Src_next.f s0_0 bt142.2.1 bt142.2.2 100).bind fun bt145 => ((spec_l00Src_next.f s0_0 bt145.2.1 bt145.2.2 20).bind fun bt148 => ((some (([0, bt145.1, wrap64 (1000000 - bt148.1)] : List Int) : List Int)).bind fun y151 => ((spec_l00Src_next.f s0_0 bt148.2.1 bt148.2.2 3).bind fun bt154 => (if 0 ≤ bt154.1 then (if bt154.1 < (y151.length : Int) then (some (rd y135 bt138.1, rd y125 t128, bt142.1, rd y151 bt154.1, bt154.2.1, bt154.2.2)) else (none)) else (none))))))) else (none)) else (none))))) else (none)) else (none)) = some (r1, r2, r3, r4, r5, r6) := H
  have A3 := Aside0.mk A30
  clear A30
  by_cases c4 : 0 ≤ t128
  · rw [if_pos c4] at H
    have c4b0 : decide (0 ≤ t128) = true := decide_eq_true c4
    clear c4
    by_cases c5 : t128 < (y125.length : Int)
    · rw [if_pos c5] at H
      have c5b0 : decide (t128 < (y125.length : Int)) = true := decide_eq_true c5
      clear c5
      replace H := Option.bind_eq_some_iff.mp H
      obtain ⟨⟨t132, t133, t134⟩, A60, H⟩ := H
      replace H : ((some (([t132, 0, 1000] : List Int) : List Int)).bind fun y135 => ((spec_l00Src_next.f s0_0 t133 t134 3).bind fun bt138 => (if 0 ≤ bt138.1 then (if bt138.1 < (y135.length : Int) then ((spec_l00Src_next.f s0_0 bt138.2.1 bt138.2.2 (wrap64 ((rd y125 t128) + 1))).bind fun bt142 => ((spec_l00Src_next.f s0_0 bt142.2.1 bt142.2.2 100).bind fun bt145 => ((spec_l00Src_next.f s0_0 bt145.2.1 bt145.2.2 20).bind fun bt148 => ((some (([0, bt145.1, wrap64 (1000000 - bt148.1)] : List Int) : List Int)).bind fun y151 => ((spec_l00Src_next.f s0_0 bt148.2.1 bt148.2.2 3).bind fun bt154 => (if 0 ≤ bt154.1 then (if bt154.1 < (y151.length : Int) then (some (rd y135 bt138.1, rd y125 t128, bt142.1, rd y151 bt154.1, bt154.2.1, bt154.2.2)) else (none)) else (none))))))) else (none)) else (none)))) = some (r1, r2, r3, r4, r5, r6) := H
      have A6 := Aside0.mk A60
      clear A60
      obtain ⟨y135, hy135⟩ : ∃ y_ : List Int, y_ = (([t132, 0, 1000] : List Int)) := ⟨_, rfl⟩
      replace H : ((spec_l00Src_next.f s0_0 t133 t134 3).bind fun bt138 => (if 0 ≤ bt138.1 then (if bt138.1 < (y135.length : Int) then ((spec_l00Src_next.f s0_0 bt138.2.1 bt138.2.2 (wrap64 ((rd y125 t128) + 1))).bind fun bt142 => ((spec_l00Src_next.f s0_0 bt142.2.1 bt142.2.2 100).bind fun bt145 => ((spec_l00Src_next.f s0_0 bt145.2.1 bt145.2.2 20).bind fun bt148 => ((some (([0, bt145.1, wrap64 (1000000 - bt148.1)] : List Int) : List Int)).bind fun y151 => ((spec_l00Src_next.f s0_0 bt148.2.1 bt148.2.2 3).bind fun bt154 => (if 0 ≤ bt154.1 then (if bt154.1 < (y151.length : Int) then (some (rd y135 bt138.1, rd y125 t128, bt142.1, rd y151 bt154.1, bt154.2.1, bt154.2.2)) else (none)) else (none))))))) else (none)) else (none))) = some (r1, r2, r3, r4, r5, r6) := by first | (rw [hy135]; with_reducible exact H) | (have H2_ := (Option.bind_some _ _).symm.trans H; rw [hy135]; with_reducible exact H2_) | (have H2_ := (Option.bind_some _ _).symm.trans H; with_reducible exact H2_) | with_reducible exact H | (rw [hy135]; exact H) | exact H
      have Ny135 := Aside0.mk hy135
      clear hy135
      replace H := Option.bind_eq_some_iff.mp H
      obtain ⟨⟨t138, t139, t140⟩, A70, H⟩ := H
      replace H : (if 0 ≤ t138 then (if t138 < (y135.length : Int) then ((spec_l00Src_next.f s0_0 t139 t140 (wrap64 ((rd y125 t128) + 1))).bind fun bt142 => ((spec_l00Src_next.f s0_0 bt142.2.1 bt142.2.2 100).bind fun bt145 => ((spec_l00Src_next.f s0_0 bt145.2.1 bt145.2.2 20).bind fun bt148 => ((some (([0, bt145.1, wrap64 (1000000 - bt148.1)] : List Int) : List Int)).bind fun y151 => ((spec_l00Src_next.f s0_0 bt148.2.1 bt148.2.2 3).bind fun bt154 => (if 0 ≤ bt154.1 then (if bt154.1 < (y151.length : Int) then (some (rd y135 t138, rd y125 t128, bt142.1, rd y151 bt154.1, bt154.2.1, bt154.2.2)) else (none)) else (none))))))) else (none)) else (none)) = some (r1, r2, r3, r4, r5, r6) := H
      have A7 := Aside0.mk A70
      clear A70
      by_cases c8 : 0 ≤ t138
      · rw [if_pos c8] at H
        have c8b0 : decide (0 ≤ t138) = true := decide_eq_true c8
        clear c8
        by_cases c9 : t138 < (y135.length : Int)
        · rw [if_pos c9] at H
          have c9b0 : decide (t138 < (y135.length : Int)) = true := decide_eq_true c9
          clear c9
          replace H := Option.bind_eq_some_iff.mp H
          obtain ⟨⟨t142, t143, t144⟩, A100, H⟩ := H
          replace H : ((spec_l00Src_next.f s0_0 t143 t144 100).bind fun bt145 => ((spec_l00Src_next.f s0_0 bt145.2.1 bt145.2.2 20).bind fun bt148 => ((some (([0, bt145.1, wrap64 (1000000 - bt148.1)] : List Int) : List Int)).bind fun y151 => ((spec_l00Src_next.f s0_0 bt148.2.1 bt148.2.2 3).bind fun bt154 => (if 0 ≤ bt154.1 then (if bt154.1 < (y151.length : Int) then (some (rd y135 t138, rd y125 t128, t142, rd y151 bt154.1, bt154.2.1, bt154.2.2)) else (none)) else (none)))))) = some (r1, r2, r3, r4, r5, r6) := H
          have A10 := Aside0.mk A100
          clear A100
          replace H := Option.bind_eq_some_iff.mp H
          obtain ⟨⟨t145, t146, t147⟩, A110, H⟩ := H
          replace H : ((spec_l00Src_next.f s0_0 t146 t147 20).bind fun bt148 => ((some (([0, t145, wrap64 (1000000 - bt148.1)] : List Int) : List Int)).bind fun y151 => ((spec_l00Src_next.f s0_0 bt148.2.1 bt148.2.2 3).bind fun bt154 => (if 0 ≤ bt154.1 then (if bt154.1 < (y151.length : Int) then (some (rd y135 t138, rd y125 t128, t142, rd y151 bt154.1, bt154.2.1, bt154.2.2)) else (none)) else (none))))) = some (r1, r2, r3, r4, r5, r6) := H
          have A11 := Aside0.mk A110
          clear A110
          replace H := Option.bind_eq_some_iff.mp H
          obtain ⟨⟨t148, t149, t150⟩, A120, H⟩ := H
          replace H : ((some (([0, t145, wrap64 (1000000 - t148)] : List Int) : List Int)).bind fun y151 => ((spec_l00Src_next.f s0_0 t149 t150 3).bind fun bt154 => (if 0 ≤ bt154.1 then (if bt154.1 < (y151.length : Int) then (some (rd y135 t138, rd y125 t128, t142, rd y151 bt154.1, bt154.2.1, bt154.2.2)) else (none)) else (none)))) = some (r1, r2, r3, r4, r5, r6) := H
          have A12 := Aside0.mk A120
          clear A120
          obtain ⟨y151, hy151⟩ : ∃ y_ : List Int, y_ = (([0, t145, wrap64 (1000000 - t148)] : List Int)) := ⟨_, rfl⟩
          replace H : ((spec_l00Src_next.f s0_0 t149 t150 3).bind fun bt154 => (if 0 ≤ bt154.1 then (if bt154.1 < (y151.length : Int) then (some (rd y135 t138, rd y125 t128, t142, rd y151 bt154.1, bt154.2.1, bt154.2.2)) else (none)) else (none))) = some (r1, r2, r3, r4, r5, r6) := by first | (rw [hy151]; with_reducible exact H) | (have H2_ := (Option.bind_some _ _).symm.trans H; rw [hy151]; with_reducible exact H2_) | (have H2_ := (Option.bind_some _ _).symm.trans H; with_reducible exact H2_) | with_reducible exact H | (rw [hy151]; exact H) | exact H
          have Ny151 := Aside0.mk hy151
          clear hy151
          replace H := Option.bind_eq_some_iff.mp H
          obtain ⟨⟨t154, t155, t156⟩, A130, H⟩ := H
          replace H : (if 0 ≤ t154 then (if t154 < (y151.length : Int) then (some (rd y135 t138, rd y125 t128, t142, rd y151 t154, t155, t156)) else (none)) else (none)) = some (r1, r2, r3, r4, r5, r6) := H
          have A13 := Aside0.mk A130
          clear A130
          by_cases c14 : 0 ≤ t154
          · rw [if_pos c14] at H
            have c14b0 : decide (0 ≤ t154) = true := decide_eq_true c14
            clear c14
            by_cases c15 : t154 < (y151.length : Int)
            · rw [if_pos c15] at H
              have c15b0 : decide (t154 < (y151.length : Int)) = true := decide_eq_true c15
              clear c15
              simp only [Option.some.injEq, Prod.mk.injEq] at H
              obtain ⟨rfl, rfl, rfl, rfl, rfl, rfl⟩ := H
              go_enter Try.func43, Try.ntmps43
              try go_wp2_with (first | ((with_reducible refine gate_dst (N := 2) rfl ?_); refine box_event ?hg (N := 2) ?hd (cs := #[.int .i64 0, .int .i64 0, .int .i64 0, .int .i64 0]) (t := 25) ?hr ?_; (case hd => rfl); (case hg => rfl); (case hr => first | (go_simp; done) | (go_simp; rfl)); intro gb121 hg w16 hbox hb; have n0_ := Aside0.mk (IsS67.below (by repeat (first | (with_reducible first | exact HI0.out | apply IsS67.alloc | apply IsS67.drewN | apply IsS67.drew | apply IsS67.set_1 | apply IsS67.set_2) | exact HI0.out)) hb); have n1_ := Aside0.mk (KeepBut.trans (by repeat (first | (with_reducible first | exact HK.out | apply KeepBut.set_ | apply keep_drewN | apply keep_drew | apply keep_alloc) | exact HK.out)) (KeepBut.of_below hb g none) (.inl rfl)); have n2_ := Aside0.mk (below_step (by repeat (first | (with_reducible first | exact HB.out | apply below_alloc | apply pw_below_drewN | apply below_drew1 | refine below_set ?_ (IsS67.ge HI0.out)) | exact HB.out)) hb); have n3_ := Aside0.mk (hbox); have n4_ := Aside0.mk ((by rw [hg]; exact (keep_size (w := w) (g := g) (row := none) (by repeat (first | (with_reducible first | exact HK.out | apply KeepBut.set_ | apply keep_drewN | apply keep_drew | apply keep_alloc) | exact HK.out))) : w.heap.size ≤ gb121)); have n5_ := Aside0.mk ((Nat.le_trans HW0.out (by rw [hg]; exact (keep_size (w := w) (g := g) (row := none) (by repeat (first | (with_reducible first | exact HK.out | apply KeepBut.set_ | apply keep_drewN | apply keep_drew | apply keep_alloc) | exact HK.out))) : w.heap.size ≤ gb121) : w0.heap.size ≤ gb121)); have n6_ := Aside0.mk ((by rw [hg]; exact Nat.ne_of_lt (IsS67.lt (show IsS67 w0 _ g s0_0 s0_1 s0_2 from by repeat (first | (with_reducible first | exact HI0.out | apply IsS67.alloc | apply IsS67.drewN | apply IsS67.drew | apply IsS67.set_1 | apply IsS67.set_2) | exact HI0.out))) : g ≠ gb121)); have n7_ := Aside0.mk ((by rw [hg]; exact Nat.ne_of_gt (IsS67.lt (show IsS67 w0 _ g s0_0 s0_1 s0_2 from by repeat (first | (with_reducible first | exact HI0.out | apply IsS67.alloc | apply IsS67.drewN | apply IsS67.drew | apply IsS67.set_1 | apply IsS67.set_2) | exact HI0.out))) : gb121 ≠ g)); clear HI0; clear HK; clear HB; have HI0 := n0_; have HK := n1_; have HB := n2_; have BK121 := n3_; have GW121 := n4_; have GE121 := n5_; have NB0_121 := n6_; have NB121_0 := n7_; clear n0_ n1_ n2_ n3_ n4_ n5_ n6_ n7_; clear hb hbox hg) | ((with_reducible refine gate_callee (f := 48) rfl ?_); refine goesL_ (some 5) rfl rfl Try.func48 (by kernel_rfl) rfl #[.pointer (some ⟨g, 0, none⟩), .int .i64 20] rfl (by (try simp only [List.map_toArray, List.map_cons, List.map_nil]); first | done | rfl | (simp only [List.length_drop, List.length_take]; rfl)) ?_; (with_reducible refine (spec_l00Src_next.calls g s0_0 s0_1 s0_2 20 t122 t123 t124 w0 _ ?side1 ?side2 A2.out).mono ?_); (case side1 => repeat (first | (with_reducible first | exact HI0.out | apply IsS67.alloc | apply IsS67.drewN | apply IsS67.drew | apply IsS67.set_1 | apply IsS67.set_2 | refine IsS67.far ?_ NB0_121.out _) | exact HI0.out)); (case side2 => repeat (first | (with_reducible first | exact HB.out | apply below_alloc | apply pw_below_drewN | apply below_drew1 | refine below_set ?_ (IsS67.ge HI0.out) | refine below_set ?_ GE121.out) | exact HB.out)); rintro e w17 ⟨rfl, hi, hb, hk⟩; refine ⟨_, rfl, ?_⟩; have n0_ := Aside0.mk (KeepBut.blk hk (g' := gb121) (o := .cells #[.int .i64 0, .int .i64 0, .int .i64 0, .int .i64 0] 25 (0, 0)) (by (with_reducible repeat (first | refine blk_drewN ?_ _ | refine blk_drew ?_ | refine blk_alloc ?_ _)); exact BK121.out) NB121_0.out (by simp)); have n1_ := Aside0.mk (KeepBut.trans (by repeat (first | (with_reducible first | exact HK.out | apply KeepBut.set_ | apply keep_drewN | apply keep_drew | apply keep_alloc | refine keep_far ?_ GW121.out _) | exact HK.out)) hk (.inl rfl)); have n2_ := Aside0.mk (hb); have n3_ := Aside0.mk (hi); clear BK121; clear HK; clear HB; clear HI0; have BK121 := n0_; have HK := n1_; have HB := n2_; have HI0 := n3_; clear n0_ n1_ n2_ n3_; (try clear hb); (try clear hb2); (try clear hk); (try clear hi)) | ((with_reducible refine gate_dst (N := 7) rfl ?_); refine Kd.R_lit (Kd.int .i64) _ 3 ?hg (N := 7) ?hd (xs := ([wrap64 (1 + t122), 100, 10000] : List Int)) (inner := [.int .i64 (wrap64 (1 + t122)), .int .i64 100, .int .i64 10000]) (ok := fun _ => True) (okp := fun _ => True) ?hr ?hp (fun _ hk => hk) trivial (Below.refl _ _) (Nat.le_refl _) (by simp) ?_; (case hd => rfl); (case hg => rfl); (case hr => first | (go_simp; done) | (go_simp; rfl)); (case hp => exact (Reps.one (show Kd.M (Kd.int .i64) _ _ _ (wrap64 (1 + t122)) [.int .i64 (wrap64 (1 + t122))] from rfl) (Reps.one (show Kd.M (Kd.int .i64) _ _ _ 100 [.int .i64 100] from rfl) (Reps.one (show Kd.M (Kd.int .i64) _ _ _ 10000 [.int .i64 10000] from rfl) (Reps.none _ _))))); intro v126 w18 ho19 hb hg_ hnew_; clear hg_ hnew_; (first | rw [← Ny125.out] at ho19 | (simp only [Int.reduceToNat] at ho19; rw [← Ny125.out] at ho19)); have n0_ := Aside0.mk (Kd.R_lower ho19 (keep_size (w := w) (g := g) (row := none) (by repeat (first | (with_reducible first | exact HK.out | apply KeepBut.set_ | apply keep_drewN | apply keep_drew | apply keep_alloc | refine keep_far ?_ GW121.out _) | exact HK.out)))); have n1_ := Aside0.mk (IsS67.below (by repeat (first | (with_reducible first | exact HI0.out | apply IsS67.alloc | apply IsS67.drewN | apply IsS67.drew | apply IsS67.set_1 | apply IsS67.set_2 | refine IsS67.far ?_ NB0_121.out _) | exact HI0.out)) hb); have n2_ := Aside0.mk (blk_below (g := gb121) (o := .cells #[.int .i64 0, .int .i64 0, .int .i64 0, .int .i64 0] 25 (0, 0)) (by (with_reducible repeat (first | refine blk_drewN ?_ _ | refine blk_drew ?_ | refine blk_alloc ?_ _)); exact BK121.out) hb); have n3_ := Aside0.mk (KeepBut.trans (by repeat (first | (with_reducible first | exact HK.out | apply KeepBut.set_ | apply keep_drewN | apply keep_drew | apply keep_alloc | refine keep_far ?_ GW121.out _) | exact HK.out)) (KeepBut.of_below hb g none) (.inl rfl)); have n4_ := Aside0.mk (below_step (by repeat (first | (with_reducible first | exact HB.out | apply below_alloc | apply pw_below_drewN | apply below_drew1 | refine below_set ?_ (IsS67.ge HI0.out) | refine below_set ?_ GE121.out) | exact HB.out)) hb); clear HI0; clear BK121; clear HK; clear HB; have HO127 := n0_; have HI0 := n1_; have BK121 := n2_; have HK := n3_; have HB := n4_; clear n0_ n1_ n2_ n3_ n4_; clear hb ho19) | ((with_reducible refine gate_callee (f := 48) rfl ?_); refine goesL_ (some 9) rfl rfl Try.func48 (by kernel_rfl) rfl #[.pointer (some ⟨g, 0, none⟩), .int .i64 3] rfl (by (try simp only [List.map_toArray, List.map_cons, List.map_nil]); first | done | rfl | (simp only [List.length_drop, List.length_take]; rfl)) ?_; (with_reducible refine (spec_l00Src_next.calls g s0_0 t123 t124 3 t128 t129 t130 w0 _ ?side1 ?side2 A3.out).mono ?_); (case side1 => repeat (first | (with_reducible first | exact HI0.out | apply IsS67.alloc | apply IsS67.drewN | apply IsS67.drew | apply IsS67.set_1 | apply IsS67.set_2 | refine IsS67.far ?_ NB0_121.out _) | exact HI0.out)); (case side2 => repeat (first | (with_reducible first | exact HB.out | apply below_alloc | apply pw_below_drewN | apply below_drew1 | refine below_set ?_ (IsS67.ge HI0.out) | refine below_set ?_ GE121.out) | exact HB.out)); rintro e w20 ⟨rfl, hi, hb, hk⟩; refine ⟨_, rfl, ?_⟩; have n0_ := Aside0.mk (KeepBut.blk hk (g' := gb121) (o := .cells #[.int .i64 0, .int .i64 0, .int .i64 0, .int .i64 0] 25 (0, 0)) (by (with_reducible repeat (first | refine blk_drewN ?_ _ | refine blk_drew ?_ | refine blk_alloc ?_ _)); exact BK121.out) NB121_0.out (by simp)); have n1_ := Aside0.mk (Kd.R_mono (Kd.R_keep (IsS67.apart (show IsS67 w0 _ g s0_0 t123 t124 from by repeat (first | (with_reducible first | exact HI0.out | apply IsS67.alloc | apply IsS67.drewN | apply IsS67.drew | apply IsS67.set_1 | apply IsS67.set_2 | refine IsS67.far ?_ NB0_121.out _) | exact HI0.out)) (by (with_reducible repeat (first | apply Kd.R_alloc | apply Kd.R_drewN | apply Kd.R_drew)); exact HO127.out) (by decide)) hk (fun _ h => h.2)) (fun _ h => h.1)); have n2_ := Aside0.mk (KeepBut.trans (by repeat (first | (with_reducible first | exact HK.out | apply KeepBut.set_ | apply keep_drewN | apply keep_drew | apply keep_alloc | refine keep_far ?_ GW121.out _) | exact HK.out)) hk (.inl rfl)); have n3_ := Aside0.mk (hb); have n4_ := Aside0.mk (hi); clear BK121; clear HO127; clear HK; clear HB; clear HI0; have BK121 := n0_; have HO127 := n1_; have HK := n2_; have HB := n3_; have HI0 := n4_; clear n0_ n1_ n2_ n3_ n4_; (try clear hb); (try clear hb2); (try clear hk); (try clear hi); obtain ⟨Ao21, co21, eo21⟩ := Kd.R_slice HO127.out; subst eo21; have p131 : 0 ≤ (t128 : Int) := of_decide_eq_true (by first | (with_reducible assumption) | assumption); have q131 : t128 < (y125.length : Int) := of_decide_eq_true (by first | (with_reducible assumption) | assumption); obtain ⟨ad131, e131, hx131_0⟩ := Kd.at_int (Kd.R_reads' HO127.out).2.2 t128 p131 q131; cases e131; replace p131 := eq_true p131; replace q131 := eq_true q131))
              have pi141 : (0 ≤ (t138 : Int)) = True := eq_true (of_decide_eq_true (by first | (with_reducible assumption) | assumption))
              have qi141 : (t138 < (y135.length : Int)) = True := eq_true (of_decide_eq_true (by first | (with_reducible assumption) | assumption))
              have pi157 : (0 ≤ (t154 : Int)) = True := eq_true (of_decide_eq_true (by first | (with_reducible assumption) | assumption))
              have qi157 : (t154 < (y151.length : Int)) = True := eq_true (of_decide_eq_true (by first | (with_reducible assumption) | assumption))
              have n0_ := Aside0.mk (Kd.R_drew HO127.out)
              have n1_ := Aside0.mk (blk_drew BK121.out)
              have n2_ := Aside0.mk (IsS67.drew HI0.out)
              have n3_ := Aside0.mk (keep_drew HK.out)
              have n4_ := Aside0.mk (below_drew1 HB.out)
              clear HO127
              clear BK121
              clear HI0
              clear HK
              clear HB
              have HO127 := n0_
              have BK121 := n1_
              have HI0 := n2_
              have HK := n3_
              have HB := n4_
              clear n0_ n1_ n2_ n3_ n4_
              refine start_ (n := 24) (S := fun w' => True) (ds := []) #[false, false, false, false, false, false, false, false, false, false, false, false, false, false, false, false, false, false, false, false, false, false, false, false] (by kernel_rfl) rfl rfl trivial (fun hHeld => ?_); refine with_tabW spec_l00Src_bucket.tab2 spec_l00Src_bucket.bits2 (fun HT_ HW_ => ?_)
              generalize w20.drew = w22 at HO127 BK121 HI0 HK HB hHeld ⊢
              refine pure_ (i := 0) (N := some 12) (v := ?_) (a' := ?_) #[true, false, false, false, false, false, false, false, false, false, false, false, false, false, false, false, false, false, false, false, false, false, false, false] rfl rfl (any_of HT_.out (by kernel_rfl)) (fun _ _ _ h => h) (Or.inl ⟨by rfl, ?_⟩) ?_ ?_
              rotate_left
              · intro w'
                go_simp
                with_reducible rfl
              rotate_left
              · simp only [Act.put, List.setIfInBounds_toArray, List.set_cons_zero, List.set_cons_succ, i64_w, i32_w]
                rfl
              refine pure_ (i := 3) (N := some 15) (v := ?_) (a' := ?_) #[true, false, false, true, false, false, false, false, false, false, false, false, false, false, false, false, false, false, false, false, false, false, false, false] rfl rfl (any_of HT_.out (by kernel_rfl)) (fun _ _ _ h => h) (Or.inl ⟨by rfl, ?_⟩) ?_ ?_
              rotate_left
              · intro w'
                go_simp
                with_reducible rfl
              rotate_left
              · simp only [Act.put, List.setIfInBounds_toArray, List.set_cons_zero, List.set_cons_succ, i64_w, i32_w]
                rfl
              refine pure_ (i := 7) (N := some 19) (v := ?_) (a' := ?_) #[true, false, false, true, false, false, false, true, false, false, false, false, false, false, false, false, false, false, false, false, false, false, false, false] rfl rfl (any_of HT_.out (by kernel_rfl)) (fun _ _ _ h => h) (Or.inl ⟨by rfl, ?_⟩) ?_ ?_
              rotate_left
              · intro w'
                go_simp
                with_reducible rfl
              rotate_left
              · simp only [Act.put, List.setIfInBounds_toArray, List.set_cons_zero, List.set_cons_succ, i64_w, i32_w]
                rfl
              refine pure_ (i := 8) (N := some 20) (v := ?_) (a' := ?_) #[true, false, false, true, false, false, false, true, true, false, false, false, false, false, false, false, false, false, false, false, false, false, false, false] rfl rfl (any_of HT_.out (by kernel_rfl)) (fun _ _ _ h => h) (Or.inl ⟨by rfl, ?_⟩) ?_ ?_
              rotate_left
              · intro w'
                go_simp
                with_reducible rfl
              rotate_left
              · simp only [Act.put, List.setIfInBounds_toArray, List.set_cons_zero, List.set_cons_succ, i64_w, i32_w]
                rfl
              refine pure_ (i := 9) (N := some 21) (v := ?_) (a' := ?_) #[true, false, false, true, false, false, false, true, true, true, false, false, false, false, false, false, false, false, false, false, false, false, false, false] rfl rfl (any_of HT_.out (by kernel_rfl)) (fun _ _ _ h => h) (Or.inl ⟨by rfl, ?_⟩) ?_ ?_
              rotate_left
              · intro w'
                go_simp
                with_reducible rfl
              rotate_left
              · simp only [Act.put, List.setIfInBounds_toArray, List.set_cons_zero, List.set_cons_succ, i64_w, i32_w]
                rfl
              refine pure_ (i := 12) (N := some 24) (v := ?_) (a' := ?_) #[true, false, false, true, false, false, false, true, true, true, false, false, true, false, false, false, false, false, false, false, false, false, false, false] rfl rfl (any_of HT_.out (by kernel_rfl)) (fun _ _ _ h => h) (Or.inl ⟨by rfl, ?_⟩) ?_ ?_
              rotate_left
              · intro w'
                go_simp
                with_reducible rfl
              rotate_left
              · simp only [Act.put, List.setIfInBounds_toArray, List.set_cons_zero, List.set_cons_succ, i64_w, i32_w]
                rfl
              refine pure_ (i := 14) (N := some 26) (v := ?_) (a' := ?_) #[true, false, false, true, false, false, false, true, true, true, false, false, true, false, true, false, false, false, false, false, false, false, false, false] rfl rfl (any_of HT_.out (by kernel_rfl)) (fun _ _ _ h => h) (Or.inl ⟨by rfl, ?_⟩) ?_ ?_
              rotate_left
              · intro w'
                go_simp
                with_reducible rfl
              rotate_left
              · simp only [Act.put, List.setIfInBounds_toArray, List.set_cons_zero, List.set_cons_succ, i64_w, i32_w]
                rfl
              refine pure_ (i := 18) (N := some 30) (v := ?_) (a' := ?_) #[true, false, false, true, false, false, false, true, true, true, false, false, true, false, true, false, false, false, true, false, false, false, false, false] rfl rfl (any_of HT_.out (by kernel_rfl)) (fun _ _ _ h => h) (Or.inl ⟨by rfl, ?_⟩) ?_ ?_
              rotate_left
              · intro w'
                go_simp
                with_reducible rfl
              rotate_left
              · simp only [Act.put, List.setIfInBounds_toArray, List.set_cons_zero, List.set_cons_succ, i64_w, i32_w]
                rfl
              refine inv_at [1, 2, 4, 5, 6, 10, 11, 13, 15, 16, 17, 19, 20, 21, 22, 23] (fun a0_ b a w' => ∃ (v136 : Value) (adz_v136 : Addr) (v152 : Value) (adz_v152 : Addr) (m5_ : Value) (m20_ : Value), a = putSel a0_ b [(1, 13, .int .i64 t132), (2, 14, v136), (4, 16, .int .i64 t138), (5, 17, m5_), (6, 18, .int .i64 (rd y135 t138)), (10, 22, .int .i64 (wrap64 ((rd y125 t128) + 1))), (11, 23, .int .i64 t142), (13, 25, .int .i64 t145), (15, 27, .int .i64 t148), (16, 28, .int .i64 (wrap64 (1000000 - t148))), (17, 29, v152), (19, 31, .int .i64 t154), (20, 32, m20_), (21, 33, .int .i64 (rd y151 t154)), (22, 34, .agg #[.int .i64 (rd y135 t138), .int .i64 (rd y125 t128), .int .i64 t142, .int .i64 (rd y151 t154)])] ∧ (Kd.R (Kd.int .i64) 3 w' w.heap.size (fun _ => True) (.slice (some ad131) y125.length co21) y125) ∧ (b 23 = false → w'.heap[gb121]? = some (.cells #[.int .i64 0, .int .i64 0, .int .i64 0, .int .i64 0] 25 (0, 0))) ∧ (b 1 = false → IsS67 w0 w' g s0_0 t129 t130) ∧ (KeepBut w w' g none) ∧ (Below w0.heap.size w0 w') ∧ (b 1 = true → b 4 = false → IsS67 w0 w' g s0_0 t133 t134) ∧ (b 2 = true → Kd.R (Kd.int .i64) 3 w' w.heap.size (fun k_ => some k_ ≠ (.slice (some ad131) y125.length co21 : Value).ownBlock) v136 y135) ∧ (b 2 = true → ∃ c_, (v136 : Value) = .slice (some adz_v136) y135.length c_) ∧ (b 4 = true → b 11 = false → IsS67 w0 w' g s0_0 t139 t140) ∧ (b 11 = true → b 13 = false → IsS67 w0 w' g s0_0 t143 t144) ∧ (b 13 = true → b 15 = false → IsS67 w0 w' g s0_0 t146 t147) ∧ (b 15 = true → b 19 = false → IsS67 w0 w' g s0_0 t149 t150) ∧ (b 17 = true → Kd.R (Kd.int .i64) 3 w' w.heap.size (fun k_ => some k_ ≠ (.slice (some ad131) y125.length co21 : Value).ownBlock) v152 y151) ∧ (b 17 = true → ∃ c_, (v152 : Value) = .slice (some adz_v152) y151.length c_) ∧ (b 19 = true → IsS67 w0 w' g s0_0 t155 t156) ∧ (b 23 = true → w'.heap[gb121]? = some (.cells #[.int .i64 (rd y135 t138), .int .i64 (rd y125 t128), .int .i64 t142, .int .i64 (rd y151 t154)] 25 (0, 0))) ∧ (b 5 = true → (m5_ : Value) = .pointer (some (adz_v136.add (t138).toNat))) ∧ (b 20 = true → (m20_ : Value) = .pointer (some (adz_v152.add (t154).toNat)))) HT_.out HW_.out (by kernel_rfl) (by kernel_rfl) ?_ ?_ ?_
              · exact ⟨.bool false, ⟨0, 0, none⟩, .bool false, ⟨0, 0, none⟩, .bool false, .bool false, by simp only [putSel, Bool.false_eq_true, if_false], HO127.out, fun _ => BK121.out, fun _ => HI0.out, HK.out, HB.out, fun h_ => absurd h_ (by decide), fun h_ => absurd h_ (by decide), fun h_ => absurd h_ (by decide), fun h_ => absurd h_ (by decide), fun h_ => absurd h_ (by decide), fun h_ => absurd h_ (by decide), fun h_ => absurd h_ (by decide), fun h_ => absurd h_ (by decide), fun h_ => absurd h_ (by decide), fun h_ => absurd h_ (by decide), fun h_ => absurd h_ (by decide), fun h_ => absurd h_ (by decide), fun h_ => absurd h_ (by decide)⟩
              · skip
                clear BK121 HB HI0 HK HO127
                refine steps_cons ?_ ?_
                · rintro b a w' ⟨v136, adz_v136, v152, adz_v152, m5_, m20_, ha, Q_HO127, Q_BK121, Q_HI0, Q_HK, Q_HB, Q_HI0_e1, Q_HO137, Q_HA_HO137, Q_HI0_e4, Q_HI0_e11, Q_HI0_e13, Q_HI0_e15, Q_HO153, Q_HA_HO153, Q_HI0_e19, Q_BK121_e23, Q_X5_, Q_X20_⟩ hb_ hon hoff
                  refine ⟨_, rfl, fun K hK => ?_⟩
                  have e12 : a.tmps[12]? = some (.pointer (some ⟨g, 0, none⟩)) := by rw [ha]; exact (putSel_off rfl).trans rfl
                  replace ha := Aside0.mk ha
                  have HO127 := Aside0.mk Q_HO127
                  have BK121 := Aside0.mk (Q_BK121 (hoff 23 (by kernel_rfl)))
                  have HI0 := Aside0.mk (Q_HI0 hb_)
                  have HK := Aside0.mk Q_HK
                  have HB := Aside0.mk Q_HB
                  refine goes_ Try.func48 (by kernel_rfl) rfl #[.pointer (some ⟨g, 0, none⟩), .int .i64 5] (by rfl) rfl rfl (by first | (simp only [List.map_toArray, List.map_cons, List.map_nil, Act.eval, Array.getD_eq_getD_getElem?, Option.getD_some, e12]; done) | (simp only [List.map_toArray, List.map_cons, List.map_nil, Act.eval, Array.getD_eq_getD_getElem?, Option.getD_some, e12]; rfl)) ?_
                  with_reducible refine (spec_l00Src_next.calls g s0_0 t129 t130 5 t132 t133 t134 w0 _ ?side1 ?side2 A6.out).mono ?_
                  (case side1 => repeat (first | (with_reducible first | exact HI0.out | apply IsS67.alloc | apply IsS67.drewN | apply IsS67.drew | apply IsS67.set_1 | apply IsS67.set_2 | refine IsS67.far ?_ NB0_121.out _) | exact HI0.out))
                  (case side2 => repeat (first | (with_reducible first | exact HB.out | apply below_alloc | apply pw_below_drewN | apply below_drew1 | refine below_set ?_ (IsS67.ge HI0.out) | refine below_set ?_ GE121.out) | exact HB.out))
                  rintro e w23 ⟨rfl, hi, hb, hk⟩
                  refine ⟨_, rfl, ?_⟩
                  have n0_ := Aside0.mk (KeepBut.blk hk (g' := gb121) (o := .cells #[.int .i64 0, .int .i64 0, .int .i64 0, .int .i64 0] 25 (0, 0)) (by (with_reducible repeat (first | refine blk_drewN ?_ _ | refine blk_drew ?_ | refine blk_alloc ?_ _)); exact BK121.out) NB121_0.out (by simp))
                  have n1_ := Aside0.mk (Kd.R_mono (Kd.R_keep (IsS67.apart (show IsS67 w0 _ g s0_0 t129 t130 from by repeat (first | (with_reducible first | exact HI0.out | apply IsS67.alloc | apply IsS67.drewN | apply IsS67.drew | apply IsS67.set_1 | apply IsS67.set_2 | refine IsS67.far ?_ NB0_121.out _) | exact HI0.out)) (by (with_reducible repeat (first | apply Kd.R_alloc | apply Kd.R_drewN | apply Kd.R_drew)); exact HO127.out) (by decide)) hk (fun _ h => h.2)) (fun _ h => h.1))
                  have n2_ := Aside0.mk (KeepBut.trans (by repeat (first | (with_reducible first | exact HK.out | apply KeepBut.set_ | apply keep_drewN | apply keep_drew | apply keep_alloc | refine keep_far ?_ GW121.out _) | exact HK.out)) hk (.inl rfl))
                  have n3_ := Aside0.mk (hb)
                  have n4_ := Aside0.mk (hi)
                  clear BK121
                  clear HO127
                  clear HK
                  clear HB
                  clear HI0
                  have BK121 := n0_
                  have HO127 := n1_
                  have HK := n2_
                  have HB := n3_
                  have HI0 := n4_
                  clear n0_ n1_ n2_ n3_ n4_
                  (try clear hb)
                  (try clear hb2)
                  (try clear hk)
                  (try clear hi)
                  refine hK.out _ _ ⟨v136, adz_v136, v152, adz_v152, m5_, m20_, (by rw [ha.out]; exact putSel_upk 0 hb_ rfl rfl rfl), (by (with_reducible repeat (first | apply Kd.R_alloc | apply Kd.R_drewN | apply Kd.R_drew)); exact HO127.out), fun _ => (by (with_reducible repeat (first | refine blk_drewN ?_ _ | refine blk_drew ?_ | refine blk_alloc ?_ _)); exact BK121.out), fun h0_ => absurd ((up_self b 1).symm.trans h0_) (by decide), (by repeat (first | (with_reducible first | exact HK.out | apply KeepBut.set_ | apply keep_drewN | apply keep_drew | apply keep_alloc | refine keep_far ?_ GW121.out _) | exact HK.out)), (by repeat (first | (with_reducible first | exact HB.out | apply below_alloc | apply pw_below_drewN | apply below_drew1 | refine below_set ?_ (IsS67.ge HI0.out) | refine below_set ?_ GE121.out) | exact HB.out)), fun _ _ => (by repeat (first | (with_reducible first | exact HI0.out | apply IsS67.alloc | apply IsS67.drewN | apply IsS67.drew | apply IsS67.set_1 | apply IsS67.set_2 | refine IsS67.far ?_ NB0_121.out _) | exact HI0.out)), fun h0_ => absurd ((hoff 2 (by kernel_rfl)).symm.trans h0_) (by decide), fun h0_ => absurd ((hoff 2 (by kernel_rfl)).symm.trans h0_) (by decide), fun h0_ _ => absurd ((hoff 4 (by kernel_rfl)).symm.trans h0_) (by decide), fun h0_ _ => absurd ((hoff 11 (by kernel_rfl)).symm.trans h0_) (by decide), fun h0_ _ => absurd ((hoff 13 (by kernel_rfl)).symm.trans h0_) (by decide), fun h0_ _ => absurd ((hoff 15 (by kernel_rfl)).symm.trans h0_) (by decide), fun h0_ => absurd ((hoff 17 (by kernel_rfl)).symm.trans h0_) (by decide), fun h0_ => absurd ((hoff 17 (by kernel_rfl)).symm.trans h0_) (by decide), fun h0_ => absurd ((hoff 19 (by kernel_rfl)).symm.trans h0_) (by decide), fun h0_ => absurd ((hoff 23 (by kernel_rfl)).symm.trans h0_) (by decide), fun h0_ => absurd ((hoff 5 (by kernel_rfl)).symm.trans h0_) (by decide), fun h0_ => absurd ((hoff 20 (by kernel_rfl)).symm.trans h0_) (by decide)⟩
                refine steps_cons ?_ ?_
                · rintro b a w' ⟨v136, adz_v136, v152, adz_v152, m5_, m20_, ha, Q_HO127, Q_BK121, Q_HI0, Q_HK, Q_HB, Q_HI0_e1, Q_HO137, Q_HA_HO137, Q_HI0_e4, Q_HI0_e11, Q_HI0_e13, Q_HI0_e15, Q_HO153, Q_HA_HO153, Q_HI0_e19, Q_BK121_e23, Q_X5_, Q_X20_⟩ hb_ hon hoff
                  refine ⟨_, rfl, fun K hK => ?_⟩
                  have e13 : a.tmps[13]? = some (.int .i64 t132) := by rw [ha]; exact putSel_on (e := (1, 13, .int .i64 t132)) 0 rfl rfl (hon 1 (by kernel_rfl)) rfl
                  replace ha := Aside0.mk ha
                  have HO127 := Aside0.mk Q_HO127
                  have BK121 := Aside0.mk (Q_BK121 (hoff 23 (by kernel_rfl)))
                  have HK := Aside0.mk Q_HK
                  have HB := Aside0.mk Q_HB
                  refine Kd.R_lit_step (Kd.int .i64) _ 3 ?hg (N := 14) ?hd (xs := ([t132, 0, 1000] : List Int)) (inner := [.int .i64 t132, .int .i64 0, .int .i64 1000]) (ok := fun _ => True) (okp := fun _ => True) ?hr ?hp (fun _ hk => hk) trivial (Below.refl _ _) (Nat.le_refl _) (by simp) ?_; (case hd => rfl); (case hg => rfl); (case hr => first | (go_simp; done) | (go_simp; rfl)); (case hp => exact (Reps.one (show Kd.M (Kd.int .i64) _ _ _ t132 [.int .i64 t132] from rfl) (Reps.one (show Kd.M (Kd.int .i64) _ _ _ 0 [.int .i64 0] from rfl) (Reps.one (show Kd.M (Kd.int .i64) _ _ _ 1000 [.int .i64 1000] from rfl) (Reps.none _ _)))))
                  intro v136 w25 ho26 hb hg_ hnew_
                  clear hg_ hnew_
                  (first | rw [← Ny135.out] at ho26 | (simp only [Int.reduceToNat] at ho26; rw [← Ny135.out] at ho26))
                  have n0_ := Aside0.mk (Kd.R_elder' (by (with_reducible repeat (first | apply Kd.R_alloc | apply Kd.R_drewN | apply Kd.R_drew)); exact HO127.out) (Kd.R_base ho26) hb)
                  have n1_ := Aside0.mk (Kd.R_lower (Kd.R_new' ho26 (Kd.R_lt (by (with_reducible repeat (first | apply Kd.R_alloc | apply Kd.R_drewN | apply Kd.R_drew)); exact HO127.out))) (keep_size (w := w) (g := g) (row := none) (by repeat (first | (with_reducible first | exact HK.out | apply KeepBut.set_ | apply keep_drewN | apply keep_drew | apply keep_alloc | refine keep_far ?_ GW121.out _) | exact HK.out))))
                  have n3_ := Aside0.mk (blk_below (g := gb121) (o := .cells #[.int .i64 0, .int .i64 0, .int .i64 0, .int .i64 0] 25 (0, 0)) (by (with_reducible repeat (first | refine blk_drewN ?_ _ | refine blk_drew ?_ | refine blk_alloc ?_ _)); exact BK121.out) hb)
                  have n4_ := Aside0.mk (KeepBut.trans (by repeat (first | (with_reducible first | exact HK.out | apply KeepBut.set_ | apply keep_drewN | apply keep_drew | apply keep_alloc | refine keep_far ?_ GW121.out _) | exact HK.out)) (KeepBut.of_below hb g none) (.inl rfl))
                  have n5_ := Aside0.mk (below_step (by repeat (first | (with_reducible first | exact HB.out | apply below_alloc | apply pw_below_drewN | apply below_drew1 | refine below_set ?_ GE121.out) | exact HB.out)) hb)
                  have z_HI0_e1 := fun (h0_ : b 1 = true) (h1_ : b 4 = false) => (show IsS67 w0 w25 g s0_0 t133 t134 from by first | exact (IsS67.below (by repeat (first | (with_reducible first | exact (Q_HI0_e1 h0_ h1_) | apply IsS67.alloc | apply IsS67.drewN | apply IsS67.drew | apply IsS67.set_1 | apply IsS67.set_2 | refine IsS67.far ?_ NB0_121.out _) | exact (Q_HI0_e1 h0_ h1_))) hb))
                  have z_HI0_e4 := fun (h0_ : b 4 = true) (h1_ : b 11 = false) => (show IsS67 w0 w25 g s0_0 t139 t140 from by first | exact (IsS67.below (by repeat (first | (with_reducible first | exact (Q_HI0_e4 h0_ h1_) | apply IsS67.alloc | apply IsS67.drewN | apply IsS67.drew | apply IsS67.set_1 | apply IsS67.set_2 | refine IsS67.far ?_ NB0_121.out _) | exact (Q_HI0_e4 h0_ h1_))) hb))
                  have z_HI0_e11 := fun (h0_ : b 11 = true) (h1_ : b 13 = false) => (show IsS67 w0 w25 g s0_0 t143 t144 from by first | exact (IsS67.below (by repeat (first | (with_reducible first | exact (Q_HI0_e11 h0_ h1_) | apply IsS67.alloc | apply IsS67.drewN | apply IsS67.drew | apply IsS67.set_1 | apply IsS67.set_2 | refine IsS67.far ?_ NB0_121.out _) | exact (Q_HI0_e11 h0_ h1_))) hb))
                  have z_HI0_e13 := fun (h0_ : b 13 = true) (h1_ : b 15 = false) => (show IsS67 w0 w25 g s0_0 t146 t147 from by first | exact (IsS67.below (by repeat (first | (with_reducible first | exact (Q_HI0_e13 h0_ h1_) | apply IsS67.alloc | apply IsS67.drewN | apply IsS67.drew | apply IsS67.set_1 | apply IsS67.set_2 | refine IsS67.far ?_ NB0_121.out _) | exact (Q_HI0_e13 h0_ h1_))) hb))
                  have z_HI0_e15 := fun (h0_ : b 15 = true) (h1_ : b 19 = false) => (show IsS67 w0 w25 g s0_0 t149 t150 from by first | exact (IsS67.below (by repeat (first | (with_reducible first | exact (Q_HI0_e15 h0_ h1_) | apply IsS67.alloc | apply IsS67.drewN | apply IsS67.drew | apply IsS67.set_1 | apply IsS67.set_2 | refine IsS67.far ?_ NB0_121.out _) | exact (Q_HI0_e15 h0_ h1_))) hb))
                  have z_HO153 := fun (h0_ : b 17 = true) => (show Kd.R (Kd.int .i64) 3 w25 w.heap.size (fun k_ => some k_ ≠ (.slice (some ad131) y125.length co21 : Value).ownBlock) v152 y151 from by first | exact (Kd.R_elder' (by (with_reducible repeat (first | apply Kd.R_alloc | apply Kd.R_drewN | apply Kd.R_drew)); exact (Q_HO153 h0_)) (Kd.R_base ho26) hb) | exact Kd.R_mono (Kd.R_elder' (by (with_reducible repeat (first | apply Kd.R_alloc | apply Kd.R_drewN | apply Kd.R_drew)); exact (Q_HO153 h0_)) (Kd.R_base ho26) hb) (fun _ h_ => by first | trivial | exact h_ | exact h_.1))
                  have z_HI0_e19 := fun (h0_ : b 19 = true) => (show IsS67 w0 w25 g s0_0 t155 t156 from by first | exact (IsS67.below (by repeat (first | (with_reducible first | exact (Q_HI0_e19 h0_) | apply IsS67.alloc | apply IsS67.drewN | apply IsS67.drew | apply IsS67.set_1 | apply IsS67.set_2 | refine IsS67.far ?_ NB0_121.out _) | exact (Q_HI0_e19 h0_))) hb))
                  clear HO127
                  clear BK121
                  clear HK
                  clear HB
                  have HO127 := n0_
                  have HO137 := n1_
                  have BK121 := n3_
                  have HK := n4_
                  have HB := n5_
                  clear n0_ n1_ n3_ n4_ n5_
                  clear hb ho26
                  obtain ⟨Ao27, co27, eo27⟩ := Kd.R_slice HO137.out
                  subst eo27
                  obtain ⟨ado27, fo27, _⟩ := Kd.at_int (Kd.R_reads' HO137.out).2.2 0 (by decide) (by rw [Ny135.out]; simp)
                  cases fo27
                  refine hK.out _ _ ⟨.slice (some ado27) y135.length co27, ado27, v152, adz_v152, m5_, m20_, (by rw [ha.out]; exact putSel_upk 1 hb_ rfl rfl rfl), (by (with_reducible repeat (first | apply Kd.R_alloc | apply Kd.R_drewN | apply Kd.R_drew)); exact Kd.R_mono HO127.out (fun _ hk => by first | exact hk.2 | exact trivial | exact hk.1.2 | exact ⟨hk.1.1, hk.1.2⟩ | exact hk.1 | exact hk | (simp_all; done))), fun _ => (by (with_reducible repeat (first | refine blk_drewN ?_ _ | refine blk_drew ?_ | refine blk_alloc ?_ _)); exact BK121.out), fun h0_ => absurd ((hon 1 (by kernel_rfl)).symm.trans h0_) (by decide), (by repeat (first | (with_reducible first | exact HK.out | apply KeepBut.set_ | apply keep_drewN | apply keep_drew | apply keep_alloc | refine keep_far ?_ GW121.out _) | exact HK.out)), (by repeat (first | (with_reducible first | exact HB.out | apply below_alloc | apply pw_below_drewN | apply below_drew1 | refine below_set ?_ GE121.out) | exact HB.out)), z_HI0_e1, fun _ => (by (with_reducible repeat (first | apply Kd.R_alloc | apply Kd.R_drewN | apply Kd.R_drew)); exact Kd.R_mono HO137.out (fun _ hk => by first | exact hk.2 | exact trivial | exact hk.1.2 | exact ⟨hk.1.1, hk.1.2⟩ | exact hk.1 | exact hk | (simp_all; done))), fun _ => ⟨_, rfl⟩, z_HI0_e4, z_HI0_e11, z_HI0_e13, z_HI0_e15, z_HO153, Q_HA_HO153, z_HI0_e19, fun h0_ => absurd ((hoff 23 (by kernel_rfl)).symm.trans h0_) (by decide), fun h0_ => absurd ((hoff 5 (by kernel_rfl)).symm.trans h0_) (by decide), Q_X20_⟩
                refine steps_cons ?_ ?_
                · rintro b a w' ⟨v136, adz_v136, v152, adz_v152, m5_, m20_, ha, Q_HO127, Q_BK121, Q_HI0, Q_HK, Q_HB, Q_HI0_e1, Q_HO137, Q_HA_HO137, Q_HI0_e4, Q_HI0_e11, Q_HI0_e13, Q_HI0_e15, Q_HO153, Q_HA_HO153, Q_HI0_e19, Q_BK121_e23, Q_X5_, Q_X20_⟩ hb_ hon hoff
                  refine ⟨_, rfl, fun K hK => ?_⟩
                  have e15 : a.tmps[15]? = some (.pointer (some ⟨g, 0, none⟩)) := by rw [ha]; exact (putSel_off rfl).trans rfl
                  replace ha := Aside0.mk ha
                  have HO127 := Aside0.mk Q_HO127
                  have BK121 := Aside0.mk (Q_BK121 (hoff 23 (by kernel_rfl)))
                  have HK := Aside0.mk Q_HK
                  have HB := Aside0.mk Q_HB
                  have HI0 := Aside0.mk (Q_HI0_e1 (hon 1 (by kernel_rfl)) hb_)
                  refine goes_ Try.func48 (by kernel_rfl) rfl #[.pointer (some ⟨g, 0, none⟩), .int .i64 3] (by rfl) rfl rfl (by first | (simp only [List.map_toArray, List.map_cons, List.map_nil, Act.eval, Array.getD_eq_getD_getElem?, Option.getD_some, e15]; done) | (simp only [List.map_toArray, List.map_cons, List.map_nil, Act.eval, Array.getD_eq_getD_getElem?, Option.getD_some, e15]; rfl)) ?_
                  with_reducible refine (spec_l00Src_next.calls g s0_0 t133 t134 3 t138 t139 t140 w0 _ ?side1 ?side2 A7.out).mono ?_
                  (case side1 => repeat (first | (with_reducible first | exact HI0.out | apply IsS67.alloc | apply IsS67.drewN | apply IsS67.drew | apply IsS67.set_1 | apply IsS67.set_2 | refine IsS67.far ?_ NB0_121.out _) | exact HI0.out))
                  (case side2 => repeat (first | (with_reducible first | exact HB.out | apply below_alloc | apply pw_below_drewN | apply below_drew1 | refine below_set ?_ (IsS67.ge HI0.out) | refine below_set ?_ GE121.out) | exact HB.out))
                  rintro e w25 ⟨rfl, hi, hb, hk⟩
                  refine ⟨_, rfl, ?_⟩
                  have n0_ := Aside0.mk (KeepBut.blk hk (g' := gb121) (o := .cells #[.int .i64 0, .int .i64 0, .int .i64 0, .int .i64 0] 25 (0, 0)) (by (with_reducible repeat (first | refine blk_drewN ?_ _ | refine blk_drew ?_ | refine blk_alloc ?_ _)); exact BK121.out) NB121_0.out (by simp))
                  have n1_ := Aside0.mk (Kd.R_mono (Kd.R_keep (IsS67.apart (show IsS67 w0 _ g s0_0 t133 t134 from by repeat (first | (with_reducible first | exact HI0.out | apply IsS67.alloc | apply IsS67.drewN | apply IsS67.drew | apply IsS67.set_1 | apply IsS67.set_2 | refine IsS67.far ?_ NB0_121.out _) | exact HI0.out)) (by (with_reducible repeat (first | apply Kd.R_alloc | apply Kd.R_drewN | apply Kd.R_drew)); exact HO127.out) (by decide)) hk (fun _ h => h.2)) (fun _ h => h.1))
                  have n2_ := Aside0.mk (KeepBut.trans (by repeat (first | (with_reducible first | exact HK.out | apply KeepBut.set_ | apply keep_drewN | apply keep_drew | apply keep_alloc | refine keep_far ?_ GW121.out _) | exact HK.out)) hk (.inl rfl))
                  have n3_ := Aside0.mk (hb)
                  have n4_ := Aside0.mk (hi)
                  have z_HO137 := fun (h0_ : b 2 = true) => (show Kd.R (Kd.int .i64) 3 w25 w.heap.size (fun k_ => some k_ ≠ (.slice (some ad131) y125.length co21 : Value).ownBlock) v136 y135 from by first | exact (Kd.R_mono (Kd.R_keep (IsS67.apart (show IsS67 w0 _ g s0_0 t133 t134 from by repeat (first | (with_reducible first | exact HI0.out | apply IsS67.alloc | apply IsS67.drewN | apply IsS67.drew | apply IsS67.set_1 | apply IsS67.set_2 | refine IsS67.far ?_ NB0_121.out _) | exact HI0.out)) (by (with_reducible repeat (first | apply Kd.R_alloc | apply Kd.R_drewN | apply Kd.R_drew)); exact (Q_HO137 h0_)) (by decide)) hk (fun _ h => h.2)) (fun _ h => h.1)) | exact Kd.R_mono (Kd.R_mono (Kd.R_keep (IsS67.apart (show IsS67 w0 _ g s0_0 t133 t134 from by repeat (first | (with_reducible first | exact HI0.out | apply IsS67.alloc | apply IsS67.drewN | apply IsS67.drew | apply IsS67.set_1 | apply IsS67.set_2 | refine IsS67.far ?_ NB0_121.out _) | exact HI0.out)) (by (with_reducible repeat (first | apply Kd.R_alloc | apply Kd.R_drewN | apply Kd.R_drew)); exact (Q_HO137 h0_)) (by decide)) hk (fun _ h => h.2)) (fun _ h => h.1)) (fun _ h_ => by first | trivial | exact h_ | exact h_.1))
                  clear BK121
                  clear HO127
                  clear HK
                  clear HB
                  clear HI0
                  have BK121 := n0_
                  have HO127 := n1_
                  have HK := n2_
                  have HB := n3_
                  have HI0 := n4_
                  clear n0_ n1_ n2_ n3_ n4_
                  (try clear hb)
                  (try clear hb2)
                  (try clear hk)
                  (try clear hi)
                  refine hK.out _ _ ⟨v136, adz_v136, v152, adz_v152, m5_, m20_, (by rw [ha.out]; exact putSel_upk 2 hb_ rfl rfl rfl), (by (with_reducible repeat (first | apply Kd.R_alloc | apply Kd.R_drewN | apply Kd.R_drew)); exact HO127.out), fun _ => (by (with_reducible repeat (first | refine blk_drewN ?_ _ | refine blk_drew ?_ | refine blk_alloc ?_ _)); exact BK121.out), fun h0_ => absurd ((hon 1 (by kernel_rfl)).symm.trans h0_) (by decide), (by repeat (first | (with_reducible first | exact HK.out | apply KeepBut.set_ | apply keep_drewN | apply keep_drew | apply keep_alloc | refine keep_far ?_ GW121.out _) | exact HK.out)), (by repeat (first | (with_reducible first | exact HB.out | apply below_alloc | apply pw_below_drewN | apply below_drew1 | refine below_set ?_ (IsS67.ge HI0.out) | refine below_set ?_ GE121.out) | exact HB.out)), fun _ h1_ => absurd ((up_self b 4).symm.trans h1_) (by decide), z_HO137, Q_HA_HO137, fun _ _ => (by repeat (first | (with_reducible first | exact HI0.out | apply IsS67.alloc | apply IsS67.drewN | apply IsS67.drew | apply IsS67.set_1 | apply IsS67.set_2 | refine IsS67.far ?_ NB0_121.out _) | exact HI0.out)), fun h0_ _ => absurd ((hoff 11 (by kernel_rfl)).symm.trans h0_) (by decide), fun h0_ _ => absurd ((hoff 13 (by kernel_rfl)).symm.trans h0_) (by decide), fun h0_ _ => absurd ((hoff 15 (by kernel_rfl)).symm.trans h0_) (by decide), fun h0_ => absurd ((hoff 17 (by kernel_rfl)).symm.trans h0_) (by decide), fun h0_ => absurd ((hoff 17 (by kernel_rfl)).symm.trans h0_) (by decide), fun h0_ => absurd ((hoff 19 (by kernel_rfl)).symm.trans h0_) (by decide), fun h0_ => absurd ((hoff 23 (by kernel_rfl)).symm.trans h0_) (by decide), fun h0_ => absurd ((hoff 5 (by kernel_rfl)).symm.trans h0_) (by decide), fun h0_ => absurd ((hoff 20 (by kernel_rfl)).symm.trans h0_) (by decide)⟩
                refine steps_cons ?_ ?_
                · rintro b a w' ⟨v136, adz_v136, v152, adz_v152, m5_, m20_, ha, Q_HO127, Q_BK121, Q_HI0, Q_HK, Q_HB, Q_HI0_e1, Q_HO137, Q_HA_HO137, Q_HI0_e4, Q_HI0_e11, Q_HI0_e13, Q_HI0_e15, Q_HO153, Q_HA_HO153, Q_HI0_e19, Q_BK121_e23, Q_X5_, Q_X20_⟩ hb_ hon hoff
                  refine ⟨_, rfl, fun K hK => ?_⟩
                  have e14 : a.tmps[14]? = some (v136) := by rw [ha]; exact putSel_on (e := (2, 14, v136)) 1 rfl rfl (hon 2 (by kernel_rfl)) rfl
                  have e16 : a.tmps[16]? = some (.int .i64 t138) := by rw [ha]; exact putSel_on (e := (4, 16, .int .i64 t138)) 2 rfl rfl (hon 4 (by kernel_rfl)) rfl
                  replace ha := Aside0.mk ha
                  have HO127 := Aside0.mk Q_HO127
                  have BK121 := Aside0.mk (Q_BK121 (hoff 23 (by kernel_rfl)))
                  have HK := Aside0.mk Q_HK
                  have HB := Aside0.mk Q_HB
                  have HO137 := Aside0.mk (Q_HO137 (hon 2 (by kernel_rfl)))
                  have HA_HO137 := Aside0.mk (Q_HA_HO137 (hon 2 (by kernel_rfl)))
                  obtain ⟨c_, hv_⟩ := HA_HO137.out
                  rw [hv_] at e14
                  refine value_ (w1 := w') (v := .pointer (some (adz_v136.add (t138).toNat))) (by rfl) rfl ?_ ?_
                  · go_simp
                    (try simp only [i64_w])
                    try rfl
                  refine hK.out _ _ ⟨v136, adz_v136, v152, adz_v152, (.pointer (some (adz_v136.add (t138).toNat))), m20_, (by rw [ha.out]; exact putSel_upk 3 hb_ rfl rfl rfl), Q_HO127, Q_BK121, fun h0_ => absurd ((hon 1 (by kernel_rfl)).symm.trans h0_) (by decide), Q_HK, Q_HB, fun _ h1_ => absurd ((hon 4 (by kernel_rfl)).symm.trans h1_) (by decide), Q_HO137, Q_HA_HO137, Q_HI0_e4, Q_HI0_e11, Q_HI0_e13, Q_HI0_e15, Q_HO153, Q_HA_HO153, Q_HI0_e19, fun h0_ => absurd ((hoff 23 (by kernel_rfl)).symm.trans h0_) (by decide), fun _ => rfl, Q_X20_⟩
                refine steps_cons ?_ ?_
                · rintro b a w' ⟨v136, adz_v136, v152, adz_v152, m5_, m20_, ha, Q_HO127, Q_BK121, Q_HI0, Q_HK, Q_HB, Q_HI0_e1, Q_HO137, Q_HA_HO137, Q_HI0_e4, Q_HI0_e11, Q_HI0_e13, Q_HI0_e15, Q_HO153, Q_HA_HO153, Q_HI0_e19, Q_BK121_e23, Q_X5_, Q_X20_⟩ hb_ hon hoff
                  refine ⟨_, rfl, fun K hK => ?_⟩
                  have e17 : a.tmps[17]? = some (m5_) := by rw [ha]; exact putSel_on (e := (5, 17, m5_)) 3 rfl rfl (hon 5 (by kernel_rfl)) rfl
                  rw [Q_X5_ (hon 5 (by kernel_rfl))] at e17
                  replace ha := Aside0.mk ha
                  have HO127 := Aside0.mk Q_HO127
                  have BK121 := Aside0.mk (Q_BK121 (hoff 23 (by kernel_rfl)))
                  have HK := Aside0.mk Q_HK
                  have HB := Aside0.mk Q_HB
                  have HO137 := Aside0.mk (Q_HO137 (hon 2 (by kernel_rfl)))
                  have HA_HO137 := Aside0.mk (Q_HA_HO137 (hon 2 (by kernel_rfl)))
                  obtain ⟨c_, hv_⟩ := HA_HO137.out
                  have hF_ := HO137.out
                  rw [hv_] at hF_
                  obtain ⟨ad_, ea_, hx_⟩ := Kd.at_int (Kd.R_reads' hF_).2.2 t138 (of_eq_true pi141) (of_eq_true qi141)
                  cases ea_
                  refine value_ (w1 := w') (v := .int .i64 (rd y135 t138)) (by rfl) rfl ?_ ?_
                  · go_simp
                    (try simp only [i64_w])
                    try rfl
                  refine hK.out _ _ ⟨v136, adz_v136, v152, adz_v152, m5_, m20_, (by rw [ha.out]; exact putSel_upk 4 hb_ rfl rfl rfl), Q_HO127, Q_BK121, fun h0_ => absurd ((hon 1 (by kernel_rfl)).symm.trans h0_) (by decide), Q_HK, Q_HB, fun _ h1_ => absurd ((hon 4 (by kernel_rfl)).symm.trans h1_) (by decide), Q_HO137, Q_HA_HO137, Q_HI0_e4, Q_HI0_e11, Q_HI0_e13, Q_HI0_e15, Q_HO153, Q_HA_HO153, Q_HI0_e19, fun h0_ => absurd ((hoff 23 (by kernel_rfl)).symm.trans h0_) (by decide), Q_X5_, Q_X20_⟩
                refine steps_cons ?_ ?_
                · rintro b a w' ⟨v136, adz_v136, v152, adz_v152, m5_, m20_, ha, Q_HO127, Q_BK121, Q_HI0, Q_HK, Q_HB, Q_HI0_e1, Q_HO137, Q_HA_HO137, Q_HI0_e4, Q_HI0_e11, Q_HI0_e13, Q_HI0_e15, Q_HO153, Q_HA_HO153, Q_HI0_e19, Q_BK121_e23, Q_X5_, Q_X20_⟩ hb_ hon hoff
                  refine ⟨_, rfl, fun K hK => ?_⟩
                  have e21 : a.tmps[21]? = some (.int .i64 (rd y125 t128)) := by rw [ha]; exact (putSel_off rfl).trans rfl
                  replace ha := Aside0.mk ha
                  have HO127 := Aside0.mk Q_HO127
                  have BK121 := Aside0.mk (Q_BK121 (hoff 23 (by kernel_rfl)))
                  have HK := Aside0.mk Q_HK
                  have HB := Aside0.mk Q_HB
                  refine value_ (w1 := w') (v := .int .i64 (wrap64 ((rd y125 t128) + 1))) (by rfl) rfl ?_ ?_
                  · go_simp
                    (try simp only [i64_w])
                    try rfl
                  refine hK.out _ _ ⟨v136, adz_v136, v152, adz_v152, m5_, m20_, (by rw [ha.out]; exact putSel_upk 5 hb_ rfl rfl rfl), Q_HO127, Q_BK121, Q_HI0, Q_HK, Q_HB, Q_HI0_e1, Q_HO137, Q_HA_HO137, Q_HI0_e4, fun h0_ _ => absurd ((hoff 11 (by kernel_rfl)).symm.trans h0_) (by decide), fun h0_ _ => absurd ((hoff 13 (by kernel_rfl)).symm.trans h0_) (by decide), fun h0_ _ => absurd ((hoff 15 (by kernel_rfl)).symm.trans h0_) (by decide), fun h0_ => absurd ((hoff 17 (by kernel_rfl)).symm.trans h0_) (by decide), fun h0_ => absurd ((hoff 17 (by kernel_rfl)).symm.trans h0_) (by decide), fun h0_ => absurd ((hoff 19 (by kernel_rfl)).symm.trans h0_) (by decide), fun h0_ => absurd ((hoff 23 (by kernel_rfl)).symm.trans h0_) (by decide), Q_X5_, fun h0_ => absurd ((hoff 20 (by kernel_rfl)).symm.trans h0_) (by decide)⟩
                refine steps_cons ?_ ?_
                · rintro b a w' ⟨v136, adz_v136, v152, adz_v152, m5_, m20_, ha, Q_HO127, Q_BK121, Q_HI0, Q_HK, Q_HB, Q_HI0_e1, Q_HO137, Q_HA_HO137, Q_HI0_e4, Q_HI0_e11, Q_HI0_e13, Q_HI0_e15, Q_HO153, Q_HA_HO153, Q_HI0_e19, Q_BK121_e23, Q_X5_, Q_X20_⟩ hb_ hon hoff
                  refine ⟨_, rfl, fun K hK => ?_⟩
                  have e20 : a.tmps[20]? = some (.pointer (some ⟨g, 0, none⟩)) := by rw [ha]; exact (putSel_off rfl).trans rfl
                  have e22 : a.tmps[22]? = some (.int .i64 (wrap64 ((rd y125 t128) + 1))) := by rw [ha]; exact putSel_on (e := (10, 22, .int .i64 (wrap64 ((rd y125 t128) + 1)))) 5 rfl rfl (hon 10 (by kernel_rfl)) rfl
                  replace ha := Aside0.mk ha
                  have HO127 := Aside0.mk Q_HO127
                  have BK121 := Aside0.mk (Q_BK121 (hoff 23 (by kernel_rfl)))
                  have HK := Aside0.mk Q_HK
                  have HB := Aside0.mk Q_HB
                  have HI0 := Aside0.mk (Q_HI0_e4 (hon 4 (by kernel_rfl)) hb_)
                  refine goes_ Try.func48 (by kernel_rfl) rfl #[.pointer (some ⟨g, 0, none⟩), .int .i64 (wrap64 ((rd y125 t128) + 1))] (by rfl) rfl rfl (by first | (simp only [List.map_toArray, List.map_cons, List.map_nil, Act.eval, Array.getD_eq_getD_getElem?, Option.getD_some, e20, e22]; done) | (simp only [List.map_toArray, List.map_cons, List.map_nil, Act.eval, Array.getD_eq_getD_getElem?, Option.getD_some, e20, e22]; rfl)) ?_
                  with_reducible refine (spec_l00Src_next.calls g s0_0 t139 t140 (wrap64 ((rd y125 t128) + 1)) t142 t143 t144 w0 _ ?side1 ?side2 A10.out).mono ?_
                  (case side1 => repeat (first | (with_reducible first | exact HI0.out | apply IsS67.alloc | apply IsS67.drewN | apply IsS67.drew | apply IsS67.set_1 | apply IsS67.set_2 | refine IsS67.far ?_ NB0_121.out _) | exact HI0.out))
                  (case side2 => repeat (first | (with_reducible first | exact HB.out | apply below_alloc | apply pw_below_drewN | apply below_drew1 | refine below_set ?_ (IsS67.ge HI0.out) | refine below_set ?_ GE121.out) | exact HB.out))
                  rintro e w26 ⟨rfl, hi, hb, hk⟩
                  refine ⟨_, rfl, ?_⟩
                  have n0_ := Aside0.mk (KeepBut.blk hk (g' := gb121) (o := .cells #[.int .i64 0, .int .i64 0, .int .i64 0, .int .i64 0] 25 (0, 0)) (by (with_reducible repeat (first | refine blk_drewN ?_ _ | refine blk_drew ?_ | refine blk_alloc ?_ _)); exact BK121.out) NB121_0.out (by simp))
                  have n1_ := Aside0.mk (Kd.R_mono (Kd.R_keep (IsS67.apart (show IsS67 w0 _ g s0_0 t139 t140 from by repeat (first | (with_reducible first | exact HI0.out | apply IsS67.alloc | apply IsS67.drewN | apply IsS67.drew | apply IsS67.set_1 | apply IsS67.set_2 | refine IsS67.far ?_ NB0_121.out _) | exact HI0.out)) (by (with_reducible repeat (first | apply Kd.R_alloc | apply Kd.R_drewN | apply Kd.R_drew)); exact HO127.out) (by decide)) hk (fun _ h => h.2)) (fun _ h => h.1))
                  have n2_ := Aside0.mk (KeepBut.trans (by repeat (first | (with_reducible first | exact HK.out | apply KeepBut.set_ | apply keep_drewN | apply keep_drew | apply keep_alloc | refine keep_far ?_ GW121.out _) | exact HK.out)) hk (.inl rfl))
                  have n3_ := Aside0.mk (hb)
                  have n4_ := Aside0.mk (hi)
                  have z_HO137 := fun (h0_ : b 2 = true) => (show Kd.R (Kd.int .i64) 3 w26 w.heap.size (fun k_ => some k_ ≠ (.slice (some ad131) y125.length co21 : Value).ownBlock) v136 y135 from by first | exact (Kd.R_mono (Kd.R_keep (IsS67.apart (show IsS67 w0 _ g s0_0 t139 t140 from by repeat (first | (with_reducible first | exact HI0.out | apply IsS67.alloc | apply IsS67.drewN | apply IsS67.drew | apply IsS67.set_1 | apply IsS67.set_2 | refine IsS67.far ?_ NB0_121.out _) | exact HI0.out)) (by (with_reducible repeat (first | apply Kd.R_alloc | apply Kd.R_drewN | apply Kd.R_drew)); exact (Q_HO137 h0_)) (by decide)) hk (fun _ h => h.2)) (fun _ h => h.1)) | exact Kd.R_mono (Kd.R_mono (Kd.R_keep (IsS67.apart (show IsS67 w0 _ g s0_0 t139 t140 from by repeat (first | (with_reducible first | exact HI0.out | apply IsS67.alloc | apply IsS67.drewN | apply IsS67.drew | apply IsS67.set_1 | apply IsS67.set_2 | refine IsS67.far ?_ NB0_121.out _) | exact HI0.out)) (by (with_reducible repeat (first | apply Kd.R_alloc | apply Kd.R_drewN | apply Kd.R_drew)); exact (Q_HO137 h0_)) (by decide)) hk (fun _ h => h.2)) (fun _ h => h.1)) (fun _ h_ => by first | trivial | exact h_ | exact h_.1))
                  clear BK121
                  clear HO127
                  clear HK
                  clear HB
                  clear HI0
                  have BK121 := n0_
                  have HO127 := n1_
                  have HK := n2_
                  have HB := n3_
                  have HI0 := n4_
                  clear n0_ n1_ n2_ n3_ n4_
                  (try clear hb)
                  (try clear hb2)
                  (try clear hk)
                  (try clear hi)
                  refine hK.out _ _ ⟨v136, adz_v136, v152, adz_v152, m5_, m20_, (by rw [ha.out]; exact putSel_upk 6 hb_ rfl rfl rfl), (by (with_reducible repeat (first | apply Kd.R_alloc | apply Kd.R_drewN | apply Kd.R_drew)); exact HO127.out), fun _ => (by (with_reducible repeat (first | refine blk_drewN ?_ _ | refine blk_drew ?_ | refine blk_alloc ?_ _)); exact BK121.out), fun h0_ => absurd ((hon 1 (by kernel_rfl)).symm.trans h0_) (by decide), (by repeat (first | (with_reducible first | exact HK.out | apply KeepBut.set_ | apply keep_drewN | apply keep_drew | apply keep_alloc | refine keep_far ?_ GW121.out _) | exact HK.out)), (by repeat (first | (with_reducible first | exact HB.out | apply below_alloc | apply pw_below_drewN | apply below_drew1 | refine below_set ?_ (IsS67.ge HI0.out) | refine below_set ?_ GE121.out) | exact HB.out)), fun _ h1_ => absurd ((hon 4 (by kernel_rfl)).symm.trans h1_) (by decide), z_HO137, Q_HA_HO137, fun _ h1_ => absurd ((up_self b 11).symm.trans h1_) (by decide), fun _ _ => (by repeat (first | (with_reducible first | exact HI0.out | apply IsS67.alloc | apply IsS67.drewN | apply IsS67.drew | apply IsS67.set_1 | apply IsS67.set_2 | refine IsS67.far ?_ NB0_121.out _) | exact HI0.out)), fun h0_ _ => absurd ((hoff 13 (by kernel_rfl)).symm.trans h0_) (by decide), fun h0_ _ => absurd ((hoff 15 (by kernel_rfl)).symm.trans h0_) (by decide), fun h0_ => absurd ((hoff 17 (by kernel_rfl)).symm.trans h0_) (by decide), fun h0_ => absurd ((hoff 17 (by kernel_rfl)).symm.trans h0_) (by decide), fun h0_ => absurd ((hoff 19 (by kernel_rfl)).symm.trans h0_) (by decide), fun h0_ => absurd ((hoff 23 (by kernel_rfl)).symm.trans h0_) (by decide), Q_X5_, fun h0_ => absurd ((hoff 20 (by kernel_rfl)).symm.trans h0_) (by decide)⟩
                refine steps_cons ?_ ?_
                · rintro b a w' ⟨v136, adz_v136, v152, adz_v152, m5_, m20_, ha, Q_HO127, Q_BK121, Q_HI0, Q_HK, Q_HB, Q_HI0_e1, Q_HO137, Q_HA_HO137, Q_HI0_e4, Q_HI0_e11, Q_HI0_e13, Q_HI0_e15, Q_HO153, Q_HA_HO153, Q_HI0_e19, Q_BK121_e23, Q_X5_, Q_X20_⟩ hb_ hon hoff
                  refine ⟨_, rfl, fun K hK => ?_⟩
                  have e24 : a.tmps[24]? = some (.pointer (some ⟨g, 0, none⟩)) := by rw [ha]; exact (putSel_off rfl).trans rfl
                  replace ha := Aside0.mk ha
                  have HO127 := Aside0.mk Q_HO127
                  have BK121 := Aside0.mk (Q_BK121 (hoff 23 (by kernel_rfl)))
                  have HK := Aside0.mk Q_HK
                  have HB := Aside0.mk Q_HB
                  have HI0 := Aside0.mk (Q_HI0_e11 (hon 11 (by kernel_rfl)) hb_)
                  refine goes_ Try.func48 (by kernel_rfl) rfl #[.pointer (some ⟨g, 0, none⟩), .int .i64 100] (by rfl) rfl rfl (by first | (simp only [List.map_toArray, List.map_cons, List.map_nil, Act.eval, Array.getD_eq_getD_getElem?, Option.getD_some, e24]; done) | (simp only [List.map_toArray, List.map_cons, List.map_nil, Act.eval, Array.getD_eq_getD_getElem?, Option.getD_some, e24]; rfl)) ?_
                  with_reducible refine (spec_l00Src_next.calls g s0_0 t143 t144 100 t145 t146 t147 w0 _ ?side1 ?side2 A11.out).mono ?_
                  (case side1 => repeat (first | (with_reducible first | exact HI0.out | apply IsS67.alloc | apply IsS67.drewN | apply IsS67.drew | apply IsS67.set_1 | apply IsS67.set_2 | refine IsS67.far ?_ NB0_121.out _) | exact HI0.out))
                  (case side2 => repeat (first | (with_reducible first | exact HB.out | apply below_alloc | apply pw_below_drewN | apply below_drew1 | refine below_set ?_ (IsS67.ge HI0.out) | refine below_set ?_ GE121.out) | exact HB.out))
                  rintro e w27 ⟨rfl, hi, hb, hk⟩
                  refine ⟨_, rfl, ?_⟩
                  have n0_ := Aside0.mk (KeepBut.blk hk (g' := gb121) (o := .cells #[.int .i64 0, .int .i64 0, .int .i64 0, .int .i64 0] 25 (0, 0)) (by (with_reducible repeat (first | refine blk_drewN ?_ _ | refine blk_drew ?_ | refine blk_alloc ?_ _)); exact BK121.out) NB121_0.out (by simp))
                  have n1_ := Aside0.mk (Kd.R_mono (Kd.R_keep (IsS67.apart (show IsS67 w0 _ g s0_0 t143 t144 from by repeat (first | (with_reducible first | exact HI0.out | apply IsS67.alloc | apply IsS67.drewN | apply IsS67.drew | apply IsS67.set_1 | apply IsS67.set_2 | refine IsS67.far ?_ NB0_121.out _) | exact HI0.out)) (by (with_reducible repeat (first | apply Kd.R_alloc | apply Kd.R_drewN | apply Kd.R_drew)); exact HO127.out) (by decide)) hk (fun _ h => h.2)) (fun _ h => h.1))
                  have n2_ := Aside0.mk (KeepBut.trans (by repeat (first | (with_reducible first | exact HK.out | apply KeepBut.set_ | apply keep_drewN | apply keep_drew | apply keep_alloc | refine keep_far ?_ GW121.out _) | exact HK.out)) hk (.inl rfl))
                  have n3_ := Aside0.mk (hb)
                  have n4_ := Aside0.mk (hi)
                  have z_HO137 := fun (h0_ : b 2 = true) => (show Kd.R (Kd.int .i64) 3 w27 w.heap.size (fun k_ => some k_ ≠ (.slice (some ad131) y125.length co21 : Value).ownBlock) v136 y135 from by first | exact (Kd.R_mono (Kd.R_keep (IsS67.apart (show IsS67 w0 _ g s0_0 t143 t144 from by repeat (first | (with_reducible first | exact HI0.out | apply IsS67.alloc | apply IsS67.drewN | apply IsS67.drew | apply IsS67.set_1 | apply IsS67.set_2 | refine IsS67.far ?_ NB0_121.out _) | exact HI0.out)) (by (with_reducible repeat (first | apply Kd.R_alloc | apply Kd.R_drewN | apply Kd.R_drew)); exact (Q_HO137 h0_)) (by decide)) hk (fun _ h => h.2)) (fun _ h => h.1)) | exact Kd.R_mono (Kd.R_mono (Kd.R_keep (IsS67.apart (show IsS67 w0 _ g s0_0 t143 t144 from by repeat (first | (with_reducible first | exact HI0.out | apply IsS67.alloc | apply IsS67.drewN | apply IsS67.drew | apply IsS67.set_1 | apply IsS67.set_2 | refine IsS67.far ?_ NB0_121.out _) | exact HI0.out)) (by (with_reducible repeat (first | apply Kd.R_alloc | apply Kd.R_drewN | apply Kd.R_drew)); exact (Q_HO137 h0_)) (by decide)) hk (fun _ h => h.2)) (fun _ h => h.1)) (fun _ h_ => by first | trivial | exact h_ | exact h_.1))
                  clear BK121
                  clear HO127
                  clear HK
                  clear HB
                  clear HI0
                  have BK121 := n0_
                  have HO127 := n1_
                  have HK := n2_
                  have HB := n3_
                  have HI0 := n4_
                  clear n0_ n1_ n2_ n3_ n4_
                  (try clear hb)
                  (try clear hb2)
                  (try clear hk)
                  (try clear hi)
                  refine hK.out _ _ ⟨v136, adz_v136, v152, adz_v152, m5_, m20_, (by rw [ha.out]; exact putSel_upk 7 hb_ rfl rfl rfl), (by (with_reducible repeat (first | apply Kd.R_alloc | apply Kd.R_drewN | apply Kd.R_drew)); exact HO127.out), fun _ => (by (with_reducible repeat (first | refine blk_drewN ?_ _ | refine blk_drew ?_ | refine blk_alloc ?_ _)); exact BK121.out), fun h0_ => absurd ((hon 1 (by kernel_rfl)).symm.trans h0_) (by decide), (by repeat (first | (with_reducible first | exact HK.out | apply KeepBut.set_ | apply keep_drewN | apply keep_drew | apply keep_alloc | refine keep_far ?_ GW121.out _) | exact HK.out)), (by repeat (first | (with_reducible first | exact HB.out | apply below_alloc | apply pw_below_drewN | apply below_drew1 | refine below_set ?_ (IsS67.ge HI0.out) | refine below_set ?_ GE121.out) | exact HB.out)), fun _ h1_ => absurd ((hon 4 (by kernel_rfl)).symm.trans h1_) (by decide), z_HO137, Q_HA_HO137, fun _ h1_ => absurd ((hon 11 (by kernel_rfl)).symm.trans h1_) (by decide), fun _ h1_ => absurd ((up_self b 13).symm.trans h1_) (by decide), fun _ _ => (by repeat (first | (with_reducible first | exact HI0.out | apply IsS67.alloc | apply IsS67.drewN | apply IsS67.drew | apply IsS67.set_1 | apply IsS67.set_2 | refine IsS67.far ?_ NB0_121.out _) | exact HI0.out)), fun h0_ _ => absurd ((hoff 15 (by kernel_rfl)).symm.trans h0_) (by decide), fun h0_ => absurd ((hoff 17 (by kernel_rfl)).symm.trans h0_) (by decide), fun h0_ => absurd ((hoff 17 (by kernel_rfl)).symm.trans h0_) (by decide), fun h0_ => absurd ((hoff 19 (by kernel_rfl)).symm.trans h0_) (by decide), fun h0_ => absurd ((hoff 23 (by kernel_rfl)).symm.trans h0_) (by decide), Q_X5_, fun h0_ => absurd ((hoff 20 (by kernel_rfl)).symm.trans h0_) (by decide)⟩
                refine steps_cons ?_ ?_
                · rintro b a w' ⟨v136, adz_v136, v152, adz_v152, m5_, m20_, ha, Q_HO127, Q_BK121, Q_HI0, Q_HK, Q_HB, Q_HI0_e1, Q_HO137, Q_HA_HO137, Q_HI0_e4, Q_HI0_e11, Q_HI0_e13, Q_HI0_e15, Q_HO153, Q_HA_HO153, Q_HI0_e19, Q_BK121_e23, Q_X5_, Q_X20_⟩ hb_ hon hoff
                  refine ⟨_, rfl, fun K hK => ?_⟩
                  have e26 : a.tmps[26]? = some (.pointer (some ⟨g, 0, none⟩)) := by rw [ha]; exact (putSel_off rfl).trans rfl
                  replace ha := Aside0.mk ha
                  have HO127 := Aside0.mk Q_HO127
                  have BK121 := Aside0.mk (Q_BK121 (hoff 23 (by kernel_rfl)))
                  have HK := Aside0.mk Q_HK
                  have HB := Aside0.mk Q_HB
                  have HI0 := Aside0.mk (Q_HI0_e13 (hon 13 (by kernel_rfl)) hb_)
                  refine goes_ Try.func48 (by kernel_rfl) rfl #[.pointer (some ⟨g, 0, none⟩), .int .i64 20] (by rfl) rfl rfl (by first | (simp only [List.map_toArray, List.map_cons, List.map_nil, Act.eval, Array.getD_eq_getD_getElem?, Option.getD_some, e26]; done) | (simp only [List.map_toArray, List.map_cons, List.map_nil, Act.eval, Array.getD_eq_getD_getElem?, Option.getD_some, e26]; rfl)) ?_
                  with_reducible refine (spec_l00Src_next.calls g s0_0 t146 t147 20 t148 t149 t150 w0 _ ?side1 ?side2 A12.out).mono ?_
                  (case side1 => repeat (first | (with_reducible first | exact HI0.out | apply IsS67.alloc | apply IsS67.drewN | apply IsS67.drew | apply IsS67.set_1 | apply IsS67.set_2 | refine IsS67.far ?_ NB0_121.out _) | exact HI0.out))
                  (case side2 => repeat (first | (with_reducible first | exact HB.out | apply below_alloc | apply pw_below_drewN | apply below_drew1 | refine below_set ?_ (IsS67.ge HI0.out) | refine below_set ?_ GE121.out) | exact HB.out))
                  rintro e w28 ⟨rfl, hi, hb, hk⟩
                  refine ⟨_, rfl, ?_⟩
                  have n0_ := Aside0.mk (KeepBut.blk hk (g' := gb121) (o := .cells #[.int .i64 0, .int .i64 0, .int .i64 0, .int .i64 0] 25 (0, 0)) (by (with_reducible repeat (first | refine blk_drewN ?_ _ | refine blk_drew ?_ | refine blk_alloc ?_ _)); exact BK121.out) NB121_0.out (by simp))
                  have n1_ := Aside0.mk (Kd.R_mono (Kd.R_keep (IsS67.apart (show IsS67 w0 _ g s0_0 t146 t147 from by repeat (first | (with_reducible first | exact HI0.out | apply IsS67.alloc | apply IsS67.drewN | apply IsS67.drew | apply IsS67.set_1 | apply IsS67.set_2 | refine IsS67.far ?_ NB0_121.out _) | exact HI0.out)) (by (with_reducible repeat (first | apply Kd.R_alloc | apply Kd.R_drewN | apply Kd.R_drew)); exact HO127.out) (by decide)) hk (fun _ h => h.2)) (fun _ h => h.1))
                  have n2_ := Aside0.mk (KeepBut.trans (by repeat (first | (with_reducible first | exact HK.out | apply KeepBut.set_ | apply keep_drewN | apply keep_drew | apply keep_alloc | refine keep_far ?_ GW121.out _) | exact HK.out)) hk (.inl rfl))
                  have n3_ := Aside0.mk (hb)
                  have n4_ := Aside0.mk (hi)
                  have z_HO137 := fun (h0_ : b 2 = true) => (show Kd.R (Kd.int .i64) 3 w28 w.heap.size (fun k_ => some k_ ≠ (.slice (some ad131) y125.length co21 : Value).ownBlock) v136 y135 from by first | exact (Kd.R_mono (Kd.R_keep (IsS67.apart (show IsS67 w0 _ g s0_0 t146 t147 from by repeat (first | (with_reducible first | exact HI0.out | apply IsS67.alloc | apply IsS67.drewN | apply IsS67.drew | apply IsS67.set_1 | apply IsS67.set_2 | refine IsS67.far ?_ NB0_121.out _) | exact HI0.out)) (by (with_reducible repeat (first | apply Kd.R_alloc | apply Kd.R_drewN | apply Kd.R_drew)); exact (Q_HO137 h0_)) (by decide)) hk (fun _ h => h.2)) (fun _ h => h.1)) | exact Kd.R_mono (Kd.R_mono (Kd.R_keep (IsS67.apart (show IsS67 w0 _ g s0_0 t146 t147 from by repeat (first | (with_reducible first | exact HI0.out | apply IsS67.alloc | apply IsS67.drewN | apply IsS67.drew | apply IsS67.set_1 | apply IsS67.set_2 | refine IsS67.far ?_ NB0_121.out _) | exact HI0.out)) (by (with_reducible repeat (first | apply Kd.R_alloc | apply Kd.R_drewN | apply Kd.R_drew)); exact (Q_HO137 h0_)) (by decide)) hk (fun _ h => h.2)) (fun _ h => h.1)) (fun _ h_ => by first | trivial | exact h_ | exact h_.1))
                  clear BK121
                  clear HO127
                  clear HK
                  clear HB
                  clear HI0
                  have BK121 := n0_
                  have HO127 := n1_
                  have HK := n2_
                  have HB := n3_
                  have HI0 := n4_
                  clear n0_ n1_ n2_ n3_ n4_
                  (try clear hb)
                  (try clear hb2)
                  (try clear hk)
                  (try clear hi)
                  refine hK.out _ _ ⟨v136, adz_v136, v152, adz_v152, m5_, m20_, (by rw [ha.out]; exact putSel_upk 8 hb_ rfl rfl rfl), (by (with_reducible repeat (first | apply Kd.R_alloc | apply Kd.R_drewN | apply Kd.R_drew)); exact HO127.out), fun _ => (by (with_reducible repeat (first | refine blk_drewN ?_ _ | refine blk_drew ?_ | refine blk_alloc ?_ _)); exact BK121.out), fun h0_ => absurd ((hon 1 (by kernel_rfl)).symm.trans h0_) (by decide), (by repeat (first | (with_reducible first | exact HK.out | apply KeepBut.set_ | apply keep_drewN | apply keep_drew | apply keep_alloc | refine keep_far ?_ GW121.out _) | exact HK.out)), (by repeat (first | (with_reducible first | exact HB.out | apply below_alloc | apply pw_below_drewN | apply below_drew1 | refine below_set ?_ (IsS67.ge HI0.out) | refine below_set ?_ GE121.out) | exact HB.out)), fun _ h1_ => absurd ((hon 4 (by kernel_rfl)).symm.trans h1_) (by decide), z_HO137, Q_HA_HO137, fun _ h1_ => absurd ((hon 11 (by kernel_rfl)).symm.trans h1_) (by decide), fun _ h1_ => absurd ((hon 13 (by kernel_rfl)).symm.trans h1_) (by decide), fun _ h1_ => absurd ((up_self b 15).symm.trans h1_) (by decide), fun _ _ => (by repeat (first | (with_reducible first | exact HI0.out | apply IsS67.alloc | apply IsS67.drewN | apply IsS67.drew | apply IsS67.set_1 | apply IsS67.set_2 | refine IsS67.far ?_ NB0_121.out _) | exact HI0.out)), fun h0_ => absurd ((hoff 17 (by kernel_rfl)).symm.trans h0_) (by decide), fun h0_ => absurd ((hoff 17 (by kernel_rfl)).symm.trans h0_) (by decide), fun h0_ => absurd ((hoff 19 (by kernel_rfl)).symm.trans h0_) (by decide), fun h0_ => absurd ((hoff 23 (by kernel_rfl)).symm.trans h0_) (by decide), Q_X5_, fun h0_ => absurd ((hoff 20 (by kernel_rfl)).symm.trans h0_) (by decide)⟩
                refine steps_cons ?_ ?_
                · rintro b a w' ⟨v136, adz_v136, v152, adz_v152, m5_, m20_, ha, Q_HO127, Q_BK121, Q_HI0, Q_HK, Q_HB, Q_HI0_e1, Q_HO137, Q_HA_HO137, Q_HI0_e4, Q_HI0_e11, Q_HI0_e13, Q_HI0_e15, Q_HO153, Q_HA_HO153, Q_HI0_e19, Q_BK121_e23, Q_X5_, Q_X20_⟩ hb_ hon hoff
                  refine ⟨_, rfl, fun K hK => ?_⟩
                  have e27 : a.tmps[27]? = some (.int .i64 t148) := by rw [ha]; exact putSel_on (e := (15, 27, .int .i64 t148)) 8 rfl rfl (hon 15 (by kernel_rfl)) rfl
                  replace ha := Aside0.mk ha
                  have HO127 := Aside0.mk Q_HO127
                  have BK121 := Aside0.mk (Q_BK121 (hoff 23 (by kernel_rfl)))
                  have HK := Aside0.mk Q_HK
                  have HB := Aside0.mk Q_HB
                  refine value_ (w1 := w') (v := .int .i64 (wrap64 (1000000 - t148))) (by rfl) rfl ?_ ?_
                  · go_simp
                    (try simp only [i64_w])
                    try rfl
                  refine hK.out _ _ ⟨v136, adz_v136, v152, adz_v152, m5_, m20_, (by rw [ha.out]; exact putSel_upk 9 hb_ rfl rfl rfl), Q_HO127, Q_BK121, fun h0_ => absurd ((hon 1 (by kernel_rfl)).symm.trans h0_) (by decide), Q_HK, Q_HB, fun _ h1_ => absurd ((hon 4 (by kernel_rfl)).symm.trans h1_) (by decide), Q_HO137, Q_HA_HO137, fun _ h1_ => absurd ((hon 11 (by kernel_rfl)).symm.trans h1_) (by decide), fun _ h1_ => absurd ((hon 13 (by kernel_rfl)).symm.trans h1_) (by decide), fun _ h1_ => absurd ((hon 15 (by kernel_rfl)).symm.trans h1_) (by decide), Q_HI0_e15, fun h0_ => absurd ((hoff 17 (by kernel_rfl)).symm.trans h0_) (by decide), fun h0_ => absurd ((hoff 17 (by kernel_rfl)).symm.trans h0_) (by decide), Q_HI0_e19, fun h0_ => absurd ((hoff 23 (by kernel_rfl)).symm.trans h0_) (by decide), Q_X5_, fun h0_ => absurd ((hoff 20 (by kernel_rfl)).symm.trans h0_) (by decide)⟩
                refine steps_cons ?_ ?_
                · rintro b a w' ⟨v136, adz_v136, v152, adz_v152, m5_, m20_, ha, Q_HO127, Q_BK121, Q_HI0, Q_HK, Q_HB, Q_HI0_e1, Q_HO137, Q_HA_HO137, Q_HI0_e4, Q_HI0_e11, Q_HI0_e13, Q_HI0_e15, Q_HO153, Q_HA_HO153, Q_HI0_e19, Q_BK121_e23, Q_X5_, Q_X20_⟩ hb_ hon hoff
                  refine ⟨_, rfl, fun K hK => ?_⟩
                  have e25 : a.tmps[25]? = some (.int .i64 t145) := by rw [ha]; exact putSel_on (e := (13, 25, .int .i64 t145)) 7 rfl rfl (hon 13 (by kernel_rfl)) rfl
                  have e28 : a.tmps[28]? = some (.int .i64 (wrap64 (1000000 - t148))) := by rw [ha]; exact putSel_on (e := (16, 28, .int .i64 (wrap64 (1000000 - t148)))) 9 rfl rfl (hon 16 (by kernel_rfl)) rfl
                  replace ha := Aside0.mk ha
                  have HO127 := Aside0.mk Q_HO127
                  have BK121 := Aside0.mk (Q_BK121 (hoff 23 (by kernel_rfl)))
                  have HK := Aside0.mk Q_HK
                  have HB := Aside0.mk Q_HB
                  refine Kd.R_lit_step (Kd.int .i64) _ 3 ?hg (N := 29) ?hd (xs := ([0, t145, wrap64 (1000000 - t148)] : List Int)) (inner := [.int .i64 0, .int .i64 t145, .int .i64 (wrap64 (1000000 - t148))]) (ok := fun _ => True) (okp := fun _ => True) ?hr ?hp (fun _ hk => hk) trivial (Below.refl _ _) (Nat.le_refl _) (by simp) ?_; (case hd => rfl); (case hg => rfl); (case hr => first | (go_simp; done) | (go_simp; rfl)); (case hp => exact (Reps.one (show Kd.M (Kd.int .i64) _ _ _ 0 [.int .i64 0] from rfl) (Reps.one (show Kd.M (Kd.int .i64) _ _ _ t145 [.int .i64 t145] from rfl) (Reps.one (show Kd.M (Kd.int .i64) _ _ _ (wrap64 (1000000 - t148)) [.int .i64 (wrap64 (1000000 - t148))] from rfl) (Reps.none _ _)))))
                  intro v152 w29 ho30 hb hg_ hnew_
                  clear hg_ hnew_
                  (first | rw [← Ny151.out] at ho30 | (simp only [Int.reduceToNat] at ho30; rw [← Ny151.out] at ho30))
                  have n0_ := Aside0.mk (Kd.R_elder' (by (with_reducible repeat (first | apply Kd.R_alloc | apply Kd.R_drewN | apply Kd.R_drew)); exact HO127.out) (Kd.R_base ho30) hb)
                  have n1_ := Aside0.mk (Kd.R_lower (Kd.R_new' ho30 (Kd.R_lt (by (with_reducible repeat (first | apply Kd.R_alloc | apply Kd.R_drewN | apply Kd.R_drew)); exact HO127.out))) (keep_size (w := w) (g := g) (row := none) (by repeat (first | (with_reducible first | exact HK.out | apply KeepBut.set_ | apply keep_drewN | apply keep_drew | apply keep_alloc | refine keep_far ?_ GW121.out _) | exact HK.out))))
                  have n3_ := Aside0.mk (blk_below (g := gb121) (o := .cells #[.int .i64 0, .int .i64 0, .int .i64 0, .int .i64 0] 25 (0, 0)) (by (with_reducible repeat (first | refine blk_drewN ?_ _ | refine blk_drew ?_ | refine blk_alloc ?_ _)); exact BK121.out) hb)
                  have n4_ := Aside0.mk (KeepBut.trans (by repeat (first | (with_reducible first | exact HK.out | apply KeepBut.set_ | apply keep_drewN | apply keep_drew | apply keep_alloc | refine keep_far ?_ GW121.out _) | exact HK.out)) (KeepBut.of_below hb g none) (.inl rfl))
                  have n5_ := Aside0.mk (below_step (by repeat (first | (with_reducible first | exact HB.out | apply below_alloc | apply pw_below_drewN | apply below_drew1 | refine below_set ?_ GE121.out) | exact HB.out)) hb)
                  have z_HO137 := fun (h0_ : b 2 = true) => (show Kd.R (Kd.int .i64) 3 w29 w.heap.size (fun k_ => some k_ ≠ (.slice (some ad131) y125.length co21 : Value).ownBlock) v136 y135 from by first | exact (Kd.R_elder' (by (with_reducible repeat (first | apply Kd.R_alloc | apply Kd.R_drewN | apply Kd.R_drew)); exact (Q_HO137 h0_)) (Kd.R_base ho30) hb) | exact Kd.R_mono (Kd.R_elder' (by (with_reducible repeat (first | apply Kd.R_alloc | apply Kd.R_drewN | apply Kd.R_drew)); exact (Q_HO137 h0_)) (Kd.R_base ho30) hb) (fun _ h_ => by first | trivial | exact h_ | exact h_.1))
                  have z_HI0_e15 := fun (h0_ : b 15 = true) (h1_ : b 19 = false) => (show IsS67 w0 w29 g s0_0 t149 t150 from by first | exact (IsS67.below (by repeat (first | (with_reducible first | exact (Q_HI0_e15 h0_ h1_) | apply IsS67.alloc | apply IsS67.drewN | apply IsS67.drew | apply IsS67.set_1 | apply IsS67.set_2 | refine IsS67.far ?_ NB0_121.out _) | exact (Q_HI0_e15 h0_ h1_))) hb))
                  have z_HI0_e19 := fun (h0_ : b 19 = true) => (show IsS67 w0 w29 g s0_0 t155 t156 from by first | exact (IsS67.below (by repeat (first | (with_reducible first | exact (Q_HI0_e19 h0_) | apply IsS67.alloc | apply IsS67.drewN | apply IsS67.drew | apply IsS67.set_1 | apply IsS67.set_2 | refine IsS67.far ?_ NB0_121.out _) | exact (Q_HI0_e19 h0_))) hb))
                  clear HO127
                  clear BK121
                  clear HK
                  clear HB
                  have HO127 := n0_
                  have HO153 := n1_
                  have BK121 := n3_
                  have HK := n4_
                  have HB := n5_
                  clear n0_ n1_ n3_ n4_ n5_
                  clear hb ho30
                  obtain ⟨Ao31, co31, eo31⟩ := Kd.R_slice HO153.out
                  subst eo31
                  obtain ⟨ado31, fo31, _⟩ := Kd.at_int (Kd.R_reads' HO153.out).2.2 0 (by decide) (by rw [Ny151.out]; simp)
                  cases fo31
                  refine hK.out _ _ ⟨v136, adz_v136, .slice (some ado31) y151.length co31, ado31, m5_, m20_, (by rw [ha.out]; exact putSel_upk 10 hb_ rfl rfl rfl), (by (with_reducible repeat (first | apply Kd.R_alloc | apply Kd.R_drewN | apply Kd.R_drew)); exact Kd.R_mono HO127.out (fun _ hk => by first | exact hk.2 | exact trivial | exact hk.1.2 | exact ⟨hk.1.1, hk.1.2⟩ | exact hk.1 | exact hk | (simp_all; done))), fun _ => (by (with_reducible repeat (first | refine blk_drewN ?_ _ | refine blk_drew ?_ | refine blk_alloc ?_ _)); exact BK121.out), fun h0_ => absurd ((hon 1 (by kernel_rfl)).symm.trans h0_) (by decide), (by repeat (first | (with_reducible first | exact HK.out | apply KeepBut.set_ | apply keep_drewN | apply keep_drew | apply keep_alloc | refine keep_far ?_ GW121.out _) | exact HK.out)), (by repeat (first | (with_reducible first | exact HB.out | apply below_alloc | apply pw_below_drewN | apply below_drew1 | refine below_set ?_ GE121.out) | exact HB.out)), fun _ h1_ => absurd ((hon 4 (by kernel_rfl)).symm.trans h1_) (by decide), z_HO137, Q_HA_HO137, fun _ h1_ => absurd ((hon 11 (by kernel_rfl)).symm.trans h1_) (by decide), fun _ h1_ => absurd ((hon 13 (by kernel_rfl)).symm.trans h1_) (by decide), fun _ h1_ => absurd ((hon 15 (by kernel_rfl)).symm.trans h1_) (by decide), z_HI0_e15, fun _ => (by (with_reducible repeat (first | apply Kd.R_alloc | apply Kd.R_drewN | apply Kd.R_drew)); exact Kd.R_mono HO153.out (fun _ hk => by first | exact hk.2 | exact trivial | exact hk.1.2 | exact ⟨hk.1.1, hk.1.2⟩ | exact hk.1 | exact hk | (simp_all; done))), fun _ => ⟨_, rfl⟩, z_HI0_e19, fun h0_ => absurd ((hoff 23 (by kernel_rfl)).symm.trans h0_) (by decide), Q_X5_, fun h0_ => absurd ((hoff 20 (by kernel_rfl)).symm.trans h0_) (by decide)⟩
                refine steps_cons ?_ ?_
                · rintro b a w' ⟨v136, adz_v136, v152, adz_v152, m5_, m20_, ha, Q_HO127, Q_BK121, Q_HI0, Q_HK, Q_HB, Q_HI0_e1, Q_HO137, Q_HA_HO137, Q_HI0_e4, Q_HI0_e11, Q_HI0_e13, Q_HI0_e15, Q_HO153, Q_HA_HO153, Q_HI0_e19, Q_BK121_e23, Q_X5_, Q_X20_⟩ hb_ hon hoff
                  refine ⟨_, rfl, fun K hK => ?_⟩
                  have e30 : a.tmps[30]? = some (.pointer (some ⟨g, 0, none⟩)) := by rw [ha]; exact (putSel_off rfl).trans rfl
                  replace ha := Aside0.mk ha
                  have HO127 := Aside0.mk Q_HO127
                  have BK121 := Aside0.mk (Q_BK121 (hoff 23 (by kernel_rfl)))
                  have HK := Aside0.mk Q_HK
                  have HB := Aside0.mk Q_HB
                  have HI0 := Aside0.mk (Q_HI0_e15 (hon 15 (by kernel_rfl)) hb_)
                  refine goes_ Try.func48 (by kernel_rfl) rfl #[.pointer (some ⟨g, 0, none⟩), .int .i64 3] (by rfl) rfl rfl (by first | (simp only [List.map_toArray, List.map_cons, List.map_nil, Act.eval, Array.getD_eq_getD_getElem?, Option.getD_some, e30]; done) | (simp only [List.map_toArray, List.map_cons, List.map_nil, Act.eval, Array.getD_eq_getD_getElem?, Option.getD_some, e30]; rfl)) ?_
                  with_reducible refine (spec_l00Src_next.calls g s0_0 t149 t150 3 t154 t155 t156 w0 _ ?side1 ?side2 A13.out).mono ?_
                  (case side1 => repeat (first | (with_reducible first | exact HI0.out | apply IsS67.alloc | apply IsS67.drewN | apply IsS67.drew | apply IsS67.set_1 | apply IsS67.set_2 | refine IsS67.far ?_ NB0_121.out _) | exact HI0.out))
                  (case side2 => repeat (first | (with_reducible first | exact HB.out | apply below_alloc | apply pw_below_drewN | apply below_drew1 | refine below_set ?_ (IsS67.ge HI0.out) | refine below_set ?_ GE121.out) | exact HB.out))
                  rintro e w29 ⟨rfl, hi, hb, hk⟩
                  refine ⟨_, rfl, ?_⟩
                  have n0_ := Aside0.mk (KeepBut.blk hk (g' := gb121) (o := .cells #[.int .i64 0, .int .i64 0, .int .i64 0, .int .i64 0] 25 (0, 0)) (by (with_reducible repeat (first | refine blk_drewN ?_ _ | refine blk_drew ?_ | refine blk_alloc ?_ _)); exact BK121.out) NB121_0.out (by simp))
                  have n1_ := Aside0.mk (Kd.R_mono (Kd.R_keep (IsS67.apart (show IsS67 w0 _ g s0_0 t149 t150 from by repeat (first | (with_reducible first | exact HI0.out | apply IsS67.alloc | apply IsS67.drewN | apply IsS67.drew | apply IsS67.set_1 | apply IsS67.set_2 | refine IsS67.far ?_ NB0_121.out _) | exact HI0.out)) (by (with_reducible repeat (first | apply Kd.R_alloc | apply Kd.R_drewN | apply Kd.R_drew)); exact HO127.out) (by decide)) hk (fun _ h => h.2)) (fun _ h => h.1))
                  have n2_ := Aside0.mk (KeepBut.trans (by repeat (first | (with_reducible first | exact HK.out | apply KeepBut.set_ | apply keep_drewN | apply keep_drew | apply keep_alloc | refine keep_far ?_ GW121.out _) | exact HK.out)) hk (.inl rfl))
                  have n3_ := Aside0.mk (hb)
                  have n4_ := Aside0.mk (hi)
                  have z_HO137 := fun (h0_ : b 2 = true) => (show Kd.R (Kd.int .i64) 3 w29 w.heap.size (fun k_ => some k_ ≠ (.slice (some ad131) y125.length co21 : Value).ownBlock) v136 y135 from by first | exact (Kd.R_mono (Kd.R_keep (IsS67.apart (show IsS67 w0 _ g s0_0 t149 t150 from by repeat (first | (with_reducible first | exact HI0.out | apply IsS67.alloc | apply IsS67.drewN | apply IsS67.drew | apply IsS67.set_1 | apply IsS67.set_2 | refine IsS67.far ?_ NB0_121.out _) | exact HI0.out)) (by (with_reducible repeat (first | apply Kd.R_alloc | apply Kd.R_drewN | apply Kd.R_drew)); exact (Q_HO137 h0_)) (by decide)) hk (fun _ h => h.2)) (fun _ h => h.1)) | exact Kd.R_mono (Kd.R_mono (Kd.R_keep (IsS67.apart (show IsS67 w0 _ g s0_0 t149 t150 from by repeat (first | (with_reducible first | exact HI0.out | apply IsS67.alloc | apply IsS67.drewN | apply IsS67.drew | apply IsS67.set_1 | apply IsS67.set_2 | refine IsS67.far ?_ NB0_121.out _) | exact HI0.out)) (by (with_reducible repeat (first | apply Kd.R_alloc | apply Kd.R_drewN | apply Kd.R_drew)); exact (Q_HO137 h0_)) (by decide)) hk (fun _ h => h.2)) (fun _ h => h.1)) (fun _ h_ => by first | trivial | exact h_ | exact h_.1))
                  have z_HO153 := fun (h0_ : b 17 = true) => (show Kd.R (Kd.int .i64) 3 w29 w.heap.size (fun k_ => some k_ ≠ (.slice (some ad131) y125.length co21 : Value).ownBlock) v152 y151 from by first | exact (Kd.R_mono (Kd.R_keep (IsS67.apart (show IsS67 w0 _ g s0_0 t149 t150 from by repeat (first | (with_reducible first | exact HI0.out | apply IsS67.alloc | apply IsS67.drewN | apply IsS67.drew | apply IsS67.set_1 | apply IsS67.set_2 | refine IsS67.far ?_ NB0_121.out _) | exact HI0.out)) (by (with_reducible repeat (first | apply Kd.R_alloc | apply Kd.R_drewN | apply Kd.R_drew)); exact (Q_HO153 h0_)) (by decide)) hk (fun _ h => h.2)) (fun _ h => h.1)) | exact Kd.R_mono (Kd.R_mono (Kd.R_keep (IsS67.apart (show IsS67 w0 _ g s0_0 t149 t150 from by repeat (first | (with_reducible first | exact HI0.out | apply IsS67.alloc | apply IsS67.drewN | apply IsS67.drew | apply IsS67.set_1 | apply IsS67.set_2 | refine IsS67.far ?_ NB0_121.out _) | exact HI0.out)) (by (with_reducible repeat (first | apply Kd.R_alloc | apply Kd.R_drewN | apply Kd.R_drew)); exact (Q_HO153 h0_)) (by decide)) hk (fun _ h => h.2)) (fun _ h => h.1)) (fun _ h_ => by first | trivial | exact h_ | exact h_.1))
                  clear BK121
                  clear HO127
                  clear HK
                  clear HB
                  clear HI0
                  have BK121 := n0_
                  have HO127 := n1_
                  have HK := n2_
                  have HB := n3_
                  have HI0 := n4_
                  clear n0_ n1_ n2_ n3_ n4_
                  (try clear hb)
                  (try clear hb2)
                  (try clear hk)
                  (try clear hi)
                  refine hK.out _ _ ⟨v136, adz_v136, v152, adz_v152, m5_, m20_, (by rw [ha.out]; exact putSel_upk 11 hb_ rfl rfl rfl), (by (with_reducible repeat (first | apply Kd.R_alloc | apply Kd.R_drewN | apply Kd.R_drew)); exact HO127.out), fun _ => (by (with_reducible repeat (first | refine blk_drewN ?_ _ | refine blk_drew ?_ | refine blk_alloc ?_ _)); exact BK121.out), fun h0_ => absurd ((hon 1 (by kernel_rfl)).symm.trans h0_) (by decide), (by repeat (first | (with_reducible first | exact HK.out | apply KeepBut.set_ | apply keep_drewN | apply keep_drew | apply keep_alloc | refine keep_far ?_ GW121.out _) | exact HK.out)), (by repeat (first | (with_reducible first | exact HB.out | apply below_alloc | apply pw_below_drewN | apply below_drew1 | refine below_set ?_ (IsS67.ge HI0.out) | refine below_set ?_ GE121.out) | exact HB.out)), fun _ h1_ => absurd ((hon 4 (by kernel_rfl)).symm.trans h1_) (by decide), z_HO137, Q_HA_HO137, fun _ h1_ => absurd ((hon 11 (by kernel_rfl)).symm.trans h1_) (by decide), fun _ h1_ => absurd ((hon 13 (by kernel_rfl)).symm.trans h1_) (by decide), fun _ h1_ => absurd ((hon 15 (by kernel_rfl)).symm.trans h1_) (by decide), fun _ h1_ => absurd ((up_self b 19).symm.trans h1_) (by decide), z_HO153, Q_HA_HO153, fun _ => (by repeat (first | (with_reducible first | exact HI0.out | apply IsS67.alloc | apply IsS67.drewN | apply IsS67.drew | apply IsS67.set_1 | apply IsS67.set_2 | refine IsS67.far ?_ NB0_121.out _) | exact HI0.out)), fun h0_ => absurd ((hoff 23 (by kernel_rfl)).symm.trans h0_) (by decide), Q_X5_, fun h0_ => absurd ((hoff 20 (by kernel_rfl)).symm.trans h0_) (by decide)⟩
                refine steps_cons ?_ ?_
                · rintro b a w' ⟨v136, adz_v136, v152, adz_v152, m5_, m20_, ha, Q_HO127, Q_BK121, Q_HI0, Q_HK, Q_HB, Q_HI0_e1, Q_HO137, Q_HA_HO137, Q_HI0_e4, Q_HI0_e11, Q_HI0_e13, Q_HI0_e15, Q_HO153, Q_HA_HO153, Q_HI0_e19, Q_BK121_e23, Q_X5_, Q_X20_⟩ hb_ hon hoff
                  refine ⟨_, rfl, fun K hK => ?_⟩
                  have e29 : a.tmps[29]? = some (v152) := by rw [ha]; exact putSel_on (e := (17, 29, v152)) 10 rfl rfl (hon 17 (by kernel_rfl)) rfl
                  have e31 : a.tmps[31]? = some (.int .i64 t154) := by rw [ha]; exact putSel_on (e := (19, 31, .int .i64 t154)) 11 rfl rfl (hon 19 (by kernel_rfl)) rfl
                  replace ha := Aside0.mk ha
                  have HO127 := Aside0.mk Q_HO127
                  have BK121 := Aside0.mk (Q_BK121 (hoff 23 (by kernel_rfl)))
                  have HK := Aside0.mk Q_HK
                  have HB := Aside0.mk Q_HB
                  have HO153 := Aside0.mk (Q_HO153 (hon 17 (by kernel_rfl)))
                  have HA_HO153 := Aside0.mk (Q_HA_HO153 (hon 17 (by kernel_rfl)))
                  have HI0 := Aside0.mk (Q_HI0_e19 (hon 19 (by kernel_rfl)))
                  obtain ⟨c_, hv_⟩ := HA_HO153.out
                  rw [hv_] at e29
                  refine value_ (w1 := w') (v := .pointer (some (adz_v152.add (t154).toNat))) (by rfl) rfl ?_ ?_
                  · go_simp
                    (try simp only [i64_w])
                    try rfl
                  refine hK.out _ _ ⟨v136, adz_v136, v152, adz_v152, m5_, (.pointer (some (adz_v152.add (t154).toNat))), (by rw [ha.out]; exact putSel_upk 12 hb_ rfl rfl rfl), Q_HO127, Q_BK121, fun h0_ => absurd ((hon 1 (by kernel_rfl)).symm.trans h0_) (by decide), Q_HK, Q_HB, fun _ h1_ => absurd ((hon 4 (by kernel_rfl)).symm.trans h1_) (by decide), Q_HO137, Q_HA_HO137, fun _ h1_ => absurd ((hon 11 (by kernel_rfl)).symm.trans h1_) (by decide), fun _ h1_ => absurd ((hon 13 (by kernel_rfl)).symm.trans h1_) (by decide), fun _ h1_ => absurd ((hon 15 (by kernel_rfl)).symm.trans h1_) (by decide), fun _ h1_ => absurd ((hon 19 (by kernel_rfl)).symm.trans h1_) (by decide), Q_HO153, Q_HA_HO153, Q_HI0_e19, fun h0_ => absurd ((hoff 23 (by kernel_rfl)).symm.trans h0_) (by decide), Q_X5_, fun _ => rfl⟩
                refine steps_cons ?_ ?_
                · rintro b a w' ⟨v136, adz_v136, v152, adz_v152, m5_, m20_, ha, Q_HO127, Q_BK121, Q_HI0, Q_HK, Q_HB, Q_HI0_e1, Q_HO137, Q_HA_HO137, Q_HI0_e4, Q_HI0_e11, Q_HI0_e13, Q_HI0_e15, Q_HO153, Q_HA_HO153, Q_HI0_e19, Q_BK121_e23, Q_X5_, Q_X20_⟩ hb_ hon hoff
                  refine ⟨_, rfl, fun K hK => ?_⟩
                  have e32 : a.tmps[32]? = some (m20_) := by rw [ha]; exact putSel_on (e := (20, 32, m20_)) 12 rfl rfl (hon 20 (by kernel_rfl)) rfl
                  rw [Q_X20_ (hon 20 (by kernel_rfl))] at e32
                  replace ha := Aside0.mk ha
                  have HO127 := Aside0.mk Q_HO127
                  have BK121 := Aside0.mk (Q_BK121 (hoff 23 (by kernel_rfl)))
                  have HK := Aside0.mk Q_HK
                  have HB := Aside0.mk Q_HB
                  have HO153 := Aside0.mk (Q_HO153 (hon 17 (by kernel_rfl)))
                  have HA_HO153 := Aside0.mk (Q_HA_HO153 (hon 17 (by kernel_rfl)))
                  have HI0 := Aside0.mk (Q_HI0_e19 (hon 19 (by kernel_rfl)))
                  obtain ⟨c_, hv_⟩ := HA_HO153.out
                  have hF_ := HO153.out
                  rw [hv_] at hF_
                  obtain ⟨ad_, ea_, hx_⟩ := Kd.at_int (Kd.R_reads' hF_).2.2 t154 (of_eq_true pi157) (of_eq_true qi157)
                  cases ea_
                  refine value_ (w1 := w') (v := .int .i64 (rd y151 t154)) (by rfl) rfl ?_ ?_
                  · go_simp
                    (try simp only [i64_w])
                    try rfl
                  refine hK.out _ _ ⟨v136, adz_v136, v152, adz_v152, m5_, m20_, (by rw [ha.out]; exact putSel_upk 13 hb_ rfl rfl rfl), Q_HO127, Q_BK121, fun h0_ => absurd ((hon 1 (by kernel_rfl)).symm.trans h0_) (by decide), Q_HK, Q_HB, fun _ h1_ => absurd ((hon 4 (by kernel_rfl)).symm.trans h1_) (by decide), Q_HO137, Q_HA_HO137, fun _ h1_ => absurd ((hon 11 (by kernel_rfl)).symm.trans h1_) (by decide), fun _ h1_ => absurd ((hon 13 (by kernel_rfl)).symm.trans h1_) (by decide), fun _ h1_ => absurd ((hon 15 (by kernel_rfl)).symm.trans h1_) (by decide), fun _ h1_ => absurd ((hon 19 (by kernel_rfl)).symm.trans h1_) (by decide), Q_HO153, Q_HA_HO153, Q_HI0_e19, fun h0_ => absurd ((hoff 23 (by kernel_rfl)).symm.trans h0_) (by decide), Q_X5_, Q_X20_⟩
                refine steps_cons ?_ ?_
                · rintro b a w' ⟨v136, adz_v136, v152, adz_v152, m5_, m20_, ha, Q_HO127, Q_BK121, Q_HI0, Q_HK, Q_HB, Q_HI0_e1, Q_HO137, Q_HA_HO137, Q_HI0_e4, Q_HI0_e11, Q_HI0_e13, Q_HI0_e15, Q_HO153, Q_HA_HO153, Q_HI0_e19, Q_BK121_e23, Q_X5_, Q_X20_⟩ hb_ hon hoff
                  refine ⟨_, rfl, fun K hK => ?_⟩
                  have e18 : a.tmps[18]? = some (.int .i64 (rd y135 t138)) := by rw [ha]; exact putSel_on (e := (6, 18, .int .i64 (rd y135 t138))) 4 rfl rfl (hon 6 (by kernel_rfl)) rfl
                  have e19 : a.tmps[19]? = some (.int .i64 (rd y125 t128)) := by rw [ha]; exact (putSel_off rfl).trans rfl
                  have e23 : a.tmps[23]? = some (.int .i64 t142) := by rw [ha]; exact putSel_on (e := (11, 23, .int .i64 t142)) 6 rfl rfl (hon 11 (by kernel_rfl)) rfl
                  have e33 : a.tmps[33]? = some (.int .i64 (rd y151 t154)) := by rw [ha]; exact putSel_on (e := (21, 33, .int .i64 (rd y151 t154))) 13 rfl rfl (hon 21 (by kernel_rfl)) rfl
                  replace ha := Aside0.mk ha
                  have HO127 := Aside0.mk Q_HO127
                  have BK121 := Aside0.mk (Q_BK121 (hoff 23 (by kernel_rfl)))
                  have HK := Aside0.mk Q_HK
                  have HB := Aside0.mk Q_HB
                  have HO137 := Aside0.mk (Q_HO137 (hon 2 (by kernel_rfl)))
                  have HA_HO137 := Aside0.mk (Q_HA_HO137 (hon 2 (by kernel_rfl)))
                  have HO153 := Aside0.mk (Q_HO153 (hon 17 (by kernel_rfl)))
                  have HA_HO153 := Aside0.mk (Q_HA_HO153 (hon 17 (by kernel_rfl)))
                  have HI0 := Aside0.mk (Q_HI0_e19 (hon 19 (by kernel_rfl)))
                  refine value_ (w1 := w') (v := .agg #[.int .i64 (rd y135 t138), .int .i64 (rd y125 t128), .int .i64 t142, .int .i64 (rd y151 t154)]) (by rfl) rfl ?_ ?_
                  · go_simp
                    (try simp only [i64_w])
                    try rfl
                  refine hK.out _ _ ⟨v136, adz_v136, v152, adz_v152, m5_, m20_, (by rw [ha.out]; exact putSel_upk 14 hb_ rfl rfl rfl), Q_HO127, Q_BK121, fun h0_ => absurd ((hon 1 (by kernel_rfl)).symm.trans h0_) (by decide), Q_HK, Q_HB, fun _ h1_ => absurd ((hon 4 (by kernel_rfl)).symm.trans h1_) (by decide), Q_HO137, Q_HA_HO137, fun _ h1_ => absurd ((hon 11 (by kernel_rfl)).symm.trans h1_) (by decide), fun _ h1_ => absurd ((hon 13 (by kernel_rfl)).symm.trans h1_) (by decide), fun _ h1_ => absurd ((hon 15 (by kernel_rfl)).symm.trans h1_) (by decide), fun _ h1_ => absurd ((hon 19 (by kernel_rfl)).symm.trans h1_) (by decide), Q_HO153, Q_HA_HO153, Q_HI0_e19, fun h0_ => absurd ((hoff 23 (by kernel_rfl)).symm.trans h0_) (by decide), Q_X5_, Q_X20_⟩
                refine steps_cons ?_ ?_
                · rintro b a w' ⟨v136, adz_v136, v152, adz_v152, m5_, m20_, ha, Q_HO127, Q_BK121, Q_HI0, Q_HK, Q_HB, Q_HI0_e1, Q_HO137, Q_HA_HO137, Q_HI0_e4, Q_HI0_e11, Q_HI0_e13, Q_HI0_e15, Q_HO153, Q_HA_HO153, Q_HI0_e19, Q_BK121_e23, Q_X5_, Q_X20_⟩ hb_ hon hoff
                  refine ⟨_, rfl, fun K hK => ?_⟩
                  have e2 : a.tmps[2]? = some (.pointer (some ⟨gb121, 0, none⟩)) := by rw [ha]; exact (putSel_off rfl).trans rfl
                  have e34 : a.tmps[34]? = some (.agg #[.int .i64 (rd y135 t138), .int .i64 (rd y125 t128), .int .i64 t142, .int .i64 (rd y151 t154)]) := by rw [ha]; exact putSel_on (e := (22, 34, .agg #[.int .i64 (rd y135 t138), .int .i64 (rd y125 t128), .int .i64 t142, .int .i64 (rd y151 t154)])) 14 rfl rfl (hon 22 (by kernel_rfl)) rfl
                  replace ha := Aside0.mk ha
                  have HO127 := Aside0.mk Q_HO127
                  have BK121 := Aside0.mk (Q_BK121 hb_)
                  have HK := Aside0.mk Q_HK
                  have HB := Aside0.mk Q_HB
                  have HO137 := Aside0.mk (Q_HO137 (hon 2 (by kernel_rfl)))
                  have HA_HO137 := Aside0.mk (Q_HA_HO137 (hon 2 (by kernel_rfl)))
                  have HO153 := Aside0.mk (Q_HO153 (hon 17 (by kernel_rfl)))
                  have HA_HO153 := Aside0.mk (Q_HA_HO153 (hon 17 (by kernel_rfl)))
                  have HI0 := Aside0.mk (Q_HI0_e19 (hon 19 (by kernel_rfl)))
                  obtain ⟨co36, eo36⟩ := HA_HO137.out
                  clear HA_HO137
                  subst eo36
                  obtain ⟨co37, eo37⟩ := HA_HO153.out
                  clear HA_HO153
                  subst eo37
                  have hs38 : w'.cell? ⟨gb121, 0, none⟩ = some (.int .i64 0) := (blk_cell BK121.out 0).trans rfl
                  have hfs38 := blk_frozen BK121.out 0
                  have hs39 : w'.cell? ⟨gb121, 1, none⟩ = some (.int .i64 0) := (blk_cell BK121.out 1).trans rfl
                  have hfs39 := blk_frozen BK121.out 1
                  have hs40 : w'.cell? ⟨gb121, 2, none⟩ = some (.int .i64 0) := (blk_cell BK121.out 2).trans rfl
                  have hfs40 := blk_frozen BK121.out 2
                  have hs41 : w'.cell? ⟨gb121, 3, none⟩ = some (.int .i64 0) := (blk_cell BK121.out 3).trans rfl
                  have hfs41 := blk_frozen BK121.out 3
                  refine skip_ (w1 := ?_) (by rfl) rfl ?_ ?_
                  rotate_left
                  · go_simp
                    rfl
                  refine hK.out _ _ ⟨.slice (some adz_v136) y135.length co36, adz_v136, .slice (some adz_v152) y151.length co37, adz_v152, m5_, m20_, (by rw [ha.out]; exact putSel_none (v := undef) rfl), (by (with_reducible repeat (first | apply Kd.R_alloc | apply Kd.R_drewN | apply Kd.R_drew)); exact Kd.R_mono (Kd.R_far (p := ⟨gb121, 3, none⟩) (Kd.R_far (p := ⟨gb121, 2, none⟩) (Kd.R_far (p := ⟨gb121, 1, none⟩) (Kd.R_far (p := ⟨gb121, 0, none⟩) (Kd.R_types HO127.out BK121.out (by decide)) (fun _ hk => by first | exact hk.2 | exact trivial | exact hk.1.2 | exact ⟨hk.1.1, hk.1.2⟩ | exact hk.1 | exact hk | (simp_all; done)) (.int .i64 (rd y135 t138))) (fun _ hk => by first | exact hk.2 | exact trivial | exact hk.1.2 | exact ⟨hk.1.1, hk.1.2⟩ | exact hk.1 | exact hk | (simp_all; done)) (.int .i64 (rd y125 t128))) (fun _ hk => by first | exact hk.2 | exact trivial | exact hk.1.2 | exact ⟨hk.1.1, hk.1.2⟩ | exact hk.1 | exact hk | (simp_all; done)) (.int .i64 t142)) (fun _ hk => by first | exact hk.2 | exact trivial | exact hk.1.2 | exact ⟨hk.1.1, hk.1.2⟩ | exact hk.1 | exact hk | (simp_all; done)) (.int .i64 (rd y151 t154))) (fun _ hk => by first | exact hk.2 | exact trivial | exact hk.1.2 | exact ⟨hk.1.1, hk.1.2⟩ | exact hk.1 | exact hk | (simp_all; done))), fun h0_ => absurd ((up_self b 23).symm.trans h0_) (by decide), fun h0_ => absurd ((hon 1 (by kernel_rfl)).symm.trans h0_) (by decide), (by repeat (first | (with_reducible first | exact HK.out | apply KeepBut.set_ | apply keep_drewN | apply keep_drew | apply keep_alloc | refine keep_far ?_ GW121.out _) | exact HK.out)), (by repeat (first | (with_reducible first | exact HB.out | apply below_alloc | apply pw_below_drewN | apply below_drew1 | refine below_set ?_ (IsS67.ge HI0.out) | refine below_set ?_ GE121.out) | exact HB.out)), fun _ h1_ => absurd ((hon 4 (by kernel_rfl)).symm.trans h1_) (by decide), fun _ => (by (with_reducible repeat (first | apply Kd.R_alloc | apply Kd.R_drewN | apply Kd.R_drew)); exact Kd.R_mono (Kd.R_far (p := ⟨gb121, 3, none⟩) (Kd.R_far (p := ⟨gb121, 2, none⟩) (Kd.R_far (p := ⟨gb121, 1, none⟩) (Kd.R_far (p := ⟨gb121, 0, none⟩) (Kd.R_types HO137.out BK121.out (by decide)) (fun _ hk => by first | exact hk.2 | exact trivial | exact hk.1.2 | exact ⟨hk.1.1, hk.1.2⟩ | exact hk.1 | exact hk | (simp_all; done)) (.int .i64 (rd y135 t138))) (fun _ hk => by first | exact hk.2 | exact trivial | exact hk.1.2 | exact ⟨hk.1.1, hk.1.2⟩ | exact hk.1 | exact hk | (simp_all; done)) (.int .i64 (rd y125 t128))) (fun _ hk => by first | exact hk.2 | exact trivial | exact hk.1.2 | exact ⟨hk.1.1, hk.1.2⟩ | exact hk.1 | exact hk | (simp_all; done)) (.int .i64 t142)) (fun _ hk => by first | exact hk.2 | exact trivial | exact hk.1.2 | exact ⟨hk.1.1, hk.1.2⟩ | exact hk.1 | exact hk | (simp_all; done)) (.int .i64 (rd y151 t154))) (fun _ hk => by first | exact hk.2 | exact trivial | exact hk.1.2 | exact ⟨hk.1.1, hk.1.2⟩ | exact hk.1 | exact hk | (simp_all; done))), fun _ => ⟨_, rfl⟩, fun _ h1_ => absurd ((hon 11 (by kernel_rfl)).symm.trans h1_) (by decide), fun _ h1_ => absurd ((hon 13 (by kernel_rfl)).symm.trans h1_) (by decide), fun _ h1_ => absurd ((hon 15 (by kernel_rfl)).symm.trans h1_) (by decide), fun _ h1_ => absurd ((hon 19 (by kernel_rfl)).symm.trans h1_) (by decide), fun _ => (by (with_reducible repeat (first | apply Kd.R_alloc | apply Kd.R_drewN | apply Kd.R_drew)); exact Kd.R_mono (Kd.R_far (p := ⟨gb121, 3, none⟩) (Kd.R_far (p := ⟨gb121, 2, none⟩) (Kd.R_far (p := ⟨gb121, 1, none⟩) (Kd.R_far (p := ⟨gb121, 0, none⟩) (Kd.R_types HO153.out BK121.out (by decide)) (fun _ hk => by first | exact hk.2 | exact trivial | exact hk.1.2 | exact ⟨hk.1.1, hk.1.2⟩ | exact hk.1 | exact hk | (simp_all; done)) (.int .i64 (rd y135 t138))) (fun _ hk => by first | exact hk.2 | exact trivial | exact hk.1.2 | exact ⟨hk.1.1, hk.1.2⟩ | exact hk.1 | exact hk | (simp_all; done)) (.int .i64 (rd y125 t128))) (fun _ hk => by first | exact hk.2 | exact trivial | exact hk.1.2 | exact ⟨hk.1.1, hk.1.2⟩ | exact hk.1 | exact hk | (simp_all; done)) (.int .i64 t142)) (fun _ hk => by first | exact hk.2 | exact trivial | exact hk.1.2 | exact ⟨hk.1.1, hk.1.2⟩ | exact hk.1 | exact hk | (simp_all; done)) (.int .i64 (rd y151 t154))) (fun _ hk => by first | exact hk.2 | exact trivial | exact hk.1.2 | exact ⟨hk.1.1, hk.1.2⟩ | exact hk.1 | exact hk | (simp_all; done))), fun _ => ⟨_, rfl⟩, fun _ => (by repeat (first | (with_reducible first | exact HI0.out | apply IsS67.alloc | apply IsS67.drewN | apply IsS67.drew | apply IsS67.set_1 | apply IsS67.set_2 | refine IsS67.far ?_ NB0_121.out _) | exact HI0.out)), fun _ => (by (with_reducible repeat (first | refine blk_drewN ?_ _ | refine blk_drew ?_ | refine blk_alloc ?_ _)); refine blk_put (cs := #[.int .i64 (rd y135 t138), .int .i64 (rd y125 t128), .int .i64 t142, .int .i64 0]) ?_ 3 _ rfl; (with_reducible repeat (first | refine blk_drewN ?_ _ | refine blk_drew ?_ | refine blk_alloc ?_ _)); refine blk_put (cs := #[.int .i64 (rd y135 t138), .int .i64 (rd y125 t128), .int .i64 0, .int .i64 0]) ?_ 2 _ rfl; (with_reducible repeat (first | refine blk_drewN ?_ _ | refine blk_drew ?_ | refine blk_alloc ?_ _)); refine blk_put (cs := #[.int .i64 (rd y135 t138), .int .i64 0, .int .i64 0, .int .i64 0]) ?_ 1 _ rfl; (with_reducible repeat (first | refine blk_drewN ?_ _ | refine blk_drew ?_ | refine blk_alloc ?_ _)); refine blk_put (cs := #[.int .i64 0, .int .i64 0, .int .i64 0, .int .i64 0]) ?_ 0 _ rfl; (with_reducible repeat (first | refine blk_drewN ?_ _ | refine blk_drew ?_ | refine blk_alloc ?_ _)); exact BK121.out), Q_X5_, Q_X20_⟩
                exact steps_nil
              rintro b a w39 hall ⟨v136, adz_v136, v152, adz_v152, m5_, m20_, ha, Q_HO127, Q_BK121, Q_HI0, Q_HK, Q_HB, Q_HI0_e1, Q_HO137, Q_HA_HO137, Q_HI0_e4, Q_HI0_e11, Q_HI0_e13, Q_HI0_e15, Q_HO153, Q_HA_HO153, Q_HI0_e19, Q_BK121_e23, Q_X5_, Q_X20_⟩
              clear BK121 HB HI0 HK HO127
              have hb1_ := hall 1 (by kernel_rfl)
              have hb2_ := hall 2 (by kernel_rfl)
              have hb4_ := hall 4 (by kernel_rfl)
              have hb5_ := hall 5 (by kernel_rfl)
              have hb6_ := hall 6 (by kernel_rfl)
              have hb10_ := hall 10 (by kernel_rfl)
              have hb11_ := hall 11 (by kernel_rfl)
              have hb13_ := hall 13 (by kernel_rfl)
              have hb15_ := hall 15 (by kernel_rfl)
              have hb16_ := hall 16 (by kernel_rfl)
              have hb17_ := hall 17 (by kernel_rfl)
              have hb19_ := hall 19 (by kernel_rfl)
              have hb20_ := hall 20 (by kernel_rfl)
              have hb21_ := hall 21 (by kernel_rfl)
              have hb22_ := hall 22 (by kernel_rfl)
              have hb23_ := hall 23 (by kernel_rfl)
              subst ha
              obtain rfl := Q_X5_ hb5_
              obtain rfl := Q_X20_ hb20_
              simp only [putSel, hb1_, hb2_, hb4_, hb5_, hb6_, hb10_, hb11_, hb13_, hb15_, hb16_, hb17_, hb19_, hb20_, hb21_, hb22_, hb23_, if_true, Act.put, List.setIfInBounds_toArray, List.set_cons_zero, List.set_cons_succ]
              have HO127 := Aside0.mk Q_HO127
              clear Q_HO127
              clear Q_BK121
              clear Q_HI0
              have HK := Aside0.mk Q_HK
              clear Q_HK
              have HB := Aside0.mk Q_HB
              clear Q_HB
              clear Q_HI0_e1
              have HO137 := Aside0.mk (Q_HO137 hb2_)
              clear Q_HO137
              have HA_HO137 := Aside0.mk (Q_HA_HO137 hb2_)
              clear Q_HA_HO137
              clear Q_HI0_e4
              clear Q_HI0_e11
              clear Q_HI0_e13
              clear Q_HI0_e15
              have HO153 := Aside0.mk (Q_HO153 hb17_)
              clear Q_HO153
              have HA_HO153 := Aside0.mk (Q_HA_HO153 hb17_)
              clear Q_HA_HO153
              have HI0 := Aside0.mk (Q_HI0_e19 hb19_)
              clear Q_HI0_e19
              have BK121 := Aside0.mk (Q_BK121_e23 hb23_)
              clear Q_BK121_e23
              clear hall hb1_ hb2_ hb4_ hb5_ hb6_ hb10_ hb11_ hb13_ hb15_ hb16_ hb17_ hb19_ hb20_ hb21_ hb22_ hb23_
              obtain ⟨co40, eo40⟩ := HA_HO137.out
              clear HA_HO137
              subst eo40
              obtain ⟨co41, eo41⟩ := HA_HO153.out
              clear HA_HO153
              subst eo41
              try go_wp2
              refine bodyPost_ret (results_cell_row rfl _ _ gb121 25 #[.int .i64 (rd y135 t138), .int .i64 (rd y125 t128), .int .i64 t142, .int .i64 (rd y151 t154)] (0, 0) _ rfl (by (with_reducible repeat (first | refine blk_drewN ?_ _ | refine blk_drew ?_ | refine blk_alloc ?_ _)); exact BK121.out) Try.underlying25 rfl (by kernel_rfl)) rfl ?_
              exact ⟨by first | rfl | (simp [errW_none, errW_some] <;> rfl) | (simp [*, errW_none, errW_some] <;> rfl), by repeat (first | (with_reducible first | exact HI0.out | apply IsS67.alloc | apply IsS67.drewN | apply IsS67.drew | apply IsS67.set_1 | apply IsS67.set_2 | refine IsS67.far ?_ NB0_121.out _) | exact HI0.out), by repeat (first | (with_reducible first | exact HB.out | apply below_alloc | apply pw_below_drewN | apply below_drew1 | refine below_set ?_ (IsS67.ge HI0.out) | refine below_set ?_ GE121.out) | exact HB.out), by repeat (first | (with_reducible first | exact HK.out | apply KeepBut.set_ | apply keep_drewN | apply keep_drew | apply keep_alloc | refine keep_far ?_ GW121.out _) | exact HK.out)⟩
            · rw [if_neg c15] at H
              exact absurd H (by simp)
          · rw [if_neg c14] at H
            exact absurd H (by simp)
        · rw [if_neg c9] at H
          exact absurd H (by simp)
      · rw [if_neg c8] at H
        exact absurd H (by simp)
    · rw [if_neg c5] at H
      exact absurd H (by simp)
  · rw [if_neg c4] at H
    exact absurd H (by simp)

/-! ### spec_BucketOf: function 23 -/
def spec_BucketOf.f (l0 : List Int) : Option (Int × Int × Int × Int) := (spec_l00Source.f l0).bind fun bt159 => ((spec_l00Src_bucket.f bt159.1 bt159.2.1 bt159.2.2).bind fun bt163 => (some (bt163.1, bt163.2.1, bt163.2.2.1, bt163.2.2.2.1)))
set_option maxHeartbeats 8000000 in
set_option maxRecDepth 100000 in
theorem spec_BucketOf.calls (A0 : Option Addr) (c0 : Nat) (l0 : List Int) (r1 : Int) (r2 : Int) (r3 : Int) (r4 : Int) (w : World) (hr0 : Kd.C (Kd.int .u8) w A0 l0.length l0) (hc0 : l0.length ≤ c0) (h : spec_BucketOf.f l0 = some (r1, r2, r3, r4)) :
    Calls Try.prog 23 #[.slice A0 l0.length c0] w fun e w' => e = .returned (.agg #[.int .i64 r1, .int .i64 r2, .int .i64 r3, .int .i64 r4]) ∧ Below w.heap.size w w' := by
  have hu25 := Try.underlying25
  have HR0 := Aside0.mk hr0
  have HC0 := Aside0.mk hc0
  clear hr0 hc0
  have HB := Aside0.mk (Below.refl w.heap.size w)
  have H : ((spec_l00Source.f l0).bind fun bt159 => ((spec_l00Src_bucket.f bt159.1 bt159.2.1 bt159.2.2).bind fun bt163 => (some (bt163.1, bt163.2.1, bt163.2.2.1, bt163.2.2.2.1)))) = some (r1, r2, r3, r4) := h
  clear h
  replace H := Option.bind_eq_some_iff.mp H
  obtain ⟨⟨t159, t160, t161⟩, A20, H⟩ := H
  replace H : ((spec_l00Src_bucket.f t159 t160 t161).bind fun bt163 => (some (bt163.1, bt163.2.1, bt163.2.2.1, bt163.2.2.2.1))) = some (r1, r2, r3, r4) := H
  have A2 := Aside0.mk A20
  clear A20
  replace H := Option.bind_eq_some_iff.mp H
  obtain ⟨⟨t163, t164, t165, t166, t167, t168⟩, A30, H⟩ := H
  replace H : (some (t163, t164, t165, t166)) = some (r1, r2, r3, r4) := H
  have A3 := Aside0.mk A30
  clear A30
  simp only [Option.some.injEq, Prod.mk.injEq] at H
  obtain ⟨rfl, rfl, rfl, rfl⟩ := H
  go_enter Try.func23, Try.ntmps23
  go_wp2_with (first | ((with_reducible refine gate_dst (N := 2) rfl ?_); refine box_event ?hg (N := 2) ?hd (cs := #[.int .i64 0, .int .i64 0, .int .i64 0, .int .i64 0]) (t := 25) ?hr ?_; (case hd => rfl); (case hg => rfl); (case hr => first | (go_simp; done) | (go_simp; rfl)); intro gb158 hg w4 hbox hb; have n0_ := Aside0.mk (below_step (by repeat (first | (with_reducible first | exact HB.out | apply below_alloc | apply pw_below_drewN | apply below_drew1) | exact HB.out)) hb); have n1_ := Aside0.mk (hbox); have n2_ := Aside0.mk ((by rw [hg]; exact (below_size (by repeat (first | (with_reducible first | exact HB.out | apply below_alloc | apply pw_below_drewN | apply below_drew1) | exact HB.out))) : w.heap.size ≤ gb158)); have n3_ := Aside0.mk ((by rw [hg]; exact (below_size (by repeat (first | (with_reducible first | exact HB.out | apply below_alloc | apply pw_below_drewN | apply below_drew1) | exact HB.out))) : w.heap.size ≤ gb158)); clear HB; have HB := n0_; have BK158 := n1_; have GW158 := n2_; have GE158 := n3_; clear n0_ n1_ n2_ n3_; clear hb hbox hg) | ((with_reducible refine gate_callee (f := 42) rfl ?_); refine goesL_ (some 4) rfl rfl Try.func42 (by kernel_rfl) rfl #[.slice A0 l0.length c0] rfl (by (try simp only [List.map_toArray, List.map_cons, List.map_nil]); first | done | rfl | (simp only [List.length_drop, List.length_take]; rfl)) ?_; (with_reducible refine (spec_l00Source.calls _ _ l0 t159 t160 t161 w _ ?side1 ?side2 ?side3 A2.out).mono ?_); (case side1 => repeat (first | (with_reducible first | exact HB.out | apply below_alloc | apply pw_below_drewN | apply below_drew1 | refine below_set ?_ GE158.out) | exact HB.out)); (case side2 => exact HR0.out); (case side3 => exact HC0.out); rintro e w5 ⟨g162, rfl, hi, hb, hb2⟩; refine ⟨_, rfl, ?_⟩; have n0_ := Aside0.mk (blk_below (g := gb158) (o := .cells #[.int .i64 0, .int .i64 0, .int .i64 0, .int .i64 0] 25 (0, 0)) (by (with_reducible repeat (first | refine blk_drewN ?_ _ | refine blk_drew ?_ | refine blk_alloc ?_ _)); exact BK158.out) hb2); have n1_ := Aside0.mk (hb); have n2_ := Aside0.mk (hi); have n3_ := Aside0.mk (IsS67.ne_blk hi (blk_below (g := gb158) (o := .cells #[.int .i64 0, .int .i64 0, .int .i64 0, .int .i64 0] 25 (0, 0)) (by (with_reducible repeat (first | refine blk_drewN ?_ _ | refine blk_drew ?_ | refine blk_alloc ?_ _)); exact BK158.out) hb2) (by decide)); have n4_ := Aside0.mk (Ne.symm (IsS67.ne_blk hi (blk_below (g := gb158) (o := .cells #[.int .i64 0, .int .i64 0, .int .i64 0, .int .i64 0] 25 (0, 0)) (by (with_reducible repeat (first | refine blk_drewN ?_ _ | refine blk_drew ?_ | refine blk_alloc ?_ _)); exact BK158.out) hb2) (by decide))); clear BK158; clear HB; have BK158 := n0_; have HB := n1_; have HI162 := n2_; have NB162_158 := n3_; have NB158_162 := n4_; clear n0_ n1_ n2_ n3_ n4_; (try clear hb); (try clear hb2); (try clear hk); (try clear hi)) | ((with_reducible refine gate_callee (f := 43) rfl ?_); refine goesL_ (some 5) rfl rfl Try.func43 (by kernel_rfl) rfl #[.pointer (some ⟨g162, 0, none⟩)] rfl (by (try simp only [List.map_toArray, List.map_cons, List.map_nil]); first | done | rfl | (simp only [List.length_drop, List.length_take]; rfl)) ?_; (with_reducible refine (spec_l00Src_bucket.calls g162 t159 t160 t161 t163 t164 t165 t166 t167 t168 w _ ?side1 ?side2 A3.out).mono ?_); (case side1 => repeat (first | (with_reducible first | exact HI162.out | apply IsS67.alloc | apply IsS67.drewN | apply IsS67.drew | apply IsS67.set_1 | apply IsS67.set_2 | refine IsS67.far ?_ NB162_158.out _) | exact HI162.out)); (case side2 => repeat (first | (with_reducible first | exact HB.out | apply below_alloc | apply pw_below_drewN | apply below_drew1 | refine below_set ?_ (IsS67.ge HI162.out) | refine below_set ?_ GE158.out) | exact HB.out)); rintro e w6 ⟨rfl, hi, hb, hk⟩; refine ⟨_, rfl, ?_⟩; have n0_ := Aside0.mk (KeepBut.blk hk (g' := gb158) (o := .cells #[.int .i64 0, .int .i64 0, .int .i64 0, .int .i64 0] 25 (0, 0)) (by (with_reducible repeat (first | refine blk_drewN ?_ _ | refine blk_drew ?_ | refine blk_alloc ?_ _)); exact BK158.out) NB158_162.out (by simp)); have n1_ := Aside0.mk (hb); have n2_ := Aside0.mk (hi); clear BK158; clear HB; clear HI162; have BK158 := n0_; have HB := n1_; have HI162 := n2_; clear n0_ n1_ n2_; (try clear hb); (try clear hb2); (try clear hk); (try clear hi); have hnb7 := NB158_162.out; have hnc7 := NB162_158.out; have hcz8_0 : w6.cell? ⟨gb158, 0, none⟩ = some (.int .i64 0) := (blk_cell BK158.out 0).trans rfl; have hcz8_1 : w6.cell? ⟨gb158, 1, none⟩ = some (.int .i64 0) := (blk_cell BK158.out 1).trans rfl; have hcz8_2 : w6.cell? ⟨gb158, 2, none⟩ = some (.int .i64 0) := (blk_cell BK158.out 2).trans rfl; have hcz8_3 : w6.cell? ⟨gb158, 3, none⟩ = some (.int .i64 0) := (blk_cell BK158.out 3).trans rfl; have hfz8_0 := blk_frozen BK158.out 0; have hfz8_1 := blk_frozen BK158.out 1; have hfz8_2 := blk_frozen BK158.out 2; have hfz8_3 := blk_frozen BK158.out 3))
  refine bodyPost_ret (results_cell_row rfl _ _ gb158 25 #[.int .i64 t163, .int .i64 t164, .int .i64 t165, .int .i64 t166] (0, 0) _ rfl (by (with_reducible repeat (first | refine blk_drewN ?_ _ | refine blk_drew ?_ | refine blk_alloc ?_ _)); refine blk_put (cs := #[.int .i64 t163, .int .i64 t164, .int .i64 t165, .int .i64 0]) ?_ 3 _ rfl; (with_reducible repeat (first | refine blk_drewN ?_ _ | refine blk_drew ?_ | refine blk_alloc ?_ _)); refine blk_put (cs := #[.int .i64 t163, .int .i64 t164, .int .i64 0, .int .i64 0]) ?_ 2 _ rfl; (with_reducible repeat (first | refine blk_drewN ?_ _ | refine blk_drew ?_ | refine blk_alloc ?_ _)); refine blk_put (cs := #[.int .i64 t163, .int .i64 0, .int .i64 0, .int .i64 0]) ?_ 1 _ rfl; (with_reducible repeat (first | refine blk_drewN ?_ _ | refine blk_drew ?_ | refine blk_alloc ?_ _)); refine blk_put (cs := #[.int .i64 0, .int .i64 0, .int .i64 0, .int .i64 0]) ?_ 0 _ rfl; (with_reducible repeat (first | refine blk_drewN ?_ _ | refine blk_drew ?_ | refine blk_alloc ?_ _)); exact BK158.out) Try.underlying25 rfl (by kernel_rfl)) rfl ?_
  exact ⟨by first | rfl | (simp [errW_none, errW_some] <;> rfl) | (simp [*, errW_none, errW_some] <;> rfl), by repeat (first | (with_reducible first | exact HB.out | apply below_alloc | apply pw_below_drewN | apply below_drew1 | refine below_set ?_ (IsS67.ge HI162.out) | refine below_set ?_ GE158.out) | exact HB.out)⟩

/-! ### spec_l00Src_size: function 49 -/
def spec_l00Src_size.f (s0_0 : List Int) (s0_1 : Int) (s0_2 : Int) (a1 : Int) : Option (Int × Int × Int) := some (mn (wrap64 (1 + (wrap64 ((s0_0.length : Int) / 12)))) a1, s0_1, s0_2)
set_option maxHeartbeats 8000000 in
set_option maxRecDepth 100000 in
theorem spec_l00Src_size.calls (g : Nat) (s0_0 : List Int) (s0_1 : Int) (s0_2 : Int) (a1 : Int) (r1 : Int) (r2 : Int) (r3 : Int) (w0 w : World) (hI : IsS67 w0 w g s0_0 s0_1 s0_2) (hB : Below w0.heap.size w0 w) (h : spec_l00Src_size.f s0_0 s0_1 s0_2 a1 = some (r1, r2, r3)) :
    Calls Try.prog 49 #[.pointer (some ⟨g, 0, none⟩), .int .i64 a1] w fun e w' => e = .returned (.int .i64 r1) ∧ IsS67 w0 w' g s0_0 r2 r3 ∧ Below w0.heap.size w0 w' ∧ KeepBut w w' g none := by
  have HI0 := Aside0.mk hI
  have HK := Aside0.mk (KeepBut.refl w g none)
  have HL := Aside0.mk hB.size
  clear hI
  have HW0 := Aside0.mk hB.size
  have HB := Aside0.mk hB
  clear hB
  have H : (some (mn (wrap64 (1 + (wrap64 ((s0_0.length : Int) / 12)))) a1, s0_1, s0_2)) = some (r1, r2, r3) := h
  clear h
  obtain ⟨ji3, hji3⟩ : ∃ j_ : Int, (mn (wrap64 (1 + (wrap64 ((s0_0.length : Int) / 12)))) a1) = j_ := ⟨_, rfl⟩
  replace H : (some (ji3, s0_1, s0_2)) = some (r1, r2, r3) := by first | (rw [hji3] at H; exact H) | (simp only [hji3] at H ⊢; exact H)
  have hji3_ : (if a1 < (wrap64 (1 + (wrap64 ((s0_0.length : Int) / 12)))) then a1 else (wrap64 (1 + (wrap64 ((s0_0.length : Int) / 12))))) = ji3 := hji3
  simp only [Option.some.injEq, Prod.mk.injEq] at H
  obtain ⟨rfl, rfl, rfl⟩ := H
  obtain ⟨ASz4_0, cSz4_0, HGz4, hgz4, HSz4_0⟩ := HI0.out
  have hcz4_0 := cellS67_0 HGz4
  have hcz4_1 := cellS67_1 HGz4
  have hcz4_2 := cellS67_2 HGz4
  have hfz4_1 := blk_frozen HGz4 1
  have hfz4_2 := blk_frozen HGz4 2
  clear HGz4 hgz4
  go_enter Try.func49, Try.ntmps49
  go_wp2
  go_ret
  exact ⟨by first | rfl | (simp [errW_none, errW_some] <;> rfl) | (simp only [← hji3]; first | rfl | (simp [errW_none, errW_some] <;> rfl)) | (simp [*, errW_none, errW_some] <;> rfl), by repeat (first | (with_reducible first | exact HI0.out | apply IsS67.alloc | apply IsS67.drewN | apply IsS67.drew | apply IsS67.set_1 | apply IsS67.set_2) | exact HI0.out), by repeat (first | (with_reducible first | exact HB.out | apply below_alloc | apply pw_below_drewN | apply below_drew1 | refine below_set ?_ (IsS67.ge HI0.out)) | exact HB.out), by repeat (first | (with_reducible first | exact HK.out | apply KeepBut.set_ | apply keep_drewN | apply keep_drew | apply keep_alloc) | exact HK.out)⟩

/-! ### spec_l00Src_chance: function 50 -/
def spec_l00Src_chance.f (s0_0 : List Int) (s0_1 : Int) (s0_2 : Int) (a1 : Int) : Option (Bool × Int × Int) := (spec_l00Src_next.f s0_0 s0_1 s0_2 a1).bind fun bt169 => (some ((bt169.1 == (wrap64 (a1 - 1))), bt169.2.1, bt169.2.2))
set_option maxHeartbeats 8000000 in
set_option maxRecDepth 100000 in
theorem spec_l00Src_chance.calls (g : Nat) (s0_0 : List Int) (s0_1 : Int) (s0_2 : Int) (a1 : Int) (r1 : Bool) (r2 : Int) (r3 : Int) (w0 w : World) (hI : IsS67 w0 w g s0_0 s0_1 s0_2) (hB : Below w0.heap.size w0 w) (h : spec_l00Src_chance.f s0_0 s0_1 s0_2 a1 = some (r1, r2, r3)) :
    Calls Try.prog 50 #[.pointer (some ⟨g, 0, none⟩), .int .i64 a1] w fun e w' => e = .returned (.bool r1) ∧ IsS67 w0 w' g s0_0 r2 r3 ∧ Below w0.heap.size w0 w' ∧ KeepBut w w' g none := by
  have HI0 := Aside0.mk hI
  have HK := Aside0.mk (KeepBut.refl w g none)
  have HL := Aside0.mk hB.size
  clear hI
  have HW0 := Aside0.mk hB.size
  have HB := Aside0.mk hB
  clear hB
  have H : ((spec_l00Src_next.f s0_0 s0_1 s0_2 a1).bind fun bt169 => (some ((bt169.1 == (wrap64 (a1 - 1))), bt169.2.1, bt169.2.2))) = some (r1, r2, r3) := h
  clear h
  replace H := Option.bind_eq_some_iff.mp H
  obtain ⟨⟨t169, t170, t171⟩, A30, H⟩ := H
  replace H : (some ((t169 == (wrap64 (a1 - 1))), t170, t171)) = some (r1, r2, r3) := H
  have A3 := Aside0.mk A30
  clear A30
  simp only [Option.some.injEq, Prod.mk.injEq] at H
  obtain ⟨rfl, rfl, rfl⟩ := H
  go_enter Try.func50, Try.ntmps50
  go_wp2_with (first | ((with_reducible refine gate_callee (f := 48) rfl ?_); refine goesL_ (some 7) rfl rfl Try.func48 (by kernel_rfl) rfl #[.pointer (some ⟨g, 0, none⟩), .int .i64 a1] rfl (by (try simp only [List.map_toArray, List.map_cons, List.map_nil]); first | done | rfl | (simp only [List.length_drop, List.length_take]; rfl)) ?_; (with_reducible refine (spec_l00Src_next.calls g s0_0 s0_1 s0_2 a1 t169 t170 t171 w0 _ ?side1 ?side2 A3.out).mono ?_); (case side1 => repeat (first | (with_reducible first | exact HI0.out | apply IsS67.alloc | apply IsS67.drewN | apply IsS67.drew | apply IsS67.set_1 | apply IsS67.set_2) | exact HI0.out)); (case side2 => repeat (first | (with_reducible first | exact HB.out | apply below_alloc | apply pw_below_drewN | apply below_drew1 | refine below_set ?_ (IsS67.ge HI0.out)) | exact HB.out)); rintro e w4 ⟨rfl, hi, hb, hk⟩; refine ⟨_, rfl, ?_⟩; have n0_ := Aside0.mk (KeepBut.trans (by repeat (first | (with_reducible first | exact HK.out | apply KeepBut.set_ | apply keep_drewN | apply keep_drew | apply keep_alloc) | exact HK.out)) hk (.inl rfl)); have n1_ := Aside0.mk (hb); have n2_ := Aside0.mk (hi); clear HK; clear HB; clear HI0; have HK := n0_; have HB := n1_; have HI0 := n2_; clear n0_ n1_ n2_; (try clear hb); (try clear hb2); (try clear hk); (try clear hi)))
  go_ret
  exact ⟨by first | rfl | (simp [errW_none, errW_some] <;> rfl) | (simp [*, errW_none, errW_some] <;> rfl), by repeat (first | (with_reducible first | exact HI0.out | apply IsS67.alloc | apply IsS67.drewN | apply IsS67.drew | apply IsS67.set_1 | apply IsS67.set_2) | exact HI0.out), by repeat (first | (with_reducible first | exact HB.out | apply below_alloc | apply pw_below_drewN | apply below_drew1 | refine below_set ?_ (IsS67.ge HI0.out)) | exact HB.out), by repeat (first | (with_reducible first | exact HK.out | apply KeepBut.set_ | apply keep_drewN | apply keep_drew | apply keep_alloc) | exact HK.out)⟩

end Go.Proofs.Ytfjpfjofogbpgaa.PFnEnvelope
