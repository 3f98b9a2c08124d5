-- OWN TEXT of FnPrefixes: made by own_print.sh, finished by hand
import Derived.Test.YtnpbnmhbajiefaaDoorGFnPrefixesx0
import Derived.Test.YtnpbnmhbajiefaaDoorGFnPrefixesx2
namespace Go.Proofs.YtnpbnmhbajiefaaDoor.PFnPrefixes
open Go.RowKit Go.Proofs.YtnpbnmhbajiefaaDoorW.PrintWords Go.Proofs.YtnpbnmhbajiefaaDoorW.PrintLast Go.Proofs.YtnpbnmhbajiefaaDoorW.PrintMore
attribute [local go_sem] max2_int min2_int max_two min_two max_three min_three max_four min_four   -- for this text's walks alone
set_option linter.unusedVariables false
set_option linter.unusedSimpArgs false

/-! ### spec_l01Text: function 29 -/
mutual
def spec_l01Text.l0 : Nat → ByteArray → Int → Int → ByteArray → Int → Option (ByteArray)
  | 0, _, _, _, _, _ => none
  | k + 1, x0, x3, x4, x5, x6 => if x6 < 8 then (if x6 = x3 then (if x5.size + 2 ≤ 9223372036854775807 then (spec_l01Text.l0 k x0 x3 x4 (x5 ++ (⟨#[58, 58]⟩ : ByteArray)) (wrap64 ((wrap64 (x6 + (wrap64 (x4 - 1)))) + 1))) else (none)) else (if x6 > 0 then (spec_l01Text.j1 k x0 x3 x4 x5 x6 (x6 != (wrap64 (x3 + x4)))) else (spec_l01Text.j1 k x0 x3 x4 x5 x6 false))) else (some x5)
def spec_l01Text.j1 : Nat → ByteArray → Int → Int → ByteArray → Int → Bool → Option (ByteArray)
  | 0, _, _, _, _, _, _ => none
  | k + 1, x0, x3, x4, x5, x6, x58 => if x58 = true then (if x5.size + 1 ≤ 9223372036854775807 then ((spec_l01Word.f x0 x6).bind fun t173 => ((spec_l01Hex.f k t173).bind fun t174 => (if (x5 ++ (⟨#[58]⟩ : ByteArray)).size + t174.size ≤ 9223372036854775807 then (spec_l01Text.l0 k x0 x3 x4 ((x5 ++ (⟨#[58]⟩ : ByteArray)) ++ t174) (wrap64 (x6 + 1))) else (none)))) else (none)) else ((spec_l01Word.f x0 x6).bind fun t175 => ((spec_l01Hex.f k t175).bind fun t176 => (if x5.size + t176.size ≤ 9223372036854775807 then (spec_l01Text.l0 k x0 x3 x4 (x5 ++ t176) (wrap64 (x6 + 1))) else (none))))
end
def spec_l01Text.f (k : Nat) (a0 : ByteArray) : Option (ByteArray) := if (a0.size : Int) = 4 then (if 0 < (a0.size : Int) then ((spec_l00Digits.f k (wrap64 (bt a0 0))).bind fun t167 => (if t167.size + 1 ≤ 9223372036854775807 then (if 1 < (a0.size : Int) then ((spec_l00Digits.f k (wrap64 (bt a0 1))).bind fun t168 => (if (t167 ++ (⟨#[46]⟩ : ByteArray)).size + t168.size ≤ 9223372036854775807 then (if ((t167 ++ (⟨#[46]⟩ : ByteArray)) ++ t168).size + 1 ≤ 9223372036854775807 then (if 2 < (a0.size : Int) then ((spec_l00Digits.f k (wrap64 (bt a0 2))).bind fun t169 => (if (((t167 ++ (⟨#[46]⟩ : ByteArray)) ++ t168) ++ (⟨#[46]⟩ : ByteArray)).size + t169.size ≤ 9223372036854775807 then (if ((((t167 ++ (⟨#[46]⟩ : ByteArray)) ++ t168) ++ (⟨#[46]⟩ : ByteArray)) ++ t169).size + 1 ≤ 9223372036854775807 then (if 3 < (a0.size : Int) then ((spec_l00Digits.f k (wrap64 (bt a0 3))).bind fun t170 => (if (((((t167 ++ (⟨#[46]⟩ : ByteArray)) ++ t168) ++ (⟨#[46]⟩ : ByteArray)) ++ t169) ++ (⟨#[46]⟩ : ByteArray)).size + t170.size ≤ 9223372036854775807 then (some ((((((t167 ++ (⟨#[46]⟩ : ByteArray)) ++ t168) ++ (⟨#[46]⟩ : ByteArray)) ++ t169) ++ (⟨#[46]⟩ : ByteArray)) ++ t170)) else (none))) else (none)) else (none)) else (none))) else (none)) else (none)) else (none))) else (none)) else (none))) else (none)) else ((spec_l01Gap.f k a0).bind fun bt171 => (spec_l01Text.l0 k a0 bt171.1 bt171.2 (⟨#[]⟩ : ByteArray) 0))
theorem spec_l01Text.mono_l : ∀ k, (∀ y0 y1 y2 y3 y4, LeO (spec_l01Text.l0 k y0 y1 y2 y3 y4) (spec_l01Text.l0 (k + 1) y0 y1 y2 y3 y4)) ∧ (∀ y0 y1 y2 y3 y4 y5, LeO (spec_l01Text.j1 k y0 y1 y2 y3 y4 y5) (spec_l01Text.j1 (k + 1) y0 y1 y2 y3 y4 y5))
  | 0 => ⟨fun _ _ _ _ _ r h => by simp [spec_l01Text.l0] at h, fun _ _ _ _ _ _ r h => by simp [spec_l01Text.j1] at h⟩
  | k + 1 => by
    obtain ⟨ih0, ih1⟩ := spec_l01Text.mono_l k
    refine ⟨?_, ?_⟩
    · intro y0 y1 y2 y3 y4
      unfold spec_l01Text.l0
      repeat' first
      | (with_reducible exact ih0 _ _ _ _ _)
      | (with_reducible exact ih1 _ _ _ _ _ _)
      | (with_reducible exact spec_l00Digits.mono _ _)
      | (with_reducible exact spec_l01Gap.mono _ _)
      | (with_reducible exact spec_l01Hex.mono _ _)
      | (with_reducible exact LeO.refl _)
      | (with_reducible exact LeO.none _)
      | (with_reducible refine LeO.ite ?_ ?_)
      | (with_reducible refine LeO.bind ?_ (fun _ => ?_))
      | exact ih0 _ _ _ _ _
      | exact ih1 _ _ _ _ _ _
      | exact spec_l00Digits.mono _ _
      | exact spec_l01Gap.mono _ _
      | exact spec_l01Hex.mono _ _
      | exact LeO.none _
      | refine LeO.ite ?_ ?_
      | refine LeO.bind ?_ (fun _ => ?_)
    · intro y0 y1 y2 y3 y4 y5
      unfold spec_l01Text.j1
      repeat' first
      | (with_reducible exact ih0 _ _ _ _ _)
      | (with_reducible exact ih1 _ _ _ _ _ _)
      | (with_reducible exact spec_l00Digits.mono _ _)
      | (with_reducible exact spec_l01Gap.mono _ _)
      | (with_reducible exact spec_l01Hex.mono _ _)
      | (with_reducible exact LeO.refl _)
      | (with_reducible exact LeO.none _)
      | (with_reducible refine LeO.ite ?_ ?_)
      | (with_reducible refine LeO.bind ?_ (fun _ => ?_))
      | exact ih0 _ _ _ _ _
      | exact ih1 _ _ _ _ _ _
      | exact spec_l00Digits.mono _ _
      | exact spec_l01Gap.mono _ _
      | exact spec_l01Hex.mono _ _
      | exact LeO.none _
      | refine LeO.ite ?_ ?_
      | refine LeO.bind ?_ (fun _ => ?_)
theorem spec_l01Text.mono : ∀ a0 k, LeO (spec_l01Text.f k a0) (spec_l01Text.f (k + 1) a0) := by
  intro a0 k
  obtain ⟨ih0, ih1⟩ := spec_l01Text.mono_l k
  unfold spec_l01Text.f
  repeat' first
      | (with_reducible exact ih0 _ _ _ _ _)
      | (with_reducible exact ih1 _ _ _ _ _ _)
      | (with_reducible exact spec_l00Digits.mono _ _)
      | (with_reducible exact spec_l01Gap.mono _ _)
      | (with_reducible exact spec_l01Hex.mono _ _)
      | (with_reducible exact LeO.refl _)
      | (with_reducible exact LeO.none _)
      | (with_reducible refine LeO.ite ?_ ?_)
      | (with_reducible refine LeO.bind ?_ (fun _ => ?_))
      | exact ih0 _ _ _ _ _
      | exact ih1 _ _ _ _ _ _
      | exact spec_l00Digits.mono _ _
      | exact spec_l01Gap.mono _ _
      | exact spec_l01Hex.mono _ _
      | exact LeO.none _
      | refine LeO.ite ?_ ?_
      | refine LeO.bind ?_ (fun _ => ?_)
def spec_l01Text.T2 : Bool × List (List Nat × List Nat) := (true, [([], []), ([0], [0]), ([1], [1]), ([2], [2]), ([3], [3]), ([], []), ([5], [5]), ([6], [6]), ([7, 3], [7]), ([4, 8], [4, 8]), ([9], [9]), ([], []), ([11], [11]), ([12], [12]), ([13, 8], [13]), ([10, 14], [10, 14]), ([15], [15]), ([], []), ([17], [17]), ([18], [18]), ([19, 14], [19]), ([16, 20], [16, 20]), ([21, 20, 0, 1, 2, 3, 4, 5, 6, 7, 8, 9, 10, 11, 12, 13, 14, 15, 16, 17, 18, 19, 20, 21], [21])])
def spec_l01Text.B2 : List Nat := [0, 1, 3, 7, 15, 0, 32, 96, 239, 511, 1023, 0, 2048, 6144, 14831, 32767, 65535, 0, 131072, 393216, 948719, 2097151, 4194303]
theorem spec_l01Text.tab2 : rtab .any (opsOf Tryd.f29 2) = spec_l01Text.T2 := by kernel_rfl
theorem spec_l01Text.bits2 : waitsOk spec_l01Text.T2.2 spec_l01Text.B2 = true := by kernel_rfl
set_option maxHeartbeats 8000000 in
set_option maxRecDepth 100000 in
theorem spec_l01Text.calls (k : Nat) (a0 : ByteArray) (r : ByteArray) (w : World) (h : spec_l01Text.f k a0 = some r) :
    Calls Tryd.prog 29 #[.string a0] w fun e w' => e = .returned (.string r) ∧ Below w.heap.size w w' := by
  have HB := Aside0.mk (Below.refl w.heap.size w)
  have H : (if (a0.size : Int) = 4 then (if 0 < (a0.size : Int) then ((spec_l00Digits.f k (wrap64 (bt a0 0))).bind fun t167 => (if t167.size + 1 ≤ 9223372036854775807 then (if 1 < (a0.size : Int) then ((spec_l00Digits.f k (wrap64 (bt a0 1))).bind fun t168 => (if (t167 ++ (⟨#[46]⟩ : ByteArray)).size + t168.size ≤ 9223372036854775807 then (if ((t167 ++ (⟨#[46]⟩ : ByteArray)) ++ t168).size + 1 ≤ 9223372036854775807 then (if 2 < (a0.size : Int) then ((spec_l00Digits.f k (wrap64 (bt a0 2))).bind fun t169 => (if (((t167 ++ (⟨#[46]⟩ : ByteArray)) ++ t168) ++ (⟨#[46]⟩ : ByteArray)).size + t169.size ≤ 9223372036854775807 then (if ((((t167 ++ (⟨#[46]⟩ : ByteArray)) ++ t168) ++ (⟨#[46]⟩ : ByteArray)) ++ t169).size + 1 ≤ 9223372036854775807 then (if 3 < (a0.size : Int) then ((spec_l00Digits.f k (wrap64 (bt a0 3))).bind fun t170 => (if (((((t167 ++ (⟨#[46]⟩ : ByteArray)) ++ t168) ++ (⟨#[46]⟩ : ByteArray)) ++ t169) ++ (⟨#[46]⟩ : ByteArray)).size + t170.size ≤ 9223372036854775807 then (some ((((((t167 ++ (⟨#[46]⟩ : ByteArray)) ++ t168) ++ (⟨#[46]⟩ : ByteArray)) ++ t169) ++ (⟨#[46]⟩ : ByteArray)) ++ t170)) else (none))) else (none)) else (none)) else (none))) else (none)) else (none)) else (none))) else (none)) else (none))) else (none)) else ((spec_l01Gap.f k a0).bind fun bt171 => (spec_l01Text.l0 k a0 bt171.1 bt171.2 (⟨#[]⟩ : ByteArray) 0))) = some r := h
  clear h
  by_cases c2 : (a0.size : Int) = 4
  · rw [if_pos c2] at H
    have c2b0 : ((a0.size : Int) == 4) = true := beq_iff_eq.mpr c2
    have c2b1 : ((a0.size : Int) != 4) = false := bne_eq_false_iff_eq.mpr c2
    clear c2
    by_cases c3 : 0 < (a0.size : Int)
    · rw [if_pos c3] at H
      have c3b0 : decide (0 < (a0.size : Int)) = true := decide_eq_true c3
      have c3b1 : decide (0 < a0.size) = true := decide_eq_true (by omega)
      clear c3
      replace H := Option.bind_eq_some_iff.mp H
      obtain ⟨t167, A50, H⟩ := H
      replace H : (if t167.size + 1 ≤ 9223372036854775807 then (if 1 < (a0.size : Int) then ((spec_l00Digits.f k (wrap64 (bt a0 1))).bind fun t168 => (if (t167 ++ (⟨#[46]⟩ : ByteArray)).size + t168.size ≤ 9223372036854775807 then (if ((t167 ++ (⟨#[46]⟩ : ByteArray)) ++ t168).size + 1 ≤ 9223372036854775807 then (if 2 < (a0.size : Int) then ((spec_l00Digits.f k (wrap64 (bt a0 2))).bind fun t169 => (if (((t167 ++ (⟨#[46]⟩ : ByteArray)) ++ t168) ++ (⟨#[46]⟩ : ByteArray)).size + t169.size ≤ 9223372036854775807 then (if ((((t167 ++ (⟨#[46]⟩ : ByteArray)) ++ t168) ++ (⟨#[46]⟩ : ByteArray)) ++ t169).size + 1 ≤ 9223372036854775807 then (if 3 < (a0.size : Int) then ((spec_l00Digits.f k (wrap64 (bt a0 3))).bind fun t170 => (if (((((t167 ++ (⟨#[46]⟩ : ByteArray)) ++ t168) ++ (⟨#[46]⟩ : ByteArray)) ++ t169) ++ (⟨#[46]⟩ : ByteArray)).size + t170.size ≤ 9223372036854775807 then (some ((((((t167 ++ (⟨#[46]⟩ : ByteArray)) ++ t168) ++ (⟨#[46]⟩ : ByteArray)) ++ t169) ++ (⟨#[46]⟩ : ByteArray)) ++ t170)) else (none))) else (none)) else (none)) else (none))) else (none)) else (none)) else (none))) else (none)) else (none)) = some r := H
      have A5 := Aside0.mk A50
      clear A50
      by_cases c6 : t167.size + 1 ≤ 9223372036854775807
      · rw [if_pos c6] at H
        have c6b0 := eq_true c6
        have c6b1 : decide (t167.size + 1 ≤ 9223372036854775807) = true := decide_eq_true c6
        try have c6b2 : (9223372036854775807 < t167.size + 1) = False := eq_false (Nat.not_lt.2 c6)
        by_cases c7 : 1 < (a0.size : Int)
        · rw [if_pos c7] at H
          have c7b0 : decide (1 < (a0.size : Int)) = true := decide_eq_true c7
          have c7b1 : decide (1 < a0.size) = true := decide_eq_true (by omega)
          clear c7
          replace H := Option.bind_eq_some_iff.mp H
          obtain ⟨t168, A90, H⟩ := H
          replace H : (if (t167 ++ (⟨#[46]⟩ : ByteArray)).size + t168.size ≤ 9223372036854775807 then (if ((t167 ++ (⟨#[46]⟩ : ByteArray)) ++ t168).size + 1 ≤ 9223372036854775807 then (if 2 < (a0.size : Int) then ((spec_l00Digits.f k (wrap64 (bt a0 2))).bind fun t169 => (if (((t167 ++ (⟨#[46]⟩ : ByteArray)) ++ t168) ++ (⟨#[46]⟩ : ByteArray)).size + t169.size ≤ 9223372036854775807 then (if ((((t167 ++ (⟨#[46]⟩ : ByteArray)) ++ t168) ++ (⟨#[46]⟩ : ByteArray)) ++ t169).size + 1 ≤ 9223372036854775807 then (if 3 < (a0.size : Int) then ((spec_l00Digits.f k (wrap64 (bt a0 3))).bind fun t170 => (if (((((t167 ++ (⟨#[46]⟩ : ByteArray)) ++ t168) ++ (⟨#[46]⟩ : ByteArray)) ++ t169) ++ (⟨#[46]⟩ : ByteArray)).size + t170.size ≤ 9223372036854775807 then (some ((((((t167 ++ (⟨#[46]⟩ : ByteArray)) ++ t168) ++ (⟨#[46]⟩ : ByteArray)) ++ t169) ++ (⟨#[46]⟩ : ByteArray)) ++ t170)) else (none))) else (none)) else (none)) else (none))) else (none)) else (none)) else (none)) = some r := H
          have A9 := Aside0.mk A90
          clear A90
          by_cases c10 : (t167 ++ (⟨#[46]⟩ : ByteArray)).size + t168.size ≤ 9223372036854775807
          · rw [if_pos c10] at H
            have c10b0 := eq_true c10
            have c10b1 : decide ((t167 ++ (⟨#[46]⟩ : ByteArray)).size + t168.size ≤ 9223372036854775807) = true := decide_eq_true c10
            try have c10b2 : (9223372036854775807 < (t167 ++ (⟨#[46]⟩ : ByteArray)).size + t168.size) = False := eq_false (Nat.not_lt.2 c10)
            try have c10b3 : (9223372036854775807 < t167.size + 1 + t168.size) = False := eq_false (by have h_ := c10; simp only [ByteArray.size_append, ByteArray.size_extract, show (⟨#[46]⟩ : ByteArray).size = 1 from rfl] at h_; omega)
            by_cases c11 : ((t167 ++ (⟨#[46]⟩ : ByteArray)) ++ t168).size + 1 ≤ 9223372036854775807
            · rw [if_pos c11] at H
              have c11b0 := eq_true c11
              have c11b1 : decide (((t167 ++ (⟨#[46]⟩ : ByteArray)) ++ t168).size + 1 ≤ 9223372036854775807) = true := decide_eq_true c11
              try have c11b2 : (9223372036854775807 < ((t167 ++ (⟨#[46]⟩ : ByteArray)) ++ t168).size + 1) = False := eq_false (Nat.not_lt.2 c11)
              try have c11b3 : (9223372036854775807 < t167.size + 1 + t168.size + 1) = False := eq_false (by have h_ := c11; simp only [ByteArray.size_append, ByteArray.size_extract, show (⟨#[46]⟩ : ByteArray).size = 1 from rfl] at h_; omega)
              by_cases c12 : 2 < (a0.size : Int)
              · rw [if_pos c12] at H
                have c12b0 : decide (2 < (a0.size : Int)) = true := decide_eq_true c12
                have c12b1 : decide (2 < a0.size) = true := decide_eq_true (by omega)
                clear c12
                replace H := Option.bind_eq_some_iff.mp H
                obtain ⟨t169, A140, H⟩ := H
                replace H : (if (((t167 ++ (⟨#[46]⟩ : ByteArray)) ++ t168) ++ (⟨#[46]⟩ : ByteArray)).size + t169.size ≤ 9223372036854775807 then (if ((((t167 ++ (⟨#[46]⟩ : ByteArray)) ++ t168) ++ (⟨#[46]⟩ : ByteArray)) ++ t169).size + 1 ≤ 9223372036854775807 then (if 3 < (a0.size : Int) then ((spec_l00Digits.f k (wrap64 (bt a0 3))).bind fun t170 => (if (((((t167 ++ (⟨#[46]⟩ : ByteArray)) ++ t168) ++ (⟨#[46]⟩ : ByteArray)) ++ t169) ++ (⟨#[46]⟩ : ByteArray)).size + t170.size ≤ 9223372036854775807 then (some ((((((t167 ++ (⟨#[46]⟩ : ByteArray)) ++ t168) ++ (⟨#[46]⟩ : ByteArray)) ++ t169) ++ (⟨#[46]⟩ : ByteArray)) ++ t170)) else (none))) else (none)) else (none)) else (none)) = some r := H
                have A14 := Aside0.mk A140
                clear A140
                by_cases c15 : (((t167 ++ (⟨#[46]⟩ : ByteArray)) ++ t168) ++ (⟨#[46]⟩ : ByteArray)).size + t169.size ≤ 9223372036854775807
                · rw [if_pos c15] at H
                  have c15b0 := eq_true c15
                  have c15b1 : decide ((((t167 ++ (⟨#[46]⟩ : ByteArray)) ++ t168) ++ (⟨#[46]⟩ : ByteArray)).size + t169.size ≤ 9223372036854775807) = true := decide_eq_true c15
                  try have c15b2 : (9223372036854775807 < (((t167 ++ (⟨#[46]⟩ : ByteArray)) ++ t168) ++ (⟨#[46]⟩ : ByteArray)).size + t169.size) = False := eq_false (Nat.not_lt.2 c15)
                  try have c15b3 : (9223372036854775807 < t167.size + 1 + t168.size + 1 + t169.size) = False := eq_false (by have h_ := c15; simp only [ByteArray.size_append, ByteArray.size_extract, show (⟨#[46]⟩ : ByteArray).size = 1 from rfl] at h_; omega)
                  by_cases c16 : ((((t167 ++ (⟨#[46]⟩ : ByteArray)) ++ t168) ++ (⟨#[46]⟩ : ByteArray)) ++ t169).size + 1 ≤ 9223372036854775807
                  · rw [if_pos c16] at H
                    have c16b0 := eq_true c16
                    have c16b1 : decide (((((t167 ++ (⟨#[46]⟩ : ByteArray)) ++ t168) ++ (⟨#[46]⟩ : ByteArray)) ++ t169).size + 1 ≤ 9223372036854775807) = true := decide_eq_true c16
                    try have c16b2 : (9223372036854775807 < ((((t167 ++ (⟨#[46]⟩ : ByteArray)) ++ t168) ++ (⟨#[46]⟩ : ByteArray)) ++ t169).size + 1) = False := eq_false (Nat.not_lt.2 c16)
                    try have c16b3 : (9223372036854775807 < t167.size + 1 + t168.size + 1 + t169.size + 1) = False := eq_false (by have h_ := c16; simp only [ByteArray.size_append, ByteArray.size_extract, show (⟨#[46]⟩ : ByteArray).size = 1 from rfl] at h_; omega)
                    by_cases c17 : 3 < (a0.size : Int)
                    · rw [if_pos c17] at H
                      have c17b0 : decide (3 < (a0.size : Int)) = true := decide_eq_true c17
                      have c17b1 : decide (3 < a0.size) = true := decide_eq_true (by omega)
                      clear c17
                      replace H := Option.bind_eq_some_iff.mp H
                      obtain ⟨t170, A190, H⟩ := H
                      replace H : (if (((((t167 ++ (⟨#[46]⟩ : ByteArray)) ++ t168) ++ (⟨#[46]⟩ : ByteArray)) ++ t169) ++ (⟨#[46]⟩ : ByteArray)).size + t170.size ≤ 9223372036854775807 then (some ((((((t167 ++ (⟨#[46]⟩ : ByteArray)) ++ t168) ++ (⟨#[46]⟩ : ByteArray)) ++ t169) ++ (⟨#[46]⟩ : ByteArray)) ++ t170)) else (none)) = some r := H
                      have A19 := Aside0.mk A190
                      clear A190
                      by_cases c20 : (((((t167 ++ (⟨#[46]⟩ : ByteArray)) ++ t168) ++ (⟨#[46]⟩ : ByteArray)) ++ t169) ++ (⟨#[46]⟩ : ByteArray)).size + t170.size ≤ 9223372036854775807
                      · rw [if_pos c20] at H
                        have c20b0 := eq_true c20
                        have c20b1 : decide ((((((t167 ++ (⟨#[46]⟩ : ByteArray)) ++ t168) ++ (⟨#[46]⟩ : ByteArray)) ++ t169) ++ (⟨#[46]⟩ : ByteArray)).size + t170.size ≤ 9223372036854775807) = true := decide_eq_true c20
                        try have c20b2 : (9223372036854775807 < (((((t167 ++ (⟨#[46]⟩ : ByteArray)) ++ t168) ++ (⟨#[46]⟩ : ByteArray)) ++ t169) ++ (⟨#[46]⟩ : ByteArray)).size + t170.size) = False := eq_false (Nat.not_lt.2 c20)
                        try have c20b3 : (9223372036854775807 < t167.size + 1 + t168.size + 1 + t169.size + 1 + t170.size) = False := eq_false (by have h_ := c20; simp only [ByteArray.size_append, ByteArray.size_extract, show (⟨#[46]⟩ : ByteArray).size = 1 from rfl] at h_; omega)
                        obtain rfl := Option.some.inj H
                        go_enter Tryd.func29, Tryd.ntmps29
                        try go_wp2
                        have n0_ := Aside0.mk (below_drew1 HB.out)
                        clear HB
                        have HB := n0_
                        clear n0_
                        have p4 : 0 ≤ (0 : Int) := (by omega)
                        have q4 : 0 < a0.size := (by have : (0 : Int) < (a0.size : Int) := of_decide_eq_true (by first | (with_reducible assumption) | assumption); omega)
                        have hx4 : ∀ h : 0 < a0.size, ((a0[0]'h).toNat : Int) = bt a0 0 := bt_at a0 0
                        clear p4
                        have qi4 : (0 < (a0.size : Int)) = True := eq_true (of_decide_eq_true (by first | (with_reducible assumption) | assumption))
                        replace q4 := eq_true q4
                        have p8 : 0 ≤ (1 : Int) := (by omega)
                        have q8 : 1 < a0.size := (by have : (1 : Int) < (a0.size : Int) := of_decide_eq_true (by first | (with_reducible assumption) | assumption); omega)
                        have hx8 : ∀ h : 1 < a0.size, ((a0[1]'h).toNat : Int) = bt a0 1 := bt_at a0 1
                        clear p8
                        have qi8 : (1 < (a0.size : Int)) = True := eq_true (of_decide_eq_true (by first | (with_reducible assumption) | assumption))
                        replace q8 := eq_true q8
                        have p13 : 0 ≤ (2 : Int) := (by omega)
                        have q13 : 2 < a0.size := (by have : (2 : Int) < (a0.size : Int) := of_decide_eq_true (by first | (with_reducible assumption) | assumption); omega)
                        have hx13 : ∀ h : 2 < a0.size, ((a0[2]'h).toNat : Int) = bt a0 2 := bt_at a0 2
                        clear p13
                        have qi13 : (2 < (a0.size : Int)) = True := eq_true (of_decide_eq_true (by first | (with_reducible assumption) | assumption))
                        replace q13 := eq_true q13
                        have p18 : 0 ≤ (3 : Int) := (by omega)
                        have q18 : 3 < a0.size := (by have : (3 : Int) < (a0.size : Int) := of_decide_eq_true (by first | (with_reducible assumption) | assumption); omega)
                        have hx18 : ∀ h : 3 < a0.size, ((a0[3]'h).toNat : Int) = bt a0 3 := bt_at a0 3
                        clear p18
                        have qi18 : (3 < (a0.size : Int)) = True := eq_true (of_decide_eq_true (by first | (with_reducible assumption) | assumption))
                        replace q18 := eq_true q18
                        refine start_ (n := 23) (S := fun w' => True) (ds := []) #[false, false, false, false, false, false, false, false, false, false, false, false, false, false, false, false, false, false, false, false, false, false, false] (by kernel_rfl) rfl rfl trivial (fun hHeld => ?_); refine with_tabW spec_l01Text.tab2 spec_l01Text.bits2 (fun HT_ HW_ => ?_)
                        generalize w.drew = w21 at HB hHeld ⊢
                        refine pure_ (i := 0) (N := some 10) (v := ?_) (a' := ?_) #[true, false, false, false, false, false, false, false, false, false, false, false, false, false, false, false, false, false, false, false, false, false, false] rfl rfl (any_of HT_.out (by kernel_rfl)) (fun _ _ _ h => h) (Or.inl ⟨by rfl, ?_⟩) ?_ ?_
                        rotate_left
                        · intro w'
                          go_simp
                          with_reducible rfl
                        rotate_left
                        · simp only [Act.put, List.setIfInBounds_toArray, List.set_cons_zero, List.set_cons_succ, i64_w, i32_w]
                          rfl
                        refine pure_ (i := 5) (N := some 15) (v := ?_) (a' := ?_) #[true, false, false, false, false, true, false, false, false, false, false, false, false, false, false, false, false, false, false, false, false, false, false] rfl rfl (any_of HT_.out (by kernel_rfl)) (fun _ _ _ h => h) (Or.inl ⟨by rfl, ?_⟩) ?_ ?_
                        rotate_left
                        · intro w'
                          go_simp
                          with_reducible rfl
                        rotate_left
                        · simp only [Act.put, List.setIfInBounds_toArray, List.set_cons_zero, List.set_cons_succ, i64_w, i32_w]
                          rfl
                        refine pure_ (i := 11) (N := some 21) (v := ?_) (a' := ?_) #[true, false, false, false, false, true, false, false, false, false, false, true, false, false, false, false, false, false, false, false, false, false, false] rfl rfl (any_of HT_.out (by kernel_rfl)) (fun _ _ _ h => h) (Or.inl ⟨by rfl, ?_⟩) ?_ ?_
                        rotate_left
                        · intro w'
                          go_simp
                          with_reducible rfl
                        rotate_left
                        · simp only [Act.put, List.setIfInBounds_toArray, List.set_cons_zero, List.set_cons_succ, i64_w, i32_w]
                          rfl
                        refine pure_ (i := 17) (N := some 27) (v := ?_) (a' := ?_) #[true, false, false, false, false, true, false, false, false, false, false, true, false, false, false, false, false, true, false, false, false, false, false] rfl rfl (any_of HT_.out (by kernel_rfl)) (fun _ _ _ h => h) (Or.inl ⟨by rfl, ?_⟩) ?_ ?_
                        rotate_left
                        · intro w'
                          go_simp
                          with_reducible rfl
                        rotate_left
                        · simp only [Act.put, List.setIfInBounds_toArray, List.set_cons_zero, List.set_cons_succ, i64_w, i32_w]
                          rfl
                        refine take_ (i := 1) (N := some 11) (v := ?_) (a' := ?_) #[true, true, false, false, false, true, false, false, false, false, false, true, false, false, false, false, false, true, false, false, false, false, false] rfl rfl (take_ofW HT_.out HW_.out (by kernel_rfl)) (fun _ _ _ h => h) (Or.inl ⟨by rfl, ?_⟩) hHeld ?_ ?_
                        rotate_left
                        · intro w' _
                          go_simp
                          with_reducible rfl
                        rotate_left
                        · simp only [Act.put, List.setIfInBounds_toArray, List.set_cons_zero, List.set_cons_succ, i64_w, i32_w]
                          rfl
                        refine pure_ (i := 2) (N := some 12) (v := ?_) (a' := ?_) #[true, true, true, false, false, true, false, false, false, false, false, true, false, false, false, false, false, true, false, false, false, false, false] rfl rfl (any_of HT_.out (by kernel_rfl)) (fun _ _ _ h => h) (Or.inl ⟨by rfl, ?_⟩) ?_ ?_
                        rotate_left
                        · intro w'
                          go_simp
                          with_reducible rfl
                        rotate_left
                        · simp only [Act.put, List.setIfInBounds_toArray, List.set_cons_zero, List.set_cons_succ, i64_w, i32_w]
                          rfl
                        refine take_ (i := 6) (N := some 16) (v := ?_) (a' := ?_) #[true, true, true, false, false, true, true, false, false, false, false, true, false, false, false, false, false, true, false, false, false, false, false] rfl rfl (take_ofW HT_.out HW_.out (by kernel_rfl)) (fun _ _ _ h => h) (Or.inl ⟨by rfl, ?_⟩) hHeld ?_ ?_
                        rotate_left
                        · intro w' _
                          go_simp
                          with_reducible rfl
                        rotate_left
                        · simp only [Act.put, List.setIfInBounds_toArray, List.set_cons_zero, List.set_cons_succ, i64_w, i32_w]
                          rfl
                        refine pure_ (i := 7) (N := some 17) (v := ?_) (a' := ?_) #[true, true, true, false, false, true, true, true, false, false, false, true, false, false, false, false, false, true, false, false, false, false, false] rfl rfl (any_of HT_.out (by kernel_rfl)) (fun _ _ _ h => h) (Or.inl ⟨by rfl, ?_⟩) ?_ ?_
                        rotate_left
                        · intro w'
                          go_simp
                          with_reducible rfl
                        rotate_left
                        · simp only [Act.put, List.setIfInBounds_toArray, List.set_cons_zero, List.set_cons_succ, i64_w, i32_w]
                          rfl
                        refine take_ (i := 12) (N := some 22) (v := ?_) (a' := ?_) #[true, true, true, false, false, true, true, true, false, false, false, true, true, false, false, false, false, true, false, false, false, false, false] rfl rfl (take_ofW HT_.out HW_.out (by kernel_rfl)) (fun _ _ _ h => h) (Or.inl ⟨by rfl, ?_⟩) hHeld ?_ ?_
                        rotate_left
                        · intro w' _
                          go_simp
                          with_reducible rfl
                        rotate_left
                        · simp only [Act.put, List.setIfInBounds_toArray, List.set_cons_zero, List.set_cons_succ, i64_w, i32_w]
                          rfl
                        refine pure_ (i := 13) (N := some 23) (v := ?_) (a' := ?_) #[true, true, true, false, false, true, true, true, false, false, false, true, true, true, false, false, false, true, false, false, false, false, false] rfl rfl (any_of HT_.out (by kernel_rfl)) (fun _ _ _ h => h) (Or.inl ⟨by rfl, ?_⟩) ?_ ?_
                        rotate_left
                        · intro w'
                          go_simp
                          with_reducible rfl
                        rotate_left
                        · simp only [Act.put, List.setIfInBounds_toArray, List.set_cons_zero, List.set_cons_succ, i64_w, i32_w]
                          rfl
                        refine take_ (i := 18) (N := some 28) (v := ?_) (a' := ?_) #[true, true, true, false, false, true, true, true, false, false, false, true, true, true, false, false, false, true, true, false, false, false, false] rfl rfl (take_ofW HT_.out HW_.out (by kernel_rfl)) (fun _ _ _ h => h) (Or.inl ⟨by rfl, ?_⟩) hHeld ?_ ?_
                        rotate_left
                        · intro w' _
                          go_simp
                          with_reducible rfl
                        rotate_left
                        · simp only [Act.put, List.setIfInBounds_toArray, List.set_cons_zero, List.set_cons_succ, i64_w, i32_w]
                          rfl
                        refine pure_ (i := 19) (N := some 29) (v := ?_) (a' := ?_) #[true, true, true, false, false, true, true, true, false, false, false, true, true, true, false, false, false, true, true, true, false, false, false] rfl rfl (any_of HT_.out (by kernel_rfl)) (fun _ _ _ h => h) (Or.inl ⟨by rfl, ?_⟩) ?_ ?_
                        rotate_left
                        · intro w'
                          go_simp
                          with_reducible rfl
                        rotate_left
                        · simp only [Act.put, List.setIfInBounds_toArray, List.set_cons_zero, List.set_cons_succ, i64_w, i32_w]
                          rfl
                        refine one_ (i := 3) (N := some 13) #[true, true, true, true, false, true, true, true, false, false, false, true, true, true, false, false, false, true, true, true, false, false, false] rfl rfl (one_of HT_.out (by kernel_rfl)) (by decide) (fun K hK => ?_)
                        refine goes_ Tryd.func30 (by kernel_rfl) rfl #[.int .i64 (wrap64 (bt a0 0))] (by rfl) rfl rfl (by (try simp only [List.map_toArray, List.map_cons, List.map_nil]); first | done | rfl | (simp only [List.length_drop, List.length_take]; rfl)) ?_
                        with_reducible refine (spec_l00Digits.calls k (wrap64 (bt a0 0)) t167 _ A5.out).mono ?_
                        rintro e w22 ⟨rfl, hb⟩
                        refine ⟨_, rfl, ?_⟩
                        have n0_ := Aside0.mk (below_step (by repeat (first | (with_reducible first | exact HB.out | apply below_alloc | apply pw_below_drewN | apply below_drew1) | exact HB.out)) hb)
                        clear HB
                        have HB := n0_
                        clear n0_
                        (try clear hb)
                        (try clear hb2)
                        (try clear hk)
                        (try clear hi)
                        refine hK.out _ _ trivial (fun hHeld => ?_)
                        clear hK K
                        refine norm_ (a' := ?_) ?_ ?_
                        rotate_left
                        · show Act.put _ (some 13) _ = _
                          simp only [Act.put, List.setIfInBounds_toArray, List.set_cons_zero, List.set_cons_succ, i64_w, i32_w]
                          rfl
                        refine pure_ (i := 4) (N := some 14) (v := ?_) (a' := ?_) #[true, true, true, true, true, true, true, true, false, false, false, true, true, true, false, false, false, true, true, true, false, false, false] rfl rfl (any_of HT_.out (by kernel_rfl)) (fun _ _ _ h => h) (Or.inl ⟨by rfl, ?_⟩) ?_ ?_
                        rotate_left
                        · intro w'
                          go_simp
                          with_reducible rfl
                        rotate_left
                        · simp only [Act.put, List.setIfInBounds_toArray, List.set_cons_zero, List.set_cons_succ, i64_w, i32_w]
                          rfl
                        refine one_ (i := 8) (N := some 18) #[true, true, true, true, true, true, true, true, true, false, false, true, true, true, false, false, false, true, true, true, false, false, false] rfl rfl (one_of HT_.out (by kernel_rfl)) (by decide) (fun K hK => ?_)
                        refine goes_ Tryd.func30 (by kernel_rfl) rfl #[.int .i64 (wrap64 (bt a0 1))] (by rfl) rfl rfl (by (try simp only [List.map_toArray, List.map_cons, List.map_nil]); first | done | rfl | (simp only [List.length_drop, List.length_take]; rfl)) ?_
                        with_reducible refine (spec_l00Digits.calls k (wrap64 (bt a0 1)) t168 _ A9.out).mono ?_
                        rintro e w23 ⟨rfl, hb⟩
                        refine ⟨_, rfl, ?_⟩
                        have n0_ := Aside0.mk (below_step (by repeat (first | (with_reducible first | exact HB.out | apply below_alloc | apply pw_below_drewN | apply below_drew1) | exact HB.out)) hb)
                        clear HB
                        have HB := n0_
                        clear n0_
                        (try clear hb)
                        (try clear hb2)
                        (try clear hk)
                        (try clear hi)
                        refine hK.out _ _ trivial (fun hHeld => ?_)
                        clear hK K
                        refine norm_ (a' := ?_) ?_ ?_
                        rotate_left
                        · show Act.put _ (some 18) _ = _
                          simp only [Act.put, List.setIfInBounds_toArray, List.set_cons_zero, List.set_cons_succ, i64_w, i32_w]
                          rfl
                        refine pure_ (i := 9) (N := some 19) (v := ?_) (a' := ?_) #[true, true, true, true, true, true, true, true, true, true, false, true, true, true, false, false, false, true, true, true, false, false, false] rfl rfl (any_of HT_.out (by kernel_rfl)) (fun _ _ _ h => h) (Or.inl ⟨by rfl, ?_⟩) ?_ ?_
                        rotate_left
                        · intro w'
                          go_simp
                          with_reducible rfl
                        rotate_left
                        · simp only [Act.put, List.setIfInBounds_toArray, List.set_cons_zero, List.set_cons_succ, i64_w, i32_w]
                          rfl
                        refine pure_ (i := 10) (N := some 20) (v := ?_) (a' := ?_) #[true, true, true, true, true, true, true, true, true, true, true, true, true, true, false, false, false, true, true, true, false, false, false] rfl rfl (any_of HT_.out (by kernel_rfl)) (fun _ _ _ h => h) (Or.inl ⟨by rfl, ?_⟩) ?_ ?_
                        rotate_left
                        · intro w'
                          go_simp
                          with_reducible rfl
                        rotate_left
                        · simp only [Act.put, List.setIfInBounds_toArray, List.set_cons_zero, List.set_cons_succ, i64_w, i32_w]
                          rfl
                        refine one_ (i := 14) (N := some 24) #[true, true, true, true, true, true, true, true, true, true, true, true, true, true, true, false, false, true, true, true, false, false, false] rfl rfl (one_of HT_.out (by kernel_rfl)) (by decide) (fun K hK => ?_)
                        refine goes_ Tryd.func30 (by kernel_rfl) rfl #[.int .i64 (wrap64 (bt a0 2))] (by rfl) rfl rfl (by (try simp only [List.map_toArray, List.map_cons, List.map_nil]); first | done | rfl | (simp only [List.length_drop, List.length_take]; rfl)) ?_
                        with_reducible refine (spec_l00Digits.calls k (wrap64 (bt a0 2)) t169 _ A14.out).mono ?_
                        rintro e w24 ⟨rfl, hb⟩
                        refine ⟨_, rfl, ?_⟩
                        have n0_ := Aside0.mk (below_step (by repeat (first | (with_reducible first | exact HB.out | apply below_alloc | apply pw_below_drewN | apply below_drew1) | exact HB.out)) hb)
                        clear HB
                        have HB := n0_
                        clear n0_
                        (try clear hb)
                        (try clear hb2)
                        (try clear hk)
                        (try clear hi)
                        refine hK.out _ _ trivial (fun hHeld => ?_)
                        clear hK K
                        refine norm_ (a' := ?_) ?_ ?_
                        rotate_left
                        · show Act.put _ (some 24) _ = _
                          simp only [Act.put, List.setIfInBounds_toArray, List.set_cons_zero, List.set_cons_succ, i64_w, i32_w]
                          rfl
                        refine pure_ (i := 15) (N := some 25) (v := ?_) (a' := ?_) #[true, true, true, true, true, true, true, true, true, true, true, true, true, true, true, true, false, true, true, true, false, false, false] rfl rfl (any_of HT_.out (by kernel_rfl)) (fun _ _ _ h => h) (Or.inl ⟨by rfl, ?_⟩) ?_ ?_
                        rotate_left
                        · intro w'
                          go_simp
                          with_reducible rfl
                        rotate_left
                        · simp only [Act.put, List.setIfInBounds_toArray, List.set_cons_zero, List.set_cons_succ, i64_w, i32_w]
                          rfl
                        refine pure_ (i := 16) (N := some 26) (v := ?_) (a' := ?_) #[true, true, true, true, true, true, true, true, true, true, true, true, true, true, true, true, true, true, true, true, false, false, false] rfl rfl (any_of HT_.out (by kernel_rfl)) (fun _ _ _ h => h) (Or.inl ⟨by rfl, ?_⟩) ?_ ?_
                        rotate_left
                        · intro w'
                          go_simp
                          with_reducible rfl
                        rotate_left
                        · simp only [Act.put, List.setIfInBounds_toArray, List.set_cons_zero, List.set_cons_succ, i64_w, i32_w]
                          rfl
                        refine one_ (i := 20) (N := some 30) #[true, true, true, true, true, true, true, true, true, true, true, true, true, true, true, true, true, true, true, true, true, false, false] rfl rfl (one_of HT_.out (by kernel_rfl)) (by decide) (fun K hK => ?_)
                        refine goes_ Tryd.func30 (by kernel_rfl) rfl #[.int .i64 (wrap64 (bt a0 3))] (by rfl) rfl rfl (by (try simp only [List.map_toArray, List.map_cons, List.map_nil]); first | done | rfl | (simp only [List.length_drop, List.length_take]; rfl)) ?_
                        with_reducible refine (spec_l00Digits.calls k (wrap64 (bt a0 3)) t170 _ A19.out).mono ?_
                        rintro e w25 ⟨rfl, hb⟩
                        refine ⟨_, rfl, ?_⟩
                        have n0_ := Aside0.mk (below_step (by repeat (first | (with_reducible first | exact HB.out | apply below_alloc | apply pw_below_drewN | apply below_drew1) | exact HB.out)) hb)
                        clear HB
                        have HB := n0_
                        clear n0_
                        (try clear hb)
                        (try clear hb2)
                        (try clear hk)
                        (try clear hi)
                        refine hK.out _ _ trivial (fun hHeld => ?_)
                        clear hK K
                        refine norm_ (a' := ?_) ?_ ?_
                        rotate_left
                        · show Act.put _ (some 30) _ = _
                          simp only [Act.put, List.setIfInBounds_toArray, List.set_cons_zero, List.set_cons_succ, i64_w, i32_w]
                          rfl
                        refine pure_ (i := 21) (N := some 31) (v := ?_) (a' := ?_) #[true, true, true, true, true, true, true, true, true, true, true, true, true, true, true, true, true, true, true, true, true, true, false] rfl rfl (any_of HT_.out (by kernel_rfl)) (fun _ _ _ h => h) (Or.inl ⟨by rfl, ?_⟩) ?_ ?_
                        rotate_left
                        · intro w'
                          go_simp
                          with_reducible rfl
                        rotate_left
                        · simp only [Act.put, List.setIfInBounds_toArray, List.set_cons_zero, List.set_cons_succ, i64_w, i32_w]
                          rfl
                        refine pure_ (i := 22) (N := some 2) (v := ?_) (a' := ?_) #[true, true, true, true, true, true, true, true, true, true, true, true, true, true, true, true, true, true, true, true, true, true, true] rfl rfl (any_of HT_.out (by kernel_rfl)) (fun _ _ _ h => h) (Or.inl ⟨by rfl, ?_⟩) ?_ ?_
                        rotate_left
                        · intro w'
                          go_simp
                          with_reducible rfl
                        rotate_left
                        · simp only [Act.put, List.setIfInBounds_toArray, List.set_cons_zero, List.set_cons_succ, i64_w, i32_w]
                          rfl
                        refine done_ (done_of HT_.out (by kernel_rfl)) ?_
                        try go_wp2
                        go_ret
                        exact ⟨by first | rfl | (simp [errW_none, errW_some] <;> rfl) | (simp [*, errW_none, errW_some] <;> rfl), by repeat (first | (with_reducible first | exact HB.out | apply below_alloc | apply pw_below_drewN | apply below_drew1) | exact HB.out)⟩
                      · rw [if_neg c20] at H
                        exact absurd H (by simp)
                    · rw [if_neg c17] at H
                      exact absurd H (by simp)
                  · rw [if_neg c16] at H
                    exact absurd H (by simp)
                · rw [if_neg c15] at H
                  exact absurd H (by simp)
              · rw [if_neg c12] at H
                exact absurd H (by simp)
            · rw [if_neg c11] at H
              exact absurd H (by simp)
          · rw [if_neg c10] at H
            exact absurd H (by simp)
        · rw [if_neg c7] at H
          exact absurd H (by simp)
      · rw [if_neg c6] at H
        exact absurd H (by simp)
    · rw [if_neg c3] at H
      exact absurd H (by simp)
  · rw [if_neg c2] at H
    have c2b0 : ((a0.size : Int) == 4) = false := beq_eq_false_iff_ne.mpr c2
    have c2b1 : ((a0.size : Int) != 4) = true := bne_iff_ne.mpr c2
    replace H := Option.bind_eq_some_iff.mp H
    obtain ⟨⟨t171, t172⟩, A260, H⟩ := H
    replace H : (spec_l01Text.l0 k a0 t171 t172 (⟨#[]⟩ : ByteArray) 0) = some r := H
    have A26 := Aside0.mk A260
    clear A260
    have H' := Aside0.mk H
    clear H
    go_enter Tryd.func29, Tryd.ntmps29
    go_wp2_with (first | ((with_reducible refine gate_callee (f := 46) rfl ?_); refine goesL_ (some 34) rfl rfl Tryd.func46 (by kernel_rfl) rfl #[.string a0] rfl (by (try simp only [List.map_toArray, List.map_cons, List.map_nil]); first | done | rfl | (simp only [List.length_drop, List.length_take]; rfl)) ?_; (with_reducible refine (spec_l01Gap.calls k a0 t171 t172 _ A26.out).mono ?_); rintro e w' ⟨rfl, ⟨nd, rfl⟩⟩; refine ⟨_, rfl, ?_⟩))
    go_loopg [5, 6] k (fun kq v5 v6 w' => ∃ (x5_1 : ByteArray) (x6_1 : Int), v5 = .string x5_1 ∧ v6 = .int .i64 x6_1 ∧ Aside0 (spec_l01Text.l0 kq a0 t171 t172 x5_1 x6_1 = some r) ∧ Aside0 (kq ≤ k) ∧ Aside0 (Below w.heap.size w w'))
    case atStart => exact ⟨((⟨#[]⟩ : ByteArray)), (0), (by first | rfl | (simp; done) | (simp [*]; done)), (by first | rfl | (simp; done) | (simp [*]; done)), H', ⟨Nat.le_refl _⟩, ⟨by repeat (first | (with_reducible first | exact HB.out | apply below_alloc | apply pw_below_drewN | apply below_drew1) | exact HB.out)⟩⟩
    case round =>
      clear H'
      try clear c1
      try clear p1
      try clear q1
      try clear hx1
      try clear qi1
      try clear c2
      try clear c2b0
      try clear c2b1
      try clear p2
      try clear c3
      try clear c3b0
      try clear c3b1
      try clear c4
      try clear p4
      try clear q4
      try clear hx4
      try clear qi4
      try clear c6
      try clear c6b0
      try clear c6b1
      try clear c6b2
      try clear p6
      try clear c7
      try clear c7b0
      try clear c7b1
      try clear p8
      try clear q8
      try clear hx8
      try clear qi8
      try clear c10
      try clear c10b0
      try clear c10b1
      try clear c10b2
      try clear c11
      try clear c11b0
      try clear c11b1
      try clear c11b2
      try clear c12
      try clear c12b0
      try clear c12b1
      try clear p13
      try clear q13
      try clear hx13
      try clear qi13
      try clear c15
      try clear c15b0
      try clear c15b1
      try clear c15b2
      try clear c16
      try clear c16b0
      try clear c16b1
      try clear c16b2
      try clear c17
      try clear c17b0
      try clear c17b1
      try clear p18
      try clear q18
      try clear hx18
      try clear qi18
      try clear c20
      try clear c20b0
      try clear c20b1
      try clear c20b2
      try clear p13
      try clear p18
      try clear p4
      try clear p8
      try clear q13
      try clear q18
      try clear q4
      try clear q8
      obtain ⟨x5_1, x6_1, rfl, rfl, HA, HK1, HB⟩ := hrel
      cases gk with
      | zero => exact absurd HA.out (by simp [spec_l01Text.l0])
      | succ k1 =>
        have H := HA.out
        clear HA
        simp only [spec_l01Text.l0] at H
        by_cases c27 : x6_1 < 8
        · rw [if_pos c27] at H
          have c27b0 : decide (x6_1 < 8) = true := decide_eq_true c27
          clear c27
          by_cases c28 : x6_1 = t171
          · rw [if_pos c28] at H
            have c28b0 : (x6_1 == t171) = true := beq_iff_eq.mpr c28
            have c28b1 : (x6_1 != t171) = false := bne_eq_false_iff_eq.mpr c28
            clear c28
            by_cases c29 : x5_1.size + 2 ≤ 9223372036854775807
            · rw [if_pos c29] at H
              have c29b0 := eq_true c29
              have c29b1 : decide (x5_1.size + 2 ≤ 9223372036854775807) = true := decide_eq_true c29
              try have c29b2 : (9223372036854775807 < x5_1.size + 2) = False := eq_false (Nat.not_lt.2 c29)
              have H' := Aside0.mk H
              clear H
              go_wp2
              go_roundg k1
              case measure => have := HK1.out; omega
              case rel => exact ⟨(x5_1 ++ (⟨#[58, 58]⟩ : ByteArray)), (wrap64 ((wrap64 (x6_1 + (wrap64 (t172 - 1)))) + 1)), (by first | rfl | (simp; done) | (simp [*]; done)), (by first | rfl | (simp; done) | (simp [*]; done)), H', ⟨by have := HK1.out; omega⟩, ⟨by repeat (first | (with_reducible first | exact HB.out | apply below_alloc | apply pw_below_drewN | apply below_drew1) | exact HB.out)⟩⟩
            · rw [if_neg c29] at H
              exact absurd H (by simp)
          · rw [if_neg c28] at H
            have c28b0 : (x6_1 == t171) = false := beq_eq_false_iff_ne.mpr c28
            have c28b1 : (x6_1 != t171) = true := bne_iff_ne.mpr c28
            have HC30 := Aside0.mk H
            clear H
            go_upto_region 11 with (fail)
            go_cut [58] (fun v58 wc => ∃ (kq : Nat) (x58_29 : Bool), v58 = .bool x58_29 ∧ Aside0 (spec_l01Text.j1 kq a0 t171 t172 x5_1 x6_1 x58_29 = some r) ∧ Aside0 (kq ≤ k1) ∧ Aside0 (Below w.heap.size w wc))
            case first =>
              have H := HC30.out
              clear HC30
              by_cases c31 : x6_1 > 0
              · rw [if_pos c31] at H
                have c31b0 : decide (0 < x6_1) = true := decide_eq_true c31
                clear c31
                (first | rw [c31b0] | (simp only [i64_w, i32_w]; rw [c31b0]) | skip)
                have H' := Aside0.mk H
                clear H
                go_wp2
                go_meet
                case rel => exact ⟨_, ((x6_1 != (wrap64 (t171 + t172)))), (by first | rfl | (simp; done) | (simp [*]; done)), H', ⟨by have := HK1.out; first | omega | exact Nat.le_refl _⟩, ⟨by repeat (first | (with_reducible first | exact HB.out | apply below_alloc | apply pw_below_drewN | apply below_drew1) | exact HB.out)⟩⟩
              · rw [if_neg c31] at H
                have c31b0 : decide (0 < x6_1) = false := decide_eq_false c31
                clear c31
                (first | rw [c31b0] | (simp only [i64_w, i32_w]; rw [c31b0]) | skip)
                have H' := Aside0.mk H
                clear H
                go_wp2
                go_meet
                case rel => exact ⟨_, (false), (by first | rfl | (simp; done) | (simp [*]; done)), H', ⟨by have := HK1.out; first | omega | exact Nat.le_refl _⟩, ⟨by repeat (first | (with_reducible first | exact HB.out | apply below_alloc | apply pw_below_drewN | apply below_drew1) | exact HB.out)⟩⟩
            case rest =>
              clear HC30
              try clear c1
              try clear p1
              try clear q1
              try clear hx1
              try clear qi1
              try clear c2
              try clear c2b0
              try clear c2b1
              try clear p2
              try clear c3
              try clear c3b0
              try clear c3b1
              try clear c4
              try clear p4
              try clear q4
              try clear hx4
              try clear qi4
              try clear c6
              try clear c6b0
              try clear c6b1
              try clear c6b2
              try clear p6
              try clear c7
              try clear c7b0
              try clear c7b1
              try clear p8
              try clear q8
              try clear hx8
              try clear qi8
              try clear c10
              try clear c10b0
              try clear c10b1
              try clear c10b2
              try clear c11
              try clear c11b0
              try clear c11b1
              try clear c11b2
              try clear c12
              try clear c12b0
              try clear c12b1
              try clear p13
              try clear q13
              try clear hx13
              try clear qi13
              try clear c15
              try clear c15b0
              try clear c15b1
              try clear c15b2
              try clear c16
              try clear c16b0
              try clear c16b1
              try clear c16b2
              try clear c17
              try clear c17b0
              try clear c17b1
              try clear p18
              try clear q18
              try clear hx18
              try clear qi18
              try clear c20
              try clear c20b0
              try clear c20b1
              try clear c20b2
              try clear c27
              try clear c27b0
              try clear c28
              try clear c28b0
              try clear c28b1
              try clear c29
              try clear c29b0
              try clear c29b1
              try clear c29b2
              try clear c30
              try clear c31
              try clear c31b0
              try clear p1
              try clear p13
              try clear p18
              try clear p2
              try clear p4
              try clear p6
              try clear p8
              try clear q1
              try clear q13
              try clear q18
              try clear q4
              try clear q8
              obtain ⟨kq, x58_29, rfl, HA, HJ29, HB⟩ := hcut
              cases kq with
              | zero => exact absurd HA.out (by simp [spec_l01Text.j1])
              | succ kj29 =>
                have H := HA.out
                clear HA
                simp only [spec_l01Text.j1] at H
                by_cases c32 : x58_29 = true
                · subst c32
                  have H1 : (if x5_1.size + 1 ≤ 9223372036854775807 then ((spec_l01Word.f a0 x6_1).bind fun t173 => ((spec_l01Hex.f kj29 t173).bind fun t174 => (if (x5_1 ++ (⟨#[58]⟩ : ByteArray)).size + t174.size ≤ 9223372036854775807 then (spec_l01Text.l0 kj29 a0 t171 t172 ((x5_1 ++ (⟨#[58]⟩ : ByteArray)) ++ t174) (wrap64 (x6_1 + 1))) else (none)))) else (none)) = some r := by rw [if_pos rfl] at H; exact H
                  clear H
                  have H := H1
                  clear H1
                  by_cases c33 : x5_1.size + 1 ≤ 9223372036854775807
                  · rw [if_pos c33] at H
                    have c33b0 := eq_true c33
                    have c33b1 : decide (x5_1.size + 1 ≤ 9223372036854775807) = true := decide_eq_true c33
                    try have c33b2 : (9223372036854775807 < x5_1.size + 1) = False := eq_false (Nat.not_lt.2 c33)
                    replace H := Option.bind_eq_some_iff.mp H
                    obtain ⟨t173, A340, H⟩ := H
                    replace H : ((spec_l01Hex.f kj29 t173).bind fun t174 => (if (x5_1 ++ (⟨#[58]⟩ : ByteArray)).size + t174.size ≤ 9223372036854775807 then (spec_l01Text.l0 kj29 a0 t171 t172 ((x5_1 ++ (⟨#[58]⟩ : ByteArray)) ++ t174) (wrap64 (x6_1 + 1))) else (none))) = some r := H
                    have A34 := Aside0.mk A340
                    clear A340
                    replace H := Option.bind_eq_some_iff.mp H
                    obtain ⟨t174, A350, H⟩ := H
                    replace H : (if (x5_1 ++ (⟨#[58]⟩ : ByteArray)).size + t174.size ≤ 9223372036854775807 then (spec_l01Text.l0 kj29 a0 t171 t172 ((x5_1 ++ (⟨#[58]⟩ : ByteArray)) ++ t174) (wrap64 (x6_1 + 1))) else (none)) = some r := H
                    have A35 := Aside0.mk A350
                    clear A350
                    by_cases c36 : (x5_1 ++ (⟨#[58]⟩ : ByteArray)).size + t174.size ≤ 9223372036854775807
                    · rw [if_pos c36] at H
                      have c36b0 := eq_true c36
                      have c36b1 : decide ((x5_1 ++ (⟨#[58]⟩ : ByteArray)).size + t174.size ≤ 9223372036854775807) = true := decide_eq_true c36
                      try have c36b2 : (9223372036854775807 < (x5_1 ++ (⟨#[58]⟩ : ByteArray)).size + t174.size) = False := eq_false (Nat.not_lt.2 c36)
                      try have c36b3 : (9223372036854775807 < x5_1.size + 1 + t174.size) = False := eq_false (by have h_ := c36; simp only [ByteArray.size_append, ByteArray.size_extract, show (⟨#[58]⟩ : ByteArray).size = 1 from rfl] at h_; omega)
                      have H' := Aside0.mk H
                      clear H
                      go_wp2_with (first | ((with_reducible refine gate_callee (f := 48) rfl ?_); refine goesL_ (some 64) rfl rfl Tryd.func48 (by kernel_rfl) rfl #[.string a0, .int .i64 x6_1] rfl (by (try simp only [List.map_toArray, List.map_cons, List.map_nil]); first | done | rfl | (simp only [List.length_drop, List.length_take]; rfl)) ?_; (with_reducible refine (spec_l01Word.calls a0 x6_1 t173 _ A34.out).mono ?_); rintro e w' ⟨rfl, ⟨nd, rfl⟩⟩; refine ⟨_, rfl, ?_⟩) | ((with_reducible refine gate_callee (f := 47) rfl ?_); refine goesL_ (some 65) rfl rfl Tryd.func47 (by kernel_rfl) rfl #[.int .i64 t173] rfl (by (try simp only [List.map_toArray, List.map_cons, List.map_nil]); first | done | rfl | (simp only [List.length_drop, List.length_take]; rfl)) ?_; (with_reducible refine (spec_l01Hex.calls kj29 t173 t174 _ A35.out).mono ?_); rintro e w' ⟨rfl, ⟨nd, rfl⟩⟩; refine ⟨_, rfl, ?_⟩))
                      go_roundg kj29
                      case measure => have := HK1.out; have := HJ29.out; omega
                      case rel => exact ⟨((x5_1 ++ (⟨#[58]⟩ : ByteArray)) ++ t174), (wrap64 (x6_1 + 1)), (by first | rfl | (simp; done) | (simp [*]; done)), (by first | rfl | (simp; done) | (simp [*]; done)), H', ⟨by have := HK1.out; have := HJ29.out; omega⟩, ⟨by repeat (first | (with_reducible first | exact HB.out | apply below_alloc | apply pw_below_drewN | apply below_drew1) | exact HB.out)⟩⟩
                    · rw [if_neg c36] at H
                      exact absurd H (by simp)
                  · rw [if_neg c33] at H
                    exact absurd H (by simp)
                · replace c32 := Bool.eq_false_iff.mpr c32
                  subst c32
                  have H1 : ((spec_l01Word.f a0 x6_1).bind fun t175 => ((spec_l01Hex.f kj29 t175).bind fun t176 => (if x5_1.size + t176.size ≤ 9223372036854775807 then (spec_l01Text.l0 kj29 a0 t171 t172 (x5_1 ++ t176) (wrap64 (x6_1 + 1))) else (none)))) = some r := by rw [if_neg (show ¬ (false = true) by decide)] at H; exact H
                  clear H
                  have H := H1
                  clear H1
                  replace H := Option.bind_eq_some_iff.mp H
                  obtain ⟨t175, A370, H⟩ := H
                  replace H : ((spec_l01Hex.f kj29 t175).bind fun t176 => (if x5_1.size + t176.size ≤ 9223372036854775807 then (spec_l01Text.l0 kj29 a0 t171 t172 (x5_1 ++ t176) (wrap64 (x6_1 + 1))) else (none))) = some r := H
                  have A37 := Aside0.mk A370
                  clear A370
                  replace H := Option.bind_eq_some_iff.mp H
                  obtain ⟨t176, A380, H⟩ := H
                  replace H : (if x5_1.size + t176.size ≤ 9223372036854775807 then (spec_l01Text.l0 kj29 a0 t171 t172 (x5_1 ++ t176) (wrap64 (x6_1 + 1))) else (none)) = some r := H
                  have A38 := Aside0.mk A380
                  clear A380
                  by_cases c39 : x5_1.size + t176.size ≤ 9223372036854775807
                  · rw [if_pos c39] at H
                    have c39b0 := eq_true c39
                    have c39b1 : decide (x5_1.size + t176.size ≤ 9223372036854775807) = true := decide_eq_true c39
                    try have c39b2 : (9223372036854775807 < x5_1.size + t176.size) = False := eq_false (Nat.not_lt.2 c39)
                    have H' := Aside0.mk H
                    clear H
                    go_wp2_with (first | ((with_reducible refine gate_callee (f := 48) rfl ?_); refine goesL_ (some 64) rfl rfl Tryd.func48 (by kernel_rfl) rfl #[.string a0, .int .i64 x6_1] rfl (by (try simp only [List.map_toArray, List.map_cons, List.map_nil]); first | done | rfl | (simp only [List.length_drop, List.length_take]; rfl)) ?_; (with_reducible refine (spec_l01Word.calls a0 x6_1 t175 _ A37.out).mono ?_); rintro e w' ⟨rfl, ⟨nd, rfl⟩⟩; refine ⟨_, rfl, ?_⟩) | ((with_reducible refine gate_callee (f := 47) rfl ?_); refine goesL_ (some 65) rfl rfl Tryd.func47 (by kernel_rfl) rfl #[.int .i64 t175] rfl (by (try simp only [List.map_toArray, List.map_cons, List.map_nil]); first | done | rfl | (simp only [List.length_drop, List.length_take]; rfl)) ?_; (with_reducible refine (spec_l01Hex.calls kj29 t175 t176 _ A38.out).mono ?_); rintro e w' ⟨rfl, ⟨nd, rfl⟩⟩; refine ⟨_, rfl, ?_⟩))
                    go_roundg kj29
                    case measure => have := HK1.out; have := HJ29.out; omega
                    case rel => exact ⟨(x5_1 ++ t176), (wrap64 (x6_1 + 1)), (by first | rfl | (simp; done) | (simp [*]; done)), (by first | rfl | (simp; done) | (simp [*]; done)), H', ⟨by have := HK1.out; have := HJ29.out; omega⟩, ⟨by repeat (first | (with_reducible first | exact HB.out | apply below_alloc | apply pw_below_drewN | apply below_drew1) | exact HB.out)⟩⟩
                  · rw [if_neg c39] at H
                    exact absurd H (by simp)
        · rw [if_neg c27] at H
          have c27b0 : decide (x6_1 < 8) = false := decide_eq_false c27
          clear c27
          obtain rfl := Option.some.inj H
          go_wp2
          go_ret
          exact ⟨by first | rfl | (simp [errW_none, errW_some] <;> rfl) | (simp [*, errW_none, errW_some] <;> rfl), by repeat (first | (with_reducible first | exact HB.out | apply below_alloc | apply pw_below_drewN | apply below_drew1) | exact HB.out)⟩

/-! ### utf8_RuneCountInString: function 87 -/
/-- stands for the conversion of a string into a row of its bytes -/
def utf8_RuneCountInString.f (a0 : ByteArray) : Option (List Int) := if a0.size ≤ 1000000 then some (bytesOf a0) else none
theorem conv_bytes {a : ByteArray} {l : List Int} (h : utf8_RuneCountInString.f a = some l) : a.size ≤ 9223372036854775807 ∧ bytesOf a = l := by
  unfold utf8_RuneCountInString.f at h
  split at h
  · exact ⟨by omega, Option.some.inj h⟩
  · cases h

end Go.Proofs.YtnpbnmhbajiefaaDoor.PFnPrefixes
