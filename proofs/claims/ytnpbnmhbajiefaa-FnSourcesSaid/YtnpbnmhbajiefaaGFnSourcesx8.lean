-- OWN TEXT of FnSources: made by own_print.sh, finished by hand
import Derived.Test.YtnpbnmhbajiefaaHE
import Derived.Test.YtnpbnmhbajiefaaGFnSourcesx0
import Derived.Test.YtnpbnmhbajiefaaGFnSourcesx5
import Derived.Test.YtnpbnmhbajiefaaGFnSourcesx7
namespace Go.Proofs.Ytnpbnmhbajiefaa.PFnSources
open Go.RowKit Go.Proofs.YtnpbnmhbajiefaaW.PrintWords Go.Proofs.YtnpbnmhbajiefaaW.PrintLast Go.Proofs.YtnpbnmhbajiefaaW.PrintMore
attribute [local go_sem] max2_int min2_int max_two min_two max_three min_three max_four min_four   -- for this text's walks alone
set_option linter.unusedVariables false
set_option linter.unusedSimpArgs false
mutual
def impl_addrBits.l0 : Nat → ByteArray → List Int → Int → Option (ByteArray)
 | 0, _, _, _ => none
 | k + 1, x0, x3, x4 => if x4 < (x0.size : Int) then (impl_addrBits.l1 k x0 x3 x4 7) else (some (strOfNums x3))
def impl_addrBits.l1 : Nat → ByteArray → List Int → Int → Int → Option (ByteArray)
 | 0, _, _, _, _ => none
 | k + 1, x0, x3, x4, x5 => if x5 ≥ 0 then (if 0 ≤ x4 then (if x4 < (x0.size : Int) then (if 0 ≤ x5 then (if x3.length < 140737488355328 then (impl_addrBits.l1 k x0 (x3 ++ [(48 + (Go.bits .and .u8 (shr .u8 (bt x0 x4) x5) 1)) % 256]) x4 (wrap64 (x5 - 1))) else (none)) else (none)) else (none)) else (none)) else (impl_addrBits.l0 k x0 x3 (wrap64 (x4 + 1)))
end
def impl_addrBits.f (k : Nat) (a0 : ByteArray) : Option (ByteArray) := if a0.size ≤ 1000000 then impl_addrBits.l0 k a0 (([] : List Int)) 0 else none
theorem impl_addrBits.mono_l : ∀ k, (∀ y0 y1 y2, LeO (impl_addrBits.l0 k y0 y1 y2) (impl_addrBits.l0 (k + 1) y0 y1 y2)) ∧ (∀ y0 y1 y2 y3, LeO (impl_addrBits.l1 k y0 y1 y2 y3) (impl_addrBits.l1 (k + 1) y0 y1 y2 y3))
 | 0 => ⟨fun _ _ _ r h => by simp [impl_addrBits.l0] at h, fun _ _ _ _ r h => by simp [impl_addrBits.l1] at h⟩
 | k + 1 => by
  obtain ⟨ih0, ih1⟩ := impl_addrBits.mono_l k
  refine ⟨?_, ?_⟩
  ·
   intro y0 y1 y2
   unfold impl_addrBits.l0
   repeat' first
   | (with_reducible exact ih0 _ _ _)
   | (with_reducible exact ih1 _ _ _ _)
   | (with_reducible exact LeO.refl _)
   | (with_reducible exact LeO.none _)
   | (with_reducible refine LeO.ite ?_ ?_)
   | (with_reducible refine LeO.bind ?_ (fun _ => ?_))
   | exact ih0 _ _ _
   | exact ih1 _ _ _ _
   | exact LeO.none _
   | refine LeO.ite ?_ ?_
   | refine LeO.bind ?_ (fun _ => ?_)
  ·
   intro y0 y1 y2 y3
   unfold impl_addrBits.l1
   repeat' first
   | (with_reducible exact ih0 _ _ _)
   | (with_reducible exact ih1 _ _ _ _)
   | (with_reducible exact LeO.refl _)
   | (with_reducible exact LeO.none _)
   | (with_reducible refine LeO.ite ?_ ?_)
   | (with_reducible refine LeO.bind ?_ (fun _ => ?_))
   | exact ih0 _ _ _
   | exact ih1 _ _ _ _
   | exact LeO.none _
   | refine LeO.ite ?_ ?_
   | refine LeO.bind ?_ (fun _ => ?_)
theorem impl_addrBits.mono : ∀ a0 k, LeO (impl_addrBits.f k a0) (impl_addrBits.f (k + 1) a0) := by
 intro a0 k
 obtain ⟨ih0, ih1⟩ := impl_addrBits.mono_l k
 unfold impl_addrBits.f
 repeat' first
   | (with_reducible exact ih0 _ _ _)
   | (with_reducible exact ih1 _ _ _ _)
   | (with_reducible exact LeO.refl _)
   | (with_reducible exact LeO.none _)
   | (with_reducible refine LeO.ite ?_ ?_)
   | (with_reducible refine LeO.bind ?_ (fun _ => ?_))
   | exact ih0 _ _ _
   | exact ih1 _ _ _ _
   | exact LeO.none _
   | refine LeO.ite ?_ ?_
   | refine LeO.bind ?_ (fun _ => ?_)
set_option maxHeartbeats 8000000 in
set_option maxRecDepth 100000 in
theorem impl_addrBits.calls (k : Nat) (a0 : ByteArray) (r : ByteArray) (w : World) (h : impl_addrBits.f k a0 = some r) :
  Calls Try.prog 30 #[.string a0] w fun e w' => e = .returned (.string r) ∧ Below w.heap.size w w' := by
 have HB := Aside0.mk (Below.refl w.heap.size w)
 unfold impl_addrBits.f at h
 by_cases cz : a0.size ≤ 1000000
 rotate_left
 ·
  rw [if_neg cz] at h; cases h
 rw [if_pos cz] at h
 have CZ := Aside0.mk cz
 clear cz
 have CE : wrap64 (8 * (a0.size : Int)) = ((8 * a0.size : Nat) : Int) := by have := CZ.out; unfold wrap64; omega
 have H : (impl_addrBits.l0 k a0 (([] : List Int)) 0) = some r := h
 clear h
 obtain ⟨y321, hy321⟩ : ∃ y_ : List Int, y_ = (([] : List Int)) := ⟨_, rfl⟩
 replace H : (impl_addrBits.l0 k a0 y321 0) = some r := by (rw [hy321]; with_reducible exact H)
 have Ny321 := Aside0.mk hy321
 clear hy321
 have H' := Aside0.mk H
 clear H
 go_enter Try.func30, Try.ntmps30
 go_wp2_with ((with_reducible refine gate_dst (N := 9) rfl ?_); refine R_made _ rfl 22 _ (.tmp 8) rfl Try.underlying22 info5 (8 * a0.size) rfl (by exact congrArg (Value.int .i64) CE) (by have := CZ.out; omega) (Below.refl _ _) (Nat.le_refl _) ?_; intro v322 w2 ho3 hb hg_ hnew_; clear hg_ hnew_; (rw [← Ny321.out] at ho3); have n0_ := Aside0.mk (Kd.R_lower ho3 (below_size HB.out)); have n1_ := Aside0.mk (below_step HB.out hb); clear HB; have HO323 := n0_; have HB := n1_; clear n0_ n1_; clear hb ho3)
 go_loopg [3, 4] k (fun kq v3 v4 w' => ∃ (x3_1 : List Int) (x4_1 : Int), v4 = .int .i64 x4_1 ∧ Aside0 (impl_addrBits.l0 kq a0 x3_1 x4_1 = some r) ∧ Aside0 (kq ≤ k) ∧ Aside0 (Kd.R (Kd.int .u8) 5 w' w.heap.size (fun _ => True) v3 x3_1) ∧ Aside0 (Below w.heap.size w w'))
 case atStart => exact ⟨(y321), (0), (by rfl), H', ⟨Nat.le_refl _⟩, ⟨by exact HO323.out⟩, ⟨HB.out⟩⟩
 case round =>
  clear H'
  obtain ⟨x3_1, x4_1, rfl, HA, HK1, HO_3, HB⟩ := hrel
  cases gk with
  | zero => exact absurd HA.out (by simp [impl_addrBits.l0])
  | succ k1 =>
   have H := HA.out
   clear HA
   simp only [impl_addrBits.l0] at H
   by_cases c4 : x4_1 < (a0.size : Int)
   ·
    rw [if_pos c4] at H
    have c4b0 : decide (x4_1 < (a0.size : Int)) = true := decide_eq_true c4
    clear c4
    have H' := Aside0.mk H
    clear H
    go_wp2
    go_loopg [3, 5] k1 (fun kq v3 v5 w' => ∃ (x3_2 : List Int) (x5_2 : Int), v5 = .int .i64 x5_2 ∧ Aside0 (impl_addrBits.l1 kq a0 x3_2 x4_1 x5_2 = some r) ∧ Aside0 (kq ≤ k1) ∧ Aside0 (Kd.R (Kd.int .u8) 5 w' w.heap.size (fun _ => True) v3 x3_2) ∧ Aside0 (Below w.heap.size w w'))
    case atStart => exact ⟨(x3_1), (7), (by rfl), H', ⟨Nat.le_refl _⟩, ⟨by exact HO_3.out⟩, ⟨HB.out⟩⟩
    case round =>
     clear H'
     try clear c4b0
     obtain ⟨x3_2, x5_2, rfl, HA, HK2, HO_3, HB⟩ := hrel
     cases gk with
     | zero => exact absurd HA.out (by simp [impl_addrBits.l1])
     | succ k2 =>
      have H := HA.out
      clear HA
      simp only [impl_addrBits.l1] at H
      by_cases c5 : x5_2 ≥ 0
      ·
       rw [if_pos c5] at H
       have c5b0 : decide (0 ≤ x5_2) = true := decide_eq_true c5
       clear c5
       by_cases c6 : 0 ≤ x4_1
       ·
        rw [if_pos c6] at H
        have c6b0 : decide (0 ≤ x4_1) = true := decide_eq_true c6
        clear c6
        by_cases c7 : x4_1 < (a0.size : Int)
        ·
         rw [if_pos c7] at H
         have c7b0 : decide (x4_1 < (a0.size : Int)) = true := decide_eq_true c7
         clear c7
         by_cases c9 : 0 ≤ x5_2
         ·
          rw [if_pos c9] at H
          have c9b0 := eq_true c9
          have c9b1 : decide (0 ≤ x5_2) = true := decide_eq_true c9
          clear c9
          obtain ⟨ji10, hji10⟩ : ∃ j_ : Int, (shr .u8 (bt a0 x4_1) x5_2) = j_ := ⟨_, rfl⟩
          replace H : (if x3_2.length < 140737488355328 then (impl_addrBits.l1 k2 a0 (x3_2 ++ [(48 + (Go.bits .and .u8 (ji10) 1)) % 256]) x4_1 (wrap64 (x5_2 - 1))) else (none)) = some r := by (rw [hji10] at H; exact H)
          have hji10_ : ((bt a0 x4_1) / 2 ^ min x5_2.toNat 8) = ji10 := hji10
          have hji10z : x5_2 ≤ 8 → ((bt a0 x4_1) / 2 ^ x5_2.toNat) = ji10 := shr_small hji10
          by_cases c11 : x3_2.length < 140737488355328
          ·
           rw [if_pos c11] at H
           have LMc11 := Aside0.mk c11
           clear c11
           obtain ⟨y324, hy324⟩ : ∃ y_ : List Int, y_ = (x3_2 ++ [(48 + (Go.bits .and .u8 (ji10) 1)) % 256]) := ⟨_, rfl⟩
           replace H : (impl_addrBits.l1 k2 a0 y324 x4_1 (wrap64 (x5_2 - 1))) = some r := by (rw [hy324]; with_reducible exact H)
           have Ny324 := Aside0.mk hy324
           clear hy324
           have H' := Aside0.mk H
           clear H
           have p8 : 0 ≤ (x4_1 : Int) := of_decide_eq_true (by (with_reducible assumption))
           have q8 : x4_1 < (a0.size : Int) := of_decide_eq_true (by (with_reducible assumption))
           have hx8 := bt_at a0 x4_1
           replace p8 := eq_true p8
           replace q8 := eq_true q8
           go_wp2_with ((with_reducible refine gate_builtin (b := .append) (xs := #[.tmp 20, .tmp 28]) rfl ?_); at_builtin; refine Kd.R_append (Kd.int .u8) (w0 := w) w.heap.size rfl (.tmp 20) (.tmp 28) 22 5 (.int .u8 0) 1 rfl Try.underlying22 info5 rfl (by decide) (by omega) u3 x3_2 ((48 + (Go.bits .and .u8 (ji10) 1)) % 256) [.int .u8 ((48 + (Go.bits .and .u8 (ji10) 1)) % 256)] (fun _ => True) (fun _ => False) rfl rfl ?aP (fun _ hk => hk.elim) ?aF ?aO ?aB ?aS ?aL ?_; (case aP => exact rfl); (case aB => exact HB.out); (case aF => exact (fun _ _ => trivial)); (case aO => exact (by exact HO_3.out)); (case aS => exact (below_size HB.out)); (case aL => have := LMc11.out; omega); intro v325 w12 ho hb hg hat; rw [← Ny324.out] at ho; have n0_ := Aside0.mk (hb); have n1_ := Aside0.mk (ho); clear HB; clear HO_3; have HB := n0_; have HO326 := n1_; clear n0_ n1_; clear ho hb hg hat)
           go_roundg k2
           case measure => have := HK1.out; have := HK2.out; omega
           case rel => exact ⟨(y324), (wrap64 (x5_2 - 1)), (by rfl), H', ⟨by have := HK1.out; have := HK2.out; omega⟩, ⟨by exact HO326.out⟩, ⟨HB.out⟩⟩
          ·
           rw [if_neg c11] at H
           exact absurd H (by simp)
         ·
          rw [if_neg c9] at H
          exact absurd H (by simp)
        ·
         rw [if_neg c7] at H
         exact absurd H (by simp)
       ·
        rw [if_neg c6] at H
        exact absurd H (by simp)
      ·
       rw [if_neg c5] at H
       have c5b0 : decide (0 ≤ x5_2) = false := decide_eq_false c5
       clear c5
       have H' := Aside0.mk H
       clear H
       go_wp2
       go_roundg k2
       case measure => have := HK1.out; have := HK2.out; omega
       case rel => exact ⟨(x3_2), (wrap64 (x4_1 + 1)), (by rfl), H', ⟨by have := HK1.out; have := HK2.out; omega⟩, ⟨by exact HO_3.out⟩, ⟨HB.out⟩⟩
   ·
    rw [if_neg c4] at H
    have c4b0 : decide (x4_1 < (a0.size : Int)) = false := decide_eq_false c4
    clear c4
    obtain rfl := Option.some.inj H
    have hcv13 := own_string (P := Try.prog) Try.underlying22 Try.underlying5 Try.underlying9 (Kd.own_of_R HO_3.out)
    go_wp2
    go_ret
    exact ⟨by rfl, HB.out⟩
mutual
def impl_SourceFor.j0 : Nat → ByteArray → Bool → ByteArray → List (S39) → List ByteArray → Option (ByteArray × Int)
 | 0, _, _, _, _, _ => none
 | k + 1, x1, x22, x328000, x328001, x328002 => if x22 = true then (none) else (impl_SourceFor.l0 k x1 (⟨#[]⟩ : ByteArray) 0 0 x328001 (x328001.length : Int) 0)
def impl_SourceFor.l0 : Nat → ByteArray → ByteArray → Int → Int → List (S39) → Int → Int → Option (ByteArray × Int)
 | 0, _, _, _, _, _, _, _ => none
 | k + 1, x1, x6, x7, x8, x24, x25, x26 => if x26 < x25 then (if 0 ≤ x26 then (if x26 < (x24.length : Int) then ((impl_addrBits.f k ((rd_T39 x24 x26).f0)).bind fun t336 => ((impl_addrBits.f k x1).bind fun t337 => ((impl_common.f k t336 t337).bind fun t338 => (if ((rd_T39 x24 x26).f1) = 1 then (impl_SourceFor.l0 k x1 x6 x7 x8 x24 x25 (wrap64 (x26 + 1))) else (if x7 = 0 then (impl_SourceFor.l0 k x1 ((rd_T39 x24 x26).f0) ((rd_T39 x24 x26).f1) t338 x24 x25 (wrap64 (x26 + 1))) else (if ((rd_T39 x24 x26).f1) > x7 then (impl_SourceFor.l0 k x1 x6 x7 x8 x24 x25 (wrap64 (x26 + 1))) else (if ((rd_T39 x24 x26).f1) = x7 then (if t338 ≤ x8 then (impl_SourceFor.l0 k x1 x6 x7 x8 x24 x25 (wrap64 (x26 + 1))) else (impl_SourceFor.l0 k x1 ((rd_T39 x24 x26).f0) ((rd_T39 x24 x26).f1) t338 x24 x25 (wrap64 (x26 + 1)))) else (impl_SourceFor.l0 k x1 ((rd_T39 x24 x26).f0) ((rd_T39 x24 x26).f1) t338 x24 x25 (wrap64 (x26 + 1)))))))))) else (none)) else (none)) else (if x7 = 0 then (some ((⟨#[]⟩ : ByteArray), 5)) else (some (x6, 0)))
end
def impl_SourceFor.f (k : Nat) (a0_0 : ByteArray) (l0_1 : List (S39)) (l0_2 : List ByteArray) (a1 : ByteArray) : Option (ByteArray × Int) := (impl_tooLong.f k (([a1] : List ByteArray))).bind fun t331 => (if t331 = true then (none) else ((impl_AutoOK.f k a0_0 l0_1 l0_2).bind fun t332 => (if t332 = true then ((impl_isSix.f a1).bind fun t333 => (impl_SourceFor.j0 k a1 (!t333) a0_0 l0_1 l0_2)) else (impl_SourceFor.j0 k a1 true a0_0 l0_1 l0_2))))
set_option maxHeartbeats 8000000 in
set_option maxRecDepth 100000 in
theorem impl_SourceFor.calls (k : Nat) (a0_0 : ByteArray) (A0_1 : Option Addr) (c0_1 : Nat) (l0_1 : List (S39)) (A0_2 : Option Addr) (c0_2 : Nat) (l0_2 : List ByteArray) (a1 : ByteArray) (r1 : ByteArray) (r2 : Int) (w : World) (hr0_1 : Kd.C k39 w A0_1 l0_1.length l0_1) (hc0_1 : l0_1.length ≤ c0_1) (hr0_2 : Kd.C Kd.string w A0_2 l0_2.length l0_2) (hc0_2 : l0_2.length ≤ c0_2) (h : impl_SourceFor.f k a0_0 l0_1 l0_2 a1 = some (r1, r2)) :
  Calls Try.prog 11 #[.agg #[.string a0_0, .slice A0_1 l0_1.length c0_1, .slice A0_2 l0_2.length c0_2], .string a1] w fun e w' => e = .returned (.tuple #[.string r1, .int .i64 r2]) ∧ Below w.heap.size w w' := by
 have hu27 := Try.underlying27
 have hu39 := Try.underlying39
 have HR0_1 := Aside0.mk hr0_1
 have HC0_1 := Aside0.mk hc0_1
 clear hr0_1 hc0_1
 have HR0_2 := Aside0.mk hr0_2
 have HC0_2 := Aside0.mk hc0_2
 clear hr0_2 hc0_2
 have HB := Aside0.mk (Below.refl w.heap.size w)
 have H : ((impl_tooLong.f k (([a1] : List ByteArray))).bind fun t331 => (if t331 = true then (none) else ((impl_AutoOK.f k a0_0 l0_1 l0_2).bind fun t332 => (if t332 = true then ((impl_isSix.f a1).bind fun t333 => (impl_SourceFor.j0 k a1 (!t333) a0_0 l0_1 l0_2)) else (impl_SourceFor.j0 k a1 true a0_0 l0_1 l0_2))))) = some (r1, r2) := h
 clear h
 obtain ⟨y328, hy328⟩ : ∃ y_ : List ByteArray, y_ = (([a1] : List ByteArray)) := ⟨_, rfl⟩
 replace H : ((impl_tooLong.f k y328).bind fun t331 => (if t331 = true then (none) else ((impl_AutoOK.f k a0_0 l0_1 l0_2).bind fun t332 => (if t332 = true then ((impl_isSix.f a1).bind fun t333 => (impl_SourceFor.j0 k a1 (!t333) a0_0 l0_1 l0_2)) else (impl_SourceFor.j0 k a1 true a0_0 l0_1 l0_2))))) = some (r1, r2) := by (rw [hy328]; with_reducible exact H)
 have Ny328 := Aside0.mk hy328
 clear hy328
 replace H := Option.bind_eq_some_iff.mp H
 obtain ⟨t331, A30, H⟩ := H
 have A3 := Aside0.mk A30
 clear A30
 by_cases c4 : t331 = true
 ·
  subst c4
  rw [if_pos rfl] at H
  exact absurd H (by simp)
 ·
  replace c4 := Bool.eq_false_iff.mpr c4
  subst c4
  rw [if_neg (show ¬ (false = true) by decide)] at H
  have HC5 := Aside0.mk H
  clear H
  go_enter Try.func11, Try.ntmps11
  go_upto_region 3 with (first | ((with_reducible refine gate_dst (N := 2) rfl ?_); refine box_event ?hg (N := 2) ?hd (cs := #[.string a0_0, .slice A0_1 l0_1.length c0_1, .slice A0_2 l0_2.length c0_2]) (t := 27) ?hr ?_; (case hd => rfl); (case hg => rfl); (case hr => (go_simp; done)); intro gb327 hg w6 hbox hb; have n0_ := Aside0.mk (below_step HB.out hb); have n1_ := Aside0.mk (hbox); have n2_ := Aside0.mk ((by rw [hg]; exact (below_size HB.out) : w.heap.size ≤ gb327)); have n3_ := Aside0.mk ((by rw [hg]; exact (below_size HB.out) : w.heap.size ≤ gb327)); clear HB; have HB := n0_; have BK327 := n1_; have GW327 := n2_; have GE327 := n3_; clear n0_ n1_ n2_ n3_; clear hb hbox hg) | ((with_reducible refine gate_dst (N := 13) rfl ?_); refine Kd.R_lit Kd.string _ 9 ?hg (N := 13) ?hd (xs := ([a1] : List ByteArray)) (inner := [.string a1]) (ok := fun _ => True) (okp := fun _ => True) ?hr ?hp (fun _ hk => hk) trivial (Below.refl _ _) (Nat.le_refl _) (by simp) ?_; (case hd => rfl); (case hg => rfl); (case hr => (go_simp; done)); (case hp => exact (Reps.one (show Kd.M Kd.string _ _ _ a1 [.string a1] from rfl) (Reps.none _ _))); intro v329 w7 ho8 hb hg_ hnew_; clear hg_ hnew_; (rw [← Ny328.out] at ho8); have n0_ := Aside0.mk (Kd.R_lower ho8 (below_size (HB.out))); have n1_ := Aside0.mk (blk_below (g := gb327) (o := .cells #[.string a0_0, .slice A0_1 l0_1.length c0_1, .slice A0_2 l0_2.length c0_2] 27 (0, 0)) (by exact BK327.out) hb); have n2_ := Aside0.mk (below_step (HB.out) hb); clear BK327; clear HB; have HO330 := n0_; have BK327 := n1_; have HB := n2_; clear n0_ n1_ n2_; clear hb ho8; obtain ⟨Ao9, co9, eo9⟩ := Kd.R_slice HO330.out; subst eo9) | (go_at_call 25; (with_reducible refine (impl_tooLong.calls k _ _ y328 false _ ?side1 ?side2 A3.out).mono ?_); (case side1 => repeat (exact (Kd.R_reads' HO330.out).2.2)); (case side2 => exact (Kd.R_reads' HO330.out).2.1); rintro e w' ⟨rfl, ⟨nd, rfl⟩⟩; (try first | exact ⟨rfl, _, World.drewN_drewN _ _ _⟩ | exact ⟨rfl, _, Eq.trans (World.drewN_drewN _ _ _) (congrArg (World.drewN _) (Nat.add_assoc _ _ _))⟩)))
  repeat (go_quiet (fail); go_upto_region 3 with (fail))
  (try simp only [Act.put, List.setIfInBounds_toArray, List.set_cons_zero, List.set_cons_succ])
  go_cut [22] (fun v22 wc => ∃ (kq : Nat) (x22_4 : Bool), v22 = .bool x22_4 ∧ Aside0 (impl_SourceFor.j0 kq a1 x22_4 a0_0 l0_1 l0_2 = some (r1, r2)) ∧ Aside0 (kq ≤ k) ∧ Aside0 (wc.heap[gb327]? = some (.cells #[.string a0_0, (.slice A0_1 l0_1.length c0_1), (.slice A0_2 l0_2.length c0_2)] 27 (0, 0))) ∧ Aside0 (Below w.heap.size w wc))
  case first =>
   have H := HC5.out
   clear HC5
   replace H := Option.bind_eq_some_iff.mp H
   obtain ⟨t332, A100, H⟩ := H
   have A10 := Aside0.mk A100
   clear A100
   by_cases c11 : t332 = true
   ·
    subst c11
    rw [if_pos rfl] at H
    replace H := Option.bind_eq_some_iff.mp H
    obtain ⟨t333, A120, H⟩ := H
    have A12 := Aside0.mk A120
    clear A120
    have H' := Aside0.mk H
    clear H
    have hcz13_0 : w7.cell? ⟨gb327, 0, none⟩ = some (.string a0_0) := (blk_cell BK327.out 0).trans rfl
    have hcz13_1 : w7.cell? ⟨gb327, 1, none⟩ = some (.slice A0_1 l0_1.length c0_1) := (blk_cell BK327.out 1).trans rfl
    have hcz13_2 : w7.cell? ⟨gb327, 2, none⟩ = some (.slice A0_2 l0_2.length c0_2) := (blk_cell BK327.out 2).trans rfl
    have hfz13_0 := blk_frozen BK327.out 0
    have hfz13_1 := blk_frozen BK327.out 1
    have hfz13_2 := blk_frozen BK327.out 2
    go_wp2_with (first | (go_at_call 17; (with_reducible refine (impl_AutoOK.calls k a0_0 _ _ l0_1 _ _ l0_2 true _ ?side1 ?side2 ?side3 ?side4 A10.out).mono ?_); (case side1 => repeat (first | exact (Kd.C_below HR0_1.out HB.out) | (with_reducible refine Kd.C_drewN ?_ _))); (case side2 => exact HC0_1.out); (case side3 => repeat (first | exact (Kd.C_below HR0_2.out HB.out) | (with_reducible refine Kd.C_drewN ?_ _))); (case side4 => exact HC0_2.out); rintro e w14 ⟨rfl, hb⟩; have n0_ := Aside0.mk (Kd.R_below (by (with_reducible repeat (apply Kd.R_drewN)); exact HO330.out) hb); have n1_ := Aside0.mk (blk_below (g := gb327) (o := .cells #[.string a0_0, .slice A0_1 l0_1.length c0_1, .slice A0_2 l0_2.length c0_2] 27 (0, 0)) (by (with_reducible repeat (refine blk_drewN ?_ _)); exact BK327.out) hb); have n2_ := Aside0.mk (below_step (by repeat ((with_reducible first | exact HB.out | apply pw_below_drewN))) hb); clear HO330; clear BK327; clear HB; have HO330 := n0_; have BK327 := n1_; have HB := n2_; clear n0_ n1_ n2_; (try clear hb)) | (go_at_call 28; (with_reducible refine (impl_isSix.calls a1 t333 _ A12.out).mono ?_); rintro e w' ⟨rfl, ⟨nd, rfl⟩⟩; (try first | exact ⟨rfl, _, World.drewN_drewN _ _ _⟩ | exact ⟨rfl, _, Eq.trans (World.drewN_drewN _ _ _) (congrArg (World.drewN _) (Nat.add_assoc _ _ _))⟩)))
    repeat (go_quiet (fail); try go_wp2_with (fail))
    go_meet
    case rel => exact ⟨_, (!t333), (by rfl), H', ⟨by omega⟩, ⟨by (with_reducible repeat (refine blk_drewN ?_ _)); exact BK327.out⟩, ⟨by repeat ((with_reducible first | exact HB.out | apply pw_below_drewN))⟩⟩
   ·
    replace c11 := Bool.eq_false_iff.mpr c11
    subst c11
    rw [if_neg (show ¬ (false = true) by decide)] at H
    have H' := Aside0.mk H
    clear H
    have hcz15_0 : w7.cell? ⟨gb327, 0, none⟩ = some (.string a0_0) := (blk_cell BK327.out 0).trans rfl
    have hcz15_1 : w7.cell? ⟨gb327, 1, none⟩ = some (.slice A0_1 l0_1.length c0_1) := (blk_cell BK327.out 1).trans rfl
    have hcz15_2 : w7.cell? ⟨gb327, 2, none⟩ = some (.slice A0_2 l0_2.length c0_2) := (blk_cell BK327.out 2).trans rfl
    have hfz15_0 := blk_frozen BK327.out 0
    have hfz15_1 := blk_frozen BK327.out 1
    have hfz15_2 := blk_frozen BK327.out 2
    go_wp2_with (go_at_call 17; (with_reducible refine (impl_AutoOK.calls k a0_0 _ _ l0_1 _ _ l0_2 false _ ?side1 ?side2 ?side3 ?side4 A10.out).mono ?_); (case side1 => repeat (first | exact (Kd.C_below HR0_1.out HB.out) | (with_reducible refine Kd.C_drewN ?_ _))); (case side2 => exact HC0_1.out); (case side3 => repeat (first | exact (Kd.C_below HR0_2.out HB.out) | (with_reducible refine Kd.C_drewN ?_ _))); (case side4 => exact HC0_2.out); rintro e w16 ⟨rfl, hb⟩; have n0_ := Aside0.mk (Kd.R_below (by (with_reducible repeat (apply Kd.R_drewN)); exact HO330.out) hb); have n1_ := Aside0.mk (blk_below (g := gb327) (o := .cells #[.string a0_0, .slice A0_1 l0_1.length c0_1, .slice A0_2 l0_2.length c0_2] 27 (0, 0)) (by (with_reducible repeat (refine blk_drewN ?_ _)); exact BK327.out) hb); have n2_ := Aside0.mk (below_step (by repeat ((with_reducible first | exact HB.out | apply pw_below_drewN))) hb); clear HO330; clear BK327; clear HB; have HO330 := n0_; have BK327 := n1_; have HB := n2_; clear n0_ n1_ n2_; (try clear hb))
    repeat (go_quiet (fail); try go_wp2_with (fail))
    go_meet
    case rel => exact ⟨_, (true), (by rfl), H', ⟨by omega⟩, ⟨by exact BK327.out⟩, ⟨HB.out⟩⟩
  case rest =>
   clear HC5
   obtain ⟨kq, x22_4, rfl, HA, HJ4, BK327, HB⟩ := hcut
   cases kq with
   | zero => exact absurd HA.out (by simp [impl_SourceFor.j0])
   | succ kj4 =>
    have H := HA.out
    clear HA
    simp only [impl_SourceFor.j0] at H
    by_cases c17 : x22_4 = true
    ·
     subst c17
     rw [if_pos rfl] at H
     exact absurd H (by simp)
    ·
     replace c17 := Bool.eq_false_iff.mpr c17
     subst c17
     rw [if_neg (show ¬ (false = true) by decide)] at H
     have H' := Aside0.mk H
     clear H
     have hcz18_0 : wc.cell? ⟨gb327, 0, none⟩ = some (.string a0_0) := (blk_cell BK327.out 0).trans rfl
     have hcz18_1 : wc.cell? ⟨gb327, 1, none⟩ = some (.slice A0_1 l0_1.length c0_1) := (blk_cell BK327.out 1).trans rfl
     have hcz18_2 : wc.cell? ⟨gb327, 2, none⟩ = some (.slice A0_2 l0_2.length c0_2) := (blk_cell BK327.out 2).trans rfl
     have hfz18_0 := blk_frozen BK327.out 0
     have hfz18_1 := blk_frozen BK327.out 1
     have hfz18_2 := blk_frozen BK327.out 2
     go_wp2
     repeat (go_quiet (fail); try go_wp2)
     go_loopg [6, 7, 8, 26] kj4 (fun kq v6 v7 v8 v26 w' => ∃ (x6_2 : ByteArray) (x7_2 : Int) (x8_2 : Int) (x26_2 : Int), v6 = .string x6_2 ∧ v7 = .int .i64 x7_2 ∧ v8 = .int .i64 x8_2 ∧ v26 = .int .i64 x26_2 ∧ Aside0 (impl_SourceFor.l0 kq a1 x6_2 x7_2 x8_2 l0_1 (l0_1.length : Int) x26_2 = some (r1, r2)) ∧ Aside0 (kq ≤ kj4) ∧ Aside0 (w'.heap[gb327]? = some (.cells #[.string a0_0, (.slice A0_1 l0_1.length c0_1), (.slice A0_2 l0_2.length c0_2)] 27 (0, 0))) ∧ Aside0 (Below w.heap.size w w'))
     case atStart => exact ⟨((⟨#[]⟩ : ByteArray)), (0), (0), (0), (by rfl), (by rfl), (by rfl), (by rfl), H', ⟨Nat.le_refl _⟩, ⟨by exact BK327.out⟩, ⟨HB.out⟩⟩
     case round =>
      clear H'
      try clear hcz18_0
      try clear hcz18_1
      try clear hcz18_2
      try clear hfz18_0
      try clear hfz18_1
      try clear hfz18_2
      obtain ⟨x6_2, x7_2, x8_2, x26_2, rfl, rfl, rfl, rfl, HA, HK2, BK327, HB⟩ := hrel
      cases gk with
      | zero => exact absurd HA.out (by simp [impl_SourceFor.l0])
      | succ k2 =>
       have H := HA.out
       clear HA
       simp only [impl_SourceFor.l0] at H
       by_cases c19 : x26_2 < (l0_1.length : Int)
       ·
        rw [if_pos c19] at H
        have c19b0 : decide (x26_2 < (l0_1.length : Int)) = true := decide_eq_true c19
        clear c19
        by_cases c20 : 0 ≤ x26_2
        ·
         rw [if_pos c20] at H
         have c20b0 : decide (0 ≤ x26_2) = true := decide_eq_true c20
         clear c20
         by_cases c21 : x26_2 < (l0_1.length : Int)
         ·
          rw [if_pos c21] at H
          have c21b0 : decide (x26_2 < (l0_1.length : Int)) = true := decide_eq_true c21
          clear c21
          replace H := Option.bind_eq_some_iff.mp H
          obtain ⟨t336, A220, H⟩ := H
          have A22 := Aside0.mk A220
          clear A220
          replace H := Option.bind_eq_some_iff.mp H
          obtain ⟨t337, A230, H⟩ := H
          have A23 := Aside0.mk A230
          clear A230
          replace H := Option.bind_eq_some_iff.mp H
          obtain ⟨t338, A240, H⟩ := H
          have A24 := Aside0.mk A240
          clear A240
          by_cases c25 : ((rd_T39 l0_1 x26_2).f1) = 1
          ·
           rw [if_pos c25] at H
           have c25b0 : (((rd_T39 l0_1 x26_2).f1) == 1) = true := beq_iff_eq.mpr c25
           have c25b1 : (((rd_T39 l0_1 x26_2).f1) != 1) = false := bne_eq_false_iff_eq.mpr c25
           clear c25
           have H' := Aside0.mk H
           clear H
           have p334 : 0 ≤ (x26_2 : Int) := of_decide_eq_true (by (with_reducible assumption))
           have q334 : x26_2 < (l0_1.length : Int) := of_decide_eq_true (by (with_reducible assumption))
           obtain ⟨ad334, e334, hx334_0, hx334_1, hx334_2, hx334_3, hx334_4⟩ := at_T39 HR0_1.out x26_2 p334 q334
           cases e334
           replace hx334_0 := (HB.out.cell (World.block_lt_of_cell? w _ hx334_0)).trans hx334_0
           replace hx334_1 := (HB.out.cell (World.block_lt_of_cell? w _ hx334_1)).trans hx334_1
           replace hx334_2 := (HB.out.cell (World.block_lt_of_cell? w _ hx334_2)).trans hx334_2
           replace hx334_3 := (HB.out.cell (World.block_lt_of_cell? w _ hx334_3)).trans hx334_3
           replace hx334_4 := (HB.out.cell (World.block_lt_of_cell? w _ hx334_4)).trans hx334_4
           replace p334 := eq_true p334
           replace q334 := eq_true q334
           go_wp2_with (first | ((with_reducible refine gate_dst (N := 10) rfl ?_); refine box_event ?hg (N := 10) ?hd (cs := #[.string (⟨#[]⟩ : ByteArray), .int .i64 0, .int .i64 0, .int .i64 0, .int .i64 0]) (t := 39) ?hr ?_; (case hd => rfl); (case hg => rfl); (case hr => (go_simp; done)); intro gb335 hg w26 hbox hb; have n0_ := Aside0.mk (blk_below (g := gb327) (o := .cells #[.string a0_0, .slice (some ad334) l0_1.length c0_1, .slice A0_2 l0_2.length c0_2] 27 (0, 0)) (by exact BK327.out) hb); have n1_ := Aside0.mk (below_step (HB.out) hb); have n2_ := Aside0.mk (hbox); have n3_ := Aside0.mk ((by rw [hg]; exact (below_size (HB.out)) : w.heap.size ≤ gb335)); have n4_ := Aside0.mk ((by rw [hg]; exact (below_size (HB.out)) : w.heap.size ≤ gb335)); have n5_ := Aside0.mk ((by rw [hg]; exact Nat.ne_of_lt (blk_lt (g := gb327) (o := .cells #[.string a0_0, .slice (some ad334) l0_1.length c0_1, .slice A0_2 l0_2.length c0_2] 27 (0, 0)) (by exact BK327.out)) : gb327 ≠ gb335)); have n6_ := Aside0.mk ((by rw [hg]; exact Nat.ne_of_gt (blk_lt (g := gb327) (o := .cells #[.string a0_0, .slice (some ad334) l0_1.length c0_1, .slice A0_2 l0_2.length c0_2] 27 (0, 0)) (by exact BK327.out)) : gb335 ≠ gb327)); clear BK327; clear HB; have BK327 := n0_; have HB := n1_; have BK335 := n2_; have GW335 := n3_; have GE335 := n4_; have NB327_335 := n5_; have NB335_327 := n6_; clear n0_ n1_ n2_ n3_ n4_ n5_ n6_; clear hb hbox hg; have hnb27 := NB335_327.out; have hnc27 := NB327_335.out; have hcz28_0 : w26.cell? ⟨gb335, 0, none⟩ = some (.string (⟨#[]⟩ : ByteArray)) := (blk_cell BK335.out 0).trans rfl; have hcz28_1 : w26.cell? ⟨gb335, 1, none⟩ = some (.int .i64 0) := (blk_cell BK335.out 1).trans rfl; have hcz28_2 : w26.cell? ⟨gb335, 2, none⟩ = some (.int .i64 0) := (blk_cell BK335.out 2).trans rfl; have hcz28_3 : w26.cell? ⟨gb335, 3, none⟩ = some (.int .i64 0) := (blk_cell BK335.out 3).trans rfl; have hcz28_4 : w26.cell? ⟨gb335, 4, none⟩ = some (.int .i64 0) := (blk_cell BK335.out 4).trans rfl; have hfz28_0 := blk_frozen BK335.out 0; have hfz28_1 := blk_frozen BK335.out 1; have hfz28_2 := blk_frozen BK335.out 2; have hfz28_3 := blk_frozen BK335.out 3; have hfz28_4 := blk_frozen BK335.out 4) | (go_at_call 30; (with_reducible refine (impl_addrBits.calls k2 ((rd_T39 l0_1 x26_2).f0) t336 _ A22.out).mono ?_); rintro e w29 ⟨rfl, hb⟩; have n0_ := Aside0.mk (blk_below (g := gb327) (o := .cells #[.string a0_0, .slice (some ad334) l0_1.length c0_1, .slice A0_2 l0_2.length c0_2] 27 (0, 0)) (by refine blk_far ?_ NB327_335.out _; refine blk_far ?_ NB327_335.out _; refine blk_far ?_ NB327_335.out _; refine blk_far ?_ NB327_335.out _; refine blk_far ?_ NB327_335.out _; exact BK327.out) hb); have n1_ := Aside0.mk (blk_below (g := gb335) (o := .cells #[.string ((rd_T39 l0_1 x26_2).f0), .int .i64 ((rd_T39 l0_1 x26_2).f1), .int .i64 ((rd_T39 l0_1 x26_2).f2), .int .i64 ((rd_T39 l0_1 x26_2).f3), .int .i64 ((rd_T39 l0_1 x26_2).f4)] 39 (0, 0)) (by refine blk_put (cs := #[.string ((rd_T39 l0_1 x26_2).f0), .int .i64 ((rd_T39 l0_1 x26_2).f1), .int .i64 ((rd_T39 l0_1 x26_2).f2), .int .i64 ((rd_T39 l0_1 x26_2).f3), .int .i64 0]) ?_ 4 _ rfl; refine blk_put (cs := #[.string ((rd_T39 l0_1 x26_2).f0), .int .i64 ((rd_T39 l0_1 x26_2).f1), .int .i64 ((rd_T39 l0_1 x26_2).f2), .int .i64 0, .int .i64 0]) ?_ 3 _ rfl; refine blk_put (cs := #[.string ((rd_T39 l0_1 x26_2).f0), .int .i64 ((rd_T39 l0_1 x26_2).f1), .int .i64 0, .int .i64 0, .int .i64 0]) ?_ 2 _ rfl; refine blk_put (cs := #[.string ((rd_T39 l0_1 x26_2).f0), .int .i64 0, .int .i64 0, .int .i64 0, .int .i64 0]) ?_ 1 _ rfl; refine blk_put (cs := #[.string (⟨#[]⟩ : ByteArray), .int .i64 0, .int .i64 0, .int .i64 0, .int .i64 0]) ?_ 0 _ rfl; exact BK335.out) hb); have n2_ := Aside0.mk (below_step (by repeat ((with_reducible first | exact HB.out | refine below_set ?_ GE335.out))) hb); clear BK327; clear BK335; clear HB; have BK327 := n0_; have BK335 := n1_; have HB := n2_; clear n0_ n1_ n2_; (try clear hb)) | (go_at_call 30; (with_reducible refine (impl_addrBits.calls k2 a1 t337 _ A23.out).mono ?_); rintro e w30 ⟨rfl, hb⟩; have n0_ := Aside0.mk (blk_below (g := gb327) (o := .cells #[.string a0_0, .slice (some ad334) l0_1.length c0_1, .slice A0_2 l0_2.length c0_2] 27 (0, 0)) (by exact BK327.out) hb); have n1_ := Aside0.mk (blk_below (g := gb335) (o := .cells #[.string ((rd_T39 l0_1 x26_2).f0), .int .i64 ((rd_T39 l0_1 x26_2).f1), .int .i64 ((rd_T39 l0_1 x26_2).f2), .int .i64 ((rd_T39 l0_1 x26_2).f3), .int .i64 ((rd_T39 l0_1 x26_2).f4)] 39 (0, 0)) (by exact BK335.out) hb); have n2_ := Aside0.mk (below_step (HB.out) hb); clear BK327; clear BK335; clear HB; have BK327 := n0_; have BK335 := n1_; have HB := n2_; clear n0_ n1_ n2_; (try clear hb)) | (go_at_call 29; (with_reducible refine (impl_common.calls k2 t336 t337 t338 _ A24.out).mono ?_); rintro e w' ⟨rfl, ⟨nd, rfl⟩⟩; (try first | exact ⟨rfl, _, World.drewN_drewN _ _ _⟩ | exact ⟨rfl, _, Eq.trans (World.drewN_drewN _ _ _) (congrArg (World.drewN _) (Nat.add_assoc _ _ _))⟩); have hcz31_0 : w30.cell? ⟨gb335, 0, none⟩ = some (.string ((rd_T39 l0_1 x26_2).f0)) := (blk_cell BK335.out 0).trans rfl; have hcz31_1 : w30.cell? ⟨gb335, 1, none⟩ = some (.int .i64 ((rd_T39 l0_1 x26_2).f1)) := (blk_cell BK335.out 1).trans rfl; have hcz31_2 : w30.cell? ⟨gb335, 2, none⟩ = some (.int .i64 ((rd_T39 l0_1 x26_2).f2)) := (blk_cell BK335.out 2).trans rfl; have hcz31_3 : w30.cell? ⟨gb335, 3, none⟩ = some (.int .i64 ((rd_T39 l0_1 x26_2).f3)) := (blk_cell BK335.out 3).trans rfl; have hcz31_4 : w30.cell? ⟨gb335, 4, none⟩ = some (.int .i64 ((rd_T39 l0_1 x26_2).f4)) := (blk_cell BK335.out 4).trans rfl; have hfz31_0 := blk_frozen BK335.out 0; have hfz31_1 := blk_frozen BK335.out 1; have hfz31_2 := blk_frozen BK335.out 2; have hfz31_3 := blk_frozen BK335.out 3; have hfz31_4 := blk_frozen BK335.out 4))
           repeat (go_quiet (fail); try go_wp2_with (fail))
           go_roundg k2
           case measure => have := HJ4.out; have := HK2.out; omega
           case rel => exact ⟨(x6_2), (x7_2), (x8_2), (wrap64 (x26_2 + 1)), (by rfl), (by rfl), (by rfl), (by rfl), H', ⟨by have := HJ4.out; have := HK2.out; omega⟩, ⟨by (with_reducible repeat (refine blk_drewN ?_ _)); exact BK327.out⟩, ⟨by repeat ((with_reducible first | exact HB.out | apply pw_below_drewN))⟩⟩
          ·
           rw [if_neg c25] at H
           have c25b0 : (((rd_T39 l0_1 x26_2).f1) == 1) = false := beq_eq_false_iff_ne.mpr c25
           have c25b1 : (((rd_T39 l0_1 x26_2).f1) != 1) = true := bne_iff_ne.mpr c25
           by_cases c32 : x7_2 = 0
           ·
            rw [if_pos c32] at H
            have c32b0 : (x7_2 == 0) = true := beq_iff_eq.mpr c32
            have c32b1 : (x7_2 != 0) = false := bne_eq_false_iff_eq.mpr c32
            clear c32
            have H' := Aside0.mk H
            clear H
            have p334 : 0 ≤ (x26_2 : Int) := of_decide_eq_true (by (with_reducible assumption))
            have q334 : x26_2 < (l0_1.length : Int) := of_decide_eq_true (by (with_reducible assumption))
            obtain ⟨ad334, e334, hx334_0, hx334_1, hx334_2, hx334_3, hx334_4⟩ := at_T39 HR0_1.out x26_2 p334 q334
            cases e334
            replace hx334_0 := (HB.out.cell (World.block_lt_of_cell? w _ hx334_0)).trans hx334_0
            replace hx334_1 := (HB.out.cell (World.block_lt_of_cell? w _ hx334_1)).trans hx334_1
            replace hx334_2 := (HB.out.cell (World.block_lt_of_cell? w _ hx334_2)).trans hx334_2
            replace hx334_3 := (HB.out.cell (World.block_lt_of_cell? w _ hx334_3)).trans hx334_3
            replace hx334_4 := (HB.out.cell (World.block_lt_of_cell? w _ hx334_4)).trans hx334_4
            replace p334 := eq_true p334
            replace q334 := eq_true q334
            go_wp2_with (first | ((with_reducible refine gate_dst (N := 10) rfl ?_); refine box_event ?hg (N := 10) ?hd (cs := #[.string (⟨#[]⟩ : ByteArray), .int .i64 0, .int .i64 0, .int .i64 0, .int .i64 0]) (t := 39) ?hr ?_; (case hd => rfl); (case hg => rfl); (case hr => (go_simp; done)); intro gb335 hg w33 hbox hb; have n0_ := Aside0.mk (blk_below (g := gb327) (o := .cells #[.string a0_0, .slice (some ad334) l0_1.length c0_1, .slice A0_2 l0_2.length c0_2] 27 (0, 0)) (by exact BK327.out) hb); have n1_ := Aside0.mk (below_step (HB.out) hb); have n2_ := Aside0.mk (hbox); have n3_ := Aside0.mk ((by rw [hg]; exact (below_size (HB.out)) : w.heap.size ≤ gb335)); have n4_ := Aside0.mk ((by rw [hg]; exact (below_size (HB.out)) : w.heap.size ≤ gb335)); have n5_ := Aside0.mk ((by rw [hg]; exact Nat.ne_of_lt (blk_lt (g := gb327) (o := .cells #[.string a0_0, .slice (some ad334) l0_1.length c0_1, .slice A0_2 l0_2.length c0_2] 27 (0, 0)) (by exact BK327.out)) : gb327 ≠ gb335)); have n6_ := Aside0.mk ((by rw [hg]; exact Nat.ne_of_gt (blk_lt (g := gb327) (o := .cells #[.string a0_0, .slice (some ad334) l0_1.length c0_1, .slice A0_2 l0_2.length c0_2] 27 (0, 0)) (by exact BK327.out)) : gb335 ≠ gb327)); clear BK327; clear HB; have BK327 := n0_; have HB := n1_; have BK335 := n2_; have GW335 := n3_; have GE335 := n4_; have NB327_335 := n5_; have NB335_327 := n6_; clear n0_ n1_ n2_ n3_ n4_ n5_ n6_; clear hb hbox hg; have hnb34 := NB335_327.out; have hnc34 := NB327_335.out; have hcz35_0 : w33.cell? ⟨gb335, 0, none⟩ = some (.string (⟨#[]⟩ : ByteArray)) := (blk_cell BK335.out 0).trans rfl; have hcz35_1 : w33.cell? ⟨gb335, 1, none⟩ = some (.int .i64 0) := (blk_cell BK335.out 1).trans rfl; have hcz35_2 : w33.cell? ⟨gb335, 2, none⟩ = some (.int .i64 0) := (blk_cell BK335.out 2).trans rfl; have hcz35_3 : w33.cell? ⟨gb335, 3, none⟩ = some (.int .i64 0) := (blk_cell BK335.out 3).trans rfl; have hcz35_4 : w33.cell? ⟨gb335, 4, none⟩ = some (.int .i64 0) := (blk_cell BK335.out 4).trans rfl; have hfz35_0 := blk_frozen BK335.out 0; have hfz35_1 := blk_frozen BK335.out 1; have hfz35_2 := blk_frozen BK335.out 2; have hfz35_3 := blk_frozen BK335.out 3; have hfz35_4 := blk_frozen BK335.out 4) | (go_at_call 30; (with_reducible refine (impl_addrBits.calls k2 ((rd_T39 l0_1 x26_2).f0) t336 _ A22.out).mono ?_); rintro e w36 ⟨rfl, hb⟩; have n0_ := Aside0.mk (blk_below (g := gb327) (o := .cells #[.string a0_0, .slice (some ad334) l0_1.length c0_1, .slice A0_2 l0_2.length c0_2] 27 (0, 0)) (by refine blk_far ?_ NB327_335.out _; refine blk_far ?_ NB327_335.out _; refine blk_far ?_ NB327_335.out _; refine blk_far ?_ NB327_335.out _; refine blk_far ?_ NB327_335.out _; exact BK327.out) hb); have n1_ := Aside0.mk (blk_below (g := gb335) (o := .cells #[.string ((rd_T39 l0_1 x26_2).f0), .int .i64 ((rd_T39 l0_1 x26_2).f1), .int .i64 ((rd_T39 l0_1 x26_2).f2), .int .i64 ((rd_T39 l0_1 x26_2).f3), .int .i64 ((rd_T39 l0_1 x26_2).f4)] 39 (0, 0)) (by refine blk_put (cs := #[.string ((rd_T39 l0_1 x26_2).f0), .int .i64 ((rd_T39 l0_1 x26_2).f1), .int .i64 ((rd_T39 l0_1 x26_2).f2), .int .i64 ((rd_T39 l0_1 x26_2).f3), .int .i64 0]) ?_ 4 _ rfl; refine blk_put (cs := #[.string ((rd_T39 l0_1 x26_2).f0), .int .i64 ((rd_T39 l0_1 x26_2).f1), .int .i64 ((rd_T39 l0_1 x26_2).f2), .int .i64 0, .int .i64 0]) ?_ 3 _ rfl; refine blk_put (cs := #[.string ((rd_T39 l0_1 x26_2).f0), .int .i64 ((rd_T39 l0_1 x26_2).f1), .int .i64 0, .int .i64 0, .int .i64 0]) ?_ 2 _ rfl; refine blk_put (cs := #[.string ((rd_T39 l0_1 x26_2).f0), .int .i64 0, .int .i64 0, .int .i64 0, .int .i64 0]) ?_ 1 _ rfl; refine blk_put (cs := #[.string (⟨#[]⟩ : ByteArray), .int .i64 0, .int .i64 0, .int .i64 0, .int .i64 0]) ?_ 0 _ rfl; exact BK335.out) hb); have n2_ := Aside0.mk (below_step (by repeat ((with_reducible first | exact HB.out | refine below_set ?_ GE335.out))) hb); clear BK327; clear BK335; clear HB; have BK327 := n0_; have BK335 := n1_; have HB := n2_; clear n0_ n1_ n2_; (try clear hb)) | (go_at_call 30; (with_reducible refine (impl_addrBits.calls k2 a1 t337 _ A23.out).mono ?_); rintro e w37 ⟨rfl, hb⟩; have n0_ := Aside0.mk (blk_below (g := gb327) (o := .cells #[.string a0_0, .slice (some ad334) l0_1.length c0_1, .slice A0_2 l0_2.length c0_2] 27 (0, 0)) (by exact BK327.out) hb); have n1_ := Aside0.mk (blk_below (g := gb335) (o := .cells #[.string ((rd_T39 l0_1 x26_2).f0), .int .i64 ((rd_T39 l0_1 x26_2).f1), .int .i64 ((rd_T39 l0_1 x26_2).f2), .int .i64 ((rd_T39 l0_1 x26_2).f3), .int .i64 ((rd_T39 l0_1 x26_2).f4)] 39 (0, 0)) (by exact BK335.out) hb); have n2_ := Aside0.mk (below_step (HB.out) hb); clear BK327; clear BK335; clear HB; have BK327 := n0_; have BK335 := n1_; have HB := n2_; clear n0_ n1_ n2_; (try clear hb)) | (go_at_call 29; (with_reducible refine (impl_common.calls k2 t336 t337 t338 _ A24.out).mono ?_); rintro e w' ⟨rfl, ⟨nd, rfl⟩⟩; (try first | exact ⟨rfl, _, World.drewN_drewN _ _ _⟩ | exact ⟨rfl, _, Eq.trans (World.drewN_drewN _ _ _) (congrArg (World.drewN _) (Nat.add_assoc _ _ _))⟩); have hcz38_0 : w37.cell? ⟨gb335, 0, none⟩ = some (.string ((rd_T39 l0_1 x26_2).f0)) := (blk_cell BK335.out 0).trans rfl; have hcz38_1 : w37.cell? ⟨gb335, 1, none⟩ = some (.int .i64 ((rd_T39 l0_1 x26_2).f1)) := (blk_cell BK335.out 1).trans rfl; have hcz38_2 : w37.cell? ⟨gb335, 2, none⟩ = some (.int .i64 ((rd_T39 l0_1 x26_2).f2)) := (blk_cell BK335.out 2).trans rfl; have hcz38_3 : w37.cell? ⟨gb335, 3, none⟩ = some (.int .i64 ((rd_T39 l0_1 x26_2).f3)) := (blk_cell BK335.out 3).trans rfl; have hcz38_4 : w37.cell? ⟨gb335, 4, none⟩ = some (.int .i64 ((rd_T39 l0_1 x26_2).f4)) := (blk_cell BK335.out 4).trans rfl; have hfz38_0 := blk_frozen BK335.out 0; have hfz38_1 := blk_frozen BK335.out 1; have hfz38_2 := blk_frozen BK335.out 2; have hfz38_3 := blk_frozen BK335.out 3; have hfz38_4 := blk_frozen BK335.out 4))
            repeat (go_quiet (fail); try go_wp2_with (fail))
            go_roundg k2
            case measure => have := HJ4.out; have := HK2.out; omega
            case rel => exact ⟨((rd_T39 l0_1 x26_2).f0), ((rd_T39 l0_1 x26_2).f1), (t338), (wrap64 (x26_2 + 1)), (by rfl), (by rfl), (by rfl), (by rfl), H', ⟨by have := HJ4.out; have := HK2.out; omega⟩, ⟨by (with_reducible repeat (refine blk_drewN ?_ _)); exact BK327.out⟩, ⟨by repeat ((with_reducible first | exact HB.out | apply pw_below_drewN))⟩⟩
           ·
            rw [if_neg c32] at H
            have c32b0 : (x7_2 == 0) = false := beq_eq_false_iff_ne.mpr c32
            have c32b1 : (x7_2 != 0) = true := bne_iff_ne.mpr c32
            by_cases c39 : ((rd_T39 l0_1 x26_2).f1) > x7_2
            ·
             rw [if_pos c39] at H
             have c39b0 : decide (x7_2 < ((rd_T39 l0_1 x26_2).f1)) = true := decide_eq_true c39
             clear c39
             have H' := Aside0.mk H
             clear H
             have p334 : 0 ≤ (x26_2 : Int) := of_decide_eq_true (by (with_reducible assumption))
             have q334 : x26_2 < (l0_1.length : Int) := of_decide_eq_true (by (with_reducible assumption))
             obtain ⟨ad334, e334, hx334_0, hx334_1, hx334_2, hx334_3, hx334_4⟩ := at_T39 HR0_1.out x26_2 p334 q334
             cases e334
             replace hx334_0 := (HB.out.cell (World.block_lt_of_cell? w _ hx334_0)).trans hx334_0
             replace hx334_1 := (HB.out.cell (World.block_lt_of_cell? w _ hx334_1)).trans hx334_1
             replace hx334_2 := (HB.out.cell (World.block_lt_of_cell? w _ hx334_2)).trans hx334_2
             replace hx334_3 := (HB.out.cell (World.block_lt_of_cell? w _ hx334_3)).trans hx334_3
             replace hx334_4 := (HB.out.cell (World.block_lt_of_cell? w _ hx334_4)).trans hx334_4
             replace p334 := eq_true p334
             replace q334 := eq_true q334
             go_wp2_with (first | ((with_reducible refine gate_dst (N := 10) rfl ?_); refine box_event ?hg (N := 10) ?hd (cs := #[.string (⟨#[]⟩ : ByteArray), .int .i64 0, .int .i64 0, .int .i64 0, .int .i64 0]) (t := 39) ?hr ?_; (case hd => rfl); (case hg => rfl); (case hr => (go_simp; done)); intro gb335 hg w40 hbox hb; have n0_ := Aside0.mk (blk_below (g := gb327) (o := .cells #[.string a0_0, .slice (some ad334) l0_1.length c0_1, .slice A0_2 l0_2.length c0_2] 27 (0, 0)) (by exact BK327.out) hb); have n1_ := Aside0.mk (below_step (HB.out) hb); have n2_ := Aside0.mk (hbox); have n3_ := Aside0.mk ((by rw [hg]; exact (below_size (HB.out)) : w.heap.size ≤ gb335)); have n4_ := Aside0.mk ((by rw [hg]; exact (below_size (HB.out)) : w.heap.size ≤ gb335)); have n5_ := Aside0.mk ((by rw [hg]; exact Nat.ne_of_lt (blk_lt (g := gb327) (o := .cells #[.string a0_0, .slice (some ad334) l0_1.length c0_1, .slice A0_2 l0_2.length c0_2] 27 (0, 0)) (by exact BK327.out)) : gb327 ≠ gb335)); have n6_ := Aside0.mk ((by rw [hg]; exact Nat.ne_of_gt (blk_lt (g := gb327) (o := .cells #[.string a0_0, .slice (some ad334) l0_1.length c0_1, .slice A0_2 l0_2.length c0_2] 27 (0, 0)) (by exact BK327.out)) : gb335 ≠ gb327)); clear BK327; clear HB; have BK327 := n0_; have HB := n1_; have BK335 := n2_; have GW335 := n3_; have GE335 := n4_; have NB327_335 := n5_; have NB335_327 := n6_; clear n0_ n1_ n2_ n3_ n4_ n5_ n6_; clear hb hbox hg; have hnb41 := NB335_327.out; have hnc41 := NB327_335.out; have hcz42_0 : w40.cell? ⟨gb335, 0, none⟩ = some (.string (⟨#[]⟩ : ByteArray)) := (blk_cell BK335.out 0).trans rfl; have hcz42_1 : w40.cell? ⟨gb335, 1, none⟩ = some (.int .i64 0) := (blk_cell BK335.out 1).trans rfl; have hcz42_2 : w40.cell? ⟨gb335, 2, none⟩ = some (.int .i64 0) := (blk_cell BK335.out 2).trans rfl; have hcz42_3 : w40.cell? ⟨gb335, 3, none⟩ = some (.int .i64 0) := (blk_cell BK335.out 3).trans rfl; have hcz42_4 : w40.cell? ⟨gb335, 4, none⟩ = some (.int .i64 0) := (blk_cell BK335.out 4).trans rfl; have hfz42_0 := blk_frozen BK335.out 0; have hfz42_1 := blk_frozen BK335.out 1; have hfz42_2 := blk_frozen BK335.out 2; have hfz42_3 := blk_frozen BK335.out 3; have hfz42_4 := blk_frozen BK335.out 4) | (go_at_call 30; (with_reducible refine (impl_addrBits.calls k2 ((rd_T39 l0_1 x26_2).f0) t336 _ A22.out).mono ?_); rintro e w43 ⟨rfl, hb⟩; have n0_ := Aside0.mk (blk_below (g := gb327) (o := .cells #[.string a0_0, .slice (some ad334) l0_1.length c0_1, .slice A0_2 l0_2.length c0_2] 27 (0, 0)) (by refine blk_far ?_ NB327_335.out _; refine blk_far ?_ NB327_335.out _; refine blk_far ?_ NB327_335.out _; refine blk_far ?_ NB327_335.out _; refine blk_far ?_ NB327_335.out _; exact BK327.out) hb); have n1_ := Aside0.mk (blk_below (g := gb335) (o := .cells #[.string ((rd_T39 l0_1 x26_2).f0), .int .i64 ((rd_T39 l0_1 x26_2).f1), .int .i64 ((rd_T39 l0_1 x26_2).f2), .int .i64 ((rd_T39 l0_1 x26_2).f3), .int .i64 ((rd_T39 l0_1 x26_2).f4)] 39 (0, 0)) (by refine blk_put (cs := #[.string ((rd_T39 l0_1 x26_2).f0), .int .i64 ((rd_T39 l0_1 x26_2).f1), .int .i64 ((rd_T39 l0_1 x26_2).f2), .int .i64 ((rd_T39 l0_1 x26_2).f3), .int .i64 0]) ?_ 4 _ rfl; refine blk_put (cs := #[.string ((rd_T39 l0_1 x26_2).f0), .int .i64 ((rd_T39 l0_1 x26_2).f1), .int .i64 ((rd_T39 l0_1 x26_2).f2), .int .i64 0, .int .i64 0]) ?_ 3 _ rfl; refine blk_put (cs := #[.string ((rd_T39 l0_1 x26_2).f0), .int .i64 ((rd_T39 l0_1 x26_2).f1), .int .i64 0, .int .i64 0, .int .i64 0]) ?_ 2 _ rfl; refine blk_put (cs := #[.string ((rd_T39 l0_1 x26_2).f0), .int .i64 0, .int .i64 0, .int .i64 0, .int .i64 0]) ?_ 1 _ rfl; refine blk_put (cs := #[.string (⟨#[]⟩ : ByteArray), .int .i64 0, .int .i64 0, .int .i64 0, .int .i64 0]) ?_ 0 _ rfl; exact BK335.out) hb); have n2_ := Aside0.mk (below_step (by repeat ((with_reducible first | exact HB.out | refine below_set ?_ GE335.out))) hb); clear BK327; clear BK335; clear HB; have BK327 := n0_; have BK335 := n1_; have HB := n2_; clear n0_ n1_ n2_; (try clear hb)) | (go_at_call 30; (with_reducible refine (impl_addrBits.calls k2 a1 t337 _ A23.out).mono ?_); rintro e w44 ⟨rfl, hb⟩; have n0_ := Aside0.mk (blk_below (g := gb327) (o := .cells #[.string a0_0, .slice (some ad334) l0_1.length c0_1, .slice A0_2 l0_2.length c0_2] 27 (0, 0)) (by exact BK327.out) hb); have n1_ := Aside0.mk (blk_below (g := gb335) (o := .cells #[.string ((rd_T39 l0_1 x26_2).f0), .int .i64 ((rd_T39 l0_1 x26_2).f1), .int .i64 ((rd_T39 l0_1 x26_2).f2), .int .i64 ((rd_T39 l0_1 x26_2).f3), .int .i64 ((rd_T39 l0_1 x26_2).f4)] 39 (0, 0)) (by exact BK335.out) hb); have n2_ := Aside0.mk (below_step (HB.out) hb); clear BK327; clear BK335; clear HB; have BK327 := n0_; have BK335 := n1_; have HB := n2_; clear n0_ n1_ n2_; (try clear hb)) | (go_at_call 29; (with_reducible refine (impl_common.calls k2 t336 t337 t338 _ A24.out).mono ?_); rintro e w' ⟨rfl, ⟨nd, rfl⟩⟩; (try first | exact ⟨rfl, _, World.drewN_drewN _ _ _⟩ | exact ⟨rfl, _, Eq.trans (World.drewN_drewN _ _ _) (congrArg (World.drewN _) (Nat.add_assoc _ _ _))⟩); have hcz45_0 : w44.cell? ⟨gb335, 0, none⟩ = some (.string ((rd_T39 l0_1 x26_2).f0)) := (blk_cell BK335.out 0).trans rfl; have hcz45_1 : w44.cell? ⟨gb335, 1, none⟩ = some (.int .i64 ((rd_T39 l0_1 x26_2).f1)) := (blk_cell BK335.out 1).trans rfl; have hcz45_2 : w44.cell? ⟨gb335, 2, none⟩ = some (.int .i64 ((rd_T39 l0_1 x26_2).f2)) := (blk_cell BK335.out 2).trans rfl; have hcz45_3 : w44.cell? ⟨gb335, 3, none⟩ = some (.int .i64 ((rd_T39 l0_1 x26_2).f3)) := (blk_cell BK335.out 3).trans rfl; have hcz45_4 : w44.cell? ⟨gb335, 4, none⟩ = some (.int .i64 ((rd_T39 l0_1 x26_2).f4)) := (blk_cell BK335.out 4).trans rfl; have hfz45_0 := blk_frozen BK335.out 0; have hfz45_1 := blk_frozen BK335.out 1; have hfz45_2 := blk_frozen BK335.out 2; have hfz45_3 := blk_frozen BK335.out 3; have hfz45_4 := blk_frozen BK335.out 4))
             repeat (go_quiet (fail); try go_wp2_with (fail))
             go_roundg k2
             case measure => have := HJ4.out; have := HK2.out; omega
             case rel => exact ⟨(x6_2), (x7_2), (x8_2), (wrap64 (x26_2 + 1)), (by rfl), (by rfl), (by rfl), (by rfl), H', ⟨by have := HJ4.out; have := HK2.out; omega⟩, ⟨by (with_reducible repeat (refine blk_drewN ?_ _)); exact BK327.out⟩, ⟨by repeat ((with_reducible first | exact HB.out | apply pw_below_drewN))⟩⟩
            ·
             rw [if_neg c39] at H
             have c39b0 : decide (x7_2 < ((rd_T39 l0_1 x26_2).f1)) = false := decide_eq_false c39
             clear c39
             by_cases c46 : ((rd_T39 l0_1 x26_2).f1) = x7_2
             ·
              rw [if_pos c46] at H
              have c46b0 : (((rd_T39 l0_1 x26_2).f1) == x7_2) = true := beq_iff_eq.mpr c46
              have c46b1 : (((rd_T39 l0_1 x26_2).f1) != x7_2) = false := bne_eq_false_iff_eq.mpr c46
              clear c46
              by_cases c47 : t338 ≤ x8_2
              ·
               rw [if_pos c47] at H
               have c47b0 : decide (t338 ≤ x8_2) = true := decide_eq_true c47
               clear c47
               have H' := Aside0.mk H
               clear H
               have p334 : 0 ≤ (x26_2 : Int) := of_decide_eq_true (by (with_reducible assumption))
               have q334 : x26_2 < (l0_1.length : Int) := of_decide_eq_true (by (with_reducible assumption))
               obtain ⟨ad334, e334, hx334_0, hx334_1, hx334_2, hx334_3, hx334_4⟩ := at_T39 HR0_1.out x26_2 p334 q334
               cases e334
               replace hx334_0 := (HB.out.cell (World.block_lt_of_cell? w _ hx334_0)).trans hx334_0
               replace hx334_1 := (HB.out.cell (World.block_lt_of_cell? w _ hx334_1)).trans hx334_1
               replace hx334_2 := (HB.out.cell (World.block_lt_of_cell? w _ hx334_2)).trans hx334_2
               replace hx334_3 := (HB.out.cell (World.block_lt_of_cell? w _ hx334_3)).trans hx334_3
               replace hx334_4 := (HB.out.cell (World.block_lt_of_cell? w _ hx334_4)).trans hx334_4
               replace p334 := eq_true p334
               replace q334 := eq_true q334
               go_wp2_with (first | ((with_reducible refine gate_dst (N := 10) rfl ?_); refine box_event ?hg (N := 10) ?hd (cs := #[.string (⟨#[]⟩ : ByteArray), .int .i64 0, .int .i64 0, .int .i64 0, .int .i64 0]) (t := 39) ?hr ?_; (case hd => rfl); (case hg => rfl); (case hr => (go_simp; done)); intro gb335 hg w48 hbox hb; have n0_ := Aside0.mk (blk_below (g := gb327) (o := .cells #[.string a0_0, .slice (some ad334) l0_1.length c0_1, .slice A0_2 l0_2.length c0_2] 27 (0, 0)) (by exact BK327.out) hb); have n1_ := Aside0.mk (below_step (HB.out) hb); have n2_ := Aside0.mk (hbox); have n3_ := Aside0.mk ((by rw [hg]; exact (below_size (HB.out)) : w.heap.size ≤ gb335)); have n4_ := Aside0.mk ((by rw [hg]; exact (below_size (HB.out)) : w.heap.size ≤ gb335)); have n5_ := Aside0.mk ((by rw [hg]; exact Nat.ne_of_lt (blk_lt (g := gb327) (o := .cells #[.string a0_0, .slice (some ad334) l0_1.length c0_1, .slice A0_2 l0_2.length c0_2] 27 (0, 0)) (by exact BK327.out)) : gb327 ≠ gb335)); have n6_ := Aside0.mk ((by rw [hg]; exact Nat.ne_of_gt (blk_lt (g := gb327) (o := .cells #[.string a0_0, .slice (some ad334) l0_1.length c0_1, .slice A0_2 l0_2.length c0_2] 27 (0, 0)) (by exact BK327.out)) : gb335 ≠ gb327)); clear BK327; clear HB; have BK327 := n0_; have HB := n1_; have BK335 := n2_; have GW335 := n3_; have GE335 := n4_; have NB327_335 := n5_; have NB335_327 := n6_; clear n0_ n1_ n2_ n3_ n4_ n5_ n6_; clear hb hbox hg; have hnb49 := NB335_327.out; have hnc49 := NB327_335.out; have hcz50_0 : w48.cell? ⟨gb335, 0, none⟩ = some (.string (⟨#[]⟩ : ByteArray)) := (blk_cell BK335.out 0).trans rfl; have hcz50_1 : w48.cell? ⟨gb335, 1, none⟩ = some (.int .i64 0) := (blk_cell BK335.out 1).trans rfl; have hcz50_2 : w48.cell? ⟨gb335, 2, none⟩ = some (.int .i64 0) := (blk_cell BK335.out 2).trans rfl; have hcz50_3 : w48.cell? ⟨gb335, 3, none⟩ = some (.int .i64 0) := (blk_cell BK335.out 3).trans rfl; have hcz50_4 : w48.cell? ⟨gb335, 4, none⟩ = some (.int .i64 0) := (blk_cell BK335.out 4).trans rfl; have hfz50_0 := blk_frozen BK335.out 0; have hfz50_1 := blk_frozen BK335.out 1; have hfz50_2 := blk_frozen BK335.out 2; have hfz50_3 := blk_frozen BK335.out 3; have hfz50_4 := blk_frozen BK335.out 4) | (go_at_call 30; (with_reducible refine (impl_addrBits.calls k2 ((rd_T39 l0_1 x26_2).f0) t336 _ A22.out).mono ?_); rintro e w51 ⟨rfl, hb⟩; have n0_ := Aside0.mk (blk_below (g := gb327) (o := .cells #[.string a0_0, .slice (some ad334) l0_1.length c0_1, .slice A0_2 l0_2.length c0_2] 27 (0, 0)) (by refine blk_far ?_ NB327_335.out _; refine blk_far ?_ NB327_335.out _; refine blk_far ?_ NB327_335.out _; refine blk_far ?_ NB327_335.out _; refine blk_far ?_ NB327_335.out _; exact BK327.out) hb); have n1_ := Aside0.mk (blk_below (g := gb335) (o := .cells #[.string ((rd_T39 l0_1 x26_2).f0), .int .i64 ((rd_T39 l0_1 x26_2).f1), .int .i64 ((rd_T39 l0_1 x26_2).f2), .int .i64 ((rd_T39 l0_1 x26_2).f3), .int .i64 ((rd_T39 l0_1 x26_2).f4)] 39 (0, 0)) (by refine blk_put (cs := #[.string ((rd_T39 l0_1 x26_2).f0), .int .i64 ((rd_T39 l0_1 x26_2).f1), .int .i64 ((rd_T39 l0_1 x26_2).f2), .int .i64 ((rd_T39 l0_1 x26_2).f3), .int .i64 0]) ?_ 4 _ rfl; refine blk_put (cs := #[.string ((rd_T39 l0_1 x26_2).f0), .int .i64 ((rd_T39 l0_1 x26_2).f1), .int .i64 ((rd_T39 l0_1 x26_2).f2), .int .i64 0, .int .i64 0]) ?_ 3 _ rfl; refine blk_put (cs := #[.string ((rd_T39 l0_1 x26_2).f0), .int .i64 ((rd_T39 l0_1 x26_2).f1), .int .i64 0, .int .i64 0, .int .i64 0]) ?_ 2 _ rfl; refine blk_put (cs := #[.string ((rd_T39 l0_1 x26_2).f0), .int .i64 0, .int .i64 0, .int .i64 0, .int .i64 0]) ?_ 1 _ rfl; refine blk_put (cs := #[.string (⟨#[]⟩ : ByteArray), .int .i64 0, .int .i64 0, .int .i64 0, .int .i64 0]) ?_ 0 _ rfl; exact BK335.out) hb); have n2_ := Aside0.mk (below_step (by repeat ((with_reducible first | exact HB.out | refine below_set ?_ GE335.out))) hb); clear BK327; clear BK335; clear HB; have BK327 := n0_; have BK335 := n1_; have HB := n2_; clear n0_ n1_ n2_; (try clear hb)) | (go_at_call 30; (with_reducible refine (impl_addrBits.calls k2 a1 t337 _ A23.out).mono ?_); rintro e w52 ⟨rfl, hb⟩; have n0_ := Aside0.mk (blk_below (g := gb327) (o := .cells #[.string a0_0, .slice (some ad334) l0_1.length c0_1, .slice A0_2 l0_2.length c0_2] 27 (0, 0)) (by exact BK327.out) hb); have n1_ := Aside0.mk (blk_below (g := gb335) (o := .cells #[.string ((rd_T39 l0_1 x26_2).f0), .int .i64 ((rd_T39 l0_1 x26_2).f1), .int .i64 ((rd_T39 l0_1 x26_2).f2), .int .i64 ((rd_T39 l0_1 x26_2).f3), .int .i64 ((rd_T39 l0_1 x26_2).f4)] 39 (0, 0)) (by exact BK335.out) hb); have n2_ := Aside0.mk (below_step (HB.out) hb); clear BK327; clear BK335; clear HB; have BK327 := n0_; have BK335 := n1_; have HB := n2_; clear n0_ n1_ n2_; (try clear hb)) | (go_at_call 29; (with_reducible refine (impl_common.calls k2 t336 t337 t338 _ A24.out).mono ?_); rintro e w' ⟨rfl, ⟨nd, rfl⟩⟩; (try first | exact ⟨rfl, _, World.drewN_drewN _ _ _⟩ | exact ⟨rfl, _, Eq.trans (World.drewN_drewN _ _ _) (congrArg (World.drewN _) (Nat.add_assoc _ _ _))⟩); have hcz53_0 : w52.cell? ⟨gb335, 0, none⟩ = some (.string ((rd_T39 l0_1 x26_2).f0)) := (blk_cell BK335.out 0).trans rfl; have hcz53_1 : w52.cell? ⟨gb335, 1, none⟩ = some (.int .i64 ((rd_T39 l0_1 x26_2).f1)) := (blk_cell BK335.out 1).trans rfl; have hcz53_2 : w52.cell? ⟨gb335, 2, none⟩ = some (.int .i64 ((rd_T39 l0_1 x26_2).f2)) := (blk_cell BK335.out 2).trans rfl; have hcz53_3 : w52.cell? ⟨gb335, 3, none⟩ = some (.int .i64 ((rd_T39 l0_1 x26_2).f3)) := (blk_cell BK335.out 3).trans rfl; have hcz53_4 : w52.cell? ⟨gb335, 4, none⟩ = some (.int .i64 ((rd_T39 l0_1 x26_2).f4)) := (blk_cell BK335.out 4).trans rfl; have hfz53_0 := blk_frozen BK335.out 0; have hfz53_1 := blk_frozen BK335.out 1; have hfz53_2 := blk_frozen BK335.out 2; have hfz53_3 := blk_frozen BK335.out 3; have hfz53_4 := blk_frozen BK335.out 4))
               repeat (go_quiet (fail); try go_wp2_with (fail))
               go_roundg k2
               case measure => have := HJ4.out; have := HK2.out; omega
               case rel => exact ⟨(x6_2), (x7_2), (x8_2), (wrap64 (x26_2 + 1)), (by rfl), (by rfl), (by rfl), (by rfl), H', ⟨by have := HJ4.out; have := HK2.out; omega⟩, ⟨by (with_reducible repeat (refine blk_drewN ?_ _)); exact BK327.out⟩, ⟨by repeat ((with_reducible first | exact HB.out | apply pw_below_drewN))⟩⟩
              ·
               rw [if_neg c47] at H
               have c47b0 : decide (t338 ≤ x8_2) = false := decide_eq_false c47
               clear c47
               have H' := Aside0.mk H
               clear H
               have p334 : 0 ≤ (x26_2 : Int) := of_decide_eq_true (by (with_reducible assumption))
               have q334 : x26_2 < (l0_1.length : Int) := of_decide_eq_true (by (with_reducible assumption))
               obtain ⟨ad334, e334, hx334_0, hx334_1, hx334_2, hx334_3, hx334_4⟩ := at_T39 HR0_1.out x26_2 p334 q334
               cases e334
               replace hx334_0 := (HB.out.cell (World.block_lt_of_cell? w _ hx334_0)).trans hx334_0
               replace hx334_1 := (HB.out.cell (World.block_lt_of_cell? w _ hx334_1)).trans hx334_1
               replace hx334_2 := (HB.out.cell (World.block_lt_of_cell? w _ hx334_2)).trans hx334_2
               replace hx334_3 := (HB.out.cell (World.block_lt_of_cell? w _ hx334_3)).trans hx334_3
               replace hx334_4 := (HB.out.cell (World.block_lt_of_cell? w _ hx334_4)).trans hx334_4
               replace p334 := eq_true p334
               replace q334 := eq_true q334
               go_wp2_with (first | ((with_reducible refine gate_dst (N := 10) rfl ?_); refine box_event ?hg (N := 10) ?hd (cs := #[.string (⟨#[]⟩ : ByteArray), .int .i64 0, .int .i64 0, .int .i64 0, .int .i64 0]) (t := 39) ?hr ?_; (case hd => rfl); (case hg => rfl); (case hr => (go_simp; done)); intro gb335 hg w54 hbox hb; have n0_ := Aside0.mk (blk_below (g := gb327) (o := .cells #[.string a0_0, .slice (some ad334) l0_1.length c0_1, .slice A0_2 l0_2.length c0_2] 27 (0, 0)) (by exact BK327.out) hb); have n1_ := Aside0.mk (below_step (HB.out) hb); have n2_ := Aside0.mk (hbox); have n3_ := Aside0.mk ((by rw [hg]; exact (below_size (HB.out)) : w.heap.size ≤ gb335)); have n4_ := Aside0.mk ((by rw [hg]; exact (below_size (HB.out)) : w.heap.size ≤ gb335)); have n5_ := Aside0.mk ((by rw [hg]; exact Nat.ne_of_lt (blk_lt (g := gb327) (o := .cells #[.string a0_0, .slice (some ad334) l0_1.length c0_1, .slice A0_2 l0_2.length c0_2] 27 (0, 0)) (by exact BK327.out)) : gb327 ≠ gb335)); have n6_ := Aside0.mk ((by rw [hg]; exact Nat.ne_of_gt (blk_lt (g := gb327) (o := .cells #[.string a0_0, .slice (some ad334) l0_1.length c0_1, .slice A0_2 l0_2.length c0_2] 27 (0, 0)) (by exact BK327.out)) : gb335 ≠ gb327)); clear BK327; clear HB; have BK327 := n0_; have HB := n1_; have BK335 := n2_; have GW335 := n3_; have GE335 := n4_; have NB327_335 := n5_; have NB335_327 := n6_; clear n0_ n1_ n2_ n3_ n4_ n5_ n6_; clear hb hbox hg; have hnb55 := NB335_327.out; have hnc55 := NB327_335.out; have hcz56_0 : w54.cell? ⟨gb335, 0, none⟩ = some (.string (⟨#[]⟩ : ByteArray)) := (blk_cell BK335.out 0).trans rfl; have hcz56_1 : w54.cell? ⟨gb335, 1, none⟩ = some (.int .i64 0) := (blk_cell BK335.out 1).trans rfl; have hcz56_2 : w54.cell? ⟨gb335, 2, none⟩ = some (.int .i64 0) := (blk_cell BK335.out 2).trans rfl; have hcz56_3 : w54.cell? ⟨gb335, 3, none⟩ = some (.int .i64 0) := (blk_cell BK335.out 3).trans rfl; have hcz56_4 : w54.cell? ⟨gb335, 4, none⟩ = some (.int .i64 0) := (blk_cell BK335.out 4).trans rfl; have hfz56_0 := blk_frozen BK335.out 0; have hfz56_1 := blk_frozen BK335.out 1; have hfz56_2 := blk_frozen BK335.out 2; have hfz56_3 := blk_frozen BK335.out 3; have hfz56_4 := blk_frozen BK335.out 4) | (go_at_call 30; (with_reducible refine (impl_addrBits.calls k2 ((rd_T39 l0_1 x26_2).f0) t336 _ A22.out).mono ?_); rintro e w57 ⟨rfl, hb⟩; have n0_ := Aside0.mk (blk_below (g := gb327) (o := .cells #[.string a0_0, .slice (some ad334) l0_1.length c0_1, .slice A0_2 l0_2.length c0_2] 27 (0, 0)) (by refine blk_far ?_ NB327_335.out _; refine blk_far ?_ NB327_335.out _; refine blk_far ?_ NB327_335.out _; refine blk_far ?_ NB327_335.out _; refine blk_far ?_ NB327_335.out _; exact BK327.out) hb); have n1_ := Aside0.mk (blk_below (g := gb335) (o := .cells #[.string ((rd_T39 l0_1 x26_2).f0), .int .i64 ((rd_T39 l0_1 x26_2).f1), .int .i64 ((rd_T39 l0_1 x26_2).f2), .int .i64 ((rd_T39 l0_1 x26_2).f3), .int .i64 ((rd_T39 l0_1 x26_2).f4)] 39 (0, 0)) (by refine blk_put (cs := #[.string ((rd_T39 l0_1 x26_2).f0), .int .i64 ((rd_T39 l0_1 x26_2).f1), .int .i64 ((rd_T39 l0_1 x26_2).f2), .int .i64 ((rd_T39 l0_1 x26_2).f3), .int .i64 0]) ?_ 4 _ rfl; refine blk_put (cs := #[.string ((rd_T39 l0_1 x26_2).f0), .int .i64 ((rd_T39 l0_1 x26_2).f1), .int .i64 ((rd_T39 l0_1 x26_2).f2), .int .i64 0, .int .i64 0]) ?_ 3 _ rfl; refine blk_put (cs := #[.string ((rd_T39 l0_1 x26_2).f0), .int .i64 ((rd_T39 l0_1 x26_2).f1), .int .i64 0, .int .i64 0, .int .i64 0]) ?_ 2 _ rfl; refine blk_put (cs := #[.string ((rd_T39 l0_1 x26_2).f0), .int .i64 0, .int .i64 0, .int .i64 0, .int .i64 0]) ?_ 1 _ rfl; refine blk_put (cs := #[.string (⟨#[]⟩ : ByteArray), .int .i64 0, .int .i64 0, .int .i64 0, .int .i64 0]) ?_ 0 _ rfl; exact BK335.out) hb); have n2_ := Aside0.mk (below_step (by repeat ((with_reducible first | exact HB.out | refine below_set ?_ GE335.out))) hb); clear BK327; clear BK335; clear HB; have BK327 := n0_; have BK335 := n1_; have HB := n2_; clear n0_ n1_ n2_; (try clear hb)) | (go_at_call 30; (with_reducible refine (impl_addrBits.calls k2 a1 t337 _ A23.out).mono ?_); rintro e w58 ⟨rfl, hb⟩; have n0_ := Aside0.mk (blk_below (g := gb327) (o := .cells #[.string a0_0, .slice (some ad334) l0_1.length c0_1, .slice A0_2 l0_2.length c0_2] 27 (0, 0)) (by exact BK327.out) hb); have n1_ := Aside0.mk (blk_below (g := gb335) (o := .cells #[.string ((rd_T39 l0_1 x26_2).f0), .int .i64 ((rd_T39 l0_1 x26_2).f1), .int .i64 ((rd_T39 l0_1 x26_2).f2), .int .i64 ((rd_T39 l0_1 x26_2).f3), .int .i64 ((rd_T39 l0_1 x26_2).f4)] 39 (0, 0)) (by exact BK335.out) hb); have n2_ := Aside0.mk (below_step (HB.out) hb); clear BK327; clear BK335; clear HB; have BK327 := n0_; have BK335 := n1_; have HB := n2_; clear n0_ n1_ n2_; (try clear hb)) | (go_at_call 29; (with_reducible refine (impl_common.calls k2 t336 t337 t338 _ A24.out).mono ?_); rintro e w' ⟨rfl, ⟨nd, rfl⟩⟩; (try first | exact ⟨rfl, _, World.drewN_drewN _ _ _⟩ | exact ⟨rfl, _, Eq.trans (World.drewN_drewN _ _ _) (congrArg (World.drewN _) (Nat.add_assoc _ _ _))⟩); have hcz59_0 : w58.cell? ⟨gb335, 0, none⟩ = some (.string ((rd_T39 l0_1 x26_2).f0)) := (blk_cell BK335.out 0).trans rfl; have hcz59_1 : w58.cell? ⟨gb335, 1, none⟩ = some (.int .i64 ((rd_T39 l0_1 x26_2).f1)) := (blk_cell BK335.out 1).trans rfl; have hcz59_2 : w58.cell? ⟨gb335, 2, none⟩ = some (.int .i64 ((rd_T39 l0_1 x26_2).f2)) := (blk_cell BK335.out 2).trans rfl; have hcz59_3 : w58.cell? ⟨gb335, 3, none⟩ = some (.int .i64 ((rd_T39 l0_1 x26_2).f3)) := (blk_cell BK335.out 3).trans rfl; have hcz59_4 : w58.cell? ⟨gb335, 4, none⟩ = some (.int .i64 ((rd_T39 l0_1 x26_2).f4)) := (blk_cell BK335.out 4).trans rfl; have hfz59_0 := blk_frozen BK335.out 0; have hfz59_1 := blk_frozen BK335.out 1; have hfz59_2 := blk_frozen BK335.out 2; have hfz59_3 := blk_frozen BK335.out 3; have hfz59_4 := blk_frozen BK335.out 4))
               repeat (go_quiet (fail); try go_wp2_with (fail))
               go_roundg k2
               case measure => have := HJ4.out; have := HK2.out; omega
               case rel => exact ⟨((rd_T39 l0_1 x26_2).f0), ((rd_T39 l0_1 x26_2).f1), (t338), (wrap64 (x26_2 + 1)), (by rfl), (by rfl), (by rfl), (by rfl), H', ⟨by have := HJ4.out; have := HK2.out; omega⟩, ⟨by (with_reducible repeat (refine blk_drewN ?_ _)); exact BK327.out⟩, ⟨by repeat ((with_reducible first | exact HB.out | apply pw_below_drewN))⟩⟩
             ·
              rw [if_neg c46] at H
              have c46b0 : (((rd_T39 l0_1 x26_2).f1) == x7_2) = false := beq_eq_false_iff_ne.mpr c46
              have c46b1 : (((rd_T39 l0_1 x26_2).f1) != x7_2) = true := bne_iff_ne.mpr c46
              have H' := Aside0.mk H
              clear H
              have p334 : 0 ≤ (x26_2 : Int) := of_decide_eq_true (by (with_reducible assumption))
              have q334 : x26_2 < (l0_1.length : Int) := of_decide_eq_true (by (with_reducible assumption))
              obtain ⟨ad334, e334, hx334_0, hx334_1, hx334_2, hx334_3, hx334_4⟩ := at_T39 HR0_1.out x26_2 p334 q334
              cases e334
              replace hx334_0 := (HB.out.cell (World.block_lt_of_cell? w _ hx334_0)).trans hx334_0
              replace hx334_1 := (HB.out.cell (World.block_lt_of_cell? w _ hx334_1)).trans hx334_1
              replace hx334_2 := (HB.out.cell (World.block_lt_of_cell? w _ hx334_2)).trans hx334_2
              replace hx334_3 := (HB.out.cell (World.block_lt_of_cell? w _ hx334_3)).trans hx334_3
              replace hx334_4 := (HB.out.cell (World.block_lt_of_cell? w _ hx334_4)).trans hx334_4
              replace p334 := eq_true p334
              replace q334 := eq_true q334
              go_wp2_with (first | ((with_reducible refine gate_dst (N := 10) rfl ?_); refine box_event ?hg (N := 10) ?hd (cs := #[.string (⟨#[]⟩ : ByteArray), .int .i64 0, .int .i64 0, .int .i64 0, .int .i64 0]) (t := 39) ?hr ?_; (case hd => rfl); (case hg => rfl); (case hr => (go_simp; done)); intro gb335 hg w60 hbox hb; have n0_ := Aside0.mk (blk_below (g := gb327) (o := .cells #[.string a0_0, .slice (some ad334) l0_1.length c0_1, .slice A0_2 l0_2.length c0_2] 27 (0, 0)) (by exact BK327.out) hb); have n1_ := Aside0.mk (below_step (HB.out) hb); have n2_ := Aside0.mk (hbox); have n3_ := Aside0.mk ((by rw [hg]; exact (below_size (HB.out)) : w.heap.size ≤ gb335)); have n4_ := Aside0.mk ((by rw [hg]; exact (below_size (HB.out)) : w.heap.size ≤ gb335)); have n5_ := Aside0.mk ((by rw [hg]; exact Nat.ne_of_lt (blk_lt (g := gb327) (o := .cells #[.string a0_0, .slice (some ad334) l0_1.length c0_1, .slice A0_2 l0_2.length c0_2] 27 (0, 0)) (by exact BK327.out)) : gb327 ≠ gb335)); have n6_ := Aside0.mk ((by rw [hg]; exact Nat.ne_of_gt (blk_lt (g := gb327) (o := .cells #[.string a0_0, .slice (some ad334) l0_1.length c0_1, .slice A0_2 l0_2.length c0_2] 27 (0, 0)) (by exact BK327.out)) : gb335 ≠ gb327)); clear BK327; clear HB; have BK327 := n0_; have HB := n1_; have BK335 := n2_; have GW335 := n3_; have GE335 := n4_; have NB327_335 := n5_; have NB335_327 := n6_; clear n0_ n1_ n2_ n3_ n4_ n5_ n6_; clear hb hbox hg; have hnb61 := NB335_327.out; have hnc61 := NB327_335.out; have hcz62_0 : w60.cell? ⟨gb335, 0, none⟩ = some (.string (⟨#[]⟩ : ByteArray)) := (blk_cell BK335.out 0).trans rfl; have hcz62_1 : w60.cell? ⟨gb335, 1, none⟩ = some (.int .i64 0) := (blk_cell BK335.out 1).trans rfl; have hcz62_2 : w60.cell? ⟨gb335, 2, none⟩ = some (.int .i64 0) := (blk_cell BK335.out 2).trans rfl; have hcz62_3 : w60.cell? ⟨gb335, 3, none⟩ = some (.int .i64 0) := (blk_cell BK335.out 3).trans rfl; have hcz62_4 : w60.cell? ⟨gb335, 4, none⟩ = some (.int .i64 0) := (blk_cell BK335.out 4).trans rfl; have hfz62_0 := blk_frozen BK335.out 0; have hfz62_1 := blk_frozen BK335.out 1; have hfz62_2 := blk_frozen BK335.out 2; have hfz62_3 := blk_frozen BK335.out 3; have hfz62_4 := blk_frozen BK335.out 4) | (go_at_call 30; (with_reducible refine (impl_addrBits.calls k2 ((rd_T39 l0_1 x26_2).f0) t336 _ A22.out).mono ?_); rintro e w63 ⟨rfl, hb⟩; have n0_ := Aside0.mk (blk_below (g := gb327) (o := .cells #[.string a0_0, .slice (some ad334) l0_1.length c0_1, .slice A0_2 l0_2.length c0_2] 27 (0, 0)) (by refine blk_far ?_ NB327_335.out _; refine blk_far ?_ NB327_335.out _; refine blk_far ?_ NB327_335.out _; refine blk_far ?_ NB327_335.out _; refine blk_far ?_ NB327_335.out _; exact BK327.out) hb); have n1_ := Aside0.mk (blk_below (g := gb335) (o := .cells #[.string ((rd_T39 l0_1 x26_2).f0), .int .i64 ((rd_T39 l0_1 x26_2).f1), .int .i64 ((rd_T39 l0_1 x26_2).f2), .int .i64 ((rd_T39 l0_1 x26_2).f3), .int .i64 ((rd_T39 l0_1 x26_2).f4)] 39 (0, 0)) (by refine blk_put (cs := #[.string ((rd_T39 l0_1 x26_2).f0), .int .i64 ((rd_T39 l0_1 x26_2).f1), .int .i64 ((rd_T39 l0_1 x26_2).f2), .int .i64 ((rd_T39 l0_1 x26_2).f3), .int .i64 0]) ?_ 4 _ rfl; refine blk_put (cs := #[.string ((rd_T39 l0_1 x26_2).f0), .int .i64 ((rd_T39 l0_1 x26_2).f1), .int .i64 ((rd_T39 l0_1 x26_2).f2), .int .i64 0, .int .i64 0]) ?_ 3 _ rfl; refine blk_put (cs := #[.string ((rd_T39 l0_1 x26_2).f0), .int .i64 ((rd_T39 l0_1 x26_2).f1), .int .i64 0, .int .i64 0, .int .i64 0]) ?_ 2 _ rfl; refine blk_put (cs := #[.string ((rd_T39 l0_1 x26_2).f0), .int .i64 0, .int .i64 0, .int .i64 0, .int .i64 0]) ?_ 1 _ rfl; refine blk_put (cs := #[.string (⟨#[]⟩ : ByteArray), .int .i64 0, .int .i64 0, .int .i64 0, .int .i64 0]) ?_ 0 _ rfl; exact BK335.out) hb); have n2_ := Aside0.mk (below_step (by repeat ((with_reducible first | exact HB.out | refine below_set ?_ GE335.out))) hb); clear BK327; clear BK335; clear HB; have BK327 := n0_; have BK335 := n1_; have HB := n2_; clear n0_ n1_ n2_; (try clear hb)) | (go_at_call 30; (with_reducible refine (impl_addrBits.calls k2 a1 t337 _ A23.out).mono ?_); rintro e w64 ⟨rfl, hb⟩; have n0_ := Aside0.mk (blk_below (g := gb327) (o := .cells #[.string a0_0, .slice (some ad334) l0_1.length c0_1, .slice A0_2 l0_2.length c0_2] 27 (0, 0)) (by exact BK327.out) hb); have n1_ := Aside0.mk (blk_below (g := gb335) (o := .cells #[.string ((rd_T39 l0_1 x26_2).f0), .int .i64 ((rd_T39 l0_1 x26_2).f1), .int .i64 ((rd_T39 l0_1 x26_2).f2), .int .i64 ((rd_T39 l0_1 x26_2).f3), .int .i64 ((rd_T39 l0_1 x26_2).f4)] 39 (0, 0)) (by exact BK335.out) hb); have n2_ := Aside0.mk (below_step (HB.out) hb); clear BK327; clear BK335; clear HB; have BK327 := n0_; have BK335 := n1_; have HB := n2_; clear n0_ n1_ n2_; (try clear hb)) | (go_at_call 29; (with_reducible refine (impl_common.calls k2 t336 t337 t338 _ A24.out).mono ?_); rintro e w' ⟨rfl, ⟨nd, rfl⟩⟩; (try first | exact ⟨rfl, _, World.drewN_drewN _ _ _⟩ | exact ⟨rfl, _, Eq.trans (World.drewN_drewN _ _ _) (congrArg (World.drewN _) (Nat.add_assoc _ _ _))⟩); have hcz65_0 : w64.cell? ⟨gb335, 0, none⟩ = some (.string ((rd_T39 l0_1 x26_2).f0)) := (blk_cell BK335.out 0).trans rfl; have hcz65_1 : w64.cell? ⟨gb335, 1, none⟩ = some (.int .i64 ((rd_T39 l0_1 x26_2).f1)) := (blk_cell BK335.out 1).trans rfl; have hcz65_2 : w64.cell? ⟨gb335, 2, none⟩ = some (.int .i64 ((rd_T39 l0_1 x26_2).f2)) := (blk_cell BK335.out 2).trans rfl; have hcz65_3 : w64.cell? ⟨gb335, 3, none⟩ = some (.int .i64 ((rd_T39 l0_1 x26_2).f3)) := (blk_cell BK335.out 3).trans rfl; have hcz65_4 : w64.cell? ⟨gb335, 4, none⟩ = some (.int .i64 ((rd_T39 l0_1 x26_2).f4)) := (blk_cell BK335.out 4).trans rfl; have hfz65_0 := blk_frozen BK335.out 0; have hfz65_1 := blk_frozen BK335.out 1; have hfz65_2 := blk_frozen BK335.out 2; have hfz65_3 := blk_frozen BK335.out 3; have hfz65_4 := blk_frozen BK335.out 4))
              repeat (go_quiet (fail); try go_wp2_with (fail))
              go_roundg k2
              case measure => have := HJ4.out; have := HK2.out; omega
              case rel => exact ⟨((rd_T39 l0_1 x26_2).f0), ((rd_T39 l0_1 x26_2).f1), (t338), (wrap64 (x26_2 + 1)), (by rfl), (by rfl), (by rfl), (by rfl), H', ⟨by have := HJ4.out; have := HK2.out; omega⟩, ⟨by (with_reducible repeat (refine blk_drewN ?_ _)); exact BK327.out⟩, ⟨by repeat ((with_reducible first | exact HB.out | apply pw_below_drewN))⟩⟩
         ·
          rw [if_neg c21] at H
          exact absurd H (by simp)
        ·
         rw [if_neg c20] at H
         exact absurd H (by simp)
       ·
        rw [if_neg c19] at H
        have c19b0 : decide (x26_2 < (l0_1.length : Int)) = false := decide_eq_false c19
        clear c19
        by_cases c66 : x7_2 = 0
        ·
         rw [if_pos c66] at H
         have c66b0 : (x7_2 == 0) = true := beq_iff_eq.mpr c66
         have c66b1 : (x7_2 != 0) = false := bne_eq_false_iff_eq.mpr c66
         clear c66
         simp only [Option.some.injEq, Prod.mk.injEq] at H
         obtain ⟨rfl, rfl⟩ := H
         go_wp2
         repeat (go_quiet (fail); try go_wp2)
         go_ret2
         exact ⟨by rfl, HB.out⟩
        ·
         rw [if_neg c66] at H
         have c66b0 : (x7_2 == 0) = false := beq_eq_false_iff_ne.mpr c66
         have c66b1 : (x7_2 != 0) = true := bne_iff_ne.mpr c66
         simp only [Option.some.injEq, Prod.mk.injEq] at H
         obtain ⟨rfl, rfl⟩ := H
         go_wp2
         repeat (go_quiet (fail); try go_wp2)
         go_ret2
         exact ⟨by rfl, HB.out⟩
end Go.Proofs.Ytnpbnmhbajiefaa.PFnSources
