-- OWN TEXT of FnToeplitz: made by own_print.sh, finished by hand
import Derived.Test.YtecjjkmheionoaaGFnToeplitzx0
import Derived.Test.YtecjjkmheionoaaGFnToeplitzx1
import Derived.Test.YtecjjkmheionoaaGFnToeplitzx3
namespace Go.Proofs.Ytecjjkmheionoaa.PFnToeplitz
open Go.RowKit Go.Proofs.YtecjjkmheionoaaW.PrintWords Go.Proofs.YtecjjkmheionoaaW.PrintLast Go.Proofs.YtecjjkmheionoaaW.PrintMore
attribute [local go_sem] max2_int min2_int max_two min_two max_three min_three max_four min_four   -- for this text's walks alone
set_option linter.unusedVariables false
set_option linter.unusedSimpArgs false

/-! ### impl_word16: function 34 -/
def impl_word16.f (a0 : Int) : Option (List Int) := some (([(a0 / 256) % 256, (a0) % 256] : List Int))
set_option maxHeartbeats 8000000 in
set_option maxRecDepth 100000 in
theorem impl_word16.calls (a0 : Int) (r : List Int) (w : World) (h : impl_word16.f a0 = some r) :
    Calls Try.prog 34 #[.int .i64 a0] w fun e w' => ∃ v0_ : Value, e = .returned (v0_) ∧ Kd.R (Kd.int .u8) 5 w' w.heap.size (fun _ => True) v0_ r ∧ Below w.heap.size w w' := by
  have HB := Aside0.mk (Below.refl w.heap.size w)
  have H : (some (([(a0 / 256) % 256, (a0) % 256] : List Int))) = some r := h
  clear h
  obtain ⟨y204, hy204⟩ : ∃ y_ : List Int, y_ = (([(a0 / 256) % 256, (a0) % 256] : List Int)) := ⟨_, rfl⟩
  replace H : (some y204) = some r := by first | (rw [hy204]; with_reducible exact H) | (have H2_ := (Option.bind_some _ _).symm.trans H; rw [hy204]; with_reducible exact H2_) | (have H2_ := (Option.bind_some _ _).symm.trans H; with_reducible exact H2_) | with_reducible exact H | (rw [hy204]; exact H) | exact H
  have Ny204 := Aside0.mk hy204
  clear hy204
  obtain rfl := Option.some.inj H
  go_enter Try.func34, Try.ntmps34
  go_wp2_with (first | ((with_reducible refine gate_dst (N := 8) rfl ?_); refine Kd.R_lit (Kd.int .u8) _ 5 ?hg (N := 8) ?hd (xs := ([(a0 / 256) % 256, (a0) % 256] : List Int)) (inner := [.int .u8 ((a0 / 256) % 256), .int .u8 ((a0) % 256)]) (ok := fun _ => True) (okp := fun _ => True) ?hr ?hp (fun _ hk => hk) trivial (Below.refl _ _) (Nat.le_refl _) (by simp) ?_; (case hd => rfl); (case hg => rfl); (case hr => first | (go_simp; done) | (go_simp; rfl)); (case hp => exact (Reps.one (show Kd.M (Kd.int .u8) _ _ _ ((a0 / 256) % 256) [.int .u8 ((a0 / 256) % 256)] from rfl) (Reps.one (show Kd.M (Kd.int .u8) _ _ _ ((a0) % 256) [.int .u8 ((a0) % 256)] from rfl) (Reps.none _ _)))); intro v205 w2 ho3 hb hg_ hnew_; clear hg_ hnew_; (first | rw [← Ny204.out] at ho3 | (simp only [Int.reduceToNat] at ho3; rw [← Ny204.out] at ho3)); have n0_ := Aside0.mk (Kd.R_lower ho3 (below_size (by repeat (first | (with_reducible first | exact HB.out | apply below_alloc | apply pw_below_drewN | apply below_drew1) | exact HB.out)))); have n1_ := Aside0.mk (below_step (by repeat (first | (with_reducible first | exact HB.out | apply below_alloc | apply pw_below_drewN | apply below_drew1) | exact HB.out)) hb); clear HB; have HO206 := n0_; have HB := n1_; clear n0_ n1_; clear hb ho3))
  go_ret
  exact ⟨_, by first | rfl | (simp [errW_none, errW_some] <;> rfl) | (simp [*, errW_none, errW_some] <;> rfl), by (with_reducible repeat (first | apply Kd.R_alloc | apply Kd.R_drewN | apply Kd.R_drew)); exact HO206.out, by repeat (first | (with_reducible first | exact HB.out | apply below_alloc | apply pw_below_drewN | apply below_drew1) | exact HB.out)⟩

/-! ### impl_SteerQueue: function 14 -/
def impl_SteerQueue.f (a0 : ByteArray) : Option (List Int) := some (bytesOf a0)

/-! ### impl_FlowKey: function 21 -/
def impl_FlowKey.j0 : Nat → ByteArray → ByteArray → Int → Int → Bool → Option (List Int × Int)
  | 0, _, _, _, _, _ => none
  | k + 1, x0, x1, x2, x3, x26 => if x26 = true then (some (([] : List Int), 4)) else (if x0.size + x1.size ≤ 9223372036854775807 then ((impl_SteerQueue.f (x0 ++ x1)).bind fun t214 => ((impl_word16.f x2).bind fun t217 => (if t214.length + t217.length < 140737488355328 then ((some (t214 ++ t217 : List Int)).bind fun y220 => ((impl_word16.f x3).bind fun t223 => (if y220.length + t223.length < 140737488355328 then (some ((y220 ++ t223), 0)) else (none)))) else (none)))) else (none))
def impl_FlowKey.f (k : Nat) (a0 : ByteArray) (a1 : ByteArray) (a2 : Int) (a3 : Int) : Option (List Int × Int) := (impl_tooLong.f k (([a0, a1] : List ByteArray))).bind fun t210 => (if t210 = true then (some (([] : List Int), 2)) else ((impl_oneVersion.f a0 a1).bind fun t211 => (if t211 = true then ((impl_inRange.f a2 0 65535).bind fun t212 => (if t212 = true then ((impl_inRange.f a3 0 65535).bind fun t213 => (impl_FlowKey.j0 k a0 a1 a2 a3 (!t213))) else (impl_FlowKey.j0 k a0 a1 a2 a3 true))) else (some (([] : List Int), 1)))))
theorem impl_FlowKey.mono_l : ∀ k, (∀ y0 y1 y2 y3 y4, LeO (impl_FlowKey.j0 k y0 y1 y2 y3 y4) (impl_FlowKey.j0 (k + 1) y0 y1 y2 y3 y4))
  | 0 => fun _ _ _ _ _ r h => by simp [impl_FlowKey.j0] at h
  | k + 1 => by
    have ih0 := impl_FlowKey.mono_l k
    · intro y0 y1 y2 y3 y4
      unfold impl_FlowKey.j0
      repeat' first
      | (with_reducible exact ih0 _ _ _ _ _)
      | (with_reducible exact impl_tooLong.mono _ _)
      | (with_reducible exact LeO.refl _)
      | (with_reducible exact LeO.none _)
      | (with_reducible refine LeO.ite ?_ ?_)
      | (with_reducible refine LeO.bind ?_ (fun _ => ?_))
      | exact ih0 _ _ _ _ _
      | exact impl_tooLong.mono _ _
      | exact LeO.none _
      | refine LeO.ite ?_ ?_
      | refine LeO.bind ?_ (fun _ => ?_)
theorem impl_FlowKey.mono : ∀ a0 a1 a2 a3 k, LeO (impl_FlowKey.f k a0 a1 a2 a3) (impl_FlowKey.f (k + 1) a0 a1 a2 a3) := by
  intro a0 a1 a2 a3 k
  have ih0 := impl_FlowKey.mono_l k
  unfold impl_FlowKey.f
  repeat' first
      | (with_reducible exact ih0 _ _ _ _ _)
      | (with_reducible exact impl_tooLong.mono _ _)
      | (with_reducible exact LeO.refl _)
      | (with_reducible exact LeO.none _)
      | (with_reducible refine LeO.ite ?_ ?_)
      | (with_reducible refine LeO.bind ?_ (fun _ => ?_))
      | exact ih0 _ _ _ _ _
      | exact impl_tooLong.mono _ _
      | exact LeO.none _
      | refine LeO.ite ?_ ?_
      | refine LeO.bind ?_ (fun _ => ?_)
/-- A row of bytes that the call made, of whose block some cells behind its own may be marked. -/
def MRow (W : World) (base : Nat) (v : Value) (xs : List Int) : Prop :=
  ∃ g cap, v = .slice (some ⟨g, 0, none⟩) xs.length cap ∧ base ≤ g ∧ g < W.heap.size ∧ xs.length ≤ cap ∧ (∀ j, j < cap → (W.cell? ⟨g, j, none⟩).isSome = true ∧ W.frozen? ⟨g, j, none⟩ = false) ∧ (∀ j, j < xs.length → W.cell? ⟨g, j, none⟩ = some (.int .u8 (xs.getD j 0)))
/-- A row of bytes that is read. -/
def RdRow (W : World) (v : Value) (xs : List Int) : Prop := ∃ A c, v = .slice A xs.length c ∧ xs.length ≤ c ∧ Kd.C (Kd.int .u8) W A xs.length xs
theorem frozen_below {B : Nat} {w w1 : World} (hb : Below B w w1) {p : Addr} (h : p.block < B) : w1.frozen? p = w.frozen? p := by
  unfold World.frozen?
  rw [hb.block p.block h]
theorem MRow.step {W W1 : World} {base : Nat} {v : Value} {xs : List Int} (h : MRow W base v xs) (hb : Below W.heap.size W W1) : MRow W1 base v xs := by
  obtain ⟨g, cap, e, h1, h2, h3, h4, h5⟩ := h
  refine ⟨g, cap, e, h1, Nat.lt_of_lt_of_le h2 hb.size, h3, fun j hj => ?_, fun j hj => ?_⟩
  · rw [hb.cell (p := ⟨g, j, none⟩) h2, frozen_below hb (p := ⟨g, j, none⟩) h2]; exact h4 j hj
  · rw [hb.cell (p := ⟨g, j, none⟩) h2]; exact h5 j hj
theorem MRow.rd {W : World} {base : Nat} {v : Value} {xs : List Int} (h : MRow W base v xs) (hl : xs.length ≤ 9223372036854775807) : RdRow W v xs := by
  obtain ⟨g, cap, e, h1, h2, h3, h4, h5⟩ := h
  exact ⟨_, cap, e, h3, Kd.C_of_reads (d := 0) ⟨rfl, hl, fun _ => ⟨_, rfl, fun j hj => by rw [add_plain]; exact h5 j hj⟩⟩⟩
theorem RdRow.nil (W : World) : RdRow W (.slice none 0 0) [] := ⟨none, 0, rfl, Nat.le_refl _, Kd.C_of_reads (d := 0) ⟨rfl, by decide, fun h => absurd h (by decide)⟩⟩
theorem RdRow.step {W W1 : World} {v : Value} {xs : List Int} (h : RdRow W v xs) (hb : Below W.heap.size W W1) : RdRow W1 v xs := by
  obtain ⟨A, c, e, hc, hC⟩ := h
  exact ⟨A, c, e, hc, Kd.C_below hC hb⟩
theorem RdRow.drewN {W : World} {v : Value} {xs : List Int} (n : Nat) (h : RdRow W v xs) : RdRow (W.drewN n) v xs := by
  obtain ⟨A, c, e, hc, hC⟩ := h
  exact ⟨A, c, e, hc, Kd.C_drewN hC n⟩
theorem RdRow.slice {W : World} {v : Value} {xs : List Int} (h : RdRow W v xs) : ∃ A c, v = .slice A xs.length c := by
  obtain ⟨A, c, e, hc, hC⟩ := h
  exact ⟨A, c, e⟩
theorem RdRow.reads' {W : World} {A : Option Addr} {n c : Nat} {xs : List Int} (h : RdRow W (.slice A n c) xs) : n = xs.length ∧ n ≤ c ∧ Kd.C (Kd.int .u8) W A xs.length xs := by
  obtain ⟨A', c', e, hc, hC⟩ := h
  injection e with e1 e2 e3
  subst e1 e2 e3
  exact ⟨rfl, hc, hC⟩
theorem below_setCells {g : Nat} {w : World} (hg : w.heap.size ≤ g) : ∀ (vs : List Value) (o : Nat) (W : World), Below w.heap.size w W → Below w.heap.size w (W.setCells g o vs)
  | [], _, _, h => h
  | x :: vs, o, W, h => below_setCells hg vs (o + 1) _ (below_set h hg)
theorem size_setCells (g : Nat) : ∀ (vs : List Value) (o : Nat) (W : World), (W.setCells g o vs).heap.size = W.heap.size
  | [], _, _ => rfl
  | x :: vs, o, W => (size_setCells g vs (o + 1) _).trans (by simp)
section
variable {P : Program} {ops : Array Oper} {rest : List Oper} {o : Oper} {a : Act} {Q : Exit → Act → World → Prop}
theorem MRow.append {w0 W : World} (hgd : o.guard = none) (s x : Operand) (t : TypeId)
    (ho : o.op = .call { callee := .builtin .append, args := #[s, x], argTypes := #[t, t] }) (ht : P.underlying t = some (.slice 5)) (hinfo : (P.info? 5).map (fun i => (i.zero, i.size, i.bytes)) = some (some (.int .u8 0), 1, 1))
    (v : Value) (xs ys : List Int) (A : Option Addr) (m c : Nat) (hs : a.eval s = v) (hx : a.eval x = .slice A m c) (HO : MRow W w0.heap.size v xs) (HR : Kd.C (Kd.int .u8) W A m ys) (hm : 0 < m) (HB : Below w0.heap.size w0 W) (hbase : w0.heap.size ≤ W.heap.size) (hl : xs.length + m ≤ 140737488355328)
    (h : ∀ v1 w1, MRow w1 w0.heap.size v1 (xs ++ ys) → Below w0.heap.size w0 w1 → wpList P ops Q rest (a.put o.dst v1) w1) : wpList P ops Q (o :: rest) a W := by
  obtain ⟨i0, hi, hzz⟩ := Option.map_eq_some_iff.1 hinfo
  simp only [Prod.mk.injEq] at hzz
  obtain ⟨hz0, hz1, hz2⟩ := hzz
  obtain ⟨g, cap, rfl, h1, h2, h3, h4, h5⟩ := HO
  obtain ⟨rfl, hy2, hy3⟩ := Kd.reads_of_C (d := 0) HR
  obtain ⟨ad, rfl, hy⟩ := hy3 hm
  have g1 : ∀ (zs : List Int) (j : Nat) (u : Value), (encs (Value.int .u8) zs)[j]? = some u → j < zs.length ∧ u = .int .u8 (zs.getD j 0) := by
    intro zs j u hj
    simp only [encs, List.getElem?_map, Option.map_eq_some_iff] at hj
    obtain ⟨b, hb, rfl⟩ := hj
    have := List.getElem?_eq_some_iff.1 hb
    exact ⟨this.1, by simp [List.getD_eq_getElem?_getD, hb]⟩
  have hmx : xs.length + ys.length ≤ maxLen := by unfold maxLen; omega
  refine wpList_append_arg W hgd s x t ho 5 i0 (.int .u8 0) 1 1 ht hi hz0 hz1 hz2 rfl (by decide) g 0 xs.length cap (encs (Value.int .u8) xs) hs (by simp [encs]) (fun j u hj => ?_) ad ys.length c (encs (Value.int .u8) ys) hx (by simp [encs]) (fun j u hj => ?_) (fun u hu => ?_) (fun hr j hj => ?_) hmx (by omega) (fun hr => ?_) (fun hr v' w' hown hg => ?_)
  · obtain ⟨q1, rfl⟩ := g1 xs j u hj
    rw [Nat.zero_add]; exact h5 j q1
  · obtain ⟨q1, rfl⟩ := g1 ys j u hj
    exact hy j q1
  · simp only [encs, List.mem_map] at hu
    obtain ⟨b, _, rfl⟩ := hu
    rfl
  · simp only [encs, List.length_map] at hj
    exact h4 _ (by omega)
  · refine h _ _ ⟨g, cap, by rw [List.length_append], h1, by rw [size_setCells]; exact h2, by rw [List.length_append]; omega, fun j hj => ?_, fun j hj => ?_⟩ (below_setCells h1 _ _ _ HB)
    · refine ⟨?_, by rw [World.frozen?_setCells]; exact (h4 j hj).2⟩
      by_cases q : 0 + xs.length * 1 ≤ j ∧ j < 0 + xs.length * 1 + (encs (Value.int .u8) ys).length
      · have := World.cell?_setCells_in g (encs (Value.int .u8) ys) (0 + xs.length * 1) W (fun i hi => (h4 _ (by simp [encs] at hi; omega)).1) (j - (0 + xs.length * 1)) (by omega)
        rw [show 0 + xs.length * 1 + (j - (0 + xs.length * 1)) = j by omega] at this
        rw [this]; rfl
      · rw [World.cell?_setCells_out g _ _ W ⟨g, j, none⟩ (fun _ _ => by show j < _ ∨ _ ≤ j; omega)]
        exact (h4 j hj).1
    · rw [List.length_append] at hj
      by_cases q : j < xs.length
      · rw [World.cell?_setCells_out g _ _ W ⟨g, j, none⟩ (fun _ _ => by show j < _ ∨ _ ≤ j; omega), h5 j q]
        simp [List.getD_eq_getElem?_getD, List.getElem?_append_left q]
      · have := World.cell?_setCells_in g (encs (Value.int .u8) ys) (0 + xs.length * 1) W (fun i hi => (h4 _ (by simp [encs] at hi; omega)).1) (j - xs.length) (by simp [encs]; omega)
        rw [show 0 + xs.length * 1 + (j - xs.length) = j by omega] at this
        rw [this]
        have hq : j - xs.length < ys.length := by omega
        simp [encs, List.getD_eq_getElem?_getD, List.getElem?_append_right (show xs.length ≤ j by omega), List.getElem?_eq_getElem hq]
  · rcases hown.2 with ⟨_, hz⟩ | ⟨g', cap', cur, rfl, q1, q2, q3, q4, q5, q6⟩
    · omega
    · have hwb : Below W.heap.size W w' := Below.grown (Below.refl _ _) hg (Nat.le_refl _) (fun k hk => by cases hk)
      have q7 : ∀ j, j < (xs ++ ys).length → cur[j]? = some (.int .u8 ((xs ++ ys).getD j 0)) := by
        intro j hj
        have e1 : (encs (Value.int .u8) xs ++ encs (Value.int .u8) ys)[j]? = some (.int .u8 ((xs ++ ys).getD j 0)) := by
          simp only [encs, ← List.map_append, List.getElem?_map, List.getD_eq_getElem?_getD, List.getElem?_eq_getElem hj, Option.map_some, Option.getD_some]
        rw [← q6, List.getElem?_take] at e1
        rw [List.length_append] at hj
        rw [if_pos (by omega)] at e1
        rw [← Array.getElem?_toList]; exact e1
      refine h _ _ ⟨g', cap', by rw [List.length_append], by omega, blk_lt q2, by rw [List.length_append]; omega, fun j hj => ⟨?_, blk_frozen q2 j⟩, fun j hj => ?_⟩ (below_step HB hwb)
      · rw [blk_cell q2, Array.getElem?_eq_getElem (by omega)]; rfl
      · rw [blk_cell q2]; exact q7 j hj
theorem MRow.conv {w0 W : World} (hgd : o.guard = none) (src dst : TypeId) (x : Operand) (ho : o.op = .convert src dst x) (s : ByteArray) (hx : a.eval x = .string s) {u : TypeDesc} (h1 : P.underlying src = some u) (h2 : P.underlying dst = some (.slice 5)) (h3 : P.underlying 5 = some (.int .u8))
    (HB : Below w0.heap.size w0 W) (hbase : w0.heap.size ≤ W.heap.size)
    (h : ∀ v1 w1, MRow w1 w0.heap.size v1 (bytesOf s) → Below w0.heap.size w0 w1 → wpList P ops Q rest (a.put o.dst v1) w1) : wpList P ops Q (o :: rest) a W := by
  have hsz : (Lib.bytesCells W 5 s).size = grownCap W s.size 0 5 := by
    have := grownCap_ge W s.size 0 5
    simp [Lib.bytesCells]
    have e : s.data.size = s.size := rfl
    omega
  have hat := Lib.bytesWorld_at_new W 5 s
  refine Kd.event_run hgd (v := .slice (some ⟨W.heap.size, 0, none⟩) s.size (grownCap W s.size 0 5)) (w1 := Lib.bytesWorld W 5 s) (by simp [execOp, ho, hx, print_bytes src dst 5 h1 h2 h3 s W]) (h _ _ ⟨W.heap.size, grownCap W s.size 0 5, by rw [bytesOf_length], hbase, by rw [Lib.bytesWorld_size]; omega, by rw [bytesOf_length]; exact grownCap_ge W s.size 0 5, fun j hj => ⟨?_, ?_⟩, fun j hj => ?_⟩ (bytes_below HB hbase 5 s))
  · rw [cell_of_row _ _ _ _ _ _ hat, Array.getElem?_eq_getElem (by omega)]; rfl
  · simp [World.frozen?, hat]; omega
  · rw [bytesOf_length] at hj
    rw [Lib.bytesWorld_cell W 5 s j hj]
    have h' : j < s.data.toList.length := by rw [data_length]; exact hj
    simp [bytesOf, List.getD_eq_getElem?_getD, List.getElem?_eq_getElem h']
end
set_option maxHeartbeats 8000000 in
set_option maxRecDepth 100000 in
theorem impl_FlowKey.calls (k : Nat) (a0 : ByteArray) (a1 : ByteArray) (a2 : Int) (a3 : Int) (r1 : List Int) (r2 : Int) (w : World) (h : impl_FlowKey.f k a0 a1 a2 a3 = some (r1, r2)) :
    Calls Try.prog 21 #[.string a0, .string a1, .int .i64 a2, .int .i64 a3] w fun e w' => ∃ v0_ : Value, e = .returned (.tuple #[v0_, .int .i64 r2]) ∧ RdRow w' v0_ r1 ∧ Below w.heap.size w w' := by
  have HB := Aside0.mk (Below.refl w.heap.size w)
  have H : ((impl_tooLong.f k (([a0, a1] : List ByteArray))).bind fun t210 => (if t210 = true then (some (([] : List Int), 2)) else ((impl_oneVersion.f a0 a1).bind fun t211 => (if t211 = true then ((impl_inRange.f a2 0 65535).bind fun t212 => (if t212 = true then ((impl_inRange.f a3 0 65535).bind fun t213 => (impl_FlowKey.j0 k a0 a1 a2 a3 (!t213))) else (impl_FlowKey.j0 k a0 a1 a2 a3 true))) else (some (([] : List Int), 1)))))) = some (r1, r2) := h
  clear h
  obtain ⟨y207, hy207⟩ : ∃ y_ : List ByteArray, y_ = (([a0, a1] : List ByteArray)) := ⟨_, rfl⟩
  replace H : ((impl_tooLong.f k y207).bind fun t210 => (if t210 = true then (some (([] : List Int), 2)) else ((impl_oneVersion.f a0 a1).bind fun t211 => (if t211 = true then ((impl_inRange.f a2 0 65535).bind fun t212 => (if t212 = true then ((impl_inRange.f a3 0 65535).bind fun t213 => (impl_FlowKey.j0 k a0 a1 a2 a3 (!t213))) else (impl_FlowKey.j0 k a0 a1 a2 a3 true))) else (some (([] : List Int), 1)))))) = some (r1, r2) := by first | (rw [hy207]; with_reducible exact H) | (have H2_ := (Option.bind_some _ _).symm.trans H; rw [hy207]; with_reducible exact H2_) | (have H2_ := (Option.bind_some _ _).symm.trans H; with_reducible exact H2_) | with_reducible exact H | (rw [hy207]; exact H) | exact H
  have Ny207 := Aside0.mk hy207
  clear hy207
  replace H := Option.bind_eq_some_iff.mp H
  obtain ⟨t210, A50, H⟩ := H
  replace H : (if t210 = true then (some (([] : List Int), 2)) else ((impl_oneVersion.f a0 a1).bind fun t211 => (if t211 = true then ((impl_inRange.f a2 0 65535).bind fun t212 => (if t212 = true then ((impl_inRange.f a3 0 65535).bind fun t213 => (impl_FlowKey.j0 k a0 a1 a2 a3 (!t213))) else (impl_FlowKey.j0 k a0 a1 a2 a3 true))) else (some (([] : List Int), 1))))) = some (r1, r2) := H
  have A5 := Aside0.mk A50
  clear A50
  by_cases c6 : t210 = true
  · subst c6
    have H1 : (some (([] : List Int), 2)) = some (r1, r2) := by rw [if_pos rfl] at H; exact H
    clear H
    have H := H1
    clear H1
    simp only [Option.some.injEq, Prod.mk.injEq] at H
    obtain ⟨rfl, rfl⟩ := H
    go_enter Try.func21, Try.ntmps21
    go_wp2_with (first | ((with_reducible refine gate_dst (N := 13) rfl ?_); refine Kd.R_lit Kd.string _ 9 ?hg (N := 13) ?hd (xs := ([a0, a1] : List ByteArray)) (inner := [.string a0, .string a1]) (ok := fun _ => True) (okp := fun _ => True) ?hr ?hp (fun _ hk => hk) trivial (Below.refl _ _) (Nat.le_refl _) (by simp) ?_; (case hd => rfl); (case hg => rfl); (case hr => first | (go_simp; done) | (go_simp; rfl)); (case hp => exact (Reps.one (show Kd.M Kd.string _ _ _ a0 [.string a0] from rfl) (Reps.one (show Kd.M Kd.string _ _ _ a1 [.string a1] from rfl) (Reps.none _ _)))); intro v208 w7 ho8 hb hg_ hnew_; clear hg_ hnew_; (first | rw [← Ny207.out] at ho8 | (simp only [Int.reduceToNat] at ho8; rw [← Ny207.out] at ho8)); have n0_ := Aside0.mk (Kd.R_lower ho8 (below_size (by repeat (first | (with_reducible first | exact HB.out | apply below_alloc | apply pw_below_drewN | apply below_drew1) | exact HB.out)))); have n1_ := Aside0.mk (below_step (by repeat (first | (with_reducible first | exact HB.out | apply below_alloc | apply pw_below_drewN | apply below_drew1) | exact HB.out)) hb); clear HB; have HO209 := n0_; have HB := n1_; clear n0_ n1_; clear hb ho8; obtain ⟨Ao9, co9, eo9⟩ := Kd.R_slice HO209.out; subst eo9) | ((with_reducible refine gate_callee (f := 32) rfl ?_); refine goesL_ (some 14) rfl rfl Try.func32 (by kernel_rfl) rfl #[.slice Ao9 y207.length co9] rfl (by (try simp only [List.map_toArray, List.map_cons, List.map_nil]); first | done | rfl | (simp only [List.length_drop, List.length_take]; rfl)) ?_; (with_reducible refine (impl_tooLong.calls k _ _ y207 true _ ?side1 ?side2 A5.out).mono ?_); (case side1 => repeat (first | exact (Kd.R_reads' HO209.out).2.2 | (with_reducible refine Kd.C_alloc ?_ _) | (with_reducible refine Kd.C_drewN ?_ _) | (with_reducible refine Kd.C_drew ?_))); (case side2 => exact (Kd.R_reads' HO209.out).2.1); rintro e w' ⟨rfl, ⟨nd, rfl⟩⟩; refine ⟨_, rfl, ?_⟩))
    go_ret2
    exact ⟨_, by first | rfl | (simp [errW_none, errW_some] <;> rfl) | (simp [*, errW_none, errW_some] <;> rfl), RdRow.nil _, by repeat (first | (with_reducible first | exact HB.out | apply below_alloc | apply pw_below_drewN | apply below_drew1) | exact HB.out)⟩
  · replace c6 := Bool.eq_false_iff.mpr c6
    subst c6
    have H1 : ((impl_oneVersion.f a0 a1).bind fun t211 => (if t211 = true then ((impl_inRange.f a2 0 65535).bind fun t212 => (if t212 = true then ((impl_inRange.f a3 0 65535).bind fun t213 => (impl_FlowKey.j0 k a0 a1 a2 a3 (!t213))) else (impl_FlowKey.j0 k a0 a1 a2 a3 true))) else (some (([] : List Int), 1)))) = some (r1, r2) := by rw [if_neg (show ¬ (false = true) by decide)] at H; exact H
    clear H
    have H := H1
    clear H1
    replace H := Option.bind_eq_some_iff.mp H
    obtain ⟨t211, A100, H⟩ := H
    replace H : (if t211 = true then ((impl_inRange.f a2 0 65535).bind fun t212 => (if t212 = true then ((impl_inRange.f a3 0 65535).bind fun t213 => (impl_FlowKey.j0 k a0 a1 a2 a3 (!t213))) else (impl_FlowKey.j0 k a0 a1 a2 a3 true))) else (some (([] : List Int), 1))) = some (r1, r2) := H
    have A10 := Aside0.mk A100
    clear A100
    by_cases c11 : t211 = true
    · subst c11
      have H1 : ((impl_inRange.f a2 0 65535).bind fun t212 => (if t212 = true then ((impl_inRange.f a3 0 65535).bind fun t213 => (impl_FlowKey.j0 k a0 a1 a2 a3 (!t213))) else (impl_FlowKey.j0 k a0 a1 a2 a3 true))) = some (r1, r2) := by rw [if_pos rfl] at H; exact H
      clear H
      have H := H1
      clear H1
      have HC12 := Aside0.mk H
      clear H
      go_enter Try.func21, Try.ntmps21
      go_upto_region 5 with (first | ((with_reducible refine gate_dst (N := 13) rfl ?_); refine Kd.R_lit Kd.string _ 9 ?hg (N := 13) ?hd (xs := ([a0, a1] : List ByteArray)) (inner := [.string a0, .string a1]) (ok := fun _ => True) (okp := fun _ => True) ?hr ?hp (fun _ hk => hk) trivial (Below.refl _ _) (Nat.le_refl _) (by simp) ?_; (case hd => rfl); (case hg => rfl); (case hr => first | (go_simp; done) | (go_simp; rfl)); (case hp => exact (Reps.one (show Kd.M Kd.string _ _ _ a0 [.string a0] from rfl) (Reps.one (show Kd.M Kd.string _ _ _ a1 [.string a1] from rfl) (Reps.none _ _)))); intro v208 w13 ho14 hb hg_ hnew_; clear hg_ hnew_; (first | rw [← Ny207.out] at ho14 | (simp only [Int.reduceToNat] at ho14; rw [← Ny207.out] at ho14)); have n0_ := Aside0.mk (Kd.R_lower ho14 (below_size (by repeat (first | (with_reducible first | exact HB.out | apply below_alloc | apply pw_below_drewN | apply below_drew1) | exact HB.out)))); have n1_ := Aside0.mk (below_step (by repeat (first | (with_reducible first | exact HB.out | apply below_alloc | apply pw_below_drewN | apply below_drew1) | exact HB.out)) hb); clear HB; have HO209 := n0_; have HB := n1_; clear n0_ n1_; clear hb ho14; obtain ⟨Ao15, co15, eo15⟩ := Kd.R_slice HO209.out; subst eo15) | ((with_reducible refine gate_callee (f := 32) rfl ?_); refine goesL_ (some 14) rfl rfl Try.func32 (by kernel_rfl) rfl #[.slice Ao15 y207.length co15] rfl (by (try simp only [List.map_toArray, List.map_cons, List.map_nil]); first | done | rfl | (simp only [List.length_drop, List.length_take]; rfl)) ?_; (with_reducible refine (impl_tooLong.calls k _ _ y207 false _ ?side1 ?side2 A5.out).mono ?_); (case side1 => repeat (first | exact (Kd.R_reads' HO209.out).2.2 | (with_reducible refine Kd.C_alloc ?_ _) | (with_reducible refine Kd.C_drewN ?_ _) | (with_reducible refine Kd.C_drew ?_))); (case side2 => exact (Kd.R_reads' HO209.out).2.1); rintro e w' ⟨rfl, ⟨nd, rfl⟩⟩; refine ⟨_, rfl, ?_⟩) | ((with_reducible refine gate_callee (f := 33) rfl ?_); refine goesL_ (some 17) rfl rfl Try.func33 (by kernel_rfl) rfl #[.string a0, .string a1] rfl (by (try simp only [List.map_toArray, List.map_cons, List.map_nil]); first | done | rfl | (simp only [List.length_drop, List.length_take]; rfl)) ?_; (with_reducible refine (impl_oneVersion.calls a0 a1 true _ A10.out).mono ?_); rintro e w' ⟨rfl, ⟨nd, rfl⟩⟩; refine ⟨_, rfl, ?_⟩))
      (try simp only [Act.put, List.setIfInBounds_toArray, List.set_cons_zero, List.set_cons_succ])
      go_cut [26] (fun v26 wc => ∃ (kq : Nat) (x26_11 : Bool), v26 = .bool x26_11 ∧ Aside0 (impl_FlowKey.j0 kq a0 a1 a2 a3 x26_11 = some (r1, r2)) ∧ Aside0 (kq ≤ k) ∧ Aside0 (Below w.heap.size w wc))
      case first =>
        have H := HC12.out
        clear HC12
        replace H := Option.bind_eq_some_iff.mp H
        obtain ⟨t212, A160, H⟩ := H
        replace H : (if t212 = true then ((impl_inRange.f a3 0 65535).bind fun t213 => (impl_FlowKey.j0 k a0 a1 a2 a3 (!t213))) else (impl_FlowKey.j0 k a0 a1 a2 a3 true)) = some (r1, r2) := H
        have A16 := Aside0.mk A160
        clear A160
        by_cases c17 : t212 = true
        · subst c17
          have H1 : ((impl_inRange.f a3 0 65535).bind fun t213 => (impl_FlowKey.j0 k a0 a1 a2 a3 (!t213))) = some (r1, r2) := by rw [if_pos rfl] at H; exact H
          clear H
          have H := H1
          clear H1
          replace H := Option.bind_eq_some_iff.mp H
          obtain ⟨t213, A180, H⟩ := H
          replace H : (impl_FlowKey.j0 k a0 a1 a2 a3 (!t213)) = some (r1, r2) := H
          have A18 := Aside0.mk A180
          clear A180
          have H' := Aside0.mk H
          clear H
          go_wp2_with (first | ((with_reducible refine gate_callee (f := 24) rfl ?_); refine goesL_ (some 20) rfl rfl Try.func24 (by kernel_rfl) rfl #[.int .i64 a2, .int .i64 0, .int .i64 65535] rfl (by (try simp only [List.map_toArray, List.map_cons, List.map_nil]); first | done | rfl | (simp only [List.length_drop, List.length_take]; rfl)) ?_; (with_reducible refine (impl_inRange.calls a2 0 65535 true _ A16.out).mono ?_); rintro e w' ⟨rfl, ⟨nd, rfl⟩⟩; refine ⟨_, rfl, ?_⟩) | (go_at_call 24; (with_reducible refine (impl_inRange.calls a3 0 65535 t213 _ A18.out).mono ?_); rintro e w' ⟨rfl, ⟨nd, rfl⟩⟩))
          go_meet
          case rel => exact ⟨_, (!t213), (by first | rfl | (simp; done) | (simp [*]; done)), H', ⟨by first | omega | exact Nat.le_refl _⟩, ⟨by repeat (first | (with_reducible first | exact HB.out | apply below_alloc | apply pw_below_drewN | apply below_drew1) | exact HB.out)⟩⟩
        · replace c17 := Bool.eq_false_iff.mpr c17
          subst c17
          have H1 : (impl_FlowKey.j0 k a0 a1 a2 a3 true) = some (r1, r2) := by rw [if_neg (show ¬ (false = true) by decide)] at H; exact H
          clear H
          have H := H1
          clear H1
          have H' := Aside0.mk H
          clear H
          go_wp2_with (first | ((with_reducible refine gate_callee (f := 24) rfl ?_); refine goesL_ (some 20) rfl rfl Try.func24 (by kernel_rfl) rfl #[.int .i64 a2, .int .i64 0, .int .i64 65535] rfl (by (try simp only [List.map_toArray, List.map_cons, List.map_nil]); first | done | rfl | (simp only [List.length_drop, List.length_take]; rfl)) ?_; (with_reducible refine (impl_inRange.calls a2 0 65535 false _ A16.out).mono ?_); rintro e w' ⟨rfl, ⟨nd, rfl⟩⟩; refine ⟨_, rfl, ?_⟩))
          go_meet
          case rel => exact ⟨_, (true), (by first | rfl | (simp; done) | (simp [*]; done)), H', ⟨by first | omega | exact Nat.le_refl _⟩, ⟨by repeat (first | (with_reducible first | exact HB.out | apply below_alloc | apply pw_below_drewN | apply below_drew1) | exact HB.out)⟩⟩
      case rest =>
        clear HC12
        try clear c1
        try clear c2
        try clear p2
        try clear c3
        try clear c6
        try clear c11
        try clear c17
        obtain ⟨kq, x26_11, rfl, HA, HJ11, HB⟩ := hcut
        cases kq with
        | zero => exact absurd HA.out (by simp [impl_FlowKey.j0])
        | succ kj11 =>
          have H := HA.out
          clear HA
          simp only [impl_FlowKey.j0] at H
          by_cases c19 : x26_11 = true
          · subst c19
            have H1 : (some (([] : List Int), 4)) = some (r1, r2) := by rw [if_pos rfl] at H; exact H
            clear H
            have H := H1
            clear H1
            simp only [Option.some.injEq, Prod.mk.injEq] at H
            obtain ⟨rfl, rfl⟩ := H
            go_wp2
            go_ret2
            exact ⟨_, by first | rfl | (simp [errW_none, errW_some] <;> rfl) | (simp [*, errW_none, errW_some] <;> rfl), RdRow.nil _, by repeat (first | (with_reducible first | exact HB.out | apply below_alloc | apply pw_below_drewN | apply below_drew1) | exact HB.out)⟩
          · replace c19 := Bool.eq_false_iff.mpr c19
            subst c19
            have H1 : (if a0.size + a1.size ≤ 9223372036854775807 then ((impl_SteerQueue.f (a0 ++ a1)).bind fun t214 => ((impl_word16.f a2).bind fun t217 => (if t214.length + t217.length < 140737488355328 then ((some (t214 ++ t217 : List Int)).bind fun y220 => ((impl_word16.f a3).bind fun t223 => (if y220.length + t223.length < 140737488355328 then (some ((y220 ++ t223), 0)) else (none)))) else (none)))) else (none)) = some (r1, r2) := by rw [if_neg (show ¬ (false = true) by decide)] at H; exact H
            clear H
            have H := H1
            clear H1
            by_cases c20 : a0.size + a1.size ≤ 9223372036854775807
            · rw [if_pos c20] at H
              have c20b0 := eq_true c20
              have c20b1 : decide (a0.size + a1.size ≤ 9223372036854775807) = true := decide_eq_true c20
              try have c20b2 : (9223372036854775807 < a0.size + a1.size) = False := eq_false (Nat.not_lt.2 c20)
              replace H := Option.bind_eq_some_iff.mp H
              obtain ⟨t214, A210, H⟩ := H
              replace H : ((impl_word16.f a2).bind fun t217 => (if t214.length + t217.length < 140737488355328 then ((some (t214 ++ t217 : List Int)).bind fun y220 => ((impl_word16.f a3).bind fun t223 => (if y220.length + t223.length < 140737488355328 then (some ((y220 ++ t223), 0)) else (none)))) else (none))) = some (r1, r2) := H
              have A21 := Aside0.mk A210
              clear A210
              replace H := Option.bind_eq_some_iff.mp H
              obtain ⟨t217, A220, H⟩ := H
              replace H : (if t214.length + t217.length < 140737488355328 then ((some (t214 ++ t217 : List Int)).bind fun y220 => ((impl_word16.f a3).bind fun t223 => (if y220.length + t223.length < 140737488355328 then (some ((y220 ++ t223), 0)) else (none)))) else (none)) = some (r1, r2) := H
              have A22 := Aside0.mk A220
              clear A220
              by_cases c23 : t214.length + t217.length < 140737488355328
              · rw [if_pos c23] at H
                have LMc23 := Aside0.mk c23
                clear c23
                obtain ⟨y220, hy220⟩ : ∃ y_ : List Int, y_ = (t214 ++ t217) := ⟨_, rfl⟩
                replace H : ((impl_word16.f a3).bind fun t223 => (if y220.length + t223.length < 140737488355328 then (some ((y220 ++ t223), 0)) else (none))) = some (r1, r2) := by first | (rw [hy220]; with_reducible exact H) | (have H2_ := (Option.bind_some _ _).symm.trans H; rw [hy220]; with_reducible exact H2_) | (have H2_ := (Option.bind_some _ _).symm.trans H; with_reducible exact H2_) | with_reducible exact H | (rw [hy220]; exact H) | exact H
                have Ny220 := Aside0.mk hy220
                clear hy220
                replace H := Option.bind_eq_some_iff.mp H
                obtain ⟨t223, A240, H⟩ := H
                replace H : (if y220.length + t223.length < 140737488355328 then (some ((y220 ++ t223), 0)) else (none)) = some (r1, r2) := H
                have A24 := Aside0.mk A240
                clear A240
                by_cases c25 : y220.length + t223.length < 140737488355328
                · rw [if_pos c25] at H
                  have LMc25 := Aside0.mk c25
                  clear c25
                  obtain ⟨y226, hy226⟩ : ∃ y_ : List Int, y_ = (y220 ++ t223) := ⟨_, rfl⟩
                  replace H : (some (y226, 0)) = some (r1, r2) := by first | (rw [hy226]; with_reducible exact H) | (have H2_ := (Option.bind_some _ _).symm.trans H; rw [hy226]; with_reducible exact H2_) | (have H2_ := (Option.bind_some _ _).symm.trans H; with_reducible exact H2_) | with_reducible exact H | (rw [hy226]; exact H) | exact H
                  have Ny226 := Aside0.mk hy226
                  clear hy226
                  simp only [Option.some.injEq, Prod.mk.injEq] at H
                  obtain ⟨rfl, rfl⟩ := H
                  go_wp2_with (first | ((with_reducible refine gate_dst (N := 30) rfl ?_); refine MRow.conv (w0 := w) rfl 9 32 (.tmp 29) rfl (a0 ++ a1) rfl Try.underlying9 Try.underlying32 Try.underlying5 (by repeat (first | (with_reducible first | exact HB.out | apply below_alloc | apply pw_below_drewN | apply below_drew1) | exact HB.out)) (below_size (by repeat (first | (with_reducible first | exact HB.out | apply below_alloc | apply pw_below_drewN | apply below_drew1) | exact HB.out))) ?_; intro v215 w26 ho0 hb; rw [show bytesOf (a0 ++ a1) = t214 from Option.some.inj A21.out] at ho0; have n0_ := Aside0.mk ho0; have n1_ := Aside0.mk hb; clear HB; have HO216 := n0_; have HB := n1_; clear n0_ n1_ ho0 hb) | ((with_reducible refine gate_callee (f := 34) rfl ?_); refine goesL_ (some 32) rfl rfl Try.func34 (by kernel_rfl) rfl #[.int .i64 a2] rfl (by (try simp only [List.map_toArray, List.map_cons, List.map_nil]); first | done | rfl | (simp only [List.length_drop, List.length_take]; rfl)) ?_; (with_reducible refine (impl_word16.calls a2 t217 _ A22.out).mono ?_); rintro e w27 ⟨v218, rfl, ho0, hb⟩; refine ⟨_, rfl, ?_⟩; have n0_ := Aside0.mk (MRow.step HO216.out hb); have n1_ := Aside0.mk (Kd.R_lower ho0 (below_size (by repeat (first | (with_reducible first | exact HB.out | apply below_alloc | apply pw_below_drewN | apply below_drew1) | exact HB.out)))); have n2_ := Aside0.mk (below_step (by repeat (first | (with_reducible first | exact HB.out | apply below_alloc | apply pw_below_drewN | apply below_drew1) | exact HB.out)) hb); clear HO216; clear HB; have HO216 := n0_; have HO219 := n1_; have HB := n2_; clear n0_ n1_ n2_; (try clear hb); (try clear hb2); (try clear hk); (try clear hi); (try clear ho0); obtain ⟨Ao29, co29, eo29⟩ := Kd.R_slice HO219.out; subst eo29) | ((with_reducible refine gate_builtin (b := .append) (xs := #[.tmp 30, .tmp 32]) rfl ?_); at_builtin; refine MRow.append (w0 := w) rfl (.tmp 30) (.tmp 32) 32 rfl Try.underlying32 info5 v215 t214 t217 _ _ _ rfl rfl HO216.out (Kd.R_reads' HO219.out).2.2 (by have h3_ := A22.out; simp only [impl_word16.f, Option.some.injEq] at h3_; rw [← h3_]; simp) (by repeat (first | (with_reducible first | exact HB.out | apply below_alloc | apply pw_below_drewN | apply below_drew1) | exact HB.out)) (below_size (by repeat (first | (with_reducible first | exact HB.out | apply below_alloc | apply pw_below_drewN | apply below_drew1) | exact HB.out))) (by have := LMc23.out; omega) ?_; intro v221 w28 ho hb; rw [← Ny220.out] at ho; have n0_ := Aside0.mk hb; have n1_ := Aside0.mk ho; clear HO219; clear HB; clear HO216; have HB := n0_; have HO222 := n1_; clear n0_ n1_; clear ho hb) | ((with_reducible refine gate_callee (f := 34) rfl ?_); refine goesL_ (some 36) rfl rfl Try.func34 (by kernel_rfl) rfl #[.int .i64 a3] rfl (by (try simp only [List.map_toArray, List.map_cons, List.map_nil]); first | done | rfl | (simp only [List.length_drop, List.length_take]; rfl)) ?_; (with_reducible refine (impl_word16.calls a3 t223 _ A24.out).mono ?_); rintro e w30 ⟨v224, rfl, ho0, hb⟩; refine ⟨_, rfl, ?_⟩; have n0_ := Aside0.mk (MRow.step HO222.out hb); have n1_ := Aside0.mk (Kd.R_lower ho0 (below_size (by repeat (first | (with_reducible first | exact HB.out | apply below_alloc | apply pw_below_drewN | apply below_drew1) | exact HB.out)))); have n2_ := Aside0.mk (below_step (by repeat (first | (with_reducible first | exact HB.out | apply below_alloc | apply pw_below_drewN | apply below_drew1) | exact HB.out)) hb); clear HO222; clear HB; have HO222 := n0_; have HO225 := n1_; have HB := n2_; clear n0_ n1_ n2_; (try clear hb); (try clear hb2); (try clear hk); (try clear hi); (try clear ho0); obtain ⟨Ao32, co32, eo32⟩ := Kd.R_slice HO225.out; subst eo32) | ((with_reducible refine gate_builtin (b := .append) (xs := #[.tmp 34, .tmp 36]) rfl ?_); at_builtin; refine MRow.append (w0 := w) rfl (.tmp 34) (.tmp 36) 32 rfl Try.underlying32 info5 v221 y220 t223 _ _ _ rfl rfl HO222.out (Kd.R_reads' HO225.out).2.2 (by have h3_ := A24.out; simp only [impl_word16.f, Option.some.injEq] at h3_; rw [← h3_]; simp) (by repeat (first | (with_reducible first | exact HB.out | apply below_alloc | apply pw_below_drewN | apply below_drew1) | exact HB.out)) (below_size (by repeat (first | (with_reducible first | exact HB.out | apply below_alloc | apply pw_below_drewN | apply below_drew1) | exact HB.out))) (by have := LMc25.out; omega) ?_; intro v227 w31 ho hb; rw [← Ny226.out] at ho; have n0_ := Aside0.mk hb; have n1_ := Aside0.mk ho; clear HO225; clear HB; clear HO222; have HB := n0_; have HO228 := n1_; clear n0_ n1_; clear ho hb))
                  go_ret2
                  exact ⟨_, by first | rfl | (simp [errW_none, errW_some] <;> rfl) | (simp [*, errW_none, errW_some] <;> rfl), MRow.rd HO228.out (by have h3_ := LMc25.out; first | (simp only [List.length_append]; omega) | (have h4_ := Ny226.out; rw [h4_, List.length_append]; omega)), by repeat (first | (with_reducible first | exact HB.out | apply below_alloc | apply pw_below_drewN | apply below_drew1) | exact HB.out)⟩
                · rw [if_neg c25] at H
                  exact absurd H (by simp)
              · rw [if_neg c23] at H
                exact absurd H (by simp)
            · rw [if_neg c20] at H
              exact absurd H (by simp)
    · replace c11 := Bool.eq_false_iff.mpr c11
      subst c11
      have H1 : (some (([] : List Int), 1)) = some (r1, r2) := by rw [if_neg (show ¬ (false = true) by decide)] at H; exact H
      clear H
      have H := H1
      clear H1
      simp only [Option.some.injEq, Prod.mk.injEq] at H
      obtain ⟨rfl, rfl⟩ := H
      go_enter Try.func21, Try.ntmps21
      go_wp2_with (first | ((with_reducible refine gate_dst (N := 13) rfl ?_); refine Kd.R_lit Kd.string _ 9 ?hg (N := 13) ?hd (xs := ([a0, a1] : List ByteArray)) (inner := [.string a0, .string a1]) (ok := fun _ => True) (okp := fun _ => True) ?hr ?hp (fun _ hk => hk) trivial (Below.refl _ _) (Nat.le_refl _) (by simp) ?_; (case hd => rfl); (case hg => rfl); (case hr => first | (go_simp; done) | (go_simp; rfl)); (case hp => exact (Reps.one (show Kd.M Kd.string _ _ _ a0 [.string a0] from rfl) (Reps.one (show Kd.M Kd.string _ _ _ a1 [.string a1] from rfl) (Reps.none _ _)))); intro v208 w33 ho34 hb hg_ hnew_; clear hg_ hnew_; (first | rw [← Ny207.out] at ho34 | (simp only [Int.reduceToNat] at ho34; rw [← Ny207.out] at ho34)); have n0_ := Aside0.mk (Kd.R_lower ho34 (below_size (by repeat (first | (with_reducible first | exact HB.out | apply below_alloc | apply pw_below_drewN | apply below_drew1) | exact HB.out)))); have n1_ := Aside0.mk (below_step (by repeat (first | (with_reducible first | exact HB.out | apply below_alloc | apply pw_below_drewN | apply below_drew1) | exact HB.out)) hb); clear HB; have HO209 := n0_; have HB := n1_; clear n0_ n1_; clear hb ho34; obtain ⟨Ao35, co35, eo35⟩ := Kd.R_slice HO209.out; subst eo35) | ((with_reducible refine gate_callee (f := 32) rfl ?_); refine goesL_ (some 14) rfl rfl Try.func32 (by kernel_rfl) rfl #[.slice Ao35 y207.length co35] rfl (by (try simp only [List.map_toArray, List.map_cons, List.map_nil]); first | done | rfl | (simp only [List.length_drop, List.length_take]; rfl)) ?_; (with_reducible refine (impl_tooLong.calls k _ _ y207 false _ ?side1 ?side2 A5.out).mono ?_); (case side1 => repeat (first | exact (Kd.R_reads' HO209.out).2.2 | (with_reducible refine Kd.C_alloc ?_ _) | (with_reducible refine Kd.C_drewN ?_ _) | (with_reducible refine Kd.C_drew ?_))); (case side2 => exact (Kd.R_reads' HO209.out).2.1); rintro e w' ⟨rfl, ⟨nd, rfl⟩⟩; refine ⟨_, rfl, ?_⟩) | ((with_reducible refine gate_callee (f := 33) rfl ?_); refine goesL_ (some 17) rfl rfl Try.func33 (by kernel_rfl) rfl #[.string a0, .string a1] rfl (by (try simp only [List.map_toArray, List.map_cons, List.map_nil]); first | done | rfl | (simp only [List.length_drop, List.length_take]; rfl)) ?_; (with_reducible refine (impl_oneVersion.calls a0 a1 false _ A10.out).mono ?_); rintro e w' ⟨rfl, ⟨nd, rfl⟩⟩; refine ⟨_, rfl, ?_⟩))
      go_ret2
      exact ⟨_, by first | rfl | (simp [errW_none, errW_some] <;> rfl) | (simp [*, errW_none, errW_some] <;> rfl), RdRow.nil _, by repeat (first | (with_reducible first | exact HB.out | apply below_alloc | apply pw_below_drewN | apply below_drew1) | exact HB.out)⟩

end Go.Proofs.Ytecjjkmheionoaa.PFnToeplitz
