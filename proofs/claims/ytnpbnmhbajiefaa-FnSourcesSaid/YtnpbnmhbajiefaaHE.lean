/- impl.euiAddr and impl.addrBits, by hand: rows of bytes of whose block some cells behind their own may be marked. -/
import Derived.Test.YtnpbnmhbajiefaaGFnSourcesx0
namespace Go.Proofs.Ytnpbnmhbajiefaa.PFnSources
open Go.RowKit Go.Proofs.YtnpbnmhbajiefaaW.PrintWords Go.Proofs.YtnpbnmhbajiefaaW.PrintLast Go.Proofs.YtnpbnmhbajiefaaW.PrintMore
set_option linter.unusedVariables false
set_option linter.unusedSimpArgs false
/-- A row of bytes that the call made, of whose block some cells behind its own may be marked. -/
def MRow (W : World) (base : Nat) (v : Value) (xs : List Int) : Prop :=
 ∃ g cap, v = .slice (some ⟨g, 0, none⟩) xs.length cap ∧ base ≤ g ∧ g < W.heap.size ∧ xs.length ≤ cap ∧ (∀ j, j < cap → (W.cell? ⟨g, j, none⟩).isSome = true ∧ W.frozen? ⟨g, j, none⟩ = false) ∧ (∀ j, j < xs.length → W.cell? ⟨g, j, none⟩ = some (.int .u8 (xs.getD j 0)))
/-- A row of bytes that is read. -/
def RdRow (W : World) (v : Value) (xs : List Int) : Prop := ∃ A c, v = .slice A xs.length c ∧ xs.length ≤ c ∧ Kd.C (Kd.int .u8) W A xs.length xs
theorem frozen_below {B : Nat} {w w1 : World} (hb : Below B w w1) {p : Addr} (h : p.block < B) : w1.frozen? p = w.frozen? p := by
 unfold World.frozen?
 rw [hb.block p.block h]
theorem MRow.step {W W1 : World} {base : Nat} {v : Value} {xs : List Int} (h : MRow W base v xs) (hb : Below W.heap.size W W1) : MRow W1 base v xs := by
 obtain ⟨g, cap, e, h1, h2, h3, h4, h5⟩ := h
 refine ⟨g, cap, e, h1, Nat.lt_of_lt_of_le h2 hb.size, h3, fun j hj => ?_, fun j hj => ?_⟩
 ·
  rw [hb.cell (p := ⟨g, j, none⟩) h2, frozen_below hb (p := ⟨g, j, none⟩) h2]; exact h4 j hj
 ·
  rw [hb.cell (p := ⟨g, j, none⟩) h2]; exact h5 j hj
theorem MRow.rd {W : World} {base : Nat} {v : Value} {xs : List Int} (h : MRow W base v xs) (hl : xs.length ≤ 9223372036854775807) : RdRow W v xs := by
 obtain ⟨g, cap, e, h1, h2, h3, h4, h5⟩ := h
 exact ⟨_, cap, e, h3, Kd.C_of_reads (d := 0) ⟨rfl, hl, fun _ => ⟨_, rfl, fun j hj => by rw [add_plain]; exact h5 j hj⟩⟩⟩
theorem RdRow.slice {W : World} {v : Value} {xs : List Int} (h : RdRow W v xs) : ∃ A c, v = .slice A xs.length c := by
 obtain ⟨A, c, e, hc, hC⟩ := h
 exact ⟨A, c, e⟩
theorem RdRow.reads' {W : World} {A : Option Addr} {n c : Nat} {xs : List Int} (h : RdRow W (.slice A n c) xs) : n = xs.length ∧ n ≤ c ∧ Kd.C (Kd.int .u8) W A xs.length xs := by
 obtain ⟨A', c', e, hc, hC⟩ := h
 injection e with e1 e2 e3
 subst e1 e2 e3
 exact ⟨rfl, hc, hC⟩
theorem below_setCells {g : Nat} {w : World} (hg : w.heap.size ≤ g) : ∀ (vs : List Value) (o : Nat) (W : World), Below w.heap.size w W → Below w.heap.size w (W.setCells g o vs)
 | [], _, _, h => h
 | x :: vs, o, W, h => below_setCells hg vs (o + 1) _ (below_set h hg)
theorem size_setCells (g : Nat) : ∀ (vs : List Value) (o : Nat) (W : World), (W.setCells g o vs).heap.size = W.heap.size
 | [], _, _ => rfl
 | x :: vs, o, W => (size_setCells g vs (o + 1) _).trans (by simp)
section
variable {P : Program} {ops : Array Oper} {rest : List Oper} {o : Oper} {a : Act} {Q : Exit → Act → World → Prop}
theorem MRow.run_ {w0 W : World} (s x : Operand) (t : TypeId)
  (ho : o.op = .call { callee := .builtin .append, args := #[s, x], argTypes := #[t, t] }) (ht : P.underlying t = some (.slice 5)) (hinfo : (P.info? 5).map (fun i => (i.zero, i.size, i.bytes)) = some (some (.int .u8 0), 1, 1))
  (v : Value) (xs ys : List Int) (A : Option Addr) (m c : Nat) (hs : a.eval s = v) (hx : a.eval x = .slice A m c) (HO : MRow W w0.heap.size v xs) (HR : Kd.C (Kd.int .u8) W A m ys) (hm : 0 < m) (HB : Below w0.heap.size w0 W) (hbase : w0.heap.size ≤ W.heap.size) (hl : xs.length + m ≤ 140737488355328) :
  ∃ v1 w1, (execOp a.eval o).run P W = .ok (.value v1) w1 ∧ MRow w1 w0.heap.size v1 (xs ++ ys) ∧ Below w0.heap.size w0 w1 := by
 obtain ⟨i0, hi, hzz⟩ := Option.map_eq_some_iff.1 hinfo
 simp only [Prod.mk.injEq] at hzz
 obtain ⟨hz0, hz1, hz2⟩ := hzz
 obtain ⟨g, cap, rfl, h1, h2, h3, h4, h5⟩ := HO
 obtain ⟨rfl, hy2, hy3⟩ := Kd.reads_of_C (d := 0) HR
 obtain ⟨ad, rfl, hy⟩ := hy3 hm
 have g1 : ∀ (zs : List Int) (j : Nat) (u : Value), (encs (Value.int .u8) zs)[j]? = some u → j < zs.length ∧ u = .int .u8 (zs.getD j 0) := by
  intro zs j u hj
  simp only [encs, List.getElem?_map, Option.map_eq_some_iff] at hj
  obtain ⟨b, hb, rfl⟩ := hj
  have := List.getElem?_eq_some_iff.1 hb
  exact ⟨this.1, by simp [List.getD_eq_getElem?_getD, hb]⟩
 have hmx : xs.length + ys.length ≤ maxLen := by unfold maxLen; omega
 have holds : ∀ j u, (encs (Value.int .u8) xs)[j]? = some u → W.cell? ⟨g, 0 + j, none⟩ = some u := fun j u hj => by
  obtain ⟨q1, rfl⟩ := g1 xs j u hj
  rw [Nat.zero_add]; exact h5 j q1
 have hnews : ∀ j u, (encs (Value.int .u8) ys)[j]? = some u → W.cell? (ad.add j) = some u := fun j u hj => by
  obtain ⟨q1, rfl⟩ := g1 ys j u hj
  exact hy j q1
 have hone : ∀ u ∈ encs (Value.int .u8) ys, u.oneCell' = true := fun u hu => by
  simp only [encs, List.mem_map] at hu
  obtain ⟨b, _, rfl⟩ := hu
  rfl
 by_cases hr : xs.length + ys.length ≤ cap
 ·
  have hrun := run_append_room_cells (P := P) W t o.type 5 i0 ht hi g 0 xs.length cap ad ys.length c (encs (Value.int .u8) ys) (by rw [hz1]; simp [encs]) hnews hone hr (fun j hj => by
   simp only [encs, List.length_map] at hj
   rw [hz1]
   exact (h4 _ (by omega)).1) (fun j hj => by
   simp only [encs, List.length_map] at hj
   rw [hz1]
   exact (h4 _ (by omega)).2)
  rw [hz1] at hrun
  refine ⟨.slice (some ⟨g, 0, none⟩) (xs.length + ys.length) cap, W.setCells g (0 + xs.length * 1) (encs (Value.int .u8) ys), by simp [execOp, ho, resolve, invoke, builtin, hs, hx, hrun, Result.andThen], ?_, ?_⟩
  ·
   refine ⟨g, cap, by rw [List.length_append], h1, by rw [size_setCells]; exact h2, by rw [List.length_append]; omega, fun j hj => ?_, fun j hj => ?_⟩
   ·
    refine ⟨?_, by rw [World.frozen?_setCells]; exact (h4 j hj).2⟩
    by_cases q : 0 + xs.length * 1 ≤ j ∧ j < 0 + xs.length * 1 + (encs (Value.int .u8) ys).length
    ·
     have := World.cell?_setCells_in g (encs (Value.int .u8) ys) (0 + xs.length * 1) W (fun i hi => (h4 _ (by simp [encs] at hi; omega)).1) (j - (0 + xs.length * 1)) (by omega)
     rw [show 0 + xs.length * 1 + (j - (0 + xs.length * 1)) = j by omega] at this
     rw [this]; rfl
    ·
     rw [World.cell?_setCells_out g _ _ W ⟨g, j, none⟩ (fun _ _ => by show j < _ ∨ _ ≤ j; omega)]
     exact (h4 j hj).1
   ·
    rw [List.length_append] at hj
    by_cases q : j < xs.length
    ·
     rw [World.cell?_setCells_out g _ _ W ⟨g, j, none⟩ (fun _ _ => by show j < _ ∨ _ ≤ j; omega), h5 j q]
     simp [List.getD_eq_getElem?_getD, List.getElem?_append_left q]
    ·
     have := World.cell?_setCells_in g (encs (Value.int .u8) ys) (0 + xs.length * 1) W (fun i hi => (h4 _ (by simp [encs] at hi; omega)).1) (j - xs.length) (by simp [encs]; omega)
     rw [show 0 + xs.length * 1 + (j - xs.length) = j by omega] at this
     rw [this]
     have hq : j - xs.length < ys.length := by omega
     simp [encs, List.getD_eq_getElem?_getD, List.getElem?_append_right (show xs.length ≤ j by omega), List.getElem?_eq_getElem hq]
  ·
   exact below_setCells h1 _ _ _ HB
 ·
  obtain ⟨v', w', hrun, hown, hg⟩ := run_append_arg_grows (P := P) W t o.type 5 i0 (.int .u8 0) 1 1 ht hi hz0 hz1 hz2 rfl (by decide) ⟨g, 0, none⟩ xs.length cap (encs (Value.int .u8) xs) (by simp [encs]) (fun j u hj => by rw [Addr.add_lit]; exact holds j u hj) ad ys.length c (encs (Value.int .u8) ys) (by simp [encs]) hnews (by omega) hmx (by omega)
  rcases hown.2 with ⟨_, hz⟩ | ⟨g', cap', cur, rfl, q1, q2, q3, q4, q5, q6⟩
  ·
   omega
  ·
   have hwb : Below W.heap.size W w' := Below.grown (Below.refl _ _) hg (Nat.le_refl _) (fun k hk => by cases hk)
   have q7 : ∀ j, j < (xs ++ ys).length → cur[j]? = some (.int .u8 ((xs ++ ys).getD j 0)) := by
    intro j hj
    have e1 : (encs (Value.int .u8) xs ++ encs (Value.int .u8) ys)[j]? = some (.int .u8 ((xs ++ ys).getD j 0)) := by
     simp only [encs, ← List.map_append, List.getElem?_map, List.getD_eq_getElem?_getD, List.getElem?_eq_getElem hj, Option.map_some, Option.getD_some]
    rw [← q6, List.getElem?_take] at e1
    rw [List.length_append] at hj
    rw [if_pos (by omega)] at e1
    rw [← Array.getElem?_toList]; exact e1
   refine ⟨.slice (some ⟨g', 0, none⟩) (xs.length + ys.length) cap', w', by simp [execOp, ho, resolve, invoke, builtin, hs, hx, hrun, Result.andThen], ⟨g', cap', by rw [List.length_append], by omega, blk_lt q2, by rw [List.length_append]; omega, fun j hj => ⟨?_, blk_frozen q2 j⟩, fun j hj => ?_⟩, below_step HB hwb⟩
   ·
    rw [blk_cell q2, Array.getElem?_eq_getElem (by omega)]; rfl
   ·
    rw [blk_cell q2]; exact q7 j hj
theorem run_append_room_cells_str (w : World) (t u ty e : TypeId) (i : TypeInfo) (ht : P.underlying t = some (.slice e)) (hu : P.underlying u = some .string) (hi : P.info? e = some i) (hs1 : i.size = 1)
  (b off sLen sCap : Nat) (s : ByteArray) (hroom : sLen + s.size ≤ sCap) (hc : ∀ j, j < s.size → (w.cell? ⟨b, off + sLen + j, none⟩).isSome = true) (hf : ∀ j, j < s.size → w.frozen? ⟨b, off + sLen + j, none⟩ = false) :
  (Builtin.append_ #[t, u] ty #[.slice (some ⟨b, off, none⟩) sLen sCap, .string s]).run P w = .ok (.slice (some ⟨b, off, none⟩) (sLen + s.size) sCap) (w.setCells b (off + sLen) (Lib.strCells s)) := by
 have hfc := Lib.run_firstCells_string (P := P) w 1 s
 have hst := run_storeCells_cells (P := P) b (off + sLen) (Lib.strCells s) 0 w (by simpa [Lib.strCells_length] using hc) (by simpa [Lib.strCells_length] using hf) (Lib.strCells_oneCell s)
 simp only [Nat.add_zero] at hst
 simp [Builtin.append_, run_underlying ht, run_underlying hu, sizeOf, typeInfo, hi, hs1, Builtin.lenOf, hroom, hfc, Addr.add_lit, hst]
theorem strCells_encs (s : ByteArray) : Lib.strCells s = encs (Value.int .u8) (bytesOf s) := by simp [Lib.strCells, encs, bytesOf]
theorem MRow.run_str {w0 W : World} (s x : Operand) (t u : TypeId)
  (ho : o.op = .call { callee := .builtin .append, args := #[s, x], argTypes := #[t, u] }) (ht : P.underlying t = some (.slice 5)) (hu : P.underlying u = some .string) (hinfo : (P.info? 5).map (fun i => (i.zero, i.size, i.bytes)) = some (some (.int .u8 0), 1, 1))
  (v : Value) (xs : List Int) (str : ByteArray) (hs : a.eval s = v) (hx : a.eval x = .string str) (HO : MRow W w0.heap.size v xs) (HB : Below w0.heap.size w0 W) (hbase : w0.heap.size ≤ W.heap.size) (hl : xs.length + str.size ≤ 140737488355328) :
  ∃ v1 w1, (execOp a.eval o).run P W = .ok (.value v1) w1 ∧ MRow w1 w0.heap.size v1 (xs ++ bytesOf str) ∧ Below w0.heap.size w0 w1 := by
 obtain ⟨i0, hi, hzz⟩ := Option.map_eq_some_iff.1 hinfo
 simp only [Prod.mk.injEq] at hzz
 obtain ⟨hz0, hz1, hz2⟩ := hzz
 obtain ⟨g, cap, rfl, h1, h2, h3, h4, h5⟩ := HO
 obtain ⟨ys, hys⟩ : ∃ ys, ys = bytesOf str := ⟨_, rfl⟩
 have hyl : ys.length = str.size := by rw [hys, bytesOf_length]
 have hse : Lib.strCells str = encs (Value.int .u8) ys := by rw [strCells_encs, hys]
 rw [← hys]
 have g1 : ∀ (zs : List Int) (j : Nat) (u : Value), (encs (Value.int .u8) zs)[j]? = some u → j < zs.length ∧ u = .int .u8 (zs.getD j 0) := by
  intro zs j u hj
  simp only [encs, List.getElem?_map, Option.map_eq_some_iff] at hj
  obtain ⟨b, hb, rfl⟩ := hj
  have := List.getElem?_eq_some_iff.1 hb
  exact ⟨this.1, by simp [List.getD_eq_getElem?_getD, hb]⟩
 have hmx : xs.length + ys.length ≤ maxLen := by unfold maxLen; omega
 have holds : ∀ j u, (encs (Value.int .u8) xs)[j]? = some u → W.cell? ⟨g, 0 + j, none⟩ = some u := fun j u hj => by
  obtain ⟨q1, rfl⟩ := g1 xs j u hj
  rw [Nat.zero_add]; exact h5 j q1
 by_cases hr : xs.length + ys.length ≤ cap
 ·
  have hrun := run_append_room_cells_str (P := P) W t u o.type 5 i0 ht hu hi hz1 g 0 xs.length cap str (by omega) (fun j hj => (h4 _ (by omega)).1) (fun j hj => (h4 _ (by omega)).2)
  rw [hse, ← hyl, show 0 + xs.length = 0 + xs.length * 1 by omega] at hrun
  refine ⟨.slice (some ⟨g, 0, none⟩) (xs.length + ys.length) cap, W.setCells g (0 + xs.length * 1) (encs (Value.int .u8) ys), by simp [execOp, ho, resolve, invoke, builtin, hs, hx, hrun, Result.andThen], ?_, ?_⟩
  ·
   refine ⟨g, cap, by rw [List.length_append], h1, by rw [size_setCells]; exact h2, by rw [List.length_append]; omega, fun j hj => ?_, fun j hj => ?_⟩
   ·
    refine ⟨?_, by rw [World.frozen?_setCells]; exact (h4 j hj).2⟩
    by_cases q : 0 + xs.length * 1 ≤ j ∧ j < 0 + xs.length * 1 + (encs (Value.int .u8) ys).length
    ·
     have := World.cell?_setCells_in g (encs (Value.int .u8) ys) (0 + xs.length * 1) W (fun i hi => (h4 _ (by simp [encs] at hi; omega)).1) (j - (0 + xs.length * 1)) (by omega)
     rw [show 0 + xs.length * 1 + (j - (0 + xs.length * 1)) = j by omega] at this
     rw [this]; rfl
    ·
     rw [World.cell?_setCells_out g _ _ W ⟨g, j, none⟩ (fun _ _ => by show j < _ ∨ _ ≤ j; omega)]
     exact (h4 j hj).1
   ·
    rw [List.length_append] at hj
    by_cases q : j < xs.length
    ·
     rw [World.cell?_setCells_out g _ _ W ⟨g, j, none⟩ (fun _ _ => by show j < _ ∨ _ ≤ j; omega), h5 j q]
     simp [List.getD_eq_getElem?_getD, List.getElem?_append_left q]
    ·
     have := World.cell?_setCells_in g (encs (Value.int .u8) ys) (0 + xs.length * 1) W (fun i hi => (h4 _ (by simp [encs] at hi; omega)).1) (j - xs.length) (by simp [encs]; omega)
     rw [show 0 + xs.length * 1 + (j - xs.length) = j by omega] at this
     rw [this]
     have hq : j - xs.length < ys.length := by omega
     simp [encs, List.getD_eq_getElem?_getD, List.getElem?_append_right (show xs.length ≤ j by omega), List.getElem?_eq_getElem hq]
  ·
   exact below_setCells h1 _ _ _ HB
 ·
  have hg48 : cap < xs.length + str.size := by omega
  have hrun := Lib.run_append_grow_string (P := P) W t u o.type 5 i0 (.int .u8 0) ht hu hi hz0 ⟨g, 0, none⟩ xs.length cap (encs (Value.int .u8) xs) (by rw [hz1]; simp [encs]) (fun j u hj => by rw [Addr.add_lit]; exact holds j u hj) str hg48 (by omega) (growslice_fits hg48 (by rw [hz2]; omega))
  have hcap := grownCap_ge W (xs.length + str.size) cap 5
  refine ⟨.slice (some ⟨W.heap.size, 0, none⟩) (xs.length + str.size) (grownCap W (xs.length + str.size) cap 5), W.drew.alloc (.cells ((encs (Value.int .u8) xs).toArray ++ (Lib.strCells str).toArray ++ Builtin.zeroCells (Value.int .u8 0).cells (grownCap W (xs.length + str.size) cap 5 - (xs.length + str.size))) 5), by simp [execOp, ho, resolve, invoke, builtin, hs, hx, hrun, Result.andThen], ?_, ?_⟩
  ·
   have hbk : (W.drew.alloc (.cells ((encs (Value.int .u8) xs).toArray ++ (Lib.strCells str).toArray ++ Builtin.zeroCells (Value.int .u8 0).cells (grownCap W (xs.length + str.size) cap 5 - (xs.length + str.size))) 5)).heap[W.heap.size]? = some (.cells ((encs (Value.int .u8) xs).toArray ++ (Lib.strCells str).toArray ++ Builtin.zeroCells (Value.int .u8 0).cells (grownCap W (xs.length + str.size) cap 5 - (xs.length + str.size))) 5) := blk_new W.drew (.cells ((encs (Value.int .u8) xs).toArray ++ (Lib.strCells str).toArray ++ Builtin.zeroCells (Value.int .u8 0).cells (grownCap W (xs.length + str.size) cap 5 - (xs.length + str.size))) 5)
   have hzs : (Builtin.zeroCells (Value.int .u8 0).cells (grownCap W (xs.length + str.size) cap 5 - (xs.length + str.size))).size = grownCap W (xs.length + str.size) cap 5 - (xs.length + str.size) := by simp [Builtin.zeroCells, Value.cells]
   refine ⟨W.heap.size, _, by rw [List.length_append, hyl], hbase, blk_lt hbk, by rw [List.length_append, hyl]; exact hcap, fun j hj => ⟨?_, blk_frozen hbk j⟩, fun j hj => ?_⟩
   ·
    rw [blk_cell hbk, Array.getElem?_eq_getElem (by rw [Array.size_append, Array.size_append, hzs, hse]; simp [encs]; omega)]; rfl
   ·
    rw [blk_cell hbk, hse]
    have e1 : ((encs (Value.int .u8) xs).toArray ++ (encs (Value.int .u8) ys).toArray)[j]? = some (.int .u8 ((xs ++ ys).getD j 0)) := by
     rw [List.append_toArray, List.getElem?_toArray]
     simp only [encs, ← List.map_append, List.getElem?_map, List.getD_eq_getElem?_getD, List.getElem?_eq_getElem hj, Option.map_some, Option.getD_some]
    rw [Array.getElem?_append_left (by rw [Array.size_append]; simp [encs]; rw [List.length_append] at hj; omega)]
    exact e1
  ·
   exact below_step HB ((below_drew1 (Below.refl _ _)).alloc (Nat.le_refl _) _)
theorem MRow.conv {w0 W : World} (hgd : o.guard = none) (src dst : TypeId) (x : Operand) (ho : o.op = .convert src dst x) (s : ByteArray) (hx : a.eval x = .string s) {u : TypeDesc} (h1 : P.underlying src = some u) (h2 : P.underlying dst = some (.slice 5)) (h3 : P.underlying 5 = some (.int .u8))
  (HB : Below w0.heap.size w0 W) (hbase : w0.heap.size ≤ W.heap.size)
  (h : ∀ v1 w1, MRow w1 w0.heap.size v1 (bytesOf s) → Below w0.heap.size w0 w1 → wpList P ops Q rest (a.put o.dst v1) w1) : wpList P ops Q (o :: rest) a W := by
 have hsz : (Lib.bytesCells W 5 s).size = grownCap W s.size 0 5 := by
  have := grownCap_ge W s.size 0 5
  simp [Lib.bytesCells]
  have e : s.data.size = s.size := rfl
  omega
 have hat := Lib.bytesWorld_at_new W 5 s
 refine Kd.event_run hgd (v := .slice (some ⟨W.heap.size, 0, none⟩) s.size (grownCap W s.size 0 5)) (w1 := Lib.bytesWorld W 5 s) (by simp [execOp, ho, hx, print_bytes src dst 5 h1 h2 h3 s W]) (h _ _ ⟨W.heap.size, grownCap W s.size 0 5, by rw [bytesOf_length], hbase, by rw [Lib.bytesWorld_size]; omega, by rw [bytesOf_length]; exact grownCap_ge W s.size 0 5, fun j hj => ⟨?_, ?_⟩, fun j hj => ?_⟩ (bytes_below HB hbase 5 s))
 ·
  rw [cell_of_row _ _ _ _ _ _ hat, Array.getElem?_eq_getElem (by omega)]; rfl
 ·
  simp [World.frozen?, hat]; omega
 ·
  rw [bytesOf_length] at hj
  rw [Lib.bytesWorld_cell W 5 s j hj]
  have h' : j < s.data.toList.length := by rw [data_length]; exact hj
  simp [bytesOf, List.getD_eq_getElem?_getD, List.getElem?_eq_getElem h']
end
section
variable {P : Program} {ops : Array Oper} {rest : List Oper} {o : Oper} {a : Act} {Q : Exit → Act → World → Prop} {Kc : Act → World → Prop}
theorem MRow.app_step {w0 W : World} (hw : Region.wanted o (yielded ops a.tmps) = true) (s x : Operand) (t : TypeId)
  (ho : o.op = .call { callee := .builtin .append, args := #[s, x], argTypes := #[t, t] }) (ht : P.underlying t = some (.slice 5)) (hinfo : (P.info? 5).map (fun i => (i.zero, i.size, i.bytes)) = some (some (.int .u8 0), 1, 1))
  (v : Value) (xs ys : List Int) (A : Option Addr) (m c : Nat) (hs : a.eval s = v) (hx : a.eval x = .slice A m c) (HO : MRow W w0.heap.size v xs) (HR : Kd.C (Kd.int .u8) W A m ys) (hm : 0 < m) (HB : Below w0.heap.size w0 W) (hbase : w0.heap.size ≤ W.heap.size) (hl : xs.length + m ≤ 140737488355328)
  (h : ∀ v1 w1, MRow w1 w0.heap.size v1 (xs ++ ys) → Below w0.heap.size w0 w1 → Kc (a.put o.dst v1) w1) : if Region.wanted o (yielded ops a.tmps) = true then Oper.wp P o a W Kc Q else Kc (a.put o.dst undef) W := by
 obtain ⟨v1, w1, hrun, ho1, hb1⟩ := MRow.run_ s x t ho ht hinfo v xs ys A m c hs hx HO HR hm HB hbase hl
 exact event_step hw hrun (h v1 w1 ho1 hb1)
theorem MRow.str {w0 W : World} (hgd : o.guard = none) (s x : Operand) (t u : TypeId)
  (ho : o.op = .call { callee := .builtin .append, args := #[s, x], argTypes := #[t, u] }) (ht : P.underlying t = some (.slice 5)) (hu : P.underlying u = some .string) (hinfo : (P.info? 5).map (fun i => (i.zero, i.size, i.bytes)) = some (some (.int .u8 0), 1, 1))
  (v : Value) (xs : List Int) (str : ByteArray) (hs : a.eval s = v) (hx : a.eval x = .string str) (HO : MRow W w0.heap.size v xs) (HB : Below w0.heap.size w0 W) (hbase : w0.heap.size ≤ W.heap.size) (hl : xs.length + str.size ≤ 140737488355328)
  (h : ∀ v1 w1, MRow w1 w0.heap.size v1 (xs ++ bytesOf str) → Below w0.heap.size w0 w1 → wpList P ops Q rest (a.put o.dst v1) w1) : wpList P ops Q (o :: rest) a W := by
 obtain ⟨v1, w1, hrun, ho1, hb1⟩ := MRow.run_str s x t u ho ht hu hinfo v xs str hs hx HO HB hbase hl
 exact Kd.event_run hgd hrun (h v1 w1 ho1 hb1)
end
def impl_euiAddr.T2 : Bool × List (List Nat × List Nat) := (true, [([], []), ([], []), ([1], [1]), ([2], [2]), ([], []), ([4], [4]), ([], []), ([6], [6]), ([3, 5, 7], [3, 5, 7]), ([0, 8], [0, 8]), ([9, 9, 0, 1, 2, 3, 4, 5, 6, 7, 8, 9], [0, 9])])
def impl_euiAddr.B2 : List Nat := [0, 0, 2, 6, 0, 16, 0, 64, 254, 511, 1023]
theorem impl_euiAddr.tab2 : rtab .any (opsOf Try.f27 2) = impl_euiAddr.T2 := by kernel_rfl
theorem impl_euiAddr.bits2 : waitsOk impl_euiAddr.T2.2 impl_euiAddr.B2 = true := by kernel_rfl
def impl_euiAddr.f (a0 a1 : ByteArray) : Option ByteArray := if 8 ≤ a0.size then (if 3 ≤ a1.size then (if a1.size ≤ 1000000 then some (strOfNums ((bytesOf (a0.extract 0 8) ++ [Go.bits .xor .u8 (bt a1 0) 2, bt a1 1, bt a1 2, 255, 254]) ++ bytesOf (a1.extract 3 a1.size))) else none) else none) else none
set_option maxHeartbeats 8000000 in
set_option maxRecDepth 100000 in
theorem impl_euiAddr.calls (a0 : ByteArray) (a1 : ByteArray) (r : ByteArray) (w : World) (h : impl_euiAddr.f a0 a1 = some r) :
  Calls Try.prog 27 #[.string a0, .string a1] w fun e w' => e = .returned (.string r) ∧ Below w.heap.size w w' := by
 unfold impl_euiAddr.f at h
 by_cases h1 : 8 ≤ a0.size
 rotate_left
 ·
  rw [if_neg h1] at h; cases h
 rw [if_pos h1] at h
 by_cases h2 : 3 ≤ a1.size
 rotate_left
 ·
  rw [if_neg h2] at h; cases h
 rw [if_pos h2] at h
 by_cases h3 : a1.size ≤ 1000000
 rotate_left
 ·
  rw [if_neg h3] at h; cases h
 rw [if_pos h3] at h
 have h4 := Option.some.inj h
 clear h
 obtain ⟨p1, hp1⟩ : ∃ p, p = a0.extract 0 8 := ⟨_, rfl⟩
 obtain ⟨p2, hp2⟩ : ∃ p, p = a1.extract 3 a1.size := ⟨_, rfl⟩
 have s1 : p1.size = 8 := by rw [hp1]; simp; omega
 have s2 : p2.size = a1.size - 3 := by rw [hp2]; simp
 rw [← hp1, ← hp2] at h4
 have HS := Aside0.mk (And.intro s1 (And.intro s2 (And.intro h1 (And.intro h2 h3))))
 have HP1 := Aside0.mk hp1; have HP2 := Aside0.mk hp2; have HR := Aside0.mk h4
 clear s1 s2 hp1 hp2 h4
 have c1 : (8 : Int) ≤ (a0.size : Int) := by omega
 have d1 : decide ((8 : Int) ≤ (a0.size : Int)) = true := decide_eq_true c1
 have c2 : (0 : Int) < (a1.size : Int) := by omega
 have c3 : (1 : Int) < (a1.size : Int) := by omega
 have c4 : (2 : Int) < (a1.size : Int) := by omega
 have c5 : (3 : Int) ≤ (a1.size : Int) := by omega
 have n0 : 0 < a1.size := by omega
 have n1 : 1 < a1.size := by omega
 have n2 : 2 < a1.size := by omega
 have e0 : ((a1[0]'n0).toNat : Int) = bt a1 0 := by rw [bt, dif_pos (show (0 : Int).toNat < a1.size from n0)]; rfl
 have e1 : ((a1[1]'n1).toNat : Int) = bt a1 1 := by rw [bt, dif_pos (show (1 : Int).toNat < a1.size from n1)]; rfl
 have e2 : ((a1[2]'n2).toNat : Int) = bt a1 2 := by rw [bt, dif_pos (show (2 : Int).toNat < a1.size from n2)]; rfl
 clear h1 h2 h3
 go_enter Try.func27, Try.ntmps27
 go_upto_region 2 with ((with_reducible refine gate_dst (N := 8) rfl ?_); refine MRow.conv (w0 := w) rfl 9 22 (.tmp 7) rfl p1 (by rw [HP1.out]; rfl) Try.underlying9 Try.underlying22 Try.underlying5 (Below.refl _ _) (Nat.le_refl _) ?_; intro v1 w1 ho hb; have HO := Aside0.mk ho; have HB := Aside0.mk hb; obtain ⟨g, cap, e1, -⟩ := ho; subst e1; clear hb)
 refine start_ (n := 11) (S := fun w' => True) (ds := []) #[false, false, false, false, false, false, false, false, false, false, false] (by kernel_rfl) rfl rfl trivial (fun hHeld => ?_); refine with_tabW impl_euiAddr.tab2 impl_euiAddr.bits2 (fun HT_ HW_ => ?_)
 replace HO := Aside0.mk (MRow.step HO.out (below_drew1 (Below.refl _ _)))
 replace HB := Aside0.mk (below_drew1 HB.out)
 generalize World.drew w1 = w2 at HO HB hHeld ⊢
 refine pure_ (i := 0) (N := some 9) (v := ?_) (a' := ?_) #[true, false, false, false, false, false, false, false, false, false, false] rfl rfl (any_of HT_.out (by kernel_rfl)) (fun _ _ _ h => h) (Or.inl ⟨by rfl, ?_⟩) ?_ ?_
 rotate_left
 ·
  intro w'
  go_simp
  (with_reducible rfl)
 rotate_left
 ·
  simp only [Act.put, pq]
  rfl
 refine pure_ (i := 1) (N := some 10) (v := ?_) (a' := ?_) #[true, true, false, false, false, false, false, false, false, false, false] rfl rfl (any_of HT_.out (by kernel_rfl)) (fun _ _ _ h => h) (Or.inl ⟨by rfl, ?_⟩) ?_ ?_
 rotate_left
 ·
  intro w'
  go_simp
  (with_reducible rfl)
 rotate_left
 ·
  simp only [Act.put, pq]
  rfl
 refine pure_ (i := 2) (N := some 11) (v := ?_) (a' := ?_) #[true, true, true, false, false, false, false, false, false, false, false] rfl rfl (any_of HT_.out (by kernel_rfl)) (fun _ _ _ h => h) (Or.inl ⟨by rfl, ?_⟩) ?_ ?_
 rotate_left
 ·
  intro w'
  go_simp
  (with_reducible rfl)
 rotate_left
 ·
  simp only [Act.put, pq]
  rfl
 refine pure_ (i := 3) (N := some 12) (v := ?_) (a' := ?_) #[true, true, true, true, false, false, false, false, false, false, false] rfl rfl (any_of HT_.out (by kernel_rfl)) (fun _ _ _ h => h) (Or.inl ⟨by rfl, ?_⟩) ?_ ?_
 rotate_left
 ·
  intro w'
  go_simp
  (with_reducible rfl)
 rotate_left
 ·
  simp only [Act.put, pq]
  rfl
 refine pure_ (i := 4) (N := some 13) (v := ?_) (a' := ?_) #[true, true, true, true, true, false, false, false, false, false, false] rfl rfl (any_of HT_.out (by kernel_rfl)) (fun _ _ _ h => h) (Or.inl ⟨by rfl, ?_⟩) ?_ ?_
 rotate_left
 ·
  intro w'
  go_simp
  (with_reducible rfl)
 rotate_left
 ·
  simp only [Act.put, pq]
  rfl
 refine pure_ (i := 5) (N := some 14) (v := ?_) (a' := ?_) #[true, true, true, true, true, true, false, false, false, false, false] rfl rfl (any_of HT_.out (by kernel_rfl)) (fun _ _ _ h => h) (Or.inl ⟨by rfl, ?_⟩) ?_ ?_
 rotate_left
 ·
  intro w'
  go_simp
  (with_reducible rfl)
 rotate_left
 ·
  simp only [Act.put, pq]
  rfl
 refine pure_ (i := 6) (N := some 15) (v := ?_) (a' := ?_) #[true, true, true, true, true, true, true, false, false, false, false] rfl rfl (any_of HT_.out (by kernel_rfl)) (fun _ _ _ h => h) (Or.inl ⟨by rfl, ?_⟩) ?_ ?_
 rotate_left
 ·
  intro w'
  go_simp
  (with_reducible rfl)
 rotate_left
 ·
  simp only [Act.put, pq]
  rfl
 refine pure_ (i := 7) (N := some 16) (v := ?_) (a' := ?_) #[true, true, true, true, true, true, true, true, false, false, false] rfl rfl (any_of HT_.out (by kernel_rfl)) (fun _ _ _ h => h) (Or.inl ⟨by rfl, ?_⟩) ?_ ?_
 rotate_left
 ·
  intro w'
  go_simp
  (with_reducible rfl)
 rotate_left
 ·
  simp only [Act.put, pq]
  rfl
 refine one_ (i := 8) (N := some 17) #[true, true, true, true, true, true, true, true, true, false, false] rfl rfl (one_of HT_.out (by kernel_rfl)) (by decide) (fun K hK => ?_)
 refine Kd.R_lit_step (Kd.int .u8) (w0 := w) w.heap.size 5 ?hg (N := 17) ?hd (xs := ([Go.bits .xor .u8 (bt a1 0) 2, bt a1 1, bt a1 2, 255, 254] : List Int)) (inner := encs (Value.int .u8) [Go.bits .xor .u8 (bt a1 0) 2, bt a1 1, bt a1 2, 255, 254]) (ok := fun _ => True) (okp := fun _ => True) ?hr ?hp (fun _ hk => hk) trivial HB.out HB.out.size (by simp) ?_; (case hd => rfl); (case hg => rfl); (case hr => (go_simp; rfl)); (case hp => exact Kd.reps_scalar _)
 intro y1 z1 hy1 hb1 hg1_ hn1_
 have hbz : Below w2.heap.size w2 z1 := ⟨hg1_.os, hg1_.tape, hg1_.output, hg1_.size, fun k hk => hg1_.block k hk (by simp)⟩
 have n0_ := Aside0.mk (MRow.step HO.out hbz)
 obtain ⟨Y1, k1, rfl⟩ := Kd.R_slice hy1
 have HY := Aside0.mk hy1
 have HB1 := Aside0.mk hb1
 clear HO hbz hy1 hb1 hg1_ hn1_ HB
 have HO := n0_; have HB := HB1
 clear n0_ HB1
 refine hK.out _ _ trivial (fun hHeld => ?_)
 clear hK K
 refine norm_ (a' := ?_) ?_ ?_
 rotate_left
 ·
  show Act.put _ (some 17) _ = _
  simp only [Act.put, pq]
  rfl
 refine one_ (i := 9) (N := some 18) #[true, true, true, true, true, true, true, true, true, true, false] rfl rfl (one_of HT_.out (by kernel_rfl)) (by decide) (fun K hK => ?_)
 refine MRow.app_step (w0 := w) (by rfl) (.tmp 9) (.tmp 17) 22 rfl Try.underlying22 info5 _ (bytesOf p1) [Go.bits .xor .u8 (bt a1 0) 2, bt a1 1, bt a1 2, 255, 254] Y1 5 k1 rfl rfl HO.out (Kd.R_reads' HY.out).2.2 (by decide) HB.out HB.out.size (by rw [bytesOf_length, HS.out.1]; decide) ?_
 intro v2 w3 ho hb
 refine hK.out _ _ trivial (fun hHeld => ?_)
 clear hK K
 obtain ⟨v3, rfl⟩ : ∃ v3, v2 = v3 := ⟨_, rfl⟩
 obtain ⟨M, hM⟩ : ∃ M, M = bytesOf p1 ++ [Go.bits .xor .u8 (bt a1 0) 2, bt a1 1, bt a1 2, 255, 254] := ⟨_, rfl⟩
 rw [← hM] at ho
 have hR := HR.out
 rw [← hM] at hR
 have hML : M.length = 13 := by rw [hM, List.length_append, bytesOf_length, HS.out.1]; rfl
 have HL2 := Aside0.mk hML
 have HR2 := Aside0.mk hR
 obtain ⟨g2, cap2, ev, -⟩ := id ho
 subst ev
 have HO2 := Aside0.mk ho; have HB2 := Aside0.mk hb
 clear hM hML hR HR HO HY HB ho hb
 refine norm_ (a' := ?_) ?_ ?_
 rotate_left
 ·
  show Act.put _ (some 18) _ = _
  simp only [Act.put, pq]
  rfl
 refine pure_ (i := 10) (N := some 5) (v := ?_) (a' := ?_) #[true, true, true, true, true, true, true, true, true, true, true] rfl rfl (any_of HT_.out (by kernel_rfl)) (fun _ _ _ h => h) (Or.inl ⟨by rfl, ?_⟩) ?_ ?_
 rotate_left
 ·
  intro w'
  go_simp
  with_reducible rfl
 rotate_left
 ·
  simp only [Act.put, pq]
  rfl
 refine done_ (done_of HT_.out (by kernel_rfl)) ?_
 clear HT_ HW_ hHeld
 go_wp2_with ((with_reducible refine gate_dst (N := 22) rfl ?_); refine MRow.str (w0 := w) rfl (.tmp 19) (.tmp 21) 22 9 rfl Try.underlying22 Try.underlying9 info5 _ M p2 rfl (by rw [HP2.out]; rfl) HO2.out HB2.out HB2.out.size (by rw [HL2.out, HS.out.2.1]; have := HS.out.2.2.2.2; omega) ?_; intro v1 w1 ho hb; have HO3 := Aside0.mk (MRow.rd ho (by rw [List.length_append, bytesOf_length, HL2.out, HS.out.2.1]; have := HS.out.2.2.2.2; omega)); have HB3 := Aside0.mk hb; obtain ⟨A3, c3_, e1⟩ := HO3.out.slice; subst e1; clear ho hb HO2 HB2)
 have hs := Kd.C_string (P := Try.prog) (src := 22) (dst := 9) (c := c3_) Try.underlying22 Try.underlying5 Try.underlying9 (RdRow.reads' HO3.out).2.2
 rw [List.length_append] at hs
 rw [hs]
 clear hs
 go_wp2
 go_ret
 exact ⟨congrArg (fun s => Ending.returned (.string s)) HR2.out, HB3.out⟩
section
variable {P : Program} {ops : Array Oper} {rest : List Oper} {o : Oper} {a : Act} {Q : Exit → Act → World → Prop}
/-- A row made with a room and no elements. -/
theorem R_made {w0 W : World} (base : Nat) (hgd : o.guard = none) (t : TypeId) (l c : Operand) (ho : o.op = .makeSlice t l c) (ht : P.underlying t = some (.slice 5)) (hinfo : (P.info? 5).map (fun i => (i.zero, i.size, i.bytes)) = some (some (.int .u8 0), 1, 1))
  (n : Nat) (hl : a.eval l = .int .i64 0) (hc : a.eval c = .int .i64 (n : Int)) (hn : n ≤ 140737488355328) (HB : Below base w0 W) (hbase : base ≤ W.heap.size)
  (h : ∀ v1 w1, Kd.R (Kd.int .u8) 5 w1 base (fun _ => True) v1 [] → Below base w0 w1 → W.grownBy w1 none → (∃ b, v1.ownBlock = some b ∧ W.heap.size ≤ b) → wpList P ops Q rest (a.put o.dst v1) w1) : wpList P ops Q (o :: rest) a W := by
 obtain ⟨i0, hi, hzz⟩ := Option.map_eq_some_iff.1 hinfo
 simp only [Prod.mk.injEq] at hzz
 obtain ⟨hz0, hz1, hz2⟩ := hzz
 have hrun := run_make (P := P) W t 5 i0 (.int .u8 0) ht hi hz0 .i64 .i64 0 (n : Int) (Int.le_refl _) (by omega) (by rw [hz2]; omega) (by omega)
 simp only [Int.toNat_zero, Int.toNat_natCast] at hrun
 have hown := World.ownsRow_made (base := base) (e := 5) (size := i0.size) W (madeCells (Value.int .u8 0).cells (n * i0.size)) n hbase (by unfold maxLen; omega) (size_madeCells _ _)
 refine Kd.event_run hgd (v := .slice (some ⟨W.heap.size, 0, none⟩) 0 n) (w1 := W.alloc (.cells (madeCells (Value.int .u8 0).cells (n * i0.size)) 5)) (by simp [execOp, ho, hl, hc, hrun, Result.andThen]) (h _ _ ⟨fun _ _ => trivial, [], ?_, Reps.none _ _⟩ (HB.alloc hbase _) (World.grownBy_alloc W _ none) ⟨W.heap.size, by simp [Value.ownBlock], Nat.le_refl _⟩)
 rw [hz1] at hown ⊢
 exact hown
end
end Go.Proofs.Ytnpbnmhbajiefaa.PFnSources
