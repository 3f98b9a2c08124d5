/- What impl.readSix does with its sixteen bytes: make, two copies, the text. -/
import Derived.Test.YtnpbnmhbajiefaaDoorS4
import Derived.Laws.CopyRow
namespace Go.Proofs.YtnpbnmhbajiefaaDoor.PFnPrefixes
open Go.RowKit Go.Proofs.YtnpbnmhbajiefaaDoorW.PrintWords Go.Proofs.YtnpbnmhbajiefaaDoorW.PrintLast Go.Proofs.YtnpbnmhbajiefaaDoorW.PrintMore
set_option linter.unusedVariables false
set_option linter.unusedSimpArgs false
/-- The sixteen bytes that two ends and noughts between make. -/
def sixRow (h t : List Int) : List Int := h ++ List.replicate (16 - h.length - t.length) 0 ++ t
def Buf (W : World) (q : Nat) (l : List Int) : Prop := W.heap[q]? = some (.cells (nums .u8 l).toArray 5 (0, 0))
theorem buf_cell {W : World} {q : Nat} {l : List Int} (h : Buf W q l) (j : Nat) (hj : j < l.length) : W.cell? ⟨q, j, none⟩ = some (.int .u8 (l.getD j 0)) := by
  unfold Buf at h
  simp [World.cell?, h, nums, List.getElem?_eq_getElem hj, List.getD_eq_getElem?_getD]
theorem buf_string {W : World} {q : Nat} {l : List Int} (h : Buf W q l) (n c : Nat) (hn : n = l.length) : (convert 22 9 (.slice (some ⟨q, 0, none⟩) n c)).run Tryd.prog W = .ok (.string (strOfNums l)) W := by
  refine run_convert_bytes_arg W 22 5 Tryd.underlying22 Tryd.underlying5 q 0 n c l hn.symm (fun i hi => ?_) 9 Tryd.underlying9
  rw [Nat.zero_add]
  exact buf_cell h i (by omega)
theorem six_end (h t : List Int) (hl : h.length + t.length ≤ 14) (d : Nat) (hd : t = [] ∨ d = 16 - t.length) :
    ((h ++ (List.replicate 16 (0 : Int)).drop h.length).take d) ++ t ++ ((h ++ (List.replicate 16 (0 : Int)).drop h.length).drop (d + t.length)) = sixRow h t := by
  have e1 : (List.replicate 16 (0 : Int)).drop h.length = List.replicate (16 - h.length) 0 := by rw [List.drop_replicate]
  rw [e1]
  unfold sixRow
  rcases hd with rfl | rfl
  · simp
  · rw [List.take_append, List.drop_of_length_le (by simp; omega), List.take_of_length_le (by omega), List.take_replicate, List.append_nil]
    congr 3
    omega
section
variable {P : Program} {ops : Array Oper} {rest : List Oper} {o : Oper} {a : Act} {Q : Exit → Act → World → Prop}
theorem make16 {W : World} (hgd : o.guard = none) (l c : Operand) (ho : o.op = .makeSlice 22 l c) (hl : a.eval l = .int .i64 16) (hc : a.eval c = .int .i64 16)
    (ht : P.underlying 22 = some (.slice 5)) (hinfo : (P.info? 5).map (fun i => (i.zero, i.size, i.bytes)) = some (some (.int .u8 0), 1, 1))
    (h : ∀ q W1, q = W.heap.size → Buf W1 q (List.replicate 16 0) → Below W.heap.size W W1 → wpList P ops Q rest (a.put o.dst (.slice (some ⟨q, 0, none⟩) 16 16)) W1) : wpList P ops Q (o :: rest) a W := by
  obtain ⟨i0, hi, hzz⟩ := Option.map_eq_some_iff.1 hinfo
  simp only [Prod.mk.injEq] at hzz
  obtain ⟨hz0, hz1, hz2⟩ := hzz
  have hrun := run_make (P := P) W 22 5 i0 (.int .u8 0) ht hi hz0 .i64 .i64 16 16 (by decide) (by decide) (by rw [hz2]; decide) (by decide)
  refine Kd.event_run hgd (v := .slice (some ⟨W.heap.size, 0, none⟩) 16 16) (w1 := W.alloc (.cells (madeCells (Value.int .u8 0).cells (16 * i0.size)) 5)) (by simp [execOp, ho, hl, hc, hrun, Result.andThen]) (h _ _ rfl ?_ ((Below.refl _ _).alloc (Nat.le_refl _) _))
  unfold Buf
  rw [heap_alloc_new, hz1]
  exact congrArg (fun x => some (Obj.cells x 5 (0, 0))) (by first | rfl | kernel_rfl | (simp [madeCells, nums, Value.cells]; done))
theorem copy16 {W0 W : World} (hgd : o.guard = none) (d s : Operand) (ho : o.op = .call { callee := .builtin .copy, args := #[d, s], argTypes := #[22, 22] }) (ht : P.underlying 22 = some (.slice 5)) (hinfo : (P.info? 5).map (fun i => (i.zero, i.size, i.bytes)) = some (some (.int .u8 0), 1, 1))
    {q dO dLen dCap n sCap : Nat} {A : Option Addr} {l xs : List Int} (hd : a.eval d = .slice (some ⟨q, dO, none⟩) dLen dCap) (hs : a.eval s = .slice A n sCap) (hC : Kd.C (Kd.int .u8) W0 A n xs) (hA : A = none → n = 0 ∧ sCap = 0)
    (hB : Below W0.heap.size W0 W) (hq : W0.heap.size ≤ q) (hbuf : Buf W q l) (hle : n ≤ dLen) (hfit : dO + n ≤ l.length)
    (h : ∀ W1, Buf W1 q (l.take dO ++ xs ++ l.drop (dO + n)) → Below W0.heap.size W0 W1 → wpList P ops Q rest (a.put o.dst (.int .i64 n)) W1) : wpList P ops Q (o :: rest) a W := by
  obtain ⟨i0, hi, hzz⟩ := Option.map_eq_some_iff.1 hinfo
  simp only [Prod.mk.injEq] at hzz
  obtain ⟨hz0, hz1, hz2⟩ := hzz
  obtain ⟨hx1, hx2, hx3⟩ := Kd.reads_of_C (d := 0) (Kd.C_below hC hB)
  cases A with
  | none =>
    obtain ⟨rfl, rfl⟩ := hA rfl
    obtain rfl : xs = [] := List.eq_nil_of_length_eq_zero hx1
    have hrun := run_copy_nil (P := P) W 22 22 o.type 5 ⟨q, dO, none⟩ dLen dCap ht (by rw [hi]; rfl)
    refine Kd.event_run hgd (v := .int .i64 0) (w1 := W) (by simp [execOp, ho, resolve, invoke, builtin, hd, hs, hrun, Result.andThen, goInt]) (h W ?_ hB)
    simpa using hbuf
  | some ad =>
    have hrun := run_copy_row (P := P) W 22 22 o.type 5 q dO dLen dCap ad n sCap (nums .u8 l).toArray 5 (nums .u8 xs) ht (by rw [hi]; simp [hz1]) hbuf (by rw [nums_length, hx1]; exact (Nat.min_eq_left hle).symm) (fun j v hj => by
      have hjl : j < xs.length := by have := (List.getElem?_eq_some_iff.1 hj).1; simpa [nums] using this
      obtain ⟨ad', e, hc⟩ := hx3 (by omega)
      obtain rfl := Option.some.inj e
      rw [hc j (by omega)]
      simp only [nums, List.getElem?_map, List.getElem?_eq_getElem hjl, Option.map_some, Option.some.injEq] at hj
      subst hj
      simp [List.getD_eq_getElem?_getD, List.getElem?_eq_getElem hjl]) (by simp [nums]; omega) (fun u hu => by
      simp only [nums, List.mem_map] at hu
      obtain ⟨b, _, rfl⟩ := hu
      rfl)
    have hW : Buf (W.setRow q ((nums .u8 l).toArray.toList.take dO ++ nums .u8 xs ++ (nums .u8 l).toArray.toList.drop (dO + (nums .u8 xs).length)).toArray) q (l.take dO ++ xs ++ l.drop (dO + n)) := by
      unfold Buf at hbuf ⊢
      have hlt : q < W.heap.size := (Array.getElem?_eq_some_iff.1 hbuf).1
      have hv := (Array.getElem?_eq_some_iff.1 hbuf).2
      simp [World.setRow, nums, hlt, hx1, Array.getElem_modify, hv]
    refine Kd.event_run hgd (v := .int .i64 n) (w1 := _) (by simp [execOp, ho, resolve, invoke, builtin, hd, hs, hrun, Result.andThen, goInt, nums_length, hx1]) (h _ hW ⟨?_, ?_, ?_, ?_, ?_⟩)
    · exact hB.os
    · exact hB.tape
    · exact hB.output
    · have := hB.size; simpa [World.setRow] using this
    · intro k hk
      have hne : q ≠ k := by omega
      rw [← hB.block k hk]
      simp [World.setRow, Array.getElem?_modify, hne]
theorem make16_ {w W : World} {A1 A2 : Option Addr} {n1 n2 : Nat} {x1 x2 : List Int} (hgd : o.guard = none) (l c : Operand) (ho : o.op = .makeSlice 22 l c) (hl : a.eval l = .int .i64 16) (hc : a.eval c = .int .i64 16)
    (ht : P.underlying 22 = some (.slice 5)) (hinfo : (P.info? 5).map (fun i => (i.zero, i.size, i.bytes)) = some (some (.int .u8 0), 1, 1))
    (hC1 : Kd.C (Kd.int .u8) W A1 n1 x1) (hC2 : Kd.C (Kd.int .u8) W A2 n2 x2) (HB : Below w.heap.size w W)
    (h : ∀ q W1 W0, W0.heap.size ≤ q → Buf W1 q (List.replicate 16 0) → Below W0.heap.size W0 W1 → Kd.C (Kd.int .u8) W0 A1 n1 x1 → Kd.C (Kd.int .u8) W0 A2 n2 x2 → Below w.heap.size w W0 → wpList P ops Q rest (a.put o.dst (.slice (some ⟨q, 0, none⟩) 16 16)) W1) : wpList P ops Q (o :: rest) a W :=
  make16 hgd l c ho hl hc ht hinfo (fun q W1 hq hb hB => h q W1 W (by omega) hb hB hC1 hC2 HB)
end
theorem six_nil {W : World} {base : Nat} {ok : Nat → Prop} {A : Option Addr} {n c : Nat} {xs : List Int} (h : Kd.R (Kd.int .u8) 5 W base ok (.slice A n c) xs) : A = none → n = 0 ∧ c = 0 := by
  rintro rfl
  obtain ⟨_, inner, ho, _⟩ := h
  rcases ho.2 with ⟨e, h0⟩ | ⟨g, cap, cur, e, _⟩
  · injection e with e1 e2 e3
    exact ⟨e2, e3⟩
  · injection e with e1 e2 e3
    cases e1
theorem cut16 (q n : Nat) (j : Int) (hj : wrap64 (16 - (n : Int)) = j) (hn : n ≤ 14) :
    ∀ W, (Instr.slice 22 (.slice (some ⟨q, 0, none⟩) 16 16) (some (.int .i64 j)) none none).run Tryd.prog W = .ok (.slice (some ⟨q, if n = 0 then 0 else 16 - n, none⟩) n n) W := by
  intro W
  have e : j = ((16 - n : Nat) : Int) := by rw [← hj]; unfold wrap64; omega
  obtain ⟨i0, hi, hzz⟩ := Option.map_eq_some_iff.1 (by kernel_rfl : (Tryd.prog.info? 5).map (fun i => (i.zero, i.size, i.bytes)) = some (some (.int .u8 0), 1, 1))
  simp only [Prod.mk.injEq] at hzz
  have h := cut_from (P := Tryd.prog) 22 5 .i64 Tryd.underlying22 hi 1 hzz.2.1 (some ⟨q, 0, none⟩) 16 16 j (by omega) (by omega) W
  rw [h, e]
  by_cases h0 : n = 0
  · subst h0; rfl
  · rw [if_neg (by rw [Int.toNat_natCast]; omega), if_neg h0, Int.toNat_natCast, show 16 - (16 - n) = n by omega]
    simp only [Option.map_some, add_plain, Nat.zero_add, Nat.mul_one]
theorem cut16' (q n : Nat) (j : Int) (hj : wrap64 (16 - (n : Int)) = j) (hn : n ≤ 14) :
    ∃ d, d = (if n = 0 then 0 else 16 - n) ∧ ∀ W, (Instr.slice 22 (.slice (some ⟨q, 0, none⟩) 16 16) (some (.int .i64 j)) none none).run Tryd.prog W = .ok (.slice (some ⟨q, d, none⟩) n n) W :=
  ⟨_, rfl, cut16 q n j hj hn⟩
theorem six_fit {t1 t2 : List Int} {d : Nat} (hl : t1.length + t2.length ≤ 14) (hd : d = if t2.length = 0 then 0 else 16 - t2.length) : d + t2.length ≤ ((List.replicate 16 (0 : Int)).take 0 ++ t1 ++ (List.replicate 16 (0 : Int)).drop (0 + t1.length)).length := by
  simp only [List.length_append, List.length_take, List.length_drop, List.length_replicate]
  split at hd <;> omega
theorem six_buf {W : World} {q d : Nat} {t1 t2 : List Int} (hl : t1.length + t2.length ≤ 14) (hd : d = if t2.length = 0 then 0 else 16 - t2.length)
    (h : Buf W q (((List.replicate 16 (0 : Int)).take 0 ++ t1 ++ (List.replicate 16 (0 : Int)).drop (0 + t1.length)).take d ++ t2 ++ ((List.replicate 16 (0 : Int)).take 0 ++ t1 ++ (List.replicate 16 (0 : Int)).drop (0 + t1.length)).drop (d + t2.length))) : Buf W q (sixRow t1 t2) := by
  subst hd
  have e := six_end t1 t2 hl (if t2.length = 0 then 0 else 16 - t2.length) (by
    by_cases h0 : t2.length = 0
    · exact .inl (List.eq_nil_of_length_eq_zero h0)
    · exact .inr (if_neg h0))
  rw [Nat.zero_add, List.take_zero, List.nil_append, e] at h
  exact h
theorem six_len {t1 t2 : List Int} (hl : t1.length + t2.length ≤ 14) : 16 = (sixRow t1 t2).length := by
  simp only [sixRow, List.length_append, List.length_replicate]
  omega
end Go.Proofs.YtnpbnmhbajiefaaDoor.PFnPrefixes
