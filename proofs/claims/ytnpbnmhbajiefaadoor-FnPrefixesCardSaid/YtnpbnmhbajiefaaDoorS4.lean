/- Rows of bytes out of a string's conversion, and rows made with a room: of whose block some cells behind their own may be marked. -/
import Derived.Test.YtnpbnmhbajiefaaDoorS3
import Derived.Laws.MakeOwn
import Derived.Laws.OwnMore
import Derived.Deep.OwnRows
import Derived.Lib.ConvBytes
import Derived.Deep.AppendLies
import Derived.Maps.AppendAt
import Derived.OwnWalk
import Derived.ArgAppend
namespace Go.Proofs.YtnpbnmhbajiefaaDoor.PFnPrefixes
open Go.RowKit Go.Proofs.YtnpbnmhbajiefaaDoorW.PrintWords Go.Proofs.YtnpbnmhbajiefaaDoorW.PrintLast Go.Proofs.YtnpbnmhbajiefaaDoorW.PrintMore
set_option linter.unusedVariables false
set_option linter.unusedSimpArgs false
/-- A row of bytes that the call made, of whose block some cells behind its own may be marked; its block is not g. -/
def PRow (W : World) (base g : Nat) (v : Value) (xs : List Int) : Prop :=
  ∃ q cap, v = .slice (some ⟨q, 0, none⟩) xs.length cap ∧ base ≤ q ∧ q < W.heap.size ∧ xs.length ≤ cap ∧ xs.length ≤ 9223372036854775807 ∧ q ≠ g ∧ (∀ j, j < cap → (W.cell? ⟨q, j, none⟩).isSome = true ∧ W.frozen? ⟨q, j, none⟩ = false) ∧ (∀ j, j < xs.length → W.cell? ⟨q, j, none⟩ = some (.int .u8 (xs.getD j 0)))
section
variable {W W1 : World} {base g : Nat} {v : Value} {xs : List Int}
theorem frozen_below {B : Nat} {w w1 : World} (hb : Below B w w1) {p : Addr} (h : p.block < B) : w1.frozen? p = w.frozen? p := by
  unfold World.frozen?
  rw [hb.block p.block h]
theorem PRow.below (h : PRow W base g v xs) (hb : Below W.heap.size W W1) : PRow W1 base g v xs := by
  obtain ⟨q, cap, e, h1, h2, h3, hm, hn, h4, h5⟩ := h
  refine ⟨q, cap, e, h1, Nat.lt_of_lt_of_le h2 hb.size, h3, hm, hn, fun j hj => ?_, fun j hj => ?_⟩
  · rw [hb.cell (p := ⟨q, j, none⟩) h2, frozen_below hb (p := ⟨q, j, none⟩) h2]; exact h4 j hj
  · rw [hb.cell (p := ⟨q, j, none⟩) h2]; exact h5 j hj
theorem PRow.lower {base' : Nat} (h : PRow W base g v xs) (hb : base' ≤ base) : PRow W base' g v xs := by
  obtain ⟨q, cap, e, h1, h2⟩ := h
  exact ⟨q, cap, e, Nat.le_trans hb h1, h2⟩
theorem PRow.alloc (h : PRow W base g v xs) (o : Obj) : PRow (W.alloc o) base g v xs := h.below (below_alloc (Below.refl _ _) o)
theorem PRow.drew (h : PRow W base g v xs) : PRow W.drew base g v xs := h.below (below_drew (Below.refl _ _))
theorem PRow.drewN (h : PRow W base g v xs) (m : Nat) : PRow (W.drewN m) base g v xs := h.below (pw_below_drewN (Below.refl _ _) m)
theorem PRow.slice (h : PRow W base g v xs) : ∃ A c, v = .slice A xs.length c := by
  obtain ⟨q, cap, e, _⟩ := h
  exact ⟨_, _, e⟩
theorem PRow.reads' {A : Option Addr} {n c : Nat} (h : PRow W base g (.slice A n c) xs) : n = xs.length ∧ n ≤ c ∧ Kd.C (Kd.int .u8) W A xs.length xs := by
  obtain ⟨q, cap, e, h1, h2, h3, hm, hn, h4, h5⟩ := h
  injection e with e1 e2 e3
  subst e1 e2 e3
  exact ⟨rfl, h3, Kd.C_of_reads (d := 0) ⟨rfl, hm, fun _ => ⟨_, rfl, fun j hj => by rw [add_plain]; exact h5 j hj⟩⟩⟩
theorem PRow.form (h : PRow W base g v xs) (hp : 0 < xs.length) : ∃ q cap, v = .slice (some ⟨q, 0, none⟩) xs.length cap ∧ base ≤ q ∧ q < W.heap.size ∧ ∃ c : Nat, True := by
  obtain ⟨q, cap, e, h1, h2, _⟩ := h
  exact ⟨q, cap, e, h1, h2, 0, trivial⟩
theorem PRow.celln {q n cap : Nat} (h : PRow W base g (.slice (some ⟨q, 0, none⟩) n cap) xs) (i : Int) (h0 : 0 ≤ i) (hi : i < n) : W.cell? ⟨q, i.toNat, none⟩ = some (.int .u8 (rdOf 0 xs i)) ∧ W.frozen? ⟨q, i.toNat, none⟩ = false := by
  obtain ⟨q', cap', e, h1, h2, h3, hm, hn, h4, h5⟩ := h
  injection e with e1 e2 e3
  injection e1 with e1
  injection e1 with e1 _ _
  subst e1 e2 e3
  refine ⟨?_, (h4 _ (by omega)).2⟩
  rw [h5 i.toNat (by omega)]
  simp [rdOf, rd]
theorem PRow.putg {q n cap : Nat} (h : PRow W base g (.slice (some ⟨q, 0, none⟩) n cap) xs) (i : Int) (x : Int) : PRow (W.setCell ⟨q, i.toNat, none⟩ (.int .u8 x)) base g (.slice (some ⟨q, 0, none⟩) n cap) (xs.set i.toNat x) ∧ W.grownBy (W.setCell ⟨q, i.toNat, none⟩ (.int .u8 x)) (some q) := by
  refine ⟨?_, ⟨rfl, rfl, rfl, by simp, fun k _ hne => Below.heap_setCell W ⟨q, i.toNat, none⟩ _ k (fun e => hne (by rw [e]))⟩⟩
  obtain ⟨q', cap', e, h1, h2, h3, hm, hn, h4, h5⟩ := h
  injection e with e1 e2 e3
  injection e1 with e1
  injection e1 with e1 _ _
  subst e1 e2 e3
  have hcell : ∀ j, j < cap → (W.setCell ⟨q, i.toNat, none⟩ (.int .u8 x)).cell? ⟨q, j, none⟩ = if j = i.toNat then some (.int .u8 x) else W.cell? ⟨q, j, none⟩ := fun j hj => by
    by_cases hji : j = i.toNat
    · subst hji
      rw [if_pos rfl]
      obtain ⟨u, hu⟩ := Option.isSome_iff_exists.1 (h4 _ hj).1
      exact World.cell?_setCell_same _ _ _ hu
    · rw [if_neg hji]
      exact World.cell?_setCell_other _ _ _ _ (by simp [hji])
  refine ⟨q, cap, by rw [List.length_set], h1, by simpa using h2, by rw [List.length_set]; exact h3, by rw [List.length_set]; exact hm, hn, fun j hj => ?_, fun j hj => ?_⟩
  · rw [hcell j hj]
    refine ⟨?_, by rw [World.frozen?_setCell]; exact (h4 j hj).2⟩
    split
    · rfl
    · exact (h4 j hj).1
  · rw [List.length_set] at hj
    rw [hcell j (by omega)]
    split
    · rename_i hji
      subst hji
      simp [List.getD_eq_getElem?_getD, hj]
    · rename_i hji
      rw [h5 j hj]
      have : i.toNat ≠ j := fun e => hji e.symm
      simp [List.getD_eq_getElem?_getD, List.getElem?_set_ne this]
theorem PRow.base2 (h : PRow W base g v xs) : v.ownBlock = none ∨ ∃ k, v.ownBlock = some k ∧ base ≤ k := by
  obtain ⟨q, cap, rfl, h1, _⟩ := h
  exact .inr ⟨q, by simp [Value.ownBlock], h1⟩
theorem PRow.ne (h : PRow W base g v xs) : some g ≠ v.ownBlock := by
  obtain ⟨q, cap, rfl, h1, h2, h3, hm, hn, _⟩ := h
  simp only [Value.ownBlock, ne_eq, Option.some.injEq]
  exact fun e => hn e.symm
theorem PRow.string (h : PRow W base g v xs) : (convert 22 9 v).run Tryd.prog W = .ok (.string (strOfNums xs)) W := by
  obtain ⟨q, cap, rfl, h1, h2, h3, hm, hn, h4, h5⟩ := h
  refine run_convert_bytes_arg W 22 5 Tryd.underlying22 Tryd.underlying5 q 0 xs.length cap xs rfl (fun i hi => ?_) 9 Tryd.underlying9
  rw [Nat.zero_add]
  exact h5 i hi
end
section
variable {P : Program} {ops : Array Oper} {rest : List Oper} {o : Oper} {a : Act} {Q : Exit → Act → World → Prop}
theorem PRow.conv {W : World} {g : Nat} (hgd : o.guard = none) (src dst : TypeId) (x : Operand) (ho : o.op = .convert src dst x) (s : ByteArray) (hx : a.eval x = .string s) {u : TypeDesc} (h1 : P.underlying src = some u) (h2 : P.underlying dst = some (.slice 5)) (h3 : P.underlying 5 = some (.int .u8))
    (hg : g < W.heap.size) (hs : s.size ≤ 9223372036854775807)
    (h : ∀ v1 w1, PRow w1 W.heap.size g v1 (bytesOf s) → Below W.heap.size W w1 → wpList P ops Q rest (a.put o.dst v1) w1) : wpList P ops Q (o :: rest) a W := by
  have hsz : (Lib.bytesCells W 5 s).size = grownCap W s.size 0 5 := by
    have := grownCap_ge W s.size 0 5
    simp [Lib.bytesCells]
    have e : s.data.size = s.size := rfl
    omega
  have hat := Lib.bytesWorld_at_new W 5 s
  refine Kd.event_run hgd (v := .slice (some ⟨W.heap.size, 0, none⟩) s.size (grownCap W s.size 0 5)) (w1 := Lib.bytesWorld W 5 s) (by simp [execOp, ho, hx, print_bytes src dst 5 h1 h2 h3 s W]) (h _ _ ⟨W.heap.size, grownCap W s.size 0 5, by rw [bytesOf_length], Nat.le_refl _, by rw [Lib.bytesWorld_size]; omega, by rw [bytesOf_length]; exact grownCap_ge W s.size 0 5, by rw [bytesOf_length]; exact hs, by omega, fun j hj => ⟨?_, ?_⟩, fun j hj => ?_⟩ (bytes_below (Below.refl _ _) (Nat.le_refl _) 5 s))
  · rw [cell_of_row _ _ _ _ _ _ hat, Array.getElem?_eq_getElem (by omega)]; rfl
  · simp [World.frozen?, hat]; omega
  · rw [bytesOf_length] at hj
    rw [Lib.bytesWorld_cell W 5 s j hj]
    have h' : j < s.data.toList.length := by rw [data_length]; exact hj
    simp [bytesOf, List.getD_eq_getElem?_getD, List.getElem?_eq_getElem h']
theorem R_made {w0 W : World} (base : Nat) (hgd : o.guard = none) (t : TypeId) (l c : Operand) (ho : o.op = .makeSlice t l c) (ht : P.underlying t = some (.slice 5)) (hinfo : (P.info? 5).map (fun i => (i.zero, i.size, i.bytes)) = some (some (.int .u8 0), 1, 1))
   (n : Nat) (hl : a.eval l = .int .i64 0) (hc : a.eval c = .int .i64 (n : Int)) (hn : n ≤ 140737488355328) (HB : Below base w0 W) (hbase : base ≤ W.heap.size)
   (h : ∀ v1 w1, Kd.R (Kd.int .u8) 5 w1 base (fun _ => True) v1 [] → Below base w0 w1 → W.grownBy w1 none → (∃ b, v1.ownBlock = some b ∧ W.heap.size ≤ b) → wpList P ops Q rest (a.put o.dst v1) w1) : wpList P ops Q (o :: rest) a W := by
  obtain ⟨i0, hi, hzz⟩ := Option.map_eq_some_iff.1 hinfo
  simp only [Prod.mk.injEq] at hzz
  obtain ⟨hz0, hz1, hz2⟩ := hzz
  have hrun := run_make (P := P) W t 5 i0 (.int .u8 0) ht hi hz0 .i64 .i64 0 (n : Int) (Int.le_refl _) (by omega) (by rw [hz2]; omega) (by omega)
  simp only [Int.toNat_zero, Int.toNat_natCast] at hrun
  have hown := World.ownsRow_made (base := base) (e := 5) (size := i0.size) W (madeCells (Value.int .u8 0).cells (n * i0.size)) n hbase (by unfold maxLen; omega) (size_madeCells _ _)
  refine Kd.event_run hgd (v := .slice (some ⟨W.heap.size, 0, none⟩) 0 n) (w1 := W.alloc (.cells (madeCells (Value.int .u8 0).cells (n * i0.size)) 5)) (by simp [execOp, ho, hl, hc, hrun, Result.andThen]) (h _ _ ⟨fun _ _ => trivial, [], ?_, Reps.none _ _⟩ (HB.alloc hbase _) (World.grownBy_alloc W _ none) ⟨W.heap.size, by simp [Value.ownBlock], Nat.le_refl _⟩)
  rw [hz1] at hown ⊢
  exact hown
end
end Go.Proofs.YtnpbnmhbajiefaaDoor.PFnPrefixes
