/- Contracts of the library's functions as the walks of this law want them: strings.Cut, Contains, Split, Join, strconv.Itoa, out of the shelf's; 'Glob': what a world holds of the library's variables. -/
import Derived.Test.YtnpbnmhbajiefaaDoorS0
import Derived.Test.YtnpbnmhbajiefaaDoorWWords
import Derived.Test.YtnpbnmhbajiefaaDoorWMore
import Derived.Test.YtnpbnmhbajiefaaDoorWLast
import Derived.Shelf.Strings.Cut
import Derived.Shelf.Strings.Split
import Derived.Shelf.Strings.Search3
import Derived.Shelf.Strconv.Itoa3
import Derived.Room.Shelf.Join48
namespace Go.Proofs.YtnpbnmhbajiefaaDoor.PFnPrefixes
open Go.RowKit Go.Proofs.YtnpbnmhbajiefaaDoorW.PrintWords Go.Proofs.YtnpbnmhbajiefaaDoorW.PrintLast Go.Proofs.YtnpbnmhbajiefaaDoorW.PrintMore
set_option linter.unusedVariables false
set_option linter.unusedSimpArgs false
/-- What a world holds of the library's variables. -/
structure Glob (w : World) : Prop where
  len : ∃ m, w.cell? ⟨0, 0, none⟩ = some (.int .i64 m)
  pow : Lib.TabIs Tryd.prog w "internal/strconv.uint64pow10" .u64 Lib.pow10Tab
  bru : w.cell? ⟨3, (16 * 285870213051353865 % 18446744073709551616) / 288230376151711744, none⟩ = some (.int .u8 4)
theorem Glob.below {w w1 : World} (h : Glob w) (hb : Below w.heap.size w w1) : Glob w1 := by
  obtain ⟨⟨m, h1⟩, h2, h3⟩ := h
  refine ⟨⟨m, (hb.cell (p := ⟨0, 0, none⟩) (World.block_lt_of_cell? w _ h1)).trans h1⟩, ?_, (hb.cell (p := ⟨3, _, none⟩) (World.block_lt_of_cell? w _ h3)).trans h3⟩
  unfold Lib.TabIs World.var? at *
  cases hg : Tryd.prog.globalNamed "internal/strconv.uint64pow10" with
  | none => simp [hg] at h2
  | some g =>
    simp only [hg, Option.bind_some] at h2 ⊢
    have hlt : g < w.heap.size := by
      rcases Nat.lt_or_ge g w.heap.size with h' | h'
      · exact h'
      · rw [Array.getElem?_eq_none h'] at h2; simp at h2
    rw [hb.block g hlt]
    exact h2

def strings_Cut.f (a0 a1 : ByteArray) : Option (ByteArray × ByteArray × Bool) :=
  if a0.size < 4294967281 then some (⟨(Lib.cut a0.data.toList a1.data.toList).1.toArray⟩, ⟨(Lib.cut a0.data.toList a1.data.toList).2.1.toArray⟩, (Lib.cut a0.data.toList a1.data.toList).2.2) else none
theorem strings_Cut.calls (a0 a1 r1 r2 : ByteArray) (r3 : Bool) (w : World) (h : strings_Cut.f a0 a1 = some (r1, r2, r3)) (hG : Glob w) :
    Calls Tryd.prog 14 #[.string a0, .string a1] w fun e w' => e = .returned (.tuple #[.string r1, .string r2, .bool r3]) ∧ Drawn0 w w' := by
  unfold strings_Cut.f at h
  split at h
  · rename_i hs
    obtain ⟨m, hm⟩ := hG.len
    simp only [Option.some.injEq, Prod.mk.injEq] at h
    obtain ⟨rfl, rfl, rfl⟩ := h
    refine (Any.strings_Cut Shelf.cut a0 a1 m w hs hm : Calls Tryd.prog 14 _ _ _).mono ?_
    rintro e w' ⟨rfl, n, rfl⟩
    exact ⟨rfl, n, rfl⟩
  · cases h

def strings_Contains.f (a0 a1 : ByteArray) : Option Bool := if a0.size < 4294967281 then some (Lib.contains a0.data.toList a1.data.toList) else none
theorem strings_Contains.calls (a0 a1 : ByteArray) (r : Bool) (w : World) (h : strings_Contains.f a0 a1 = some r) (hG : Glob w) :
    Calls Tryd.prog 19 #[.string a0, .string a1] w fun e w' => e = .returned (.bool r) ∧ Drawn0 w w' := by
  unfold strings_Contains.f at h
  split at h
  · rename_i hs
    obtain ⟨m, hm⟩ := hG.len
    obtain rfl := Option.some.inj h
    refine (Any.strings_Contains Shelf.contains a0 a1 m w hs hm : Calls Tryd.prog 19 _ _ _).mono ?_
    rintro e w' ⟨rfl, rfl⟩
    exact ⟨rfl, 0, rfl⟩
  · cases h

theorem string_row {w : World} (l : List ByteArray) (hl : l.length ≤ maxLen) : Kd.R Kd.string 9 (w.alloc (.cells (l.map Value.string).toArray 9)) w.heap.size (fun _ => True) (.slice (some ⟨w.heap.size, 0, none⟩) l.length l.length) l := by
  have e1 : Kd.string.sz = 1 := rfl
  have hb : (w.alloc (.cells (l.map Value.string).toArray 9)).heap[w.heap.size]? = some (.cells (l.map Value.string).toArray 9) := heap_alloc_new w _
  refine ⟨fun _ _ => trivial, l.map Value.string, ⟨by rw [e1]; simp, .inr ⟨w.heap.size, l.length, (l.map Value.string).toArray, rfl, Nat.le_refl _, hb, Nat.le_refl _, hl, by rw [e1]; simp, ?_⟩⟩, by rw [e1]; simp, fun j p hj => ?_⟩
  · rw [e1, Nat.mul_one, List.take_of_length_le (by simp)]
  · have hlt : j < l.length := (List.getElem?_eq_some_iff.1 hj).1
    show ((l.map Value.string).drop (j * 1)).take 1 = [Value.string p]
    rw [Nat.mul_one, List.drop_eq_getElem_cons (by simpa using hlt)]
    have := (List.getElem?_eq_some_iff.1 hj).2
    simp [this]

def strings_Split.f (a0 a1 : ByteArray) : Option (List ByteArray) := if a0.size < 4294967281 ∧ 1 ≤ a1.size then some (Lib.splitB a1 0 (Lib.countB a0 a1) a0) else none
theorem strings_Split.calls (a0 a1 : ByteArray) (r : List ByteArray) (w : World) (h : strings_Split.f a0 a1 = some r) (hG : Glob w) :
    Calls Tryd.prog 50 #[.string a0, .string a1] w fun e w' => ∃ v0_ : Value, e = .returned (v0_) ∧ Kd.R Kd.string 9 w' w.heap.size (fun _ => True) v0_ r ∧ Below w.heap.size w w' := by
  unfold strings_Split.f at h
  split at h
  · rename_i hs
    obtain ⟨m, hm⟩ := hG.len
    obtain rfl := Option.some.inj h
    have hlen := Lib.splitB_all a1 hs.2 0 _ a0 rfl
    have hle := Lib.countB_le a1 hs.2 a0.size a0 (Nat.le_refl _)
    refine (Any.strings_Split { Shelf.split with } Shelf.split.i9 a0 a1 m w hs.1 hm hs.2 : Calls Tryd.prog 50 _ _ _).mono ?_
    rintro e w' ⟨rfl, rfl⟩
    refine ⟨_, rfl, ?_, (Below.refl _ w).alloc (Nat.le_refl _) _⟩
    rw [← hlen]
    exact string_row _ (by rw [hlen]; unfold maxLen; omega)
  · cases h

def strings_Join.f (l0 : List ByteArray) (a1 : ByteArray) : Option ByteArray :=
  if l0.length ≤ 140737488355328 ∧ (Lib.join (l0.map (·.data.toList)) a1.data.toList).length ≤ 140737488355328 then some ⟨(Lib.join (l0.map (·.data.toList)) a1.data.toList).toArray⟩ else none
theorem strings_Join.calls (A0 : Option Addr) (c0 : Nat) (l0 : List ByteArray) (a1 : ByteArray) (r : ByteArray) (w : World) (hr1 : ∃ base ok, Kd.R Kd.string 9 w base ok (.slice A0 l0.length c0) l0) (h : strings_Join.f l0 a1 = some r) :
    Calls Tryd.prog 38 #[.slice A0 l0.length c0, .string a1] w fun e w' => e = .returned (.string r) ∧ Below w.heap.size w w' := by
  obtain ⟨base, ok, hr0⟩ := hr1
  unfold strings_Join.f at h
  split at h
  · rename_i hs
    obtain rfl := Option.some.inj h
    by_cases hl : l0.length = 0
    · have hn := List.length_eq_zero_iff.1 hl
      subst hn
      refine (Any.strings_Join_none Shelf.join Shelf.extra A0 c0 a1 w : Calls Tryd.prog 38 _ _ _).mono ?_
      rintro e w' ⟨rfl, rfl⟩
      exact ⟨rfl, Below.refl _ _⟩
    · obtain ⟨h1, h2, h3⟩ := Kd.R_reads' hr0
      have ho := Kd.own_of_R hr0
      have hC := h3
      obtain ⟨_, inner, ho, _⟩ := hr0
      rcases ho.2 with ⟨e, h0⟩ | ⟨g, cap, cur, e, hg, hh, hcap, _⟩
      · exact absurd h0 hl
      · injection e with e1 e2 e3
        subst e1 e3
        refine (Any.strings_Join Shelf.join Shelf.extra g 0 c0 l0 a1 w (fun j x hx => ?_) ?_ hs.1 hcap hs.2 : Calls Tryd.prog 38 _ _ _)
        · have hj : j < l0.length := (List.getElem?_eq_some_iff.1 hx).1
          obtain ⟨ad, e, hc⟩ := Kd.at_string hC (j : Int) (by omega) (by omega)
          obtain rfl := Option.some.inj e
          rw [Int.toNat_natCast] at hc
          have : rdOf ByteArray.empty l0 (j : Int) = x := by simp [rdOf, hx]
          rw [this] at hc
          rw [Nat.zero_add]
          have e : (⟨g, 0, none⟩ : Addr).add j = ⟨g, j, none⟩ := by first | rfl | (rw [add_plain]) | (simp [Addr.add]; omega)
          rwa [e] at hc
        · rcases Nat.lt_or_ge g w.heap.size with q | q
          · exact q
          · rw [Array.getElem?_eq_none q] at hh; cases hh
  · cases h

def strconv_Itoa_24.f (a0 : Int) : Option ByteArray := if -9223372036854775808 ≤ a0 ∧ a0 ≤ 9223372036854775807 then some ⟨(Lib.itoa a0).toArray⟩ else none
theorem below_of_grow (w : World) (k : Nat) (os : Array Obj) : Below w.heap.size w (Sort.grow (w.drewN k) os) :=
  ⟨rfl, rfl, rfl, by simp [Sort.grow, Array.size_append], fun j hj => by show (w.heap ++ os)[j]? = _; rw [Array.getElem?_append_left hj]⟩
theorem strconv_Itoa_24.calls (a0 : Int) (r : ByteArray) (w : World) (h : strconv_Itoa_24.f a0 = some r) (hG : Glob w) :
    Calls Tryd.prog 24 #[.int .i64 a0] w fun e w' => e = .returned (.string r) ∧ Below w.heap.size w w' := by
  unfold strconv_Itoa_24.f at h
  split at h
  · rename_i hs
    obtain rfl := Option.some.inj h
    refine (Any.strconv_Itoa Shelf.itoa a0 hs.1 hs.2 w hG.pow : Calls Tryd.prog 24 _ _ _).mono ?_
    rintro e w' ⟨rfl, k, os, rfl⟩
    exact ⟨rfl, below_of_grow w k os⟩
  · cases h
end Go.Proofs.YtnpbnmhbajiefaaDoor.PFnPrefixes
