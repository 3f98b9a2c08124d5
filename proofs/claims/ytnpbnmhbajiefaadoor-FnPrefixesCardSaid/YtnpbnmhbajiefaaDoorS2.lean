/- strconv.FormatInt at base 16, of the numbers below 65536: the library's own text is walked. -/
import Derived.Test.YtnpbnmhbajiefaaDoorS1
import Derived.WalkKit
import Derived.Deep.LoopGhost
import Derived.KernelRfl
import Derived.Laws.Bits64b
namespace Go.Proofs.YtnpbnmhbajiefaaDoor.PFnPrefixes
open Go.RowKit Go.Proofs.YtnpbnmhbajiefaaDoorW.PrintWords Go.Proofs.YtnpbnmhbajiefaaDoorW.PrintLast Go.Proofs.YtnpbnmhbajiefaaDoorW.PrintMore
set_option linter.unusedVariables false
set_option linter.unusedSimpArgs false
theorem tz64 (w : World) (hG : Glob w) : Calls Tryd.prog 91 #[.int .u64 16] w fun e w' => e = .returned (.int .i64 4) ∧ w' = w := by
  have hc := hG.bru
  have key : IntKind.u64.wrap (bits BinOp.and IntKind.u64 (16 : Int) (IntKind.u64.wrap (-(16 : Int))) * 285870213051353865) / 288230376151711744 = ((15 : Nat) : Int) := by decide +kernel
  have e15 : (16 * 285870213051353865 % 18446744073709551616) / 288230376151711744 = 15 := by decide
  rw [e15] at hc
  go_enter Tryd.func91, Tryd.ntmps91
  go_wp2_with (simp only [key])
  go_ret
  exact ⟨rfl, rfl⟩
theorem tz (w : World) (hG : Glob w) : Calls Tryd.prog 86 #[.int .u64 16] w fun e w' => e = .returned (.int .i64 4) ∧ w' = w := by
  go_enter Tryd.func86, Tryd.ntmps86
  go_wp2_with (go_at_call 91; refine (tz64 _ hG).mono ?_; rintro e w' ⟨rfl, rfl⟩)
  go_ret
  exact ⟨rfl, rfl⟩

/-- The digits of a number at base 16. -/
def hexB (d : Nat) : UInt8 := if d < 10 then UInt8.ofNat (48 + d) else UInt8.ofNat (87 + d)
def hexL (n : Nat) : List UInt8 := if h : n < 16 then [hexB n] else hexL (n / 16) ++ [hexB (n % 16)]
termination_by n
decreasing_by omega
theorem hexL_small {n : Nat} (h : n < 16) : hexL n = [hexB n] := by rw [hexL, dif_pos h]
theorem hexL_step {n : Nat} (h : ¬ n < 16) : hexL n = hexL (n / 16) ++ [hexB (n % 16)] := by rw [hexL, dif_neg h]
abbrev digs : ByteArray := ⟨#[48, 49, 50, 51, 52, 53, 54, 55, 56, 57, 97, 98, 99, 100, 101, 102, 103, 104, 105, 106, 107, 108, 109, 110, 111, 112, 113, 114, 115, 116, 117, 118, 119, 120, 121, 122]⟩
theorem digs_at (u : Nat) (hu : u < 16) (p : u < digs.size) : digs[u]'p = hexB u := by
  have h : ∀ i : Fin 16, digs.data[i.val]? = some (hexB i.val) := by decide
  have h1 := h ⟨u, hu⟩
  have p' : u < digs.data.size := p
  rw [Array.getElem?_eq_getElem p'] at h1
  exact Option.some.inj h1
/-- What the digits' cells are behind one more. -/
theorem cells_step {cs : Array Value} {k : Nat} {done : List UInt8} (hk : 1 ≤ k) (hs : k ≤ cs.size) (b : UInt8) (h : ∀ j c, done[j]? = some c → cs[k + j]? = some (.int .u8 (c.toNat : Int))) :
    ∀ j c, (b :: done)[j]? = some c → (cs.setIfInBounds (k - 1) (.int .u8 (b.toNat : Int)))[k - 1 + j]? = some (.int .u8 (c.toNat : Int)) := by
  intro j c hj
  cases j with
  | zero =>
    simp only [List.getElem?_cons_zero, Option.some.injEq] at hj
    subst hj
    rw [Nat.add_zero, Array.getElem?_setIfInBounds, if_pos rfl, if_pos (by omega)]
  | succ j =>
    rw [List.getElem?_cons_succ] at hj
    rw [Array.getElem?_setIfInBounds, if_neg (by omega), show k - 1 + (j + 1) = k + j by omega]
    exact h j c hj
set_option maxHeartbeats 1000000 in
set_option maxRecDepth 100000 in
theorem fmt16 (n : Nat) (hn : n < 65536) (w : World) (hG : Glob w) :
    Calls Tryd.prog 74 #[.slice none 0 0, .int .u64 n, .int .i64 16, .bool false, .bool false] w fun e w' => e = .returned (.tuple #[.slice none 0 0, .string ⟨(hexL n).toArray⟩]) ∧ Below w.heap.size w w' := by
  have HG := Aside0.mk hG
  clear hG
  go_enter Tryd.func74, Tryd.ntmps74
  go_wp2_with (first | (go_at_call 86; refine (tz _ (HG.out.below (by first | exact Below.refl _ _ | exact (Below.refl _ w).alloc (Nat.le_refl _) _))).mono ?_; rintro e w' ⟨rfl, rfl⟩) | go_in)
  go_loopg [1, 13] 3 (fun g v1 v13 wr => ∃ (u k : Nat) (done : List UInt8) (cs : Array Value), v1 = .int .u64 u ∧ v13 = .int .i64 k ∧ Aside0 (k + done.length = 65) ∧ Aside0 (g + done.length = 3) ∧ Aside0 (u < 16 ^ (g + 1)) ∧ Aside0 (hexL n = hexL u ++ done) ∧ Aside0 (cs.size = 65) ∧ Aside0 (∀ j b, done[j]? = some b → cs[k + j]? = some (.int .u8 (b.toNat : Int))) ∧ wr = w.alloc (.cells cs 95))
  case atStart =>
    refine ⟨n, 65, [], Array.replicate 65 (.int .u8 0), rfl, rfl, ⟨rfl⟩, ⟨rfl⟩, ⟨hn⟩, ⟨by simp⟩, ⟨by simp⟩, ⟨fun j b h => by simp at h⟩, rfl⟩
  case round =>
    obtain ⟨u, k, done, cs, rfl, rfl, h1, h2, h3, h4, h5, h6, rfl⟩ := hrel
    have hk : 61 ≤ k ∧ k ≤ 65 := by have := h1.out; have := h2.out; omega
    have hu : u < 65536 := by
      have := h3.out
      have e : gk ≤ 3 := by have := h2.out; omega
      have : (16:Nat) ^ (gk + 1) ≤ 16 ^ 4 := Nat.pow_le_pow_right (by decide) (by omega)
      omega
    obtain ⟨x, hx⟩ : ∃ x, cs[k - 1]? = some x := ⟨cs[k-1]'(by have := h5.out; omega), Array.getElem?_eq_getElem _⟩
    by_cases hlt : u < 16
    · have c1 : ¬ ((u : Int) ≥ 16) := by omega
      have c2 : (0 : Int) ≤ (u : Int) := by omega
      have c3 : (u : Int) < 36 := by omega
      have c4 : (0 : Int) ≤ (k : Int) - 1 := by omega
      have c5 : (k : Int) - 1 < 65 := by omega
      have hal : Tryd.prog.arrayLen 95 = 65 := by simp [Program.arrayLen, Tryd.underlying95]
      have hsl : ∀ W, (Instr.sliceAt 95 (.pointer (some ⟨w.heap.size, 0, none⟩)) (some (.int .i64 ((k : Int) - 1))) none none).run Tryd.prog W = .ok (.slice (some ⟨w.heap.size, k - 1, none⟩) (66 - k) (66 - k)) W := fun W => by
        rw [run_sliceAt_array_l W 95 ⟨w.heap.size, 0, none⟩ (by simp [Program.arrayLen, Program.elem, Tryd.underlying95]) .i64 ((k : Int) - 1) (by omega) (by rw [hal]; omega), hal]
        go_simp
        refine ⟨?_, ?_⟩ <;> omega
      clear hal
      have hcs := cells_step (by omega) (by have := h5.out; omega) (hexB u) h6.out
      have hcv : (convert 22 9 (.slice (some ⟨w.heap.size, k - 1, none⟩) (66 - k) (66 - k))).run Tryd.prog (w.alloc (.cells (cs.setIfInBounds (k - 1) (.int .u8 ((hexB u).toNat : Int))) 95)) = .ok (.string ⟨(hexB u :: done).toArray⟩) (w.alloc (.cells (cs.setIfInBounds (k - 1) (.int .u8 ((hexB u).toNat : Int))) 95)) := by
        have h := run_convert_bytes_back (P := Tryd.prog) (w.alloc (.cells (cs.setIfInBounds (k - 1) (.int .u8 ((hexB u).toNat : Int))) 95)) 22 9 5 ⟨w.heap.size, k - 1, none⟩ (66 - k) (hexB u :: done) Tryd.underlying22 Tryd.underlying5 Tryd.underlying9 (fun j hj => by
          rw [Lib.add_plain, World.cell?_alloc_new]
          exact hcs j _ (List.getElem?_eq_getElem hj))
        rw [show (hexB u :: done).length = 66 - k by have := h1.out; simp only [List.length_cons]; omega] at h
        exact h
      have HCS := Aside0.mk hcs
      clear hcs
      have hdg := digs_at u hlt
      go_wp2_with (simp only [hdg])
      go_ret2
      refine ⟨?_, (Below.refl _ w).alloc (Nat.le_refl _) _⟩
      rw [h4.out, hexL_small hlt]
      rfl
    · have c1 : ((u : Int) ≥ 16) := by omega
      have hand : Go.bits .and .u64 (u : Int) 15 = ((u % 16 : Nat) : Int) := by
        rw [show (15 : Int) = ((15 : Nat) : Int) from rfl, bits_and_u64_nat u 15 (by omega) (by omega), Nat.and_two_pow_sub_one_eq_mod u 4]
      have c2 : (0 : Int) ≤ ((u % 16 : Nat) : Int) := by omega
      have c3 : ((u % 16 : Nat) : Int) < 36 := by omega
      have c4 : (0 : Int) ≤ (k : Int) - 1 := by omega
      have c5 : (k : Int) - 1 < 65 := by omega
      have hdg := digs_at (u % 16) (by omega)
      go_wp2_with (first | simp only [hand] | simp only [hdg])
      go_roundg (gk - 1)
      case measure =>
        have := h3.out
        rcases Nat.eq_zero_or_pos gk with e | e
        · subst e; omega
        · omega
      case rel =>
        have hg : 1 ≤ gk := by
          have := h3.out
          rcases Nat.eq_zero_or_pos gk with e | e
          · subst e; omega
          · exact e
        refine ⟨u / 16, k - 1, hexB (u % 16) :: done, cs.setIfInBounds (k - 1) (.int .u8 ((hexB (u % 16)).toNat : Int)), by first | rfl | (simp; done) | (congr 1; omega), by first | rfl | (congr 1; omega), ⟨?_⟩, ⟨?_⟩, ⟨?_⟩, ⟨?_⟩, ⟨?_⟩, ⟨?_⟩, ?_⟩
        · have := h1.out; simp only [List.length_cons]; omega
        · have := h2.out; simp only [List.length_cons]; omega
        · have := h3.out
          rw [show gk - 1 + 1 = gk by omega]
          rw [Nat.pow_succ] at this
          omega
        · rw [h4.out, hexL_step hlt]; simp
        · rw [Array.size_setIfInBounds]; exact h5.out
        · exact cells_step (by omega) (by have := h5.out; omega) _ h6.out
        · rfl
set_option maxHeartbeats 1000000 in
set_option maxRecDepth 100000 in
theorem fmtInt16 (n : Nat) (hn : n < 65536) (w : World) (hG : Glob w) :
    Calls Tryd.prog 58 #[.int .i64 n, .int .i64 16] w fun e w' => e = .returned (.string ⟨(hexL n).toArray⟩) ∧ Below w.heap.size w w' := by
  have c1 : ¬ ((n : Int) < 0) := by omega
  have c2 : IntKind.u64.wrap (n : Int) = n := by rw [IntKind.wrap_u64]; omega
  go_enter Tryd.func58, Tryd.ntmps58
  go_wp2_with (go_at_call 74; refine (fmt16 n hn _ hG).mono ?_; rintro e w' ⟨rfl, hb⟩)
  go_ret
  exact ⟨rfl, hb⟩
def strconv_FormatInt_70.f (a0 a1 : Int) : Option ByteArray := if a1 = 16 ∧ 0 ≤ a0 ∧ a0 < 65536 then some ⟨(hexL a0.toNat).toArray⟩ else none
theorem strconv_FormatInt_70.calls (a0 a1 : Int) (r : ByteArray) (w : World) (h : strconv_FormatInt_70.f a0 a1 = some r) (hG : Glob w) :
    Calls Tryd.prog 70 #[.int .i64 a0, .int .i64 a1] w fun e w' => e = .returned (.string r) ∧ Below w.heap.size w w' := by
  unfold strconv_FormatInt_70.f at h
  split at h
  · rename_i hs
    obtain ⟨rfl, h0, h1⟩ := hs
    obtain ⟨n, rfl⟩ : ∃ n : Nat, a0 = n := ⟨a0.toNat, by omega⟩
    obtain rfl := Option.some.inj h
    rw [Int.toNat_natCast]
    go_enter Tryd.func70, Tryd.ntmps70
    go_wp2_with (go_at_call 58; refine (fmtInt16 n (by omega) _ hG).mono ?_; rintro e w' ⟨rfl, hb⟩)
    go_ret
    exact ⟨rfl, hb⟩
  · cases h
end Go.Proofs.YtnpbnmhbajiefaaDoor.PFnPrefixes
