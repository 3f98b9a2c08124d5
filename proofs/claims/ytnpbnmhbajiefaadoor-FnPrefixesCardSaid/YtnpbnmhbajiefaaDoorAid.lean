/- Small lemmas of this seat's plain laws: wraps that do nothing, the words of the print as whole numbers, a choice among bytes. -/
import Derived.OpenShut
import Derived.Test.YtnpbnmhbajiefaaDoorWMore
namespace Go.Proofs.YtnpbnmhbajiefaaDoor.Aid
open Go.RowKit Go.Proofs.YtnpbnmhbajiefaaDoorW.PrintWords Go.Proofs.YtnpbnmhbajiefaaDoorW.PrintLast Go.Proofs.YtnpbnmhbajiefaaDoorW.PrintMore
theorem w64 {x : Int} (h1 : -9223372036854775808 ≤ x) (h2 : x ≤ 9223372036854775807) : wrap64 x = x := by unfold wrap64; omega
theorem mn_eq (a b : Int) : mn a b = min a b := by unfold mn; omega
theorem mx_eq (a b : Int) : mx a b = max a b := by unfold mx; omega
theorem bs {l : List Int} (h : ∀ x ∈ l, (Lit.int .u8 x).wf = true) : ∀ x ∈ l, 0 ≤ x ∧ x ≤ 255 := fun x hx => bounds_u8 (h x hx)
theorem rd_byte {l : List Int} (h : ∀ x ∈ l, 0 ≤ x ∧ x ≤ 255) (i : Int) : 0 ≤ rd l i ∧ rd l i ≤ 255 := by
  unfold rd
  rw [List.getD_eq_getElem?_getD]
  cases e : l[i.toNat]? with
  | none => simp
  | some x => simpa using h x (List.mem_of_getElem? e)
theorem tdiv_nonneg_eq {a b : Int} (ha : 0 ≤ a) : Int.tdiv a b = a / b := Int.tdiv_eq_ediv_of_nonneg ha
theorem tmod_nonneg_eq {a b : Int} (ha : 0 ≤ a) : Int.tmod a b = a % b := Int.tmod_eq_emod_of_nonneg ha
theorem mod_lt_len {i : Int} {n : Nat} (h : (n : Int) ≠ 0) : 0 ≤ i % (n : Int) ∧ i % (n : Int) < n := ⟨Int.emod_nonneg _ h, Int.emod_lt_of_pos _ (by omega)⟩
/-- What the laws' choice among bytes comes to: some number from 0 to n - 1. -/
theorem choice (l : List Int) (hl : ∀ x ∈ l, 0 ≤ x ∧ x ≤ 255) (i n : Int) (hi : 0 ≤ i) (hi2 : i ≤ 100000) (hn : 1 < n) (hn2 : n ≤ 1000000000) : ∃ r,
    (if n ≤ 1 then (some 0) else (if (l.length : Int) = 0 then (if n = 0 then (none) else (some (Int.tmod (wrap64 (i * 7)) n))) else (if 0 ≤ (Int.tmod i (l.length : Int)) then (if (Int.tmod i (l.length : Int)) < (l.length : Int) then (if 0 ≤ (Int.tmod (wrap64 (i + 1)) (l.length : Int)) then (if (Int.tmod (wrap64 (i + 1)) (l.length : Int)) < (l.length : Int) then (if n = 0 then (none) else (some (Int.tmod (wrap64 ((wrap64 ((wrap64 ((wrap64 (rd l (Int.tmod i (l.length : Int)))) * 31)) + (wrap64 (rd l (Int.tmod (wrap64 (i + 1)) (l.length : Int)))))) + (wrap64 (Int.tdiv i (l.length : Int))))) n))) else (none)) else (none)) else (none)) else (none)))) = some r ∧ 0 ≤ r ∧ r < n := by
  rw [if_neg (by omega)]
  have pos : ∀ x : Int, 0 ≤ x → 0 ≤ Int.tmod x n ∧ Int.tmod x n < n := fun x hx => by
    rw [tmod_nonneg_eq hx]; exact ⟨Int.emod_nonneg _ (by omega), Int.emod_lt_of_pos _ (by omega)⟩
  by_cases h0 : (l.length : Int) = 0
  · rw [if_pos h0, if_neg (by omega), w64 (by omega) (by omega)]
    exact ⟨_, rfl, pos _ (by omega)⟩
  · have m1 := mod_lt_len (i := i) h0
    have m2 := mod_lt_len (i := i + 1) h0
    rw [if_neg h0, w64 (x := i + 1) (by omega) (by omega), tmod_nonneg_eq hi, tmod_nonneg_eq (a := i + 1) (by omega), if_pos m1.1, if_pos m1.2, if_pos m2.1, if_pos m2.2, if_neg (by omega)]
    have r1 := rd_byte hl (i % (l.length : Int))
    have r2 := rd_byte hl ((i + 1) % (l.length : Int))
    have q : 0 ≤ Int.tdiv i (l.length : Int) ∧ Int.tdiv i (l.length : Int) ≤ i := by
      rw [tdiv_nonneg_eq hi]
      exact ⟨Int.ediv_nonneg hi (by omega), Int.ediv_le_self _ hi⟩
    generalize rd l (i % (l.length : Int)) = p at r1 ⊢
    generalize rd l ((i + 1) % (l.length : Int)) = p2 at r2 ⊢
    generalize Int.tdiv i (l.length : Int) = p3 at q ⊢
    rw [w64 (x := p) (by omega) (by omega), w64 (x := p * 31) (by omega) (by omega), w64 (x := p2) (by omega) (by omega), w64 (x := p * 31 + p2) (by omega) (by omega), w64 (x := p3) (by omega) (by omega), w64 (by omega) (by omega)]
    exact ⟨_, rfl, pos _ (by omega)⟩
end Go.Proofs.YtnpbnmhbajiefaaDoor.Aid
