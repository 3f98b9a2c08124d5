/- How an argument that can be read as data stands as the print's words want it: whole numbers, bools, strings, structs in line, slices of these. -/
import Derived.OpenShut
import Derived.ProofKit
import Derived.WideShapes
import Derived.ChangeArms
import Derived.Deep.Slices
import Derived.ChangeOld
import Derived.SizedLaws
import Derived.Test.YtnpbnmhbajiefaaWMore
namespace Go.Proofs.Ytnpbnmhbajiefaa.Open
open Go.RowKit Go.ChangeShapes Go.WideShapes Go.Deep Go.Proofs.YtnpbnmhbajiefaaW.PrintWords Go.Proofs.YtnpbnmhbajiefaaW.PrintLast Go.Proofs.YtnpbnmhbajiefaaW.PrintMore
set_option linter.unusedVariables false
/-- Cells that can be read as a value of type t are of kind d, and what they read as is good. -/
def Opens (P : Program) (t : TypeId) {α : Type} (d : Kd α) (good : α → Prop) : Prop :=
  ∀ (H : Type) (enc : TypeId × Value → H) (W : World) (fuel : Nat) (cs : List Value) (x : DataW H × List MemPlace), DataW.trod enc P W 0 (fun _ => true) true fuel t cs = some x → ∃ a, d.K W a cs ∧ good a
variable {P : Program} {t e : TypeId} {α β : Type}
theorem Opens.int {k : IntKind} (h : P.underlying t = some (.int k)) : Opens P t (Kd.int k) (fun n => (Lit.int k n).wf = true) := by
  intro H enc W fuel cs x hx
  obtain ⟨n, rfl, _, hw⟩ := DataW.trod_int h hx
  exact ⟨n, rfl, hw⟩
theorem add_add (a : Addr) (m n : Nat) : (a.add m).add n = a.add (m + n) := by
  unfold Addr.add
  by_cases h1 : m = 0
  · subst h1; simp
  · by_cases h2 : n = 0
    · subst h2; simp
    · simp [h1, h2, Nat.add_assoc]
theorem Opens.slice {d : Kd α} {good : α → Prop} (ht : P.underlying t = some (.slice e)) (hc : P.cellsOf e = d.sz) (h : Opens P e d good) : Opens P t (Kd.slice e d) (fun xs => xs.length ≤ maxLen ∧ ∀ a ∈ xs, good a) := by
  intro H enc W fuel cs x hx
  rcases open_slice ht hx with ⟨rfl, _⟩ | ⟨a, len, cap, m, n, D, Pl, rfl, _, hl, hm, hmm, _, hel⟩
  · exact ⟨[], ⟨none, 0, rfl, Nat.le_refl _, rfl, by simp, fun h => absurd h (by simp)⟩, by simp, by simp⟩
  · have hmm' : m = cap := by simpa using hmm
    have hx : ∀ i, i < len → ∃ y : α, ∃ c : List Value, c.length = d.sz ∧ d.K W y c ∧ good y ∧ ∀ j u, c[j]? = some u → W.cell? (a.add (i * d.sz + j)) = some u := by
      intro i hi
      obtain ⟨cs', h1, h2⟩ := hel i (by omega)
      obtain ⟨y, hK, hg⟩ := h H enc W n cs' _ h2
      refine ⟨y, cs', d.K_len hK, hK, hg, fun j u hu => ?_⟩
      rw [hc] at h1
      obtain ⟨_, hlen, hcell⟩ := World.cells?_some h1
      have hj : j < cs'.length := (List.getElem?_eq_some_iff.1 hu).1
      have := hcell j (by omega)
      rw [hu] at this
      rw [add_add] at this
      exact this
    have hm2 : len ≤ 9223372036854775807 := by unfold maxLen at hm; omega
    clear hel hmm
    have key : ∀ k, k ≤ len → ∃ xs : List α, xs.length = k ∧ (∀ y ∈ xs, good y) ∧ ∀ j p, xs[j]? = some p → ∃ c : List Value, c.length = d.sz ∧ d.K W p c ∧ ∀ i u, c[i]? = some u → W.cell? (a.add (j * d.sz + i)) = some u := by
      intro k
      induction k with
      | zero => exact fun _ => ⟨[], rfl, by simp, by simp⟩
      | succ k ih =>
        intro hk
        obtain ⟨xs, hxl, hxg, hxs⟩ := ih (by omega)
        obtain ⟨y, c, hcl, hK, hg, hcell⟩ := hx k (by omega)
        refine ⟨xs ++ [y], by simp [hxl], fun z hz => ?_, fun j p hj => ?_⟩
        · rcases List.mem_append.1 hz with hz | hz
          · exact hxg z hz
          · rw [List.mem_singleton.1 hz]; exact hg
        · rcases Nat.lt_or_ge j k with hjk | hjk
          · rw [List.getElem?_append_left (by omega)] at hj
            exact hxs j p hj
          · have hj2 := (List.getElem?_eq_some_iff.1 hj).1
            simp [hxl] at hj2
            obtain rfl : j = k := by omega
            rw [List.getElem?_append_right (by omega)] at hj
            simp [hxl] at hj
            subst hj
            exact ⟨c, hcl, hK, hcell⟩
    obtain ⟨xs, hxl, hxg, hxs⟩ := key len (Nat.le_refl _)
    subst hxl
    exact ⟨xs, ⟨some a, cap, rfl, hl, rfl, hm2, fun _ => ⟨a, rfl, hxs⟩⟩, by omega, hxg⟩
/-- An argument: its value's cells. -/
theorem Opens.arg {H : Type} {enc : TypeId × Value → H} {W : World} {d : Kd α} {good : α → Prop} {v : Value} {dd : DataW H} {ps : List MemPlace} (h : Opens P t d good) (hd : DataW.Trod enc P W 0 (fun _ => true) true t v dd ps) : ∃ a, d.K W a v.cells.toList ∧ good a := by
  obtain ⟨fuel, hf⟩ := hd
  exact h H enc W fuel _ _ hf
theorem slice_of {r : Reach} {W : World} {b0 : Nat} {v w : Value} (ht : P.underlying t = some (.slice e)) (hv : Value.okWide P W r b0 t v) (h : v.cells.toList = [w]) : v = w := by
  obtain ⟨a, len, cap, rfl⟩ := okWide_slice ht hv
  simpa [Value.cells] using h
end Go.Proofs.Ytnpbnmhbajiefaa.Open
