/- How an argument that can be read as data stands as the print's words want it: whole numbers, bools, strings, structs in line, slices of these. -/
import Derived.OpenShut
import Derived.ProofKit
import Derived.WideShapes
import Derived.ChangeArms
import Derived.Deep.Slices
import Derived.ChangeOld
import Derived.SizedLaws
import Derived.Test.YtnpbnmhbajiefaaDoorWMore
namespace Go.Proofs.YtnpbnmhbajiefaaDoor.Open
open Go.RowKit Go.ChangeShapes Go.WideShapes Go.Deep Go.Proofs.YtnpbnmhbajiefaaDoorW.PrintWords Go.Proofs.YtnpbnmhbajiefaaDoorW.PrintLast Go.Proofs.YtnpbnmhbajiefaaDoorW.PrintMore
set_option linter.unusedVariables false
/-- Cells that can be read as a value of type t are of kind d, and what they read as is good. -/
def Opens (P : Program) (t : TypeId) {α : Type} (d : Kd α) (good : α → Prop) : Prop :=
  ∀ (H : Type) (enc : TypeId × Value → H) (W : World) (fuel : Nat) (cs : List Value) (x : DataW H × List MemPlace), DataW.trod enc P W 0 (fun _ => true) true fuel t cs = some x → ∃ a, d.K W a cs ∧ good a
variable {P : Program} {t e : TypeId} {α β : Type}
theorem Opens.int {k : IntKind} (h : P.underlying t = some (.int k)) : Opens P t (Kd.int k) (fun n => (Lit.int k n).wf = true) := by
  intro H enc W fuel cs x hx
  obtain ⟨n, rfl, _, hw⟩ := DataW.trod_int h hx
  exact ⟨n, rfl, hw⟩
theorem Opens.bool (h : P.underlying t = some .bool) : Opens P t Kd.bool (fun _ => True) := by
  intro H enc W fuel cs x hx
  obtain ⟨b, rfl, _⟩ := DataW.trod_bool h hx
  exact ⟨b, rfl, trivial⟩
theorem Opens.string (h : P.underlying t = some .string) : Opens P t Kd.string (fun s => s.size ≤ maxLen) := by
  intro H enc W fuel cs x hx
  obtain ⟨s, rfl, _, hs⟩ := DataW.trod_string h hx
  exact ⟨s, rfl, hs⟩
theorem Opens.iso {d : Kd α} {good : α → Prop} (h : Opens P t d good) (f : β → α) (g : α → β) (hg : ∀ a, f (g a) = a) : Opens P t (Kd.iso d f) (fun b => good (f b)) := by
  intro H enc W fuel cs x hx
  obtain ⟨a, hK, hgood⟩ := h H enc W fuel cs x hx
  refine ⟨g a, ?_, ?_⟩
  · show d.K W (f (g a)) cs
    rw [hg]; exact hK
  · show good (f (g a))
    rw [hg]; exact hgood
theorem Opens.mono {d : Kd α} {good good' : α → Prop} (h : Opens P t d good) (hg : ∀ a, good a → good' a) : Opens P t d good' := by
  intro H enc W fuel cs x hx
  obtain ⟨a, hK, hgood⟩ := h H enc W fuel cs x hx
  exact ⟨a, hK, hg a hgood⟩
theorem add_add (a : Addr) (m n : Nat) : (a.add m).add n = a.add (m + n) := by
  unfold Addr.add
  by_cases h1 : m = 0
  · subst h1; simp
  · by_cases h2 : n = 0
    · subst h2; simp
    · simp [h1, h2, Nat.add_assoc]
/-- The fields of a struct from one on. -/
def OpensF (P : Program) (fs : List Field) (off : Nat) {α : Type} (d : Kd α) (good : α → Prop) : Prop :=
  ∀ (H : Type) (enc : TypeId × Value → H) (W : World) (fuel : Nat) (cs : List Value), cs.length = off + d.sz → (∀ f ∈ fs, ∃ x, DataW.trod enc P W 0 (fun _ => true) true fuel f.type ((cs.drop f.offset).take (P.cellsOf f.type)) = some x) → ∃ a, d.K W a (cs.drop off) ∧ good a
theorem OpensF.last {f : Field} {off : Nat} {d : Kd α} {good : α → Prop} (h : Opens P f.type d good) (ho : f.offset = off) (hn : P.cellsOf f.type = d.sz) : OpensF P [f] off d good := by
  intro H enc W fuel cs hl hf
  obtain ⟨x, hx⟩ := hf f (List.mem_singleton.2 rfl)
  rw [ho, hn, List.take_of_length_le (by rw [List.length_drop]; omega)] at hx
  exact h H enc W fuel _ x hx
theorem OpensF.cons {f : Field} {fs : List Field} {off : Nat} {d : Kd α} {d' : Kd β} {good : α → Prop} {good' : β → Prop} (h : Opens P f.type d good) (ho : f.offset = off) (hn : P.cellsOf f.type = d.sz) (hr : OpensF P fs (off + d.sz) d' good') :
    OpensF P (f :: fs) off (Kd.pair d d') (fun a => good a.1 ∧ good' a.2) := by
  intro H enc W fuel cs hl hf
  have hl' : cs.length = off + (d.sz + d'.sz) := hl
  obtain ⟨x, hx⟩ := hf f List.mem_cons_self
  rw [ho, hn] at hx
  obtain ⟨a, ha, ga⟩ := h H enc W fuel _ x hx
  obtain ⟨b, hb, gb⟩ := hr H enc W fuel cs (by omega) (fun f' hf' => hf f' (List.mem_cons_of_mem _ hf'))
  refine ⟨(a, b), ⟨_, _, ?_, ha, hb⟩, ga, gb⟩
  rw [← List.drop_drop, List.take_append_drop]
theorem Opens.struct {fs : List Field} {d : Kd α} {good : α → Prop} (ht : P.underlying t = some (.struct fs.toArray)) (hc : P.cellsOf t = d.sz) (h : OpensF P fs 0 d good) : Opens P t d good := by
  intro H enc W fuel cs x hx
  obtain ⟨xs, n, _, _, hl, hlen, hf⟩ := DataW.trod_struct ht hx
  have := h H enc W n cs (by omega) (fun f hfm => by
    obtain ⟨i, hi, rfl⟩ := List.mem_iff_getElem.1 hfm
    have hxs : i < xs.length := by rw [hlen]; simpa using hi
    exact ⟨xs[i], by rw [hf i fs[i] (by simp [hi])]; simp [hxs]⟩)
  simpa using this
theorem Opens.slice {d : Kd α} {good : α → Prop} (ht : P.underlying t = some (.slice e)) (hc : P.cellsOf e = d.sz) (h : Opens P e d good) : Opens P t (Kd.slice e d) (fun xs => xs.length ≤ maxLen ∧ ∀ a ∈ xs, good a) := by
  intro H enc W fuel cs x hx
  rcases open_slice ht hx with ⟨rfl, _⟩ | ⟨a, len, cap, m, n, D, Pl, rfl, _, hl, hm, hmm, _, hel⟩
  · exact ⟨[], ⟨none, 0, rfl, Nat.le_refl _, rfl, by simp, fun h => absurd h (by simp)⟩, by simp, by simp⟩
  · have hmm' : m = cap := by simpa using hmm
    have hx : ∀ i, i < len → ∃ y : α, ∃ c : List Value, c.length = d.sz ∧ d.K W y c ∧ good y ∧ ∀ j u, c[j]? = some u → W.cell? (a.add (i * d.sz + j)) = some u := by
      intro i hi
      obtain ⟨cs', h1, h2⟩ := hel i (by omega)
      obtain ⟨y, hK, hg⟩ := h H enc W n cs' _ h2
      refine ⟨y, cs', d.K_len hK, hK, hg, fun j u hu => ?_⟩
      rw [hc] at h1
      obtain ⟨_, hlen, hcell⟩ := World.cells?_some h1
      have hj : j < cs'.length := (List.getElem?_eq_some_iff.1 hu).1
      have := hcell j (by omega)
      rw [hu] at this
      rw [add_add] at this
      exact this
    have hm2 : len ≤ 9223372036854775807 := by unfold maxLen at hm; omega
    clear hel hmm
    have key : ∀ k, k ≤ len → ∃ xs : List α, xs.length = k ∧ (∀ y ∈ xs, good y) ∧ ∀ j p, xs[j]? = some p → ∃ c : List Value, c.length = d.sz ∧ d.K W p c ∧ ∀ i u, c[i]? = some u → W.cell? (a.add (j * d.sz + i)) = some u := by
      intro k
      induction k with
      | zero => exact fun _ => ⟨[], rfl, by simp, by simp⟩
      | succ k ih =>
        intro hk
        obtain ⟨xs, hxl, hxg, hxs⟩ := ih (by omega)
        obtain ⟨y, c, hcl, hK, hg, hcell⟩ := hx k (by omega)
        refine ⟨xs ++ [y], by simp [hxl], fun z hz => ?_, fun j p hj => ?_⟩
        · rcases List.mem_append.1 hz with hz | hz
          · exact hxg z hz
          · rw [List.mem_singleton.1 hz]; exact hg
        · rcases Nat.lt_or_ge j k with hjk | hjk
          · rw [List.getElem?_append_left (by omega)] at hj
            exact hxs j p hj
          · have hj2 := (List.getElem?_eq_some_iff.1 hj).1
            simp [hxl] at hj2
            obtain rfl : j = k := by omega
            rw [List.getElem?_append_right (by omega)] at hj
            simp [hxl] at hj
            subst hj
            exact ⟨c, hcl, hK, hcell⟩
    obtain ⟨xs, hxl, hxg, hxs⟩ := key len (Nat.le_refl _)
    subst hxl
    exact ⟨xs, ⟨some a, cap, rfl, hl, rfl, hm2, fun _ => ⟨a, rfl, hxs⟩⟩, by omega, hxg⟩
/-- An argument: its value's cells. -/
theorem Opens.arg {H : Type} {enc : TypeId × Value → H} {W : World} {d : Kd α} {good : α → Prop} {v : Value} {dd : DataW H} {ps : List MemPlace} (h : Opens P t d good) (hd : DataW.Trod enc P W 0 (fun _ => true) true t v dd ps) : ∃ a, d.K W a v.cells.toList ∧ good a := by
  obtain ⟨fuel, hf⟩ := hd
  exact h H enc W fuel _ _ hf
theorem agg_of {r : Reach} {W : World} {b0 : Nat} {fs : Array Field} {v : Value} {cs : List Value} (ht : P.underlying t = some (.struct fs)) (hv : Value.okWide P W r b0 t v) (h : v.cells.toList = cs) : v = .agg cs.toArray := by
  obtain ⟨c, rfl, _⟩ := okWide_struct ht hv
  subst h
  simp [Value.cells]
theorem slice_of {r : Reach} {W : World} {b0 : Nat} {v w : Value} (ht : P.underlying t = some (.slice e)) (hv : Value.okWide P W r b0 t v) (h : v.cells.toList = [w]) : v = w := by
  obtain ⟨a, len, cap, rfl⟩ := okWide_slice ht hv
  simpa [Value.cells] using h
end Go.Proofs.YtnpbnmhbajiefaaDoor.Open
