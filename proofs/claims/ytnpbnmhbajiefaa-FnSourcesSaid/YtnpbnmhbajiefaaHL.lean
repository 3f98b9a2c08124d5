/- What the small functions of spec's Auto answer, plainly. -/
import Derived.Test.YtnpbnmhbajiefaaGFnSourcesx1
import Derived.Test.YtnpbnmhbajiefaaGFnSourcesx2
import Derived.Test.YtnpbnmhbajiefaaGFnSourcesx3
namespace Go.Proofs.Ytnpbnmhbajiefaa.PFnSources
open Go.RowKit Go.Proofs.YtnpbnmhbajiefaaW.PrintWords Go.Proofs.YtnpbnmhbajiefaaW.PrintLast Go.Proofs.YtnpbnmhbajiefaaW.PrintMore
set_option linter.unusedVariables false
theorem w64n {n : Nat} (h : n < 1000000000) : wrap64 ((n : Int) + 1) = ((n + 1 : Nat) : Int) := by unfold wrap64; omega
def fxF (a : ByteArray) : List S39 → Nat → Int
 | [], _ => -1
 | y :: r, i => if y.f0.toList = a.toList then (i : Int) else fxF a r (i + 1)
def txF (a : ByteArray) : List ByteArray → Bool
 | [] => false
 | y :: r => if y.toList = a.toList then true else txF a r
theorem find_l0 (l : List S39) (a : ByteArray) (hl : l.length < 1000000) : ∀ (k i : Nat), i ≤ l.length → l.length - i < k → spec_l14Find.l0 k l a (i : Int) = some (fxF a (l.drop i) i)
 | 0, i, _, h => by omega
 | k + 1, i, hi, h => by
  unfold spec_l14Find.l0
  by_cases c : i < l.length
  ·
   rw [if_pos (by omega), if_pos (by omega), List.drop_eq_getElem_cons c]
   have e : rd_T39 l (i : Int) = l[i] := by simp [rd_T39, List.getD_eq_getElem?_getD, c]
   rw [e, fxF]
   by_cases q : l[i].f0.toList = a.toList
   ·
    rw [if_pos q, if_pos q]
   ·
    rw [if_neg q, if_neg q, w64n (by omega)]
    exact find_l0 l a hl k (i + 1) (by omega) (by omega)
  ·
   rw [if_neg (by omega), List.drop_of_length_le (by omega)]; rfl
theorem find_f (l : List S39) (a : ByteArray) (hl : l.length < 1000000) : spec_l14Find.f (l.length + 1) l a = some (fxF a l 0) := find_l0 l a hl (l.length + 1) 0 (by omega) (by omega)
theorem text_l0 (l : List ByteArray) (a : ByteArray) (hl : l.length < 1000000) : ∀ (k i : Nat), i ≤ l.length → l.length - i < k → spec_l14Text.l0 k l a (i : Int) = some (txF a (l.drop i))
 | 0, i, _, h => by omega
 | k + 1, i, hi, h => by
  unfold spec_l14Text.l0
  by_cases c : i < l.length
  ·
   rw [if_pos (by omega), if_pos (by omega), List.drop_eq_getElem_cons c]
   have e : rdOf ByteArray.empty l (i : Int) = l[i] := by simp [rdOf, List.getD_eq_getElem?_getD, c]
   rw [e, txF]
   by_cases q : l[i].toList = a.toList
   ·
    rw [if_pos q, if_pos q]
   ·
    rw [if_neg q, if_neg q, w64n (by omega)]
    exact text_l0 l a hl k (i + 1) (by omega) (by omega)
  ·
   rw [if_neg (by omega), List.drop_of_length_le (by omega)]; rfl
theorem text_f (l : List ByteArray) (a : ByteArray) (k : Nat) (hl : l.length < 1000000) (hk : l.length < k) : spec_l14Text.f k l a = some (txF a l) := text_l0 l a hl k 0 (by omega) (by omega)
theorem own_f (link : ByteArray) (l1 : List S39) (l2 : List ByteArray) (h1 : l1.length < 1000000) (h2 : l2.length < 1000000) : spec_l14Own.f link l1 l2 = some (link, l1, l2) := by
 unfold spec_l14Own.f
 simp only [Option.bind_some, List.length_nil, List.nil_append, Nat.zero_add]
 rw [if_pos (by omega), if_pos (by omega)]
theorem nums_size (l : List Int) : (strOfNums l).size = l.length := by
 unfold strOfNums
 simp [ByteArray.size]
theorem solicited_f (a : ByteArray) (h : 13 ≤ a.size) (h2 : a.size < 1000000) : ∃ g, spec_l14Solicited.f a = some g := by
 unfold spec_l14Solicited.f
 have e : (a.extract 13 a.size).size = a.size - 13 := by simp
 simp only [Option.bind_some, ByteArray.size_append, nums_size, List.length_replicate, e]
 have e1 : (⟨#[255, 2]⟩ : ByteArray).size = 2 := rfl
 have e2 : (⟨#[1, 255]⟩ : ByteArray).size = 2 := rfl
 rw [if_pos (by omega), if_pos (by omega), if_pos (by omega), if_pos (by omega), if_pos (by omega)]
 exact ⟨_, rfl⟩
theorem groups_l0 (link : ByteArray) (l : List S39) (l2 : List ByteArray) (hl : l.length ≤ 1000) (ha : ∀ y ∈ l, y.f0.size = 16) : ∀ (j k i : Nat) (x : List ByteArray), i ≤ l.length → l.length - i = j → 4000 + j < k → x.length ≤ i → ∃ g, spec_l14Groups.l0 k x (i : Int) link l l2 = some g ∧ g.length ≤ l.length
 | j, 0, i, x, _, _, h, _ => by omega
 | j, k + 1, i, x, hi, hj, hk, hx => by
  unfold spec_l14Groups.l0
  by_cases c : i < l.length
  ·
   rw [if_pos (by omega), if_pos (by omega)]
   have e : rd_T39 l (i : Int) = l[i] := by simp [rd_T39, List.getD_eq_getElem?_getD, c]
   obtain ⟨g, hg⟩ := solicited_f l[i].f0 (by rw [ha _ (List.getElem_mem c)]; omega) (by rw [ha _ (List.getElem_mem c)]; omega)
   rw [e, hg]
   simp only [Option.bind_some]
   rw [text_f x g k (by omega) (by omega)]
   simp only [Option.bind_some]
   cases j with
   | zero => omega
   | succ j =>
    by_cases q : txF g x = true
    ·
     rw [if_pos q, w64n (by omega)]
     exact groups_l0 link l l2 hl ha j k (i + 1) x (by omega) (by omega) (by omega) (by omega)
    ·
     rw [if_neg q, if_pos (by omega), w64n (by omega)]
     exact groups_l0 link l l2 hl ha j k (i + 1) (x ++ [g]) (by omega) (by omega) (by omega) (by rw [List.length_append]; simp; omega)
  ·
   rw [if_neg (by omega)]
   exact ⟨x, rfl, by omega⟩
theorem groups_f (link : ByteArray) (l : List S39) (l2 : List ByteArray) (hl : l.length ≤ 1000) (ha : ∀ y ∈ l, y.f0.size = 16) : ∃ g, spec_l14Groups.f 6000 link l l2 = some g ∧ g.length ≤ l.length :=
 groups_l0 link l l2 hl ha l.length 6000 0 [] (by omega) (by omega) (by omega) (by simp)
end Go.Proofs.Ytnpbnmhbajiefaa.PFnSources
