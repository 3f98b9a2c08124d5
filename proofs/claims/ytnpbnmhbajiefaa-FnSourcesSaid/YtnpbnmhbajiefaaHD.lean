/- An element's field of an own row of addresses is written. -/
import Derived.Test.YtnpbnmhbajiefaaHC
namespace Go.Proofs.Ytnpbnmhbajiefaa.PFnSources
open Go.RowKit Go.Proofs.YtnpbnmhbajiefaaW.PrintWords Go.Proofs.YtnpbnmhbajiefaaW.PrintLast Go.Proofs.YtnpbnmhbajiefaaW.PrintMore
set_option linter.unusedVariables false
theorem reps_set1 {α : Type} {R : α → List Value → Prop} {size : Nat} {ps : List α} {cs : List Value} (h : Reps R size ps cs) {i f : Nat} (hi : i < ps.length) (hf : f < size) {x : α} {u : Value} (hx : R x (((cs.drop (i * size)).take size).set f u)) : Reps R size (ps.set i x) (cs.set (i * size + f) u) := by
 refine ⟨by rw [List.length_set, List.length_set, h.1], fun j p hj => ?_⟩
 rcases Nat.lt_trichotomy j i with hlt | rfl | hgt
 ·
  rw [List.getElem?_set_ne (by omega)] at hj
  have := h.2 j p hj
  have hm : (j + 1) * size ≤ i * size := Nat.mul_le_mul_right _ (by omega)
  rw [Nat.succ_mul] at hm
  rw [List.drop_set, if_neg (by omega), List.take_set, List.set_eq_of_length_le (by rw [List.length_take]; omega)]
  exact this
 ·
  rw [List.getElem?_set_self hi] at hj
  cases hj
  rw [List.drop_set, if_neg (by omega), List.take_set, show j * size + f - j * size = f by omega]
  exact hx
 ·
  rw [List.getElem?_set_ne (by omega)] at hj
  have := h.2 j p hj
  have hm : (i + 1) * size ≤ j * size := Nat.mul_le_mul_right _ (by omega)
  rw [Nat.succ_mul] at hm
  rw [List.drop_set, if_pos (by omega)]
  exact this
theorem R_fld {W : World} {base g n cap : Nat} {ok : Nat → Prop} {xs : List S39} (h : Kd.R k39 39 W base ok (.slice (some ⟨g, 0, none⟩) n cap) xs) {i f : Nat} {x : S39} {u : Value} (hi : i < xs.length) (hf : f < 5) (hx : [.string x.f0, .int .i64 x.f1, .int .i64 x.f2, .int .i64 x.f3, .int .i64 x.f4] = ([.string (xs.getD i z39).f0, .int .i64 (xs.getD i z39).f1, .int .i64 (xs.getD i z39).f2, .int .i64 (xs.getD i z39).f3, .int .i64 (xs.getD i z39).f4] : List Value).set f u) :
  Kd.R k39 39 (W.setCell ⟨g, i * 5 + f, none⟩ u) base ok (.slice (some ⟨g, 0, none⟩) n cap) (xs.set i x) := by
 obtain ⟨h0, inner, hown, hr⟩ := h
 obtain ⟨hl, ho⟩ := hown
 rcases ho with ⟨e, -⟩ | ⟨g', cap', cur, e, hb, hw, hn, hm, hs, ht⟩
 ·
  simp at e
 ·
  injection e with e1 e2 e3
  injection e1 with e4
  injection e4 with e5
  subst e5 e3 e2
  refine ⟨h0, inner.set (i * 5 + f) u, ⟨by rw [List.length_set, List.length_set]; exact hl, .inr ⟨g, cap, cur.setIfInBounds (i * 5 + f) u, by rw [List.length_set], hb, blk_put hw _ _ rfl, by rw [List.length_set]; exact hn, hm, by rw [Array.size_setIfInBounds]; exact hs, ?_⟩⟩, ?_⟩
  ·
   rw [List.length_set, ← ht, Array.toList_setIfInBounds, List.take_set]
  ·
   have hM : Reps (k39.M (W.setCell ⟨g, i * 5 + f, none⟩ u) base fun k => ok k ∧ some k ≠ Value.ownBlock (.slice (some ⟨g, 0, none⟩) xs.length cap)) 5 xs inner := hr.imp_ (fun p c hp => by
    have := k39_openM hp
    subst this
    exact k39_mkM _ _ _ _)
   refine reps_set1 (R := k39.M _ base _) (size := 5) hM hi hf ?_
   have hp := hr.2 i (xs.getD i z39) (by rw [List.getD_eq_getElem?_getD, List.getElem?_eq_getElem hi]; rfl)
   have := k39_openM hp
   have h5 : k39.sz = 5 := rfl
   rw [h5] at this
   rw [this, ← hx]
   exact k39_mkM _ _ _ _
theorem HS.put {w W : World} {N : Nat → Prop} {L : List (Nat × Array Value × Nat)} {g : Nat} {cs : Array Value} (h : HS w W N L) (hq : W.heap[g]? = some (.cells cs 39 (0, 0))) (hg : w.heap.size ≤ g) (ht : ∀ p ∈ L, 39 ≠ p.2.2) (j : Nat) (u : Value) : HS w (W.setCell ⟨g, j, none⟩ u) N L :=
 h.kept_to (M := fun k => k = g) (Kept.setCell (S := fun k => k = g) (p := ⟨g, j, none⟩) (Kept.refl _ _) (Or.inl rfl) u) ((Below.refl 0 W).setCell (Nat.zero_le _) u) (fun k hk => .inr (by omega)) (fun p hp e => ht p hp (by
  have h1 := h.box p hp
  rw [e, hq] at h1
  injection h1 with h1
  injection h1))
theorem R_elt {W : World} {base g n cap : Nat} {ok : Nat → Prop} {xs : List S39} (h : Kd.R k39 39 W base ok (.slice (some ⟨g, 0, none⟩) n cap) xs) {i : Nat} (hi : i < xs.length) :
  (∃ cur, W.heap[g]? = some (.cells cur 39 (0, 0))) ∧ (∀ j, W.frozen? ⟨g, j, none⟩ = false) ∧ W.cell? ⟨g, i * 5, none⟩ = some (.string (xs.getD i z39).f0) ∧ W.cell? ⟨g, i * 5 + 1, none⟩ = some (.int .i64 (xs.getD i z39).f1) ∧ W.cell? ⟨g, i * 5 + 2, none⟩ = some (.int .i64 (xs.getD i z39).f2) ∧ W.cell? ⟨g, i * 5 + 3, none⟩ = some (.int .i64 (xs.getD i z39).f3) ∧ W.cell? ⟨g, i * 5 + 4, none⟩ = some (.int .i64 (xs.getD i z39).f4) := by
 obtain ⟨g', cap', e, _, _, cur, hq⟩ := Kd.R_form h (by omega)
 injection e with e1 e2 e3
 injection e1 with e4
 injection e4 with e5
 subst e5
 obtain ⟨e6, _, hC⟩ := Kd.R_reads' h
 obtain ⟨ad, e7, h0, h1, h2, h3, h4⟩ := at_T39 hC (i : Int) (by omega) (by omega)
 injection e7 with e7
 subst e7
 have ha : (⟨g, 0, none⟩ : Addr).add (i * 5) = ⟨g, i * 5, none⟩ := by rw [add_at, Nat.zero_add]
 simp only [rd_T39, Int.toNat_natCast, ha] at h0 h1 h2 h3 h4
 exact ⟨⟨cur, hq⟩, fun j => blk_frozen hq j, h0, h1, h2, h3, h4⟩
theorem set_self (xs : List S39) (i : Nat) (hi : i < xs.length) : xs.set i (xs.getD i z39) = xs := by
 rw [List.getD_eq_getElem?_getD, List.getElem?_eq_getElem hi, Option.getD_some, List.set_getElem_self]
theorem R_fld2 {W : World} {base g n cap : Nat} {ok : Nat → Prop} {xs : List S39} {i : Nat} {y : S39} (h : Kd.R k39 39 W base ok (.slice (some ⟨g, 0, none⟩) n cap) (xs.set i y)) (hi : i < xs.length) (f : Nat) (x : S39) {u : Value} (hf : f < 5) (hx : [.string x.f0, .int .i64 x.f1, .int .i64 x.f2, .int .i64 x.f3, .int .i64 x.f4] = ([.string y.f0, .int .i64 y.f1, .int .i64 y.f2, .int .i64 y.f3, .int .i64 y.f4] : List Value).set f u) :
  Kd.R k39 39 (W.setCell ⟨g, i * 5 + f, none⟩ u) base ok (.slice (some ⟨g, 0, none⟩) n cap) (xs.set i x) := by
 have hg : (xs.set i y).getD i z39 = y := by simp [List.getD_eq_getElem?_getD, hi]
 have := R_fld h (i := i) (f := f) (x := x) (u := u) (by simpa using hi) hf (by rw [hg]; exact hx)
 rwa [List.set_set] at this
theorem R_elt2 {W : World} {base g n cap : Nat} {ok : Nat → Prop} {xs : List S39} {i : Nat} {y : S39} (h : Kd.R k39 39 W base ok (.slice (some ⟨g, 0, none⟩) n cap) (xs.set i y)) (hi : i < xs.length) :
  (∃ cur, W.heap[g]? = some (.cells cur 39 (0, 0))) ∧ (∀ j, W.frozen? ⟨g, j, none⟩ = false) ∧ W.cell? ⟨g, i * 5, none⟩ = some (.string y.f0) ∧ W.cell? ⟨g, i * 5 + 1, none⟩ = some (.int .i64 y.f1) ∧ W.cell? ⟨g, i * 5 + 2, none⟩ = some (.int .i64 y.f2) ∧ W.cell? ⟨g, i * 5 + 3, none⟩ = some (.int .i64 y.f3) ∧ W.cell? ⟨g, i * 5 + 4, none⟩ = some (.int .i64 y.f4) := by
 have hg : (xs.set i y).getD i z39 = y := by simp [List.getD_eq_getElem?_getD, hi]
 have := R_elt h (i := i) (by simpa using hi)
 rwa [hg] at this
theorem vcases (a b v : Int) (h : v = if 7200 < a ∨ b < a then a else if 7200 < b then 7200 else b) : (decide (7200 < a) = true ∧ v = a) ∨ (decide (7200 < a) = false ∧ decide (b < a) = true ∧ v = a) ∨ (decide (7200 < a) = false ∧ decide (b < a) = false ∧ decide (7200 < b) = true ∧ v = 7200) ∨ (decide (7200 < a) = false ∧ decide (b < a) = false ∧ decide (7200 < b) = false ∧ v = b) := by
 by_cases p1 : 7200 < a
 ·
  exact .inl ⟨decide_eq_true p1, by rw [h, if_pos (.inl p1)]⟩
 ·
  by_cases p2 : b < a
  ·
   exact .inr (.inl ⟨decide_eq_false p1, decide_eq_true p2, by rw [h, if_pos (.inr p2)]⟩)
  ·
   by_cases p3 : 7200 < b
   ·
    exact .inr (.inr (.inl ⟨decide_eq_false p1, decide_eq_false p2, decide_eq_true p3, by rw [h, if_neg (by omega), if_pos p3]⟩))
   ·
    exact .inr (.inr (.inr ⟨decide_eq_false p1, decide_eq_false p2, decide_eq_false p3, by rw [h, if_neg (by omega), if_neg p3]⟩))
def updA (x : S58) (y : S39) : S39 :=
 let v := if 7200 < x.f4 ∨ y.f3 < x.f4 then x.f4 else if 7200 < y.f3 then 7200 else y.f3
 let p := min x.f5 v
 if y.f1 = 1 then ⟨y.f0, y.f1, y.f2, v, p⟩ else ⟨y.f0, if p = 0 then 3 else 2, y.f2, v, p⟩
section
variable {x : S58} {y y1 : S39} {v p : Int} (hv : v = if 7200 < x.f4 ∨ y.f3 < x.f4 then x.f4 else if 7200 < y.f3 then 7200 else y.f3) (hy : y1 = ⟨y.f0, y.f1, y.f2, v, y.f4⟩) (hp : p = if y1.f3 < x.f5 then y1.f3 else x.f5)
theorem upd_p (hy : y1 = ⟨y.f0, y.f1, y.f2, v, y.f4⟩) (hp : p = if y1.f3 < x.f5 then y1.f3 else x.f5) : p = min x.f5 v := by
 rw [hp, hy]; show (if v < x.f5 then v else x.f5) = _; omega
include hv hy hp
theorem upd_same (h : y1.f1 = 1) : (⟨y1.f0, y1.f1, y1.f2, y1.f3, p⟩ : S39) = updA x y := by
 have := upd_p hy hp
 unfold updA; dsimp only
 rw [← hv, ← this, if_pos (by rw [hy] at h; exact h), hy]
theorem upd_old (h : ¬ y1.f1 = 1) (h0 : p = 0) : (⟨y1.f0, 3, y1.f2, y1.f3, p⟩ : S39) = updA x y := by
 have := upd_p hy hp
 unfold updA; dsimp only
 rw [← hv, ← this, if_neg (by rw [hy] at h; exact h), if_pos h0, hy]
theorem upd_good (h : ¬ y1.f1 = 1) (h0 : ¬ p = 0) : (⟨y1.f0, 2, y1.f2, y1.f3, p⟩ : S39) = updA x y := by
 have := upd_p hy hp
 unfold updA; dsimp only
 rw [← hv, ← this, if_neg (by rw [hy] at h; exact h), if_neg h0, hy]
end
end Go.Proofs.Ytnpbnmhbajiefaa.PFnSources
