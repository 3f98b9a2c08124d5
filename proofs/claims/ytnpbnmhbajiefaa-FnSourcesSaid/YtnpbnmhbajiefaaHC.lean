/- What a hand walk has of its own boxes. -/
import Derived.Test.YtnpbnmhbajiefaaHB
namespace Go.Proofs.Ytnpbnmhbajiefaa.PFnSources
open Go.RowKit Go.Proofs.YtnpbnmhbajiefaaW.PrintWords Go.Proofs.YtnpbnmhbajiefaaW.PrintLast Go.Proofs.YtnpbnmhbajiefaaW.PrintMore
set_option linter.unusedVariables false
theorem boxes5 {w W : World} {o1 o2 o3 o4 o5 : Obj} (h : W = ((((w.alloc o1).alloc o2).alloc o3).alloc o4).alloc o5) : W.heap[w.heap.size]? = some o1 ∧ W.heap[w.heap.size + 1]? = some o2 ∧ W.heap[w.heap.size + 1 + 1]? = some o3 ∧ W.heap[w.heap.size + 1 + 1 + 1]? = some o4 ∧ W.heap[w.heap.size + 1 + 1 + 1 + 1]? = some o5 ∧ Below w.heap.size w W ∧ W.heap.size = w.heap.size + 1 + 1 + 1 + 1 + 1 := by
 obtain ⟨h1, h2, h3, h4, h5, h6⟩ := boxes4 (rfl : (((w.alloc o1).alloc o2).alloc o3).alloc o4 = _)
 subst h
 refine ⟨blk_alloc h1 _, blk_alloc h2 _, blk_alloc h3 _, blk_alloc h4 _, ?_, below_alloc h5 _, by rw [size_alloc, h6]⟩
 have := blk_new ((((w.alloc o1).alloc o2).alloc o3).alloc o4) o5
 rw [h6] at this
 exact this
/-- Own boxes with what they hold, and what became of the world since w: only the blocks N among the elder ones were written. -/
structure HS (w W : World) (N : Nat → Prop) (L : List (Nat × Array Value × Nat)) : Prop where
 box : ∀ p ∈ L, W.heap[p.1]? = some (.cells p.2.1 p.2.2 (0, 0))
 new : ∀ p ∈ L, w.heap.size ≤ p.1
 nd : L.Pairwise (fun p q => p.1 ≠ q.1)
 kept : Kept w W N
 b0 : Below 0 w W
section
variable {w W W1 : World} {N : Nat → Prop} {L P S : List (Nat × Array Value × Nat)} {g t : Nat} {cs : Array Value}
theorem HS.start (w : World) (N : Nat → Prop) : HS w w N [] := ⟨fun _ h => absurd h (by simp), fun _ h => absurd h (by simp), List.Pairwise.nil, Kept.refl _ _, Below.refl _ _⟩
theorem HS.start5 {g1 g2 g3 g4 t1 t2 t3 t4 : Nat} {c1 c2 c3 c4 : Array Value} (hb : Below w.heap.size w W) (q0 : W.heap[g]? = some (.cells cs t (0, 0))) (q1 : W.heap[g1]? = some (.cells c1 t1 (0, 0))) (q2 : W.heap[g2]? = some (.cells c2 t2 (0, 0))) (q3 : W.heap[g3]? = some (.cells c3 t3 (0, 0))) (q4 : W.heap[g4]? = some (.cells c4 t4 (0, 0)))
  (hl : w.heap.size ≤ g ∧ g < g1 ∧ g1 < g2 ∧ g2 < g3 ∧ g3 < g4) : HS w W N [(g, cs, t), (g1, c1, t1), (g2, c2, t2), (g3, c3, t3), (g4, c4, t4)] := by
 refine ⟨?_, ?_, ?_, kept_below hb, below0 hb⟩
 ·
  simp only [List.mem_cons, List.not_mem_nil, or_false]
  rintro p (rfl | rfl | rfl | rfl | rfl)
  ·
   exact q0
  ·
   exact q1
  ·
   exact q2
  ·
   exact q3
  ·
   exact q4
 ·
  simp only [List.mem_cons, List.not_mem_nil, or_false]
  rintro p (rfl | rfl | rfl | rfl | rfl) <;> (show w.heap.size ≤ _; omega)
 ·
  simp only [List.pairwise_cons, List.mem_cons, List.not_mem_nil, or_false, forall_eq_or_imp, forall_eq, List.Pairwise.nil, and_true]
  refine ⟨⟨?_, ?_, ?_, ?_⟩, ⟨?_, ?_, ?_⟩, ⟨?_, ?_⟩, ?_, ?_⟩ <;> first | omega | (intro a h; exact h.elim)
theorem HS.start4 {g1 g2 g3 t1 t2 t3 : Nat} {c1 c2 c3 : Array Value} (hb : Below w.heap.size w W) (q0 : W.heap[g]? = some (.cells cs t (0, 0))) (q1 : W.heap[g1]? = some (.cells c1 t1 (0, 0))) (q2 : W.heap[g2]? = some (.cells c2 t2 (0, 0))) (q3 : W.heap[g3]? = some (.cells c3 t3 (0, 0)))
  (hl : w.heap.size ≤ g ∧ g < g1 ∧ g1 < g2 ∧ g2 < g3) : HS w W N [(g, cs, t), (g1, c1, t1), (g2, c2, t2), (g3, c3, t3)] := by
 refine ⟨?_, ?_, ?_, kept_below hb, below0 hb⟩
 ·
  simp only [List.mem_cons, List.not_mem_nil, or_false]
  rintro p (rfl | rfl | rfl | rfl)
  ·
   exact q0
  ·
   exact q1
  ·
   exact q2
  ·
   exact q3
 ·
  simp only [List.mem_cons, List.not_mem_nil, or_false]
  rintro p (rfl | rfl | rfl | rfl) <;> (show w.heap.size ≤ _; omega)
 ·
  simp only [List.pairwise_cons, List.mem_cons, List.not_mem_nil, or_false, forall_eq_or_imp, forall_eq, List.Pairwise.nil, and_true]
  refine ⟨⟨?_, ?_, ?_⟩, ⟨?_, ?_⟩, ?_, ?_⟩ <;> first | omega | (intro a h; exact h.elim)
theorem HS.below (h : HS w W N L) (hb : Below W.heap.size W W1) : HS w W1 N L :=
 ⟨fun p hp => blk_below (h.box p hp) hb, h.new, h.nd, h.kept.below hb, h.b0.trans (hb.mono (Nat.zero_le _))⟩
theorem HS.drewN (h : HS w W N L) (m : Nat) : HS w (W.drewN m) N L := h.below (pw_below_drewN (Below.refl _ _) m)
theorem HS.drew (h : HS w W N L) : HS w W.drew N L := h.below (below_drew1 (Below.refl _ _))
theorem HS.add (h : HS w W N L) (hb : Below W.heap.size W W1) (hq : W1.heap[g]? = some (.cells cs t (0, 0))) (hg : W.heap.size ≤ g) : HS w W1 N ((g, cs, t) :: L) :=
 ⟨fun p hp => by
  rcases List.mem_cons.1 hp with rfl | hp
  ·
   exact hq
  ·
   exact blk_below (h.box p hp) hb, fun p hp => by
  rcases List.mem_cons.1 hp with rfl | hp
  ·
   exact Nat.le_trans h.kept.1 hg
  ·
   exact h.new p hp, List.Pairwise.cons (fun p hp => by have := blk_lt (h.box p hp); show g ≠ p.1; omega) h.nd, h.kept.below hb, h.b0.trans (hb.mono (Nat.zero_le _))⟩
theorem HS.at (h : HS w W N L) (i : Nat) (hi : L[i]? = some (g, cs, t)) : W.heap[g]? = some (.cells cs t (0, 0)) := h.box _ (List.mem_of_getElem? hi)
theorem HS.cell (h : HS w W N L) (i : Nat) (hi : L[i]? = some (g, cs, t)) (j : Nat) {v : Value} (hj : cs[j]? = some v) : W.cell? ⟨g, j, none⟩ = some v := (blk_cell (h.at i hi) j).trans hj
theorem HS.free (h : HS w W N L) (i : Nat) (hi : L[i]? = some (g, cs, t)) (j : Nat) : W.frozen? ⟨g, j, none⟩ = false := blk_frozen (h.at i hi) j
theorem HS.set (h : HS w W N (P ++ (g, cs, t) :: S)) (j : Nat) (u : Value) {cs' : Array Value} (hc : cs.setIfInBounds j u = cs') : HS w (W.setCell ⟨g, j, none⟩ u) N (P ++ (g, cs', t) :: S) := by
 have hg := h.new (g, cs, t) (by simp)
 have hnd := h.nd
 rw [List.pairwise_append, List.pairwise_cons] at hnd
 obtain ⟨hp, ⟨hs1, hs2⟩, hps⟩ := hnd
 have far : ∀ p, p ∈ P ∨ p ∈ S → p.1 ≠ g := fun p hp => hp.elim (fun q => hps p q (g, cs, t) (by simp)) (fun q e => hs1 p q e.symm)
 refine ⟨fun p hp => ?_, fun p hp => ?_, ?_, h.kept.setCell (.inr hg) _, h.b0.setCell (Nat.zero_le _) _⟩
 ·
  rcases List.mem_append.1 hp with q | q
  ·
   exact blk_far (h.box p (by simp [q])) (far p (.inl q)) u
  ·
   rcases List.mem_cons.1 q with rfl | q
   ·
    exact blk_put (h.box (g, cs, t) (by simp)) j u hc
   ·
    exact blk_far (h.box p (by simp [q])) (far p (.inr q)) u
 ·
  rcases List.mem_append.1 hp with q | q
  ·
   exact h.new p (by simp [q])
  ·
   rcases List.mem_cons.1 q with rfl | q
   ·
    exact hg
   ·
    exact h.new p (by simp [q])
 ·
  rw [List.pairwise_append, List.pairwise_cons]
  exact ⟨hp, ⟨fun a ha => hs1 a ha, hs2⟩, fun a ha b hb => by
   rcases List.mem_cons.1 hb with rfl | q
   ·
    exact far a (.inl ha)
   ·
    exact hps a ha b (by simp [q])⟩
theorem HS.kept_to (h : HS w W N L) {M : Nat → Prop} (hk : Kept W W1 M) (hb : Below 0 W W1) (hm : ∀ k, M k → N k ∨ w.heap.size ≤ k) (hp : ∀ p ∈ L, ¬ M p.1) : HS w W1 N L :=
 ⟨fun p hp' => blk_kept (h.box p hp') hk (hp p hp'), h.new, h.nd, h.kept.then_ hk hm, h.b0.trans hb⟩
theorem HS.app {α : Type} {d : Kd α} {e b : Nat} {ok : Nat → Prop} {v : Value} {xs : List α} (h : HS w W N L) (hR : d.R e W b ok v xs) (ht : ∀ p ∈ L, e ≠ p.2.2) (hg : W.grownBy W1 v.ownBlock) (hv : ∀ k, v.ownBlock = some k → N k ∨ w.heap.size ≤ k) : HS w W1 N L :=
 h.kept_to (M := fun k => v.ownBlock = some k) ⟨hg.size, fun i hi hn => hg.block i hi (fun e => hn e.symm)⟩ ⟨hg.os, hg.tape, hg.output, hg.size, fun k hk => absurd hk (Nat.not_lt_zero k)⟩ (fun k hk => hv k hk) (fun p hp e => Kd.R_ne hR (h.box p hp) (ht p hp) e.symm)
end
end Go.Proofs.Ytnpbnmhbajiefaa.PFnSources
