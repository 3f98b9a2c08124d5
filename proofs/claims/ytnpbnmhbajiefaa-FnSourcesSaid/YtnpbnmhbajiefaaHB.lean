/- The rows that spec.AutoRun's functions hand on: what a walk keeps of them. -/
import Derived.Test.YtnpbnmhbajiefaaGFnSourcesx0
namespace Go.Proofs.Ytnpbnmhbajiefaa.PFnSources
open Go.RowKit Go.Proofs.YtnpbnmhbajiefaaW.PrintWords Go.Proofs.YtnpbnmhbajiefaaW.PrintLast Go.Proofs.YtnpbnmhbajiefaaW.PrintMore
set_option linter.unusedVariables false
set_option linter.unusedSimpArgs false
abbrev SR (W : World) (ok : Nat → Prop) (v : Value) (m : List ByteArray) : Prop := Kd.R Kd.string 9 W 0 ok v m
abbrev AR (W : World) (ok : Nat → Prop) (v : Value) (l : List S39) : Prop := Kd.R k39 39 W 0 ok v l
def Own4 (v1 v2 v3 v4 : Value) (k : Nat) : Prop := some k = v1.ownBlock ∨ some k = v2.ownBlock ∨ some k = v3.ownBlock ∨ some k = v4.ownBlock
structure Rows4 (W : World) (v1 v2 v3 v4 : Value) (m1 m2 m3 m4 : List ByteArray) : Prop where
 r1 : SR W (fun k => some k ≠ v2.ownBlock ∧ some k ≠ v3.ownBlock ∧ some k ≠ v4.ownBlock) v1 m1
 r2 : SR W (fun k => some k ≠ v1.ownBlock ∧ some k ≠ v3.ownBlock ∧ some k ≠ v4.ownBlock) v2 m2
 r3 : SR W (fun k => some k ≠ v1.ownBlock ∧ some k ≠ v2.ownBlock ∧ some k ≠ v4.ownBlock) v3 m3
 r4 : SR W (fun k => some k ≠ v1.ownBlock ∧ some k ≠ v2.ownBlock ∧ some k ≠ v3.ownBlock) v4 m4
section
variable {W W1 : World} {v1 v2 v3 v4 x' : Value} {m1 m2 m3 m4 m' : List ByteArray} {ok : Nat → Prop} {g t : Nat} {cells : Array Value}
theorem Rows4.below (h : Rows4 W v1 v2 v3 v4 m1 m2 m3 m4) (hb : Below W.heap.size W W1) : Rows4 W1 v1 v2 v3 v4 m1 m2 m3 m4 :=
 ⟨Kd.R_below h.r1 hb, Kd.R_below h.r2 hb, Kd.R_below h.r3 hb, Kd.R_below h.r4 hb⟩
theorem s9 (ht : t ≠ 9) : ∀ q, q ∈ (9 : Nat) :: Kd.string.E → q ≠ t := by
 intro q hq
 have : q = 9 := by simpa [Kd.string, Kd.scalar] using hq
 omega
theorem Rows4.set (h : Rows4 W v1 v2 v3 v4 m1 m2 m3 m4) (hb : W.heap[g]? = some (.cells cells t (0, 0))) (ht : t ≠ 9) (j : Nat) (u : Value) : Rows4 (W.setCell ⟨g, j, none⟩ u) v1 v2 v3 v4 m1 m2 m3 m4 :=
 ⟨Kd.R_set h.r1 hb (s9 ht) j u, Kd.R_set h.r2 hb (s9 ht) j u, Kd.R_set h.r3 hb (s9 ht) j u, Kd.R_set h.r4 hb (s9 ht) j u⟩
theorem Rows4.not (h : Rows4 W v1 v2 v3 v4 m1 m2 m3 m4) (hb : W.heap[g]? = some (.cells cells t (0, 0))) (ht : t ≠ 9) : ¬ Own4 v1 v2 v3 v4 g := by
 have ht' : 9 ≠ t := fun e => ht e.symm
 rintro (e | e | e | e)
 ·
  exact Kd.R_ne h.r1 hb ht' e
 ·
  exact Kd.R_ne h.r2 hb ht' e
 ·
  exact Kd.R_ne h.r3 hb ht' e
 ·
  exact Kd.R_ne h.r4 hb ht' e
theorem Rows4.lt (h : Rows4 W v1 v2 v3 v4 m1 m2 m3 m4) (k : Nat) (hk : Own4 v1 v2 v3 v4 k) : k < W.heap.size := by
 rcases hk with e | e | e | e
 ·
  exact Kd.R_lt h.r1 k e.symm
 ·
  exact Kd.R_lt h.r2 k e.symm
 ·
  exact Kd.R_lt h.r3 k e.symm
 ·
  exact Kd.R_lt h.r4 k e.symm
/-- A row beside one that was written: apart from what that one is now. -/
theorem SR_after {x x' : Value} {v : Value} {m : List ByteArray} (h : SR W ok v m) (hne : ∀ k, ok k → some k ≠ x.ownBlock) (hg : W.grownBy W1 x.ownBlock) (hat : x'.ownBlock = x.ownBlock ∨ ∃ b, x'.ownBlock = some b ∧ W.heap.size ≤ b) : SR W1 (fun k => ok k ∧ some k ≠ x'.ownBlock) v m :=
 Kd.R_after (Kd.R_mono h (fun k hk => ⟨hk, hne k hk⟩)) hg hat
theorem Rows4.app1 (h : Rows4 W v1 v2 v3 v4 m1 m2 m3 m4) (ho : SR W1 (fun k => some k ≠ v2.ownBlock ∧ some k ≠ v3.ownBlock ∧ some k ≠ v4.ownBlock) x' m') (hg : W.grownBy W1 v1.ownBlock) (hat : x'.ownBlock = v1.ownBlock ∨ ∃ b, x'.ownBlock = some b ∧ W.heap.size ≤ b) : Rows4 W1 x' v2 v3 v4 m' m2 m3 m4 :=
 ⟨ho, Kd.R_mono (SR_after h.r2 (fun k hk => hk.1) hg hat) (fun k hk => ⟨hk.2, hk.1.2.1, hk.1.2.2⟩), Kd.R_mono (SR_after h.r3 (fun k hk => hk.1) hg hat) (fun k hk => ⟨hk.2, hk.1.2.1, hk.1.2.2⟩), Kd.R_mono (SR_after h.r4 (fun k hk => hk.1) hg hat) (fun k hk => ⟨hk.2, hk.1.2.1, hk.1.2.2⟩)⟩
theorem Rows4.app2 (h : Rows4 W v1 v2 v3 v4 m1 m2 m3 m4) (ho : SR W1 (fun k => some k ≠ v1.ownBlock ∧ some k ≠ v3.ownBlock ∧ some k ≠ v4.ownBlock) x' m') (hg : W.grownBy W1 v2.ownBlock) (hat : x'.ownBlock = v2.ownBlock ∨ ∃ b, x'.ownBlock = some b ∧ W.heap.size ≤ b) : Rows4 W1 v1 x' v3 v4 m1 m' m3 m4 :=
 ⟨Kd.R_mono (SR_after h.r1 (fun k hk => hk.1) hg hat) (fun k hk => ⟨hk.2, hk.1.2.1, hk.1.2.2⟩), ho, Kd.R_mono (SR_after h.r3 (fun k hk => hk.2.1) hg hat) (fun k hk => ⟨hk.1.1, hk.2, hk.1.2.2⟩), Kd.R_mono (SR_after h.r4 (fun k hk => hk.2.1) hg hat) (fun k hk => ⟨hk.1.1, hk.2, hk.1.2.2⟩)⟩
theorem Rows4.app3 (h : Rows4 W v1 v2 v3 v4 m1 m2 m3 m4) (ho : SR W1 (fun k => some k ≠ v1.ownBlock ∧ some k ≠ v2.ownBlock ∧ some k ≠ v4.ownBlock) x' m') (hg : W.grownBy W1 v3.ownBlock) (hat : x'.ownBlock = v3.ownBlock ∨ ∃ b, x'.ownBlock = some b ∧ W.heap.size ≤ b) : Rows4 W1 v1 v2 x' v4 m1 m2 m' m4 :=
 ⟨Kd.R_mono (SR_after h.r1 (fun k hk => hk.2.1) hg hat) (fun k hk => ⟨hk.1.1, hk.2, hk.1.2.2⟩), Kd.R_mono (SR_after h.r2 (fun k hk => hk.2.1) hg hat) (fun k hk => ⟨hk.1.1, hk.2, hk.1.2.2⟩), ho, Kd.R_mono (SR_after h.r4 (fun k hk => hk.2.2) hg hat) (fun k hk => ⟨hk.1.1, hk.1.2.1, hk.2⟩)⟩
theorem Rows4.app4 (h : Rows4 W v1 v2 v3 v4 m1 m2 m3 m4) (ho : SR W1 (fun k => some k ≠ v1.ownBlock ∧ some k ≠ v2.ownBlock ∧ some k ≠ v3.ownBlock) x' m') (hg : W.grownBy W1 v4.ownBlock) (hat : x'.ownBlock = v4.ownBlock ∨ ∃ b, x'.ownBlock = some b ∧ W.heap.size ≤ b) : Rows4 W1 v1 v2 v3 x' m1 m2 m3 m' :=
 ⟨Kd.R_mono (SR_after h.r1 (fun k hk => hk.2.2) hg hat) (fun k hk => ⟨hk.1.1, hk.1.2.1, hk.2⟩), Kd.R_mono (SR_after h.r2 (fun k hk => hk.2.2) hg hat) (fun k hk => ⟨hk.1.1, hk.1.2.1, hk.2⟩), Kd.R_mono (SR_after h.r3 (fun k hk => hk.2.2) hg hat) (fun k hk => ⟨hk.1.1, hk.1.2.1, hk.2⟩), ho⟩
theorem Rows4.fresh1 (h : Rows4 W v1 v2 v3 v4 m1 m2 m3 m4) (k : Nat) (hk : W.heap.size ≤ k) : some k ≠ v2.ownBlock ∧ some k ≠ v3.ownBlock ∧ some k ≠ v4.ownBlock := ⟨Kd.fresh_ok h.r2 k hk, Kd.fresh_ok h.r3 k hk, Kd.fresh_ok h.r4 k hk⟩
theorem Rows4.fresh2 (h : Rows4 W v1 v2 v3 v4 m1 m2 m3 m4) (k : Nat) (hk : W.heap.size ≤ k) : some k ≠ v1.ownBlock ∧ some k ≠ v3.ownBlock ∧ some k ≠ v4.ownBlock := ⟨Kd.fresh_ok h.r1 k hk, Kd.fresh_ok h.r3 k hk, Kd.fresh_ok h.r4 k hk⟩
theorem Rows4.fresh3 (h : Rows4 W v1 v2 v3 v4 m1 m2 m3 m4) (k : Nat) (hk : W.heap.size ≤ k) : some k ≠ v1.ownBlock ∧ some k ≠ v2.ownBlock ∧ some k ≠ v4.ownBlock := ⟨Kd.fresh_ok h.r1 k hk, Kd.fresh_ok h.r2 k hk, Kd.fresh_ok h.r4 k hk⟩
theorem Rows4.fresh4 (h : Rows4 W v1 v2 v3 v4 m1 m2 m3 m4) (k : Nat) (hk : W.heap.size ≤ k) : some k ≠ v1.ownBlock ∧ some k ≠ v2.ownBlock ∧ some k ≠ v3.ownBlock := ⟨Kd.fresh_ok h.r1 k hk, Kd.fresh_ok h.r2 k hk, Kd.fresh_ok h.r3 k hk⟩
/-- After an append the rows own what they owned, or what is new. -/
theorem own4_2 (hat : x'.ownBlock = v2.ownBlock ∨ ∃ b, x'.ownBlock = some b ∧ W.heap.size ≤ b) (k : Nat) (hk : Own4 v1 x' v3 v4 k) : Own4 v1 v2 v3 v4 k ∨ W.heap.size ≤ k := by
 rcases hk with e | e | e | e
 ·
  exact .inl (.inl e)
 ·
  rcases hat with hat | ⟨b, hb, hl⟩
  ·
   exact .inl (.inr (.inl (e.trans hat)))
  ·
   exact .inr (by have := Option.some.inj (e.trans hb); omega)
 ·
  exact .inl (.inr (.inr (.inl e)))
 ·
  exact .inl (.inr (.inr (.inr e)))
theorem own4_1 (hat : x'.ownBlock = v1.ownBlock ∨ ∃ b, x'.ownBlock = some b ∧ W.heap.size ≤ b) (k : Nat) (hk : Own4 x' v2 v3 v4 k) : Own4 v1 v2 v3 v4 k ∨ W.heap.size ≤ k := by
 rcases hk with e | e | e | e
 ·
  rcases hat with hat | ⟨b, hb, hl⟩
  ·
   exact .inl (.inl (e.trans hat))
  ·
   exact .inr (by have := Option.some.inj (e.trans hb); omega)
 ·
  exact .inl (.inr (.inl e))
 ·
  exact .inl (.inr (.inr (.inl e)))
 ·
  exact .inl (.inr (.inr (.inr e)))
theorem own4_3 (hat : x'.ownBlock = v3.ownBlock ∨ ∃ b, x'.ownBlock = some b ∧ W.heap.size ≤ b) (k : Nat) (hk : Own4 v1 v2 x' v4 k) : Own4 v1 v2 v3 v4 k ∨ W.heap.size ≤ k := by
 rcases hk with e | e | e | e
 ·
  exact .inl (.inl e)
 ·
  exact .inl (.inr (.inl e))
 ·
  rcases hat with hat | ⟨b, hb, hl⟩
  ·
   exact .inl (.inr (.inr (.inl (e.trans hat))))
  ·
   exact .inr (by have := Option.some.inj (e.trans hb); omega)
 ·
  exact .inl (.inr (.inr (.inr e)))
theorem own4_4 (hat : x'.ownBlock = v4.ownBlock ∨ ∃ b, x'.ownBlock = some b ∧ W.heap.size ≤ b) (k : Nat) (hk : Own4 v1 v2 v3 x' k) : Own4 v1 v2 v3 v4 k ∨ W.heap.size ≤ k := by
 rcases hk with e | e | e | e
 ·
  exact .inl (.inl e)
 ·
  exact .inl (.inr (.inl e))
 ·
  exact .inl (.inr (.inr (.inl e)))
 ·
  rcases hat with hat | ⟨b, hb, hl⟩
  ·
   exact .inl (.inr (.inr (.inr (e.trans hat))))
  ·
   exact .inr (by have := Option.some.inj (e.trans hb); omega)
end
section
variable {α : Type} {d : Kd α} {e b : Nat} {W W1 : World} {v : Value} {xs : List α} {N N' : Nat → Prop} {ok : Nat → Prop}
/-- What lies apart from the blocks N stays where no others are written. -/
theorem R_kept (h : d.R e W b (fun k => ¬ N k) v xs) (hk : Kept W W1 N) : d.R e W1 b (fun k => ¬ N k) v xs := Kd.R_step h (fun k ho hl => hk.2 k hl ho)
theorem R_keptTo (h : d.R e W b (fun k => ¬ N k) v xs) (hk : Kept W W1 N) (hn : ∀ k, k < W.heap.size → N' k → N k) : d.R e W1 b (fun k => ¬ N' k) v xs :=
 Kd.R_mono (Kd.R_step (Kd.R_bound h) (fun k ho hl => hk.2 k hl ho.1)) (fun k hk' hN => hk'.1 (hn k hk'.2.2.1 hN))
/-- What was made in a call is apart from elder blocks. -/
theorem R_newN (h : d.R e W1 W.heap.size ok v xs) (hN : ∀ k, N k → k < W.heap.size) : d.R e W1 0 (fun k => ¬ N k) v xs :=
 Kd.R_lower (Kd.R_mono (Kd.R_bound h) (fun k hk hn => by have := hN k hn; have := hk.2.1; omega)) (Nat.zero_le _)
end
/-- The post of a function of spec's Auto that also hands on what it tells: e, w' out of w and the rows v1..v4. -/
def Post (w : World) (v1 v2 v3 v4 : Value) (n : Nat) (link : ByteArray) (l1 : List S39) (l2 : List ByteArray) (e : Ending) (w' : World) : Prop :=
 ∃ u1 u2 c' x1 x2 x3 x4 m1 m2 m3 m4, e = .returned (.tuple #[.agg #[.string link, u1, u2], .agg #[.int .i64 c', x1, x2, x3, x4]]) ∧ Rows4 w' x1 x2 x3 x4 m1 m2 m3 m4 ∧ (m1.length ≤ n ∧ m2.length ≤ n ∧ m3.length ≤ n ∧ m4.length ≤ n) ∧
  AR w' (fun k => ¬ Own4 x1 x2 x3 x4 k) u1 l1 ∧ SR w' (fun k => ¬ Own4 x1 x2 x3 x4 k) u2 l2 ∧ Kept w w' (Own4 v1 v2 v3 v4) ∧ Below 0 w w' ∧ ∀ k, k < w.heap.size → Own4 x1 x2 x3 x4 k → Own4 v1 v2 v3 v4 k
theorem cells_kept {w w' : World} {N : Nat → Prop} {g i : Nat} {v : Value} (h : w.cell? ⟨g, i, none⟩ = some v) (hk : Kept w w' N) (hn : ¬ N g) : w'.cell? ⟨g, i, none⟩ = some v := by
 have hl := World.block_lt_of_cell? w _ h
 have := hk.2 g hl hn
 simpa [World.cell?, this] using h
theorem load27 {p d : Nat} {a : Act} {w : World} {g : Nat} {x0 x1 x2 : Value} {s1 : String} {f1 : Array Edge} (hp : a.tmps[p]?.getD undef = .pointer (some ⟨g, 0, none⟩)) (h0 : w.cell? ⟨g, 0, none⟩ = some x0) (h1 : w.cell? ⟨g, 1, none⟩ = some x1) (h2 : w.cell? ⟨g, 2, none⟩ = some x2) : (execOp a.eval { dst := some d, op := .load 27 (.tmp p), type := 27, pos := s1, after := f1, guard := none }).run Try.prog w = .ok (.value (.agg #[x0, x1, x2])) w := by
 have hu27 := Try.underlying27
 go_simp
theorem load54 {p d : Nat} {a : Act} {w : World} {g : Nat} {x0 x1 x2 x3 x4 : Value} {s1 : String} {f1 : Array Edge} (hp : a.tmps[p]?.getD undef = .pointer (some ⟨g, 0, none⟩)) (h0 : w.cell? ⟨g, 0, none⟩ = some x0) (h1 : w.cell? ⟨g, 1, none⟩ = some x1) (h2 : w.cell? ⟨g, 2, none⟩ = some x2) (h3 : w.cell? ⟨g, 3, none⟩ = some x3) (h4 : w.cell? ⟨g, 4, none⟩ = some x4) : (execOp a.eval { dst := some d, op := .load 54 (.tmp p), type := 54, pos := s1, after := f1, guard := none }).run Try.prog w = .ok (.value (.agg #[x0, x1, x2, x3, x4])) w := by
 have hu54 := Try.underlying54
 go_simp
theorem store27 {p d : Nat} {a : Act} {w : World} {g : Nat} {s : ByteArray} {A1 A2 : Option Addr} {n1 n2 c1 c2 : Nat} {y0 y1 y2 : Value} {s1 : String} {f1 : Array Edge} (hp : a.tmps[p]?.getD undef = .pointer (some ⟨g, 0, none⟩)) (hd : a.tmps[d]?.getD undef = .agg #[.string s, .slice A1 n1 c1, .slice A2 n2 c2]) (b : w.heap[g]? = some (.cells #[y0, y1, y2] 27 (0, 0))) :
  ∃ w', (execOp a.eval { dst := none, op := .store 27 (.tmp p) (.tmp d), type := 0, pos := s1, after := f1, guard := none }).run Try.prog w = .ok .skip w' ∧ w'.heap[g]? = some (.cells #[.string s, .slice A1 n1 c1, .slice A2 n2 c2] 27 (0, 0)) ∧ Kept w w' (fun k => k = g) ∧ Below 0 w w' := by
 have hu27 := Try.underlying27
 have hc0 : w.cell? ⟨g, 0, none⟩ = some y0 := (blk_cell b 0).trans rfl
 have hc1 : w.cell? ⟨g, 1, none⟩ = some y1 := (blk_cell b 1).trans rfl
 have hc2 : w.cell? ⟨g, 2, none⟩ = some y2 := (blk_cell b 2).trans rfl
 have z0 := blk_frozen b 0
 have z1 := blk_frozen b 1
 have z2 := blk_frozen b 2
 refine ⟨(((w.setCell ⟨g, 0, none⟩ (.string s)).setCell ⟨g, 1, none⟩ (.slice A1 n1 c1)).setCell ⟨g, 2, none⟩ (.slice A2 n2 c2)), ?_, ?_, ?_, ?_⟩
 ·
  go_simp
 ·
  refine blk_put (cs := #[.string s, .slice A1 n1 c1, y2]) ?_ 2 _ rfl
  refine blk_put (cs := #[.string s, y1, y2]) ?_ 1 _ rfl
  refine blk_put (cs := #[y0, y1, y2]) ?_ 0 _ rfl
  exact b
 ·
  refine Kept.setCell ?_ (by exact Or.inl rfl) _; refine Kept.setCell ?_ (by exact Or.inl rfl) _; refine Kept.setCell ?_ (by exact Or.inl rfl) _; exact Kept.refl w _
 ·
  refine Below.setCell ?_ (Nat.zero_le _) _; refine Below.setCell ?_ (Nat.zero_le _) _; refine Below.setCell ?_ (Nat.zero_le _) _; exact Below.refl 0 w
theorem store54 {p d : Nat} {a : Act} {w : World} {g : Nat} {c : Int} {A1 A2 A3 A4 : Option Addr} {n1 n2 n3 n4 c1 c2 c3 c4 : Nat} {y0 y1 y2 y3 y4 : Value} {s1 : String} {f1 : Array Edge} (hp : a.tmps[p]?.getD undef = .pointer (some ⟨g, 0, none⟩)) (hd : a.tmps[d]?.getD undef = .agg #[.int .i64 c, .slice A1 n1 c1, .slice A2 n2 c2, .slice A3 n3 c3, .slice A4 n4 c4]) (b : w.heap[g]? = some (.cells #[y0, y1, y2, y3, y4] 54 (0, 0))) :
  ∃ w', (execOp a.eval { dst := none, op := .store 54 (.tmp p) (.tmp d), type := 0, pos := s1, after := f1, guard := none }).run Try.prog w = .ok .skip w' ∧ w'.heap[g]? = some (.cells #[.int .i64 c, .slice A1 n1 c1, .slice A2 n2 c2, .slice A3 n3 c3, .slice A4 n4 c4] 54 (0, 0)) ∧ Kept w w' (fun k => k = g) ∧ Below 0 w w' := by
 have hu54 := Try.underlying54
 have hc0 : w.cell? ⟨g, 0, none⟩ = some y0 := (blk_cell b 0).trans rfl
 have hc1 : w.cell? ⟨g, 1, none⟩ = some y1 := (blk_cell b 1).trans rfl
 have hc2 : w.cell? ⟨g, 2, none⟩ = some y2 := (blk_cell b 2).trans rfl
 have hc3 : w.cell? ⟨g, 3, none⟩ = some y3 := (blk_cell b 3).trans rfl
 have hc4 : w.cell? ⟨g, 4, none⟩ = some y4 := (blk_cell b 4).trans rfl
 have z0 := blk_frozen b 0
 have z1 := blk_frozen b 1
 have z2 := blk_frozen b 2
 have z3 := blk_frozen b 3
 have z4 := blk_frozen b 4
 refine ⟨(((((w.setCell ⟨g, 0, none⟩ (.int .i64 c)).setCell ⟨g, 1, none⟩ (.slice A1 n1 c1)).setCell ⟨g, 2, none⟩ (.slice A2 n2 c2)).setCell ⟨g, 3, none⟩ (.slice A3 n3 c3)).setCell ⟨g, 4, none⟩ (.slice A4 n4 c4)), ?_, ?_, ?_, ?_⟩
 ·
  go_simp
 ·
  refine blk_put (cs := #[.int .i64 c, .slice A1 n1 c1, .slice A2 n2 c2, .slice A3 n3 c3, y4]) ?_ 4 _ rfl
  refine blk_put (cs := #[.int .i64 c, .slice A1 n1 c1, .slice A2 n2 c2, y3, y4]) ?_ 3 _ rfl
  refine blk_put (cs := #[.int .i64 c, .slice A1 n1 c1, y2, y3, y4]) ?_ 2 _ rfl
  refine blk_put (cs := #[.int .i64 c, y1, y2, y3, y4]) ?_ 1 _ rfl
  refine blk_put (cs := #[y0, y1, y2, y3, y4]) ?_ 0 _ rfl
  exact b
 ·
  refine Kept.setCell ?_ (by exact Or.inl rfl) _; refine Kept.setCell ?_ (by exact Or.inl rfl) _; refine Kept.setCell ?_ (by exact Or.inl rfl) _; refine Kept.setCell ?_ (by exact Or.inl rfl) _; refine Kept.setCell ?_ (by exact Or.inl rfl) _; exact Kept.refl w _
 ·
  refine Below.setCell ?_ (Nat.zero_le _) _; refine Below.setCell ?_ (Nat.zero_le _) _; refine Below.setCell ?_ (Nat.zero_le _) _; refine Below.setCell ?_ (Nat.zero_le _) _; refine Below.setCell ?_ (Nat.zero_le _) _; exact Below.refl 0 w
theorem ret2 {id p q r s d1 d2 : Nat} {s1 s2 s3 s4 : String} {f1 f2 f3 f4 : Array Edge} {ops : Array Oper} {Q : Exit → Act → World → Prop} {a : Act} {w : World} {gA gO gR gS : Nat} {sl : ByteArray} {A1 A2 B1 B2 B3 B4 : Option Addr} {n1 n2 k1 k2 k3 k4 c1 c2 j1 j2 j3 j4 : Nat} {cd : Int} {z0 z1 z2 u0 u1 u2 u3 u4 : Value}
  (hops : ops = #[{ dst := some d1, op := .load 27 (.tmp p), type := 27, pos := s1, after := f1, guard := none }, { dst := some d2, op := .load 54 (.tmp q), type := 54, pos := s2, after := f2, guard := none }, { dst := none, op := .store 27 (.tmp r) (.tmp d1), type := 0, pos := s3, after := f3, guard := none }, { dst := none, op := .store 54 (.tmp s) (.tmp d2), type := 0, pos := s4, after := f4, guard := none }])
  (t0 : takeB .any ops [] #[false, false, false, false] #[true, false, false, false] 0 = true) (t1 : takeB .any ops [] #[true, false, false, false] #[true, true, false, false] 1 = true)
  (t2 : readyB .any ops #[true, true, false, false] #[true, true, true, false] 2 = true) (t3 : readyB .any ops #[true, true, true, false] #[true, true, true, true] 3 = true) (t4 : (Region.ready .any ops #[true, true, true, true] == []) = true)
  (hQ : ∀ c (a : Act) (d : Nat) v w, Q (.panic c) (a.put (some d) v) w → Q (.panic c) a w)
  (hp : a.tmps[p]?.getD undef = .pointer (some ⟨gA, 0, none⟩)) (hq : a.tmps[q]?.getD undef = .pointer (some ⟨gO, 0, none⟩)) (hr : a.tmps[r]?.getD undef = .pointer (some ⟨gR, 0, none⟩)) (hs : a.tmps[s]?.getD undef = .pointer (some ⟨gS, 0, none⟩))
  (l1 : d1 < a.tmps.size) (l2 : d2 < a.tmps.size) (e1 : d1 ≠ q ∧ d1 ≠ r ∧ d1 ≠ s ∧ d1 ≠ d2 ∧ d2 ≠ r ∧ d2 ≠ s)
  (bA : w.heap[gA]? = some (.cells #[.string sl, .slice A1 n1 c1, .slice A2 n2 c2] 27 (0, 0))) (bO : w.heap[gO]? = some (.cells #[.int .i64 cd, .slice B1 k1 j1, .slice B2 k2 j2, .slice B3 k3 j3, .slice B4 k4 j4] 54 (0, 0))) (bR : w.heap[gR]? = some (.cells #[z0, z1, z2] 27 (0, 0))) (bS : w.heap[gS]? = some (.cells #[u0, u1, u2, u3, u4] 54 (0, 0)))
  (nn : gR ≠ gA ∧ gR ≠ gO ∧ gS ≠ gA ∧ gS ≠ gO ∧ gR ≠ gS)
  (h : ∀ w', w'.heap[gR]? = some (.cells #[.string sl, .slice A1 n1 c1, .slice A2 n2 c2] 27 (0, 0)) → w'.heap[gS]? = some (.cells #[.int .i64 cd, .slice B1 k1 j1, .slice B2 k2 j2, .slice B3 k3 j3, .slice B4 k4 j4] 54 (0, 0)) → Kept w w' (fun k => k = gR ∨ k = gS) → Below 0 w w' → Q .normal ((a.put (some d1) (.agg #[.string sl, .slice A1 n1 c1, .slice A2 n2 c2])).put (some d2) (.agg #[.int .i64 cd, .slice B1 k1 j1, .slice B2 k2 j2, .slice B3 k3 j3, .slice B4 k4 j4])) w') :
  (Code.region id ops true).wp Try.prog Q a w := by
 obtain ⟨nRA, nRO, nSA, nSO, nRS⟩ := nn
 obtain ⟨e1q, e1r, e1s, e12, e2r, e2s⟩ := e1
 have hn : ops.size = 4 := by rw [hops]; rfl
 refine start_ (n := 4) (S := fun w' => w'.cell? ⟨gA, 0, none⟩ = some (.string sl) ∧ w'.cell? ⟨gA, 1, none⟩ = some (.slice A1 n1 c1) ∧ w'.cell? ⟨gA, 2, none⟩ = some (.slice A2 n2 c2) ∧ w'.cell? ⟨gO, 0, none⟩ = some (.int .i64 cd) ∧ w'.cell? ⟨gO, 1, none⟩ = some (.slice B1 k1 j1) ∧ w'.cell? ⟨gO, 2, none⟩ = some (.slice B2 k2 j2) ∧ w'.cell? ⟨gO, 3, none⟩ = some (.slice B3 k3 j3) ∧ w'.cell? ⟨gO, 4, none⟩ = some (.slice B4 k4 j4)) (ds := []) #[false, false, false, false] (by kernel_rfl) hn rfl
  ⟨(blk_cell bA 0).trans rfl, (blk_cell bA 1).trans rfl, (blk_cell bA 2).trans rfl, (blk_cell bO 0).trans rfl, (blk_cell bO 1).trans rfl, (blk_cell bO 2).trans rfl, (blk_cell bO 3).trans rfl, (blk_cell bO 4).trans rfl⟩ (fun hHeld => ?_)
 refine take_ (i := 0) (N := some d1) (v := .agg #[.string sl, .slice A1 n1 c1, .slice A2 n2 c2]) (a' := a.put (some d1) (.agg #[.string sl, .slice A1 n1 c1, .slice A2 n2 c2])) #[true, false, false, false] (by rw [hops]; rfl) rfl t0 (fun _ _ _ h => hQ _ _ _ _ _ h) (Or.inl ⟨by rfl, ?_⟩) hHeld rfl ?_
 ·
  rintro w' ⟨h0, h1, h2, _⟩
  exact load27 hp h0 h1 h2
 refine take_ (i := 1) (N := some d2) (v := .agg #[.int .i64 cd, .slice B1 k1 j1, .slice B2 k2 j2, .slice B3 k3 j3, .slice B4 k4 j4]) (a' := (a.put (some d1) (.agg #[.string sl, .slice A1 n1 c1, .slice A2 n2 c2])).put (some d2) (.agg #[.int .i64 cd, .slice B1 k1 j1, .slice B2 k2 j2, .slice B3 k3 j3, .slice B4 k4 j4])) #[true, true, false, false] (by rw [hops]; rfl) rfl t1 (fun _ _ _ h => hQ _ _ _ _ _ h) (Or.inl ⟨by rfl, ?_⟩) hHeld rfl ?_
 ·
  rintro w' ⟨_, _, _, h0, h1, h2, h3, h4⟩
  exact load54 (by simpa [Act.put, e1q] using hq) h0 h1 h2 h3 h4
 refine one_ (i := 2) (N := none) #[true, true, true, false] (by rw [hops]; rfl) rfl t2 (by simp) (fun K hK => ?_)
 obtain ⟨w1, hr1, b1, k1_, o1_⟩ := store27 (w := w.drew) (g := gR) (p := r) (d := d1) (s1 := s3) (f1 := f3) (a := (a.put (some d1) (.agg #[.string sl, .slice A1 n1 c1, .slice A2 n2 c2])).put (some d2) (.agg #[.int .i64 cd, .slice B1 k1 j1, .slice B2 k2 j2, .slice B3 k3 j3, .slice B4 k4 j4])) (s := sl) (A1 := A1) (n1 := n1) (c1 := c1) (A2 := A2) (n2 := n2) (c2 := c2) (by simpa [Act.put, e1r, e2r] using hr) (by simp [Act.put, e12, e12.symm, l1]) bR
 refine skip_ (w1 := w1) (by rw [hops]; rfl) rfl hr1 ?_
 have cA := fun i v (hc : w.drew.cell? ⟨gA, i, none⟩ = some v) => cells_kept hc k1_ (fun e => nRA e.symm)
 have cO := fun i v (hc : w.drew.cell? ⟨gO, i, none⟩ = some v) => cells_kept hc k1_ (fun e => nRO e.symm)
 obtain ⟨a0, a1, a2, q0, q1, q2, q3, q4⟩ := hHeld
 refine hK.out _ _ ⟨cA _ _ a0, cA _ _ a1, cA _ _ a2, cO _ _ q0, cO _ _ q1, cO _ _ q2, cO _ _ q3, cO _ _ q4⟩ (fun hHeld => ?_)
 clear hK K
 have bS1 : w1.heap[gS]? = some (.cells #[u0, u1, u2, u3, u4] 54 (0, 0)) := blk_kept (W := w.drew) bS k1_ (fun e => nRS e.symm)
 refine one_ (i := 3) (N := none) #[true, true, true, true] (by rw [hops]; rfl) rfl t3 (by simp) (fun K hK => ?_)
 obtain ⟨w2, hr2, b2, k2_, o2_⟩ := store54 (w := w1) (g := gS) (p := s) (d := d2) (s1 := s4) (f1 := f4) (a := (a.put (some d1) (.agg #[.string sl, .slice A1 n1 c1, .slice A2 n2 c2])).put (some d2) (.agg #[.int .i64 cd, .slice B1 k1 j1, .slice B2 k2 j2, .slice B3 k3 j3, .slice B4 k4 j4])) (c := cd) (A1 := B1) (n1 := k1) (c1 := j1) (A2 := B2) (n2 := k2) (c2 := j2) (A3 := B3) (n3 := k3) (c3 := j3) (A4 := B4) (n4 := k4) (c4 := j4) (by simpa [Act.put, e1s, e2s] using hs) (by simp [Act.put, l2]) bS1
 refine skip_ (w1 := w2) (by rw [hops]; rfl) rfl hr2 ?_
 have cA := fun i v (hc : w1.cell? ⟨gA, i, none⟩ = some v) => cells_kept hc k2_ (fun e => nSA e.symm)
 have cO := fun i v (hc : w1.cell? ⟨gO, i, none⟩ = some v) => cells_kept hc k2_ (fun e => nSO e.symm)
 obtain ⟨a0, a1, a2, q0, q1, q2, q3, q4⟩ := hHeld
 refine hK.out _ _ ⟨cA _ _ a0, cA _ _ a1, cA _ _ a2, cO _ _ q0, cO _ _ q1, cO _ _ q2, cO _ _ q3, cO _ _ q4⟩ (fun hHeld => ?_)
 refine done_ t4 ?_
 refine h w2 (blk_kept b1 k2_ nRS) b2 (((Kept.refl w _).drew.then_ k1_ (fun k hk => .inl (.inl hk))).then_ k2_ (fun k hk => .inl (.inr hk))) ?_
 exact (below_drew (Below.refl 0 w)).trans (o1_.trans o2_)
theorem at_world {P : Program} {C : Code} {Q : Exit → Act → World → Prop} {a : Act} {w : World} (h : ∀ W, W = w → C.wp P Q a W) : C.wp P Q a w := h _ rfl
theorem size_alloc (w : World) (o : Obj) : (w.alloc o).heap.size = w.heap.size + 1 := by show (w.heap.push o).size = _; simp
theorem boxes4 {w W : World} {o1 o2 o3 o4 : Obj} (h : W = (((w.alloc o1).alloc o2).alloc o3).alloc o4) : W.heap[w.heap.size]? = some o1 ∧ W.heap[w.heap.size + 1]? = some o2 ∧ W.heap[w.heap.size + 1 + 1]? = some o3 ∧ W.heap[w.heap.size + 1 + 1 + 1]? = some o4 ∧ Below w.heap.size w W ∧ W.heap.size = w.heap.size + 1 + 1 + 1 + 1 := by
 subst h
 refine ⟨blk_alloc (blk_alloc (blk_alloc (blk_new w o1) _) _) _, ?_, ?_, ?_, below_alloc (below_alloc (below_alloc (below_alloc (Below.refl _ _) _) _) _) _, by rw [size_alloc, size_alloc, size_alloc, size_alloc]⟩
 ·
  have := blk_new (w.alloc o1) o2
  rw [size_alloc] at this
  exact blk_alloc (blk_alloc this _) _
 ·
  have := blk_new ((w.alloc o1).alloc o2) o3
  rw [size_alloc, size_alloc] at this
  exact blk_alloc this _
 ·
  have := blk_new (((w.alloc o1).alloc o2).alloc o3) o4
  rw [size_alloc, size_alloc, size_alloc] at this
  exact this
theorem e39 : ∀ q, q ∈ (39 : Nat) :: k39.E → q = 39 := by
 intro q hq
 simpa [k39, Kd.iso, Kd.pair, Kd.string, Kd.int, Kd.scalar] using hq
theorem e9 : ∀ q, q ∈ (9 : Nat) :: Kd.string.E → q = 9 := by
 intro q hq
 simpa [Kd.string, Kd.scalar] using hq
theorem R_box2 {α : Type} {d : Kd α} {e b : Nat} {W w' : World} {ok : Nat → Prop} {v : Value} {xs : List α} {g1 g2 t1 t2 : Nat} {c1 c2 : Array Value} (h : d.R e W b ok v xs) (hE : ∀ q, q ∈ e :: d.E → q = e) (h1 : e ≠ t1) (h2 : e ≠ t2)
  (b1 : W.heap[g1]? = some (.cells c1 t1 (0, 0))) (b2 : W.heap[g2]? = some (.cells c2 t2 (0, 0))) (hk : Kept W w' (fun k => k = g1 ∨ k = g2)) : d.R e w' b ok v xs :=
 Kd.R_mono (Kd.R_step (Kd.R_types (Kd.R_types h b1 (fun q hq => by rw [hE q hq]; exact h1)) b2 (fun q hq => by rw [hE q hq]; exact h2)) (fun k ho hl => hk.2 k hl (fun hc => hc.elim ho.1.2 ho.2))) (fun k hk => hk.1.1)
theorem Rows4.box2 {W w' : World} {v1 v2 v3 v4 : Value} {m1 m2 m3 m4 : List ByteArray} {g1 g2 t1 t2 : Nat} {c1 c2 : Array Value} (h : Rows4 W v1 v2 v3 v4 m1 m2 m3 m4) (h1 : 9 ≠ t1) (h2 : 9 ≠ t2)
  (b1 : W.heap[g1]? = some (.cells c1 t1 (0, 0))) (b2 : W.heap[g2]? = some (.cells c2 t2 (0, 0))) (hk : Kept W w' (fun k => k = g1 ∨ k = g2)) : Rows4 w' v1 v2 v3 v4 m1 m2 m3 m4 :=
 ⟨R_box2 h.r1 e9 h1 h2 b1 b2 hk, R_box2 h.r2 e9 h1 h2 b1 b2 hk, R_box2 h.r3 e9 h1 h2 b1 b2 hk, R_box2 h.r4 e9 h1 h2 b1 b2 hk⟩
theorem post_done {w W w' : World} {v1 v2 v3 v4 x1 x2 x3 x4 u1 u2 : Value} {n : Nat} {cd : Int} {link : ByteArray} {l1 : List S39} {l2 m1 m2 m3 m4 : List ByteArray} {gR gS : Nat} {cR cS : Array Value}
  (ho : Rows4 W x1 x2 x3 x4 m1 m2 m3 m4) (hn : m1.length ≤ n ∧ m2.length ≤ n ∧ m3.length ≤ n ∧ m4.length ≤ n) (h1 : AR W (fun k => ¬ Own4 x1 x2 x3 x4 k) u1 l1) (h2 : SR W (fun k => ¬ Own4 x1 x2 x3 x4 k) u2 l2)
  (hk0 : Kept w W (Own4 v1 v2 v3 v4)) (hb0 : Below 0 w W) (hown : ∀ k, k < w.heap.size → Own4 x1 x2 x3 x4 k → Own4 v1 v2 v3 v4 k)
  (bR : W.heap[gR]? = some (.cells cR 27 (0, 0))) (bS : W.heap[gS]? = some (.cells cS 54 (0, 0))) (lR : w.heap.size ≤ gR) (lS : w.heap.size ≤ gS) (hk : Kept W w' (fun k => k = gR ∨ k = gS)) (hb : Below 0 W w') :
  Post w v1 v2 v3 v4 n link l1 l2 (.returned (.tuple #[.agg #[.string link, u1, u2], .agg #[.int .i64 cd, x1, x2, x3, x4]])) w' :=
 ⟨u1, u2, cd, x1, x2, x3, x4, m1, m2, m3, m4, rfl, ho.box2 (by decide) (by decide) bR bS hk, hn, R_box2 h1 e39 (by decide) (by decide) bR bS hk, R_box2 h2 e9 (by decide) (by decide) bR bS hk,
  hk0.then_ hk (fun k hk => .inr (by omega)), hb0.trans hb, hown⟩
/-- What a walk has of its boxes and rows where nothing but own boxes was written. -/
theorem kept_below {w W : World} {N : Nat → Prop} (hb : Below w.heap.size w W) : Kept w W N := Kept.of_below hb N
theorem below0 {w W : World} (hb : Below w.heap.size w W) : Below 0 w W := ⟨hb.os, hb.tape, hb.output, hb.size, fun k hk => absurd hk (Nat.not_lt_zero k)⟩
theorem at_then {K : Act → World → Prop} {Q : Exit → Act → World → Prop} {e : Exit} {a : Act} {w : World} (h : ∀ W, W = w → Exit.then K Q e a W) : Exit.then K Q e a w := h _ rfl
theorem SR_ok {W : World} {ok ok' : Nat → Prop} {v : Value} {m : List ByteArray} (h : SR W ok v m) (h' : ∀ k, v.ownBlock = some k → ok' k) : SR W ok' v m := ⟨h', h.2⟩
/-- Another row (none of the four) was written. -/
theorem Rows4.grown {W W1 : World} {v1 v2 v3 v4 : Value} {m1 m2 m3 m4 : List ByteArray} {row : Option Nat} (h : Rows4 W v1 v2 v3 v4 m1 m2 m3 m4) (hg : W.grownBy W1 row) (hn : ∀ k, row = some k → ¬ Own4 v1 v2 v3 v4 k) : Rows4 W1 v1 v2 v3 v4 m1 m2 m3 m4 := by
 have go : ∀ {ok : Nat → Prop} {v : Value} {m : List ByteArray}, SR W ok v m → (∀ k, v.ownBlock = some k → Own4 v1 v2 v3 v4 k) → SR W1 ok v m := fun hv ho =>
  Kd.R_mono (Kd.R_grown (SR_ok (ok' := fun k => _ ∧ some k ≠ row) hv (fun k hk => ⟨hv.1 k hk, fun e => hn k e.symm (ho k hk)⟩)) hg (fun k hk => hk.2)) (fun k hk => hk.1)
 exact ⟨go h.r1 (fun k hk => .inl hk.symm), go h.r2 (fun k hk => .inr (.inl hk.symm)), go h.r3 (fun k hk => .inr (.inr (.inl hk.symm))), go h.r4 (fun k hk => .inr (.inr (.inr hk.symm)))⟩
/-- What is apart from the four rows stays so where one of them was appended to. -/
theorem R_app {α : Type} {d : Kd α} {e b : Nat} {W W1 : World} {v x : Value} {xs : List α} {N N' : Nat → Prop} (h : d.R e W b (fun k => ¬ N k) v xs) (hg : W.grownBy W1 x.ownBlock) (hx : ∀ k, x.ownBlock = some k → N k) (hn : ∀ k, N' k → N k ∨ W.heap.size ≤ k) : d.R e W1 b (fun k => ¬ N' k) v xs :=
 Kd.R_mono (Kd.R_step (Kd.R_bound h) (fun k ho hl => hg.block k hl (fun e => ho.1 (hx k e.symm)))) (fun k hk hN => (hn k hN).elim hk.1 (fun hl => by have := hk.2.2.1; omega))
end Go.Proofs.Ytnpbnmhbajiefaa.PFnSources
