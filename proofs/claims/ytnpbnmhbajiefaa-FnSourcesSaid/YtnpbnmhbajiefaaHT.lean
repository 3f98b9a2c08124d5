/- spec.l14Tick, by hand. -/
import Derived.Test.YtnpbnmhbajiefaaHD
import Derived.Test.YtnpbnmhbajiefaaHL
namespace Go.Proofs.Ytnpbnmhbajiefaa.PFnSources
open Go.RowKit Go.Proofs.YtnpbnmhbajiefaaW.PrintWords Go.Proofs.YtnpbnmhbajiefaaW.PrintLast Go.Proofs.YtnpbnmhbajiefaaW.PrintMore
set_option linter.unusedVariables false
set_option linter.unusedSimpArgs false
attribute [local go_sem] max2_int min2_int max_two min_two max_three min_three max_four min_four
def tickE (y : S39) : S39 :=
 let p := if 1 < y.f4 then y.f4 - 1 else 0
 let l := if y.f1 = 1 then y.f2 - 1 else y.f2
 if l = 0 then ⟨y.f0, if p = 0 then 3 else 2, l, y.f3 - 1, p⟩ else ⟨y.f0, y.f1, l, y.f3 - 1, p⟩
def tickA : List S39 → List S39
 | [] => []
 | y :: r => if y.f3 - 1 = 0 then tickA r else tickE y :: tickA r
section
variable {y : S39} {l v p : Int} (hl : l = if y.f1 = 1 then y.f2 - 1 else y.f2) (hp : p = if 1 < y.f4 then y.f4 - 1 else 0) (hv : v = y.f3 - 1)
include hl hp hv
theorem tick_same (h : ¬ l = 0) : (⟨y.f0, y.f1, l, v, p⟩ : S39) = tickE y := by
 unfold tickE; dsimp only; rw [← hl, ← hp, ← hv, if_neg h]
theorem tick_old (h : l = 0) (h2 : p = 0) : (⟨y.f0, 3, l, v, p⟩ : S39) = tickE y := by
 unfold tickE; dsimp only; rw [← hl, ← hp, ← hv, if_pos h, if_pos h2]
theorem tick_good (h : l = 0) (h2 : ¬ p = 0) : (⟨y.f0, 2, l, v, p⟩ : S39) = tickE y := by
 unfold tickE; dsimp only; rw [← hl, ← hp, ← hv, if_pos h, if_neg h2]
end
theorem tickA_app : ∀ a b : List S39, tickA (a ++ b) = tickA a ++ tickA b
 | [], b => rfl
 | y :: r, b => by
  by_cases h : y.f3 - 1 = 0
  ·
   rw [List.cons_append, tickA, if_pos h, tickA, if_pos h, tickA_app r b]
  ·
   rw [List.cons_append, tickA, if_neg h, tickA, if_neg h, tickA_app r b]; rfl
theorem tickA_take (l : List S39) (i : Nat) (h : i < l.length) : tickA (l.take (i + 1)) = tickA (l.take i) ++ tickA [l.getD i z39] := by
 rw [List.take_succ_eq_append_getElem h, tickA_app, List.getD_eq_getElem?_getD, List.getElem?_eq_getElem h]; rfl
theorem tickA_len : ∀ l : List S39, (tickA l).length ≤ l.length
 | [] => Nat.le_refl _
 | y :: r => by
  have := tickA_len r
  unfold tickA
  split
  ·
   simp; omega
  ·
   simp; omega
/-- What the loop of l14Tick keeps; E: a box that is apart. -/
structure TI (w W : World) (N E : Nat → Prop) (g0 g1 g2 g3 g4 : Nat) (b0 : Array Value) (link : ByteArray) (cd : Int) (x1 x2 x3 x4 u1 u2 a1 : Value) (l1 L1 : List S39) (l2 m1 m2 m3 m4 : List ByteArray) : Prop where
 hx : HS w W N [(g4, #[.string link, u1, u2], 27), (g0, b0, 27), (g1, #[.int .i64 cd, x1, x2, x3, x4], 54), (g2, #[.string ⟨#[]⟩, .slice none 0 0, .slice none 0 0], 27), (g3, #[.int .i64 0, .slice none 0 0, .slice none 0 0, .slice none 0 0, .slice none 0 0], 54)]
 hr : Rows4 W x1 x2 x3 x4 m1 m2 m3 m4
 hu1 : AR W (fun k => ¬ Own4 x1 x2 x3 x4 k ∧ ¬ E k) u1 L1
 hu2 : SR W (fun k => ¬ Own4 x1 x2 x3 x4 k) u2 l2
 ha : AR W (fun k => ¬ Own4 x1 x2 x3 x4 k ∧ k < w.heap.size) a1 l1
 ow : ∀ k, k < w.heap.size → Own4 x1 x2 x3 x4 k → N k
 nb : ∀ k, u1.ownBlock = some k → w.heap.size ≤ k
section
variable {w W W1 : World} {N E : Nat → Prop} {g0 g1 g2 g3 g4 g5 : Nat} {b0 cs : Array Value} {link : ByteArray} {cd : Int} {x1 x2 x3 x4 u1 u2 a1 x' : Value} {l1 L1 L' : List S39} {l2 m1 m2 m3 m4 m' : List ByteArray}
theorem TI.enter (h : TI w W N (fun _ => False) g0 g1 g2 g3 g4 b0 link cd x1 x2 x3 x4 u1 u2 a1 l1 L1 l2 m1 m2 m3 m4) (hb : Below W.heap.size W W1) (hg : W.heap.size ≤ g5) : TI w W1 N (fun k => k = g5) g0 g1 g2 g3 g4 b0 link cd x1 x2 x3 x4 u1 u2 a1 l1 L1 l2 m1 m2 m3 m4 :=
 ⟨h.hx.below hb, h.hr.below hb, Kd.R_below (Kd.R_mono (Kd.R_bound h.hu1) (fun k hk => ⟨hk.1.1, fun e => by have := hk.2.2.1; omega⟩)) hb, Kd.R_below h.hu2 hb, Kd.R_below h.ha hb, h.ow, h.nb⟩
theorem TI.leave (h : TI w W N E g0 g1 g2 g3 g4 b0 link cd x1 x2 x3 x4 u1 u2 a1 l1 L1 l2 m1 m2 m3 m4) : TI w W N (fun _ => False) g0 g1 g2 g3 g4 b0 link cd x1 x2 x3 x4 u1 u2 a1 l1 L1 l2 m1 m2 m3 m4 :=
 ⟨h.hx, h.hr, Kd.R_mono h.hu1 (fun k hk => ⟨hk.1, fun e => e⟩), h.hu2, h.ha, h.ow, h.nb⟩
theorem nel5 (e : Nat) (h1 : e ≠ 27) (h2 : e ≠ 54) {c0 c1 c2 c3 c4 : Array Value} : ∀ p ∈ ([(g4, c4, 27), (g0, c0, 27), (g1, c1, 54), (g2, c2, 27), (g3, c3, 54)] : List (Nat × Array Value × Nat)), e ≠ p.2.2 := by
 simp only [List.mem_cons, List.not_mem_nil, or_false]
 rintro p (rfl | rfl | rfl | rfl | rfl) <;> assumption
theorem TI.putx (h : TI w W N (fun k => k = g5) g0 g1 g2 g3 g4 b0 link cd x1 x2 x3 x4 u1 u2 a1 l1 L1 l2 m1 m2 m3 m4) (hq : W.heap[g5]? = some (.cells cs 39 (0, 0))) (hg : w.heap.size ≤ g5) (j : Nat) (u : Value) : TI w (W.setCell ⟨g5, j, none⟩ u) N (fun k => k = g5) g0 g1 g2 g3 g4 b0 link cd x1 x2 x3 x4 u1 u2 a1 l1 L1 l2 m1 m2 m3 m4 :=
 ⟨h.hx.put hq hg (nel5 39 (by decide) (by decide)) j u, h.hr.set hq (by decide) j u, Kd.R_far (p := ⟨g5, j, none⟩) h.hu1 (fun k hk => hk.2) u, Kd.R_set h.hu2 hq (fun q hq => by rw [e9 q hq]; decide) j u, Kd.R_far (p := ⟨g5, j, none⟩) h.ha (fun k hk e => by have := hk.2; show False; have e' : k = g5 := e; omega) u, h.ow, h.nb⟩
theorem TI.gone (h : TI w W N E g0 g1 g2 g3 g4 b0 link cd x1 x2 x3 x4 u1 u2 a1 l1 L1 l2 m1 m2 m3 m4) (ho : SR W1 (fun k => some k ≠ x1.ownBlock ∧ some k ≠ x3.ownBlock ∧ some k ≠ x4.ownBlock) x' m') (hg : W.grownBy W1 x2.ownBlock) (hat : x'.ownBlock = x2.ownBlock ∨ ∃ b, x'.ownBlock = some b ∧ W.heap.size ≤ b) :
  TI w (W1.setCell ⟨g1, 2, none⟩ x') N E g0 g1 g2 g3 g4 b0 link cd x1 x' x3 x4 u1 u2 a1 l1 L1 l2 m1 m' m3 m4 := by
 have hx := h.hx.app h.hr.r2 (nel5 9 (by decide) (by decide)) hg (fun k hk => by
  rcases Nat.lt_or_ge k w.heap.size with hl | hl
  ·
   exact .inl (h.ow k hl (.inr (.inl hk.symm)))
  ·
   exact .inr hl)
 have hat2 := hx.at 2 rfl
 have hl := h.hx.kept.1
 refine ⟨hx.set (P := [_, _]) 2 x' rfl, (h.hr.app2 ho hg hat).set hat2 (by decide) 2 x', ?_, ?_, ?_, fun k hl' hk => (own4_2 hat k hk).elim (fun q => h.ow k hl' q) (fun q => absurd hl' (by omega)), h.nb⟩
 ·
  exact Kd.R_set (Kd.R_mono (Kd.R_step (Kd.R_bound h.hu1) (fun k ho' _ => hg.block k ho'.2.2.1 (fun e => ho'.1.1 (.inr (.inl e))))) (fun k hk => ⟨fun hN => (own4_2 hat k hN).elim hk.1.1 (fun q => by have := hk.2.2.1; omega), hk.1.2⟩)) hat2 (fun q hq => by rw [e39 q hq]; decide) 2 x'
 ·
  exact Kd.R_set (R_app (x := x2) (N' := Own4 x1 x' x3 x4) h.hu2 hg (fun k hk => .inr (.inl hk.symm)) (fun k hk => own4_2 hat k hk)) hat2 (fun q hq => by rw [e9 q hq]; decide) 2 x'
 ·
  exact Kd.R_set (Kd.R_mono (Kd.R_step (Kd.R_bound h.ha) (fun k ho' _ => hg.block k ho'.2.2.1 (fun e => ho'.1.1 (.inr (.inl e))))) (fun k hk => ⟨fun hN => (own4_2 hat k hN).elim hk.1.1 (fun q => by have := hk.2.2.1; omega), hk.1.2⟩)) hat2 (fun q hq => by rw [e39 q hq]; decide) 2 x'
theorem TI.stays (h : TI w W N (fun k => k = g5) g0 g1 g2 g3 g4 b0 link cd x1 x2 x3 x4 u1 u2 a1 l1 L1 l2 m1 m2 m3 m4) (ho : AR W1 (fun k => ¬ Own4 x1 x2 x3 x4 k ∧ ¬ k = g5) x' L') (hg : W.grownBy W1 u1.ownBlock) (hat : x'.ownBlock = u1.ownBlock ∨ ∃ b, x'.ownBlock = some b ∧ W.heap.size ≤ b) :
  TI w (W1.setCell ⟨g4, 1, none⟩ x') N (fun k => k = g5) g0 g1 g2 g3 g4 b0 link cd x1 x2 x3 x4 x' u2 a1 l1 L' l2 m1 m2 m3 m4 := by
 have hx := h.hx.app h.hu1 (nel5 39 (by decide) (by decide)) hg (fun k hk => .inr (h.nb k hk))
 have hat2 := hx.at 0 rfl
 have hl := h.hx.kept.1
 exact ⟨hx.set (P := []) 1 x' rfl, (h.hr.grown hg (fun k hk hN => (h.hu1.1 k hk).1 hN)).set hat2 (by decide) 1 x', Kd.R_set ho hat2 (fun q hq => by rw [e39 q hq]; decide) 1 x', Kd.R_set (Kd.R_over h.hu2 h.hu1 (fun q hq => by rw [e9 q hq]; decide) hg) hat2 (fun q hq => by rw [e9 q hq]; decide) 1 x',
  Kd.R_set (Kd.R_grown h.ha hg (fun k hk e => by have := h.nb k e.symm; have := hk.2; omega)) hat2 (fun q hq => by rw [e39 q hq]; decide) 1 x', h.ow, fun k hk => by
   rcases hat with e | ⟨b, e, hl'⟩
   ·
    exact h.nb k (by rw [← e]; exact hk)
   ·
    rw [e] at hk; cases hk; omega⟩
theorem TI.begin (h : HS w W N [(g4, #[.string ⟨#[]⟩, .slice none 0 0, .slice none 0 0], 27), (g0, b0, 27), (g1, #[.int .i64 cd, x1, x2, x3, x4], 54), (g2, #[.string ⟨#[]⟩, .slice none 0 0, .slice none 0 0], 27), (g3, #[.int .i64 0, .slice none 0 0, .slice none 0 0, .slice none 0 0, .slice none 0 0], 54)]) (hr : Rows4 W x1 x2 x3 x4 m1 m2 m3 m4) (ha : AR W (fun k => ¬ Own4 x1 x2 x3 x4 k ∧ k < w.heap.size) a1 l1) (hu2 : SR W (fun k => ¬ Own4 x1 x2 x3 x4 k) u2 l2) (ow : ∀ k, k < w.heap.size → Own4 x1 x2 x3 x4 k → N k) :
  TI w (((W.setCell ⟨g4, 0, none⟩ (.string link)).setCell ⟨g4, 1, none⟩ (.slice none 0 0)).setCell ⟨g4, 2, none⟩ u2) N (fun _ => False) g0 g1 g2 g3 g4 b0 link cd x1 x2 x3 x4 (.slice none 0 0) u2 a1 l1 [] l2 m1 m2 m3 m4 := by
 have h1 := h.set (P := []) 0 (.string link) rfl
 have h2 := h1.set (P := []) 1 (.slice none 0 0) rfl
 have h3 := h2.set (P := []) 2 u2 rfl
 have q0 := h.at 0 rfl
 have q1 := h1.at 0 rfl
 have q2 := h2.at 0 rfl
 have t39 : ∀ q, q ∈ (39 : Nat) :: k39.E → q ≠ 27 := fun q hq => by rw [e39 q hq]; decide
 have t9 : ∀ q, q ∈ (9 : Nat) :: Kd.string.E → q ≠ 27 := fun q hq => by rw [e9 q hq]; decide
 exact ⟨h3, ((hr.set q0 (by decide) 0 _).set q1 (by decide) 1 _).set q2 (by decide) 2 _, Kd.R_nil _ _ _ _ _, Kd.R_set (Kd.R_set (Kd.R_set hu2 q0 t9 0 _) q1 t9 1 _) q2 t9 2 _, Kd.R_set (Kd.R_set (Kd.R_set ha q0 t39 0 _) q1 t39 1 _) q2 t39 2 _, ow, fun k hk => by simp [Value.ownBlock] at hk⟩
end
def spec_l14Tick.T1 : Bool × List (List Nat × List Nat) := (true, [([], []), ([0], [0]), ([], []), ([], []), ([3], [3]), ([2, 4], [2, 4]), ([1, 5], [1, 5]), ([], []), ([7, 6, 5, 0, 1, 2, 3, 4, 5, 6, 7], [6, 7])])
def spec_l14Tick.B1 : List Nat := [0, 1, 0, 0, 8, 28, 63, 0, 255]
theorem spec_l14Tick.tab1 : rtab .any (opsOf Try.f48 1) = spec_l14Tick.T1 := by kernel_rfl
theorem spec_l14Tick.bits1 : waitsOk spec_l14Tick.T1.2 spec_l14Tick.B1 = true := by kernel_rfl
set_option maxHeartbeats 8000000 in
set_option maxRecDepth 100000 in
theorem tick_calls (link : ByteArray) (A1 A2 B1 B2 B3 B4 : Option Addr) (c1 c2 d1 d2 d3 d4 : Nat) (n1 n2 n3 n4 : Nat) (l1 : List S39) (l2 m1 m2 m3 m4 : List ByteArray) (cd : Int) (w : World) (hl1 : l1.length ≤ 1000) (hl2 : l2.length ≤ 1000) (hy : ∀ y ∈ l1, 0 ≤ y.f2 ∧ y.f2 ≤ 1000 ∧ 1 ≤ y.f3 ∧ y.f3 ≤ 1000000 ∧ 0 ≤ y.f4 ∧ y.f4 ≤ 1000000)
  (n : Nat) (hn : m1.length ≤ n ∧ m2.length ≤ n ∧ m3.length ≤ n ∧ m4.length ≤ n) (hn2 : n ≤ 10000000) (hr : Rows4 w (.slice B1 n1 d1) (.slice B2 n2 d2) (.slice B3 n3 d3) (.slice B4 n4 d4) m1 m2 m3 m4) (ha : AR w (fun k => ¬ Own4 (.slice B1 n1 d1) (.slice B2 n2 d2) (.slice B3 n3 d3) (.slice B4 n4 d4) k) (.slice A1 l1.length c1) l1) (hb : SR w (fun k => ¬ Own4 (.slice B1 n1 d1) (.slice B2 n2 d2) (.slice B3 n3 d3) (.slice B4 n4 d4) k) (.slice A2 l2.length c2) l2) (LT : List S39) (hlt_ : LT = tickA l1) :
  Calls Try.prog 48 #[.agg #[.string link, .slice A1 l1.length c1, .slice A2 l2.length c2], .agg #[.int .i64 cd, .slice B1 n1 d1, .slice B2 n2 d2, .slice B3 n3 d3, .slice B4 n4 d4]] w (Post w (.slice B1 n1 d1) (.slice B2 n2 d2) (.slice B3 n3 d3) (.slice B4 n4 d4) (n + l1.length) link LT l2) := by
 have hu27 := Try.underlying27
 have hu54 := Try.underlying54
 have hu39 := Try.underlying39
 have HL := Aside0.mk (And.intro hl1 (And.intro hl2 hn2))
 have HY := Aside0.mk hy
 have HLT := Aside0.mk hlt_
 have HB := Aside0.mk hn
 have HR := Aside0.mk hr
 have HA := Aside0.mk ha
 have HQ := Aside0.mk hb
 clear hl1 hl2 hn hn2 hr ha hb hlt_ hy
 obtain ⟨N, hN⟩ : ∃ N, N = Own4 (.slice B1 n1 d1) (.slice B2 n2 d2) (.slice B3 n3 d3) (.slice B4 n4 d4) := ⟨_, rfl⟩
 have HN := Aside0.mk hN
 clear hN
 go_enter Try.func48, Try.ntmps48
 go_upto_region 1 with (fail)
 refine at_world (fun W hW => ?_)
 obtain ⟨q0, q1, q2, q3, qb, qz⟩ := boxes4 hW
 clear hW
 obtain ⟨g0, e0⟩ : ∃ g, g = w.heap.size := ⟨_, rfl⟩
 obtain ⟨g1, e1⟩ : ∃ g, g = w.heap.size + 1 := ⟨_, rfl⟩
 obtain ⟨g2, e2⟩ : ∃ g, g = w.heap.size + 1 + 1 := ⟨_, rfl⟩
 obtain ⟨g3, e3⟩ : ∃ g, g = w.heap.size + 1 + 1 + 1 := ⟨_, rfl⟩
 simp only [← e3]; simp only [← e2]; simp only [← e1]; simp only [← e0]
 rw [← e3] at q3; rw [← e2] at q2; rw [← e1] at q1; rw [← e0] at q0
 have HX := Aside0.mk (HS.start4 (N := N) qb q0 q1 q2 q3 (by omega))
 replace HR := Aside0.mk (HR.out.below qb)
 replace HA := Aside0.mk (Kd.R_below (Kd.R_mono (Kd.R_bound HA.out) (fun k hk => (⟨hk.1, hk.2.2.1⟩ : _ ∧ k < w.heap.size))) qb)
 replace HQ := Aside0.mk (Kd.R_below HQ.out qb)
 clear q0 q1 q2 q3 qb qz e0 e1 e2 e3
 have c_0 := HX.out.cell 0 rfl 0 rfl; have c_2 := HX.out.cell 0 rfl 2 rfl
 refine start_ (n := 9) (S := fun w' => w'.cell? ⟨g0, 0, none⟩ = some (.string link) ∧ w'.cell? ⟨g0, 2, none⟩ = some (.slice A2 l2.length c2)) (ds := []) #[false, false, false, false, false, false, false, false, false] (by kernel_rfl) rfl rfl ⟨c_0, c_2⟩ (fun hHeld => ?_); refine with_tabW spec_l14Tick.tab1 spec_l14Tick.bits1 (fun HT_ HW_ => ?_)
 clear c_0 c_2
 replace HX := Aside0.mk HX.out.drew
 replace HR := Aside0.mk (HR.out.below (below_drew1 (Below.refl _ _)))
 replace HA := Aside0.mk (Kd.R_drew HA.out)
 replace HQ := Aside0.mk (Kd.R_drew HQ.out)
 generalize World.drew _ = w3 at HX HR HA HQ hHeld ⊢
 refine pure_ (i := 0) (N := some 9) (v := ?_) (a' := ?_) #[true, false, false, false, false, false, false, false, false] rfl rfl (any_of HT_.out (by kernel_rfl)) (fun _ _ _ h => h) (Or.inl ⟨by rfl, ?_⟩) ?_ ?_
 rotate_left
 ·
  intro w'
  go_simp
  with_reducible rfl
 rotate_left
 ·
  simp only [Act.put, pq]
  rfl
 refine pure_ (i := 3) (N := some 12) (v := ?_) (a' := ?_) #[true, false, false, true, false, false, false, false, false] rfl rfl (any_of HT_.out (by kernel_rfl)) (fun _ _ _ h => h) (Or.inl ⟨by rfl, ?_⟩) ?_ ?_
 rotate_left
 ·
  intro w'
  go_simp
  with_reducible rfl
 rotate_left
 ·
  simp only [Act.put, pq]
  rfl
 refine take_ (i := 1) (N := some 10) (v := ?_) (a' := ?_) #[true, true, false, true, false, false, false, false, false] rfl rfl (take_ofW HT_.out HW_.out (by kernel_rfl)) (fun _ _ _ h => h) (Or.inl ⟨by rfl, ?_⟩) hHeld ?_ ?_
 rotate_left
 ·
  rintro w' ⟨s0, s1⟩
  go_simp
  with_reducible rfl
 rotate_left
 ·
  simp only [Act.put, pq]
  rfl
 refine take_ (i := 4) (N := some 13) (v := ?_) (a' := ?_) #[true, true, false, true, true, false, false, false, false] rfl rfl (take_ofW HT_.out HW_.out (by kernel_rfl)) (fun _ _ _ h => h) (Or.inl ⟨by rfl, ?_⟩) hHeld ?_ ?_
 rotate_left
 ·
  rintro w' ⟨s0, s1⟩
  go_simp
  with_reducible rfl
 rotate_left
 ·
  simp only [Act.put, pq]
  rfl
 refine join_ (σ := Value × Value × Nat) 1 #[true, true, true, true, true, true, true, true, false] (fun s_ => [(11, s_.1), (14, s_.2.1), (6, .pointer (some ⟨s_.2.2, 0, none⟩)), (15, .agg #[.string link, .slice none 0 0, s_.2.1])]) (fun s_ w' => (w'.cell? ⟨g0, 0, none⟩ = some (.string link) ∧ w'.cell? ⟨g0, 2, none⟩ = some (.slice A2 l2.length c2)) ∧ Below w3.heap.size w3 w' ∧ Kd.R Kd.string 9 w' w3.heap.size (fun _ => True) s_.2.1 l2 ∧ w'.heap[s_.2.2]? = some (.cells #[.string ⟨#[]⟩, .slice none 0 0, .slice none 0 0] 27 (0, 0)) ∧ w3.heap.size ≤ s_.2.2) ?_ ?_
 rotate_left
 ·
  intro hCont
  refine two_ (i := 2) (j := 7) (Ni := some 11) (Nj := some 6) #[true, true, true, true, true, false, false, false, false] #[true, true, false, true, true, false, false, true, false] rfl rfl rfl rfl (two_of HT_.out (by kernel_rfl)) (by decide) (by decide) (fun K hK => ?_) (fun K hK => ?_)
  ·
   have HBB := Below.refl w3.heap.size w3
   refine Kd.R_lit_step Kd.string (w0 := w3) w3.heap.size 9 ?hg (N := 11) ?hd (xs := ([] : List ByteArray)) (inner := []) (ok := fun _ => True) (okp := fun _ => True) ?hr ?hp (fun _ hk => hk) trivial HBB ?hs (by simp) ?_; (case hd => rfl); (case hg => rfl); (case hr => (go_simp; done)); (case hp => exact (Reps.none _ _)); (case hs => exact HBB.size)
   intro y1 z1 hy1 hb1 hg1_ hn1_
   clear hg1_ hn1_
   clear HBB
   refine hK.out _ _ ⟨(blk_cell (blk_below (HX.out.at 0 rfl) hb1) 0).trans rfl, (blk_cell (blk_below (HX.out.at 0 rfl) hb1) 2).trans rfl⟩ (fun hHeld => ?_)
   clear hK K
   refine norm_ (a' := ?_) ?_ ?_
   rotate_left
   ·
    show Act.put _ (some 11) _ = _
    simp only [Act.put, pq]
    rfl
   refine two_ (i := 5) (j := 7) (Ni := some 14) (Nj := some 6) #[true, true, true, true, true, true, false, false, false] #[true, true, true, true, true, false, false, true, false] rfl rfl rfl rfl (two_of HT_.out (by kernel_rfl)) (by decide) (by decide) (fun K hK => ?_) (fun K hK => ?_)
   ·
    refine Kd.R_append_rows_step Kd.string (w0 := w3) w3.heap.size (by rfl) (.tmp 11) (.tmp 13) 25 9 (.string ⟨#[]⟩) 16 rfl Try.underlying25 info9 rfl (by decide) (by omega) y1 [] l2 _ _ _ (fun _ => True) (fun _ => False) rfl rfl hy1 (Kd.C_below (w := w3) (Kd.R_reads' HQ.out).2.2 hb1) (fun _ _ h => h) (fun _ h => h.elim) (fun _ _ => trivial) hb1 hb1.size (by have := HL.out.2.1; simp only [List.length_nil]; omega) ?_
    intro y2 z2 hy2 hb2 hg2 hn2_
    rw [List.nil_append] at hy2
    obtain ⟨Y2, k2, rfl⟩ := Kd.R_slice hy2
    clear hy1
    refine hK.out _ _ ⟨(blk_cell (blk_below (HX.out.at 0 rfl) hb2) 0).trans rfl, (blk_cell (blk_below (HX.out.at 0 rfl) hb2) 2).trans rfl⟩ (fun hHeld => ?_)
    clear hK K
    refine norm_ (a' := ?_) ?_ ?_
    rotate_left
    ·
     show Act.put _ (some 14) _ = _
     simp only [Act.put, pq]
     rfl
    refine pure_ (i := 6) (N := some 15) (v := ?_) (a' := ?_) #[true, true, true, true, true, true, true, false, false] rfl rfl (any_of HT_.out (by kernel_rfl)) (fun _ _ _ h => h) (Or.inl ⟨by rfl, ?_⟩) ?_ ?_
    rotate_left
    ·
     intro w'
     go_simp
     with_reducible rfl
    rotate_left
    ·
     simp only [Act.put, pq]
     rfl
    refine one_ (i := 7) (N := some 6) #[true, true, true, true, true, true, true, true, false] rfl rfl (one_of HT_.out (by kernel_rfl)) (by decide) (fun K hK => ?_)
    refine box_step ?hg (N := 6) ?hd (cs := #[.string (⟨#[]⟩ : ByteArray), .slice none 0 0, .slice none 0 0]) (t := 27) ?hr ?_; (case hd => rfl); (case hg => rfl); (case hr => (go_simp; done))
    intro gb hgb z3 hbx hb3
    have hb4 := below_then hb2 hb2.size hb3
    refine hK.out _ _ ⟨(blk_cell (blk_below (HX.out.at 0 rfl) hb4) 0).trans rfl, (blk_cell (blk_below (HX.out.at 0 rfl) hb4) 2).trans rfl⟩ (fun hHeld => ?_)
    clear hK K
    refine norm_ (a' := ?_) ?_ ?_
    rotate_left
    ·
     show Act.put _ (some 6) _ = _
     simp only [Act.put, pq]
     rfl
    exact norm_ (by simp only [putAll, Act.put, pq]) (hCont (y1, .slice Y2 l2.length k2, gb) _ ⟨hHeld, hb4, Kd.R_below hy2 hb3, hbx, by rw [hgb]; exact hb2.size⟩)
   ·
    refine box_step ?hg (N := 6) ?hd (cs := #[.string (⟨#[]⟩ : ByteArray), .slice none 0 0, .slice none 0 0]) (t := 27) ?hr ?_; (case hd => rfl); (case hg => rfl); (case hr => (go_simp; done))
    intro gb hgb z3 hbx hb3
    have hb4 := below_then hb1 hb1.size hb3
    have hy3 := Kd.R_below hy1 hb3
    clear hy1
    refine hK.out _ _ ⟨(blk_cell (blk_below (HX.out.at 0 rfl) hb4) 0).trans rfl, (blk_cell (blk_below (HX.out.at 0 rfl) hb4) 2).trans rfl⟩ (fun hHeld => ?_)
    clear hK K
    refine norm_ (a' := ?_) ?_ ?_
    rotate_left
    ·
     show Act.put _ (some 6) _ = _
     simp only [Act.put, pq]
     rfl
    refine one_ (i := 5) (N := some 14) #[true, true, true, true, true, true, false, true, false] rfl rfl (one_of HT_.out (by kernel_rfl)) (by decide) (fun K hK => ?_)
    refine Kd.R_append_rows_step Kd.string (w0 := w3) w3.heap.size (by rfl) (.tmp 11) (.tmp 13) 25 9 (.string ⟨#[]⟩) 16 rfl Try.underlying25 info9 rfl (by decide) (by omega) y1 [] l2 _ _ _ (fun _ => True) (fun _ => False) rfl rfl hy3 (Kd.C_below (w := w3) (Kd.R_reads' HQ.out).2.2 hb4) (fun _ _ h => h) (fun _ h => h.elim) (fun _ _ => trivial) hb4 hb4.size (by have := HL.out.2.1; simp only [List.length_nil]; omega) ?_
    intro y2 z2 hy2 hb2 hg2 hn2_
    rw [List.nil_append] at hy2
    obtain ⟨Y2, k2, rfl⟩ := Kd.R_slice hy2
    refine hK.out _ _ ⟨(blk_cell (blk_below (HX.out.at 0 rfl) hb2) 0).trans rfl, (blk_cell (blk_below (HX.out.at 0 rfl) hb2) 2).trans rfl⟩ (fun hHeld => ?_)
    clear hK K
    refine norm_ (a' := ?_) ?_ ?_
    rotate_left
    ·
     show Act.put _ (some 14) _ = _
     simp only [Act.put, pq]
     rfl
    refine pure_ (i := 6) (N := some 15) (v := ?_) (a' := ?_) #[true, true, true, true, true, true, true, true, false] rfl rfl (any_of HT_.out (by kernel_rfl)) (fun _ _ _ h => h) (Or.inl ⟨by rfl, ?_⟩) ?_ ?_
    rotate_left
    ·
     intro w'
     go_simp
     with_reducible rfl
    rotate_left
    ·
     simp only [Act.put, pq]
     rfl
    exact norm_ (by simp only [putAll, Act.put, pq]) (hCont (y1, .slice Y2 l2.length k2, gb) _ ⟨hHeld, hb2, hy2, blk_grown hbx hg2 (Kd.R_ne hy3 hbx (by decide)), by rw [hgb]; exact hb1.size⟩)
  ·
   refine box_step ?hg (N := 6) ?hd (cs := #[.string (⟨#[]⟩ : ByteArray), .slice none 0 0, .slice none 0 0]) (t := 27) ?hr ?_; (case hd => rfl); (case hg => rfl); (case hr => (go_simp; done))
   intro gb hgb z3 hbx hb3
   refine hK.out _ _ ⟨(blk_cell (blk_below (HX.out.at 0 rfl) hb3) 0).trans rfl, (blk_cell (blk_below (HX.out.at 0 rfl) hb3) 2).trans rfl⟩ (fun hHeld => ?_)
   clear hK K
   refine norm_ (a' := ?_) ?_ ?_
   rotate_left
   ·
    show Act.put _ (some 6) _ = _
    simp only [Act.put, pq]
    rfl
   refine one_ (i := 2) (N := some 11) #[true, true, true, true, true, false, false, true, false] rfl rfl (one_of HT_.out (by kernel_rfl)) (by decide) (fun K hK => ?_)
   have HBB := hb3
   refine Kd.R_lit_step Kd.string (w0 := w3) w3.heap.size 9 ?hg (N := 11) ?hd (xs := ([] : List ByteArray)) (inner := []) (ok := fun _ => True) (okp := fun _ => True) ?hr ?hp (fun _ hk => hk) trivial HBB ?hs (by simp) ?_; (case hd => rfl); (case hg => rfl); (case hr => (go_simp; done)); (case hp => exact (Reps.none _ _)); (case hs => exact HBB.size)
   intro y1 z1 hy1 hb1 hg1_ hn1_
   clear hn1_ HBB
   have hbx2 := blk_grown hbx hg1_ (by simp)
   clear hg1_
   refine hK.out _ _ ⟨(blk_cell (blk_below (HX.out.at 0 rfl) hb1) 0).trans rfl, (blk_cell (blk_below (HX.out.at 0 rfl) hb1) 2).trans rfl⟩ (fun hHeld => ?_)
   clear hK K
   refine norm_ (a' := ?_) ?_ ?_
   rotate_left
   ·
    show Act.put _ (some 11) _ = _
    simp only [Act.put, pq]
    rfl
   refine one_ (i := 5) (N := some 14) #[true, true, true, true, true, true, false, true, false] rfl rfl (one_of HT_.out (by kernel_rfl)) (by decide) (fun K hK => ?_)
   refine Kd.R_append_rows_step Kd.string (w0 := w3) w3.heap.size (by rfl) (.tmp 11) (.tmp 13) 25 9 (.string ⟨#[]⟩) 16 rfl Try.underlying25 info9 rfl (by decide) (by omega) y1 [] l2 _ _ _ (fun _ => True) (fun _ => False) rfl rfl hy1 (Kd.C_below (w := w3) (Kd.R_reads' HQ.out).2.2 hb1) (fun _ _ h => h) (fun _ h => h.elim) (fun _ _ => trivial) hb1 hb1.size (by have := HL.out.2.1; simp only [List.length_nil]; omega) ?_
   intro y2 z2 hy2 hb2 hg2 hn2_
   rw [List.nil_append] at hy2
   obtain ⟨Y2, k2, rfl⟩ := Kd.R_slice hy2
   refine hK.out _ _ ⟨(blk_cell (blk_below (HX.out.at 0 rfl) hb2) 0).trans rfl, (blk_cell (blk_below (HX.out.at 0 rfl) hb2) 2).trans rfl⟩ (fun hHeld => ?_)
   clear hK K
   refine norm_ (a' := ?_) ?_ ?_
   rotate_left
   ·
    show Act.put _ (some 14) _ = _
    simp only [Act.put, pq]
    rfl
   refine pure_ (i := 6) (N := some 15) (v := ?_) (a' := ?_) #[true, true, true, true, true, true, true, true, false] rfl rfl (any_of HT_.out (by kernel_rfl)) (fun _ _ _ h => h) (Or.inl ⟨by rfl, ?_⟩) ?_ ?_
   rotate_left
   ·
    intro w'
    go_simp
    with_reducible rfl
   rotate_left
   ·
    simp only [Act.put, pq]
    rfl
   exact norm_ (by simp only [putAll, Act.put, pq]) (hCont (y1, .slice Y2 l2.length k2, gb) _ ⟨hHeld, hb2, hy2, blk_grown hbx2 hg2 (Kd.R_ne hy1 hbx2 (by decide)), by rw [hgb]; exact Nat.le_refl _⟩)
 rintro ⟨y1, y2, g4⟩ w4 ⟨hS_, hb, hy2, hbx, hg4⟩
 have hHeld : w4.cell? ⟨g0, 0, none⟩ = some (.string link) ∧ w4.cell? ⟨g0, 2, none⟩ = some (.slice A2 l2.length c2) := hS_
 clear hS_
 dsimp only at hy2 hbx hg4
 obtain ⟨Y2, k2, rfl⟩ := Kd.R_slice hy2
 have n0_ := Aside0.mk (HX.out.add hb hbx hg4)
 have HY2 := Aside0.mk (R_newN hy2 HR.out.lt)
 have n1_ := Aside0.mk (HR.out.below hb)
 have n2_ := Aside0.mk (Kd.R_below HA.out hb)
 clear HX HR HA HQ hb hy2 hbx hg4
 have HX := n0_
 have HR := n1_
 have HA := n2_
 clear n0_ n1_ n2_
 refine norm_ (a' := ?_) ?_ ?_
 rotate_left
 ·
  simp only [putAll, Act.put, pq]
  rfl
 refine one_ (i := 8) (N := none) #[true, true, true, true, true, true, true, true, true] rfl rfl (one_of HT_.out (by kernel_rfl)) (by decide) (fun K hK => ?_)
 have c0 := HX.out.cell 0 rfl 0 rfl; have f0 := HX.out.free 0 rfl 0
 have c1 := HX.out.cell 0 rfl 1 rfl; have f1 := HX.out.free 0 rfl 1
 have c2 := HX.out.cell 0 rfl 2 rfl; have f2 := HX.out.free 0 rfl 2
 have hne : g0 ≠ g4 := by have := HX.out.nd; simp at this; omega
 refine skip_ (w1 := ?_) (by rfl) rfl ?_ ?_
 rotate_left
 ·
  go_simp
  rfl
 refine hK.out _ _ ⟨(cell_far (p := ⟨g4, _, none⟩) hne _).trans ((cell_far (p := ⟨g4, _, none⟩) hne _).trans ((cell_far (p := ⟨g4, _, none⟩) hne _).trans hHeld.1)), (cell_far (p := ⟨g4, _, none⟩) hne _).trans ((cell_far (p := ⟨g4, _, none⟩) hne _).trans ((cell_far (p := ⟨g4, _, none⟩) hne _).trans hHeld.2))⟩ (fun hHeld => ?_)
 refine done_ (done_of HT_.out (by kernel_rfl)) ?_
 clear hHeld HT_ HW_ hK K c0 c1 c2 f0 f1 f2 hne
 refine at_then (fun W hW => ?_)
 have e1 := (Kd.R_reads' HR.out.r1).1; have e2 := (Kd.R_reads' HR.out.r2).1; have e3 := (Kd.R_reads' HR.out.r3).1; have e4 := (Kd.R_reads' HR.out.r4).1
 subst e1 e2 e3 e4
 have HM := Aside0.mk (TI.begin (link := link) HX.out HR.out HA.out HY2.out (fun k _ hk => by rw [HN.out]; exact hk))
 rw [← hW] at HM
 clear hW HX HR HA HY2
 go_wp2
 go_loopg [7] l1.length (fun gg v7 w' => ∃ (i : Nat) (X : Option Addr) (c : Nat) (m : List ByteArray) (U : Option Addr) (cu : Nat) (L1 : List S39), v7 = .int .i64 (i : Int) ∧ Aside0 (i ≤ l1.length ∧ l1.length - i ≤ gg ∧ m.length ≤ n + i ∧ L1 = tickA (l1.take i)) ∧ Aside0 (TI w w' N (fun _ => False) g0 g1 g2 g3 g4 #[.string link, .slice A1 l1.length c1, .slice A2 l2.length c2] link cd (.slice B1 m1.length d1) (.slice X m.length c) (.slice B3 m3.length d3) (.slice B4 m4.length d4) (.slice U L1.length cu) (.slice Y2 l2.length k2) (.slice A1 l1.length c1) l1 L1 l2 m1 m m3 m4))
 case atStart => exact ⟨0, B2, d2, m2, none, 0, [], rfl, ⟨Nat.zero_le _, by omega, by have := HB.out; omega, rfl⟩, HM⟩
 case round =>
  clear HM
  obtain ⟨i, X, c, m, U, cu, L1, rfl, HI, HM⟩ := hrel
  by_cases hlt : i < l1.length
  ·
   have t0 : ((i : Int) < (l1.length : Int)) := by omega
   have t1 : decide (i < l1.length) = true := decide_eq_true hlt
   have t2 : (0 : Int) ≤ (i : Int) := by omega
   have t3 : (i : Int) ≤ 1000 := by have := HL.out.1; omega
   obtain ⟨ad, ea, hx0, hx1, hx2, hx3, hx4⟩ := at_T39 (Kd.R_reads' HM.out.ha).2.2 (i : Int) t2 t0
   subst ea
   obtain ⟨y, hy⟩ : ∃ y, y = l1.getD i z39 := ⟨_, rfl⟩
   have hyr : rd_T39 l1 (i : Int) = y := by rw [hy]; simp [rd_T39]
   rw [hyr] at hx0 hx1 hx2 hx3 hx4
   simp only [Int.toNat_natCast] at hx0 hx1 hx2 hx3 hx4
   have HYI := Aside0.mk (HY.out y (by rw [hy, List.getD_eq_getElem?_getD, List.getElem?_eq_getElem hlt]; exact List.getElem_mem hlt))
   have HLI := Aside0.mk (tickA_take l1 i hlt)
   rw [← hy] at HLI
   clear hy hyr hlt
   have c_1 := HM.out.hx.cell 1 rfl 1 rfl
   go_upto_region 6 with (fail)
   refine at_world (fun W hW => ?_)
   have hb := below_alloc (Below.refl wr.heap.size wr) (Obj.cells #[.string y.f0, .int .i64 y.f1, .int .i64 y.f2, .int .i64 y.f3, .int .i64 y.f4] 39)
   rw [← hW] at hb
   obtain ⟨g5, e5⟩ : ∃ g, g = wr.heap.size := ⟨_, rfl⟩
   have hq := blk_new wr (Obj.cells #[.string y.f0, .int .i64 y.f1, .int .i64 y.f2, .int .i64 y.f3, .int .i64 y.f4] 39)
   rw [← hW, ← e5] at hq
   have HG := Aside0.mk (show w.heap.size ≤ g5 by have := HM.out.hx.kept.1; omega)
   have HQ := Aside0.mk hq
   have n0_ := Aside0.mk (HM.out.enter hb (g5 := g5) (by omega))
   simp only [← e5]
   clear HM c_1 hx0 hx1 hx2 hx3 hx4 hb hq hW e5
   have HM := n0_
   clear n0_
   have b3 : 1 ≤ y.f3 := HYI.out.2.2.1; have b3' : y.f3 ≤ 1000000 := HYI.out.2.2.2.1; have b4 : 0 ≤ y.f4 := HYI.out.2.2.2.2.1; have b4' : y.f4 ≤ 1000000 := HYI.out.2.2.2.2.2
   have x_3 := (blk_cell HQ.out 3).trans rfl; have f_3 := blk_frozen HQ.out 3
   have x_4 := (blk_cell HQ.out 4).trans rfl; have f_4 := blk_frozen HQ.out 4
   go_upto_region 8 with (fail)
   refine at_world (fun W2 hW => ?_)
   obtain ⟨p, hp⟩ : ∃ p, p = (if 1 < y.f4 then y.f4 - 1 else 0) := ⟨_, rfl⟩
   obtain ⟨v, hv⟩ : ∃ v, v = y.f3 - 1 := ⟨_, rfl⟩
   obtain ⟨l, hl⟩ : ∃ l, l = (if y.f1 = 1 then y.f2 - 1 else y.f2) := ⟨_, rfl⟩
   rw [← hp, ← hv] at hW
   try simp only [← hp, ← hv]
   have HP := Aside0.mk hp; have HV := Aside0.mk hv; have HL2 := Aside0.mk hl
   clear hp hv hl
   have n0_ := (HM.out.putx HQ.out HG.out 3 (.int .i64 v)).putx (blk_set HQ.out 3 (.int .i64 v)) HG.out 4 (.int .i64 p)
   have n1_ := blk_set (blk_set HQ.out 3 (.int .i64 v)) 4 (.int .i64 p)
   rw [← hW] at n0_ n1_
   clear HM HQ hW x_3 x_4 f_3 f_4 b3 b3' b4 b4'
   have HM := Aside0.mk n0_
   have HQ := Aside0.mk (show W2.heap[g5]? = some (.cells #[.string y.f0, .int .i64 y.f1, .int .i64 y.f2, .int .i64 v, .int .i64 p] 39 (0, 0)) from n1_)
   clear n0_ n1_
   have x_3 := (blk_cell HQ.out 3).trans rfl
   rcases Classical.em (v = 0) with v0 | v0
   ·
    have t4 : (v == 0) = true := by simp [v0]
    have c_2 := HM.out.hx.cell 2 rfl 2 rfl
    have x_0 := (blk_cell HQ.out 0).trans rfl
    clear x_3
    have x_3 := (blk_cell HQ.out 3).trans rfl
    go_wp2_with ((with_reducible refine gate_builtin (b := .append) (xs := #[.tmp 41, .tmp 44]) rfl ?_); at_builtin; refine Kd.R_append Kd.string (w0 := W2) 0 rfl (.tmp 41) (.tmp 44) 25 9 (.string ⟨#[]⟩) 16 rfl Try.underlying25 info9 rfl (by decide) (by omega) _ m y.f0 [.string y.f0] _ (fun _ => False) rfl (by (go_simp; done)) rfl (fun _ hk => hk.elim) HM.out.hr.fresh2 HM.out.hr.r2 (Below.refl _ _) (Nat.zero_le _) (by have := HI.out; have := HL.out; omega) ?_; intro v1 w4 ho hb hg hat; obtain ⟨M, hM⟩ : ∃ M, M = m ++ [y.f0] := ⟨_, rfl⟩; rw [← hM] at ho; have HML := Aside0.mk hM; clear hM; obtain ⟨X2, c2_, rfl⟩ := Kd.R_slice ho; have hx2 := HM.out.hx.app HM.out.hr.r2 (nel5 9 (by decide) (by decide)) hg (fun k hk => (Nat.lt_or_ge k w.heap.size).elim (fun hl => .inl (HM.out.ow k hl (.inr (.inl hk.symm)))) .inr); have c_f := hx2.cell 2 rfl 2 rfl; have f_f := hx2.free 2 rfl 2; have n0_ := Aside0.mk (HM.out.gone ho hg hat).leave; clear HM hx2 hb hg hat ho c_2 x_0; have HM := n0_; clear n0_)
    clear c_f f_f t4 x_3
    go_roundg (l1.length - (i + 1))
    case measure => have := HI.out; omega
    case rel => exact ⟨i + 1, X2, c2_, M, U, cu, L1, by go_num, ⟨by omega, by omega, by have := HI.out; rw [HML.out, List.length_append]; simp only [List.length_cons, List.length_nil]; omega, by rw [HLI.out, tickA, if_pos (by rw [← HV.out]; exact v0), tickA, List.append_nil]; exact HI.out.2.2.2⟩, HM⟩
   have t4 : (v == 0) = false := by simp [v0]
   have HV0 := Aside0.mk v0
   have HLN := Aside0.mk (show L1.length ≤ 1000 by have := tickA_len (l1.take i); rw [← HI.out.2.2.2, List.length_take] at this; have := HL.out.1; omega)
   clear v0
   have x_1 := (blk_cell HQ.out 1).trans rfl
   rcases Classical.em (y.f1 = 1) with s1 | s1
   have t5 : (y.f1 == 1) = true := by simp [s1]
   have x_2 := (blk_cell HQ.out 2).trans rfl
   have f_2 := blk_frozen HQ.out 2
   have b2 : 0 ≤ y.f2 := HYI.out.1; have b2' : y.f2 ≤ 1000 := HYI.out.2.1
   go_upto_region 12 with (fail)
   have e_ : y.f2 - 1 = l := by rw [HL2.out, if_pos s1]
   simp only [e_]
   clear t4 t5 x_1 x_2 x_3 f_2 b2 b2' e_
   have n0_ := HM.out.putx HQ.out HG.out 2 (.int .i64 l)
   have n1_ := blk_set HQ.out 2 (.int .i64 l)
   clear HM HQ 
   have HM := Aside0.mk n0_
   have HQ := Aside0.mk (show (World.setCell W2 ⟨g5, 2, none⟩ (.int .i64 l)).heap[g5]? = some (.cells #[.string y.f0, .int .i64 y.f1, .int .i64 l, .int .i64 v, .int .i64 p] 39 (0, 0)) from n1_)
   clear n0_ n1_
   generalize World.setCell W2 _ _ = W3 at HM HQ ⊢
   rotate_left 1
   have t5 : (y.f1 == 1) = false := by simp [s1]
   go_upto_region 12 with (fail)
   have e_ : y.f2 = l := by rw [HL2.out, if_neg s1]
   rw [e_] at HQ
   clear t4 t5 x_1 x_3 e_
   generalize W2 = W3 at HM HQ ⊢
   all_goals
    clear s1
    have x_2 := (blk_cell HQ.out 2).trans rfl
    rcases Classical.em (l = 0) with l0 | l0
    ·
     have t6 : (l == 0) = true := by simp [l0]
     have HL0 := Aside0.mk l0
     clear l0
     have x_1 := (blk_cell HQ.out 1).trans rfl
     have f_1 := blk_frozen HQ.out 1
     go_upto_region 14 with (fail)
     clear t6 x_1 x_2 f_1
     have n0_ := HM.out.putx HQ.out HG.out 1 (.int .i64 2)
     have n1_ := blk_set HQ.out 1 (.int .i64 2)
     clear HM HQ 
     have HM := Aside0.mk n0_
     have HQ := Aside0.mk (show (World.setCell W3 ⟨g5, 1, none⟩ (.int .i64 2)).heap[g5]? = some (.cells #[.string y.f0, .int .i64 2, .int .i64 l, .int .i64 v, .int .i64 p] 39 (0, 0)) from n1_)
     clear n0_ n1_
     generalize World.setCell W3 _ _ = W4 at HM HQ ⊢
     have x_4 := (blk_cell HQ.out 4).trans rfl
     rcases Classical.em (p = 0) with p0 | p0
     ·
      have t7 : (p == 0) = true := by simp [p0]
      have HP0 := Aside0.mk p0
      clear p0
      have x_1 := (blk_cell HQ.out 1).trans rfl
      have f_1 := blk_frozen HQ.out 1
      go_upto_region 16 with (fail)
      clear t7 x_1 x_4 f_1
      have n0_ := HM.out.putx HQ.out HG.out 1 (.int .i64 3)
      have n1_ := blk_set HQ.out 1 (.int .i64 3)
      clear HM HQ 
      have HM := Aside0.mk n0_
      have HQ := Aside0.mk (show (World.setCell W4 ⟨g5, 1, none⟩ (.int .i64 3)).heap[g5]? = some (.cells #[.string y.f0, .int .i64 3, .int .i64 l, .int .i64 v, .int .i64 p] 39 (0, 0)) from n1_)
      clear n0_ n1_
      generalize World.setCell W4 _ _ = W5 at HM HQ ⊢
      have c_1 := HM.out.hx.cell 0 rfl 1 rfl
      have x_0 := (blk_cell HQ.out 0).trans rfl
      have x_1 := (blk_cell HQ.out 1).trans rfl
      have x_2 := (blk_cell HQ.out 2).trans rfl
      have x_3 := (blk_cell HQ.out 3).trans rfl
      have x_4 := (blk_cell HQ.out 4).trans rfl
      go_wp2_with ((with_reducible refine gate_builtin (b := .append) (xs := #[.tmp 63, .tmp 65]) rfl ?_); at_builtin; refine Kd.R_append k39 (w0 := W5) 0 rfl (.tmp 63) (.tmp 65) 24 39 (.agg #[(.string ⟨#[]⟩), (.int .i64 0), (.int .i64 0), (.int .i64 0), (.int .i64 0)]) 48 rfl Try.underlying24 info39 rfl (by decide) (by omega) _ L1 (⟨y.f0, 3, l, v, p⟩ : S39) [.string y.f0, .int .i64 (3), .int .i64 l, .int .i64 v, .int .i64 p] _ (fun _ => False) rfl (by (go_simp; done)) (k39_mkM _ _ _ ((⟨y.f0, 3, l, v, p⟩ : S39))) (fun _ hk => hk.elim) (fun k hk => ⟨fun hN => by have := HM.out.hr.lt k hN; omega, fun e => by have := blk_lt HQ.out; omega⟩) HM.out.hu1 (Below.refl _ _) (Nat.zero_le _) (by have := HLN.out; omega) ?_; intro v1 w4 ho hb hg hat; obtain ⟨L2, hL2⟩ : ∃ L, L = L1 ++ [(⟨y.f0, 3, l, v, p⟩ : S39)] := ⟨_, rfl⟩; rw [← hL2] at ho; have HLL := Aside0.mk hL2; clear hL2; obtain ⟨U2, cu2, rfl⟩ := Kd.R_slice ho; have hx2 := HM.out.hx.app HM.out.hu1 (nel5 39 (by decide) (by decide)) hg (fun k hk => .inr (HM.out.nb k hk)); have c_f := hx2.cell 0 rfl 1 rfl; have f_f := hx2.free 0 rfl 1; have n0_ := Aside0.mk (HM.out.stays ho hg hat).leave; clear HM hx2 hb hg hat ho c_1 x_0 x_1 x_2 x_3 x_4; have HM := n0_; clear n0_)
      clear c_f f_f
      go_roundg (l1.length - (i + 1))
      case measure => have := HI.out; omega
      case rel => exact ⟨i + 1, X, c, m, U2, cu2, L2, by go_num, ⟨by omega, by omega, by have := HI.out; omega, by rw [HLI.out, tickA, if_neg (by rw [← HV.out]; exact HV0.out), tickA, ← HI.out.2.2.2, HLL.out, show (⟨y.f0, 3, l, v, p⟩ : S39) = tickE y from tick_old HL2.out HP.out HV.out HL0.out HP0.out]⟩, HM⟩
     ·
      have t7 : (p == 0) = false := by simp [p0]
      have HP0 := Aside0.mk p0
      clear p0
      go_upto_region 16 with (fail)
      clear t7 x_4
      have c_1 := HM.out.hx.cell 0 rfl 1 rfl
      have x_0 := (blk_cell HQ.out 0).trans rfl
      have x_1 := (blk_cell HQ.out 1).trans rfl
      have x_2 := (blk_cell HQ.out 2).trans rfl
      have x_3 := (blk_cell HQ.out 3).trans rfl
      have x_4 := (blk_cell HQ.out 4).trans rfl
      go_wp2_with ((with_reducible refine gate_builtin (b := .append) (xs := #[.tmp 63, .tmp 65]) rfl ?_); at_builtin; refine Kd.R_append k39 (w0 := W4) 0 rfl (.tmp 63) (.tmp 65) 24 39 (.agg #[(.string ⟨#[]⟩), (.int .i64 0), (.int .i64 0), (.int .i64 0), (.int .i64 0)]) 48 rfl Try.underlying24 info39 rfl (by decide) (by omega) _ L1 (⟨y.f0, 2, l, v, p⟩ : S39) [.string y.f0, .int .i64 (2), .int .i64 l, .int .i64 v, .int .i64 p] _ (fun _ => False) rfl (by (go_simp; done)) (k39_mkM _ _ _ ((⟨y.f0, 2, l, v, p⟩ : S39))) (fun _ hk => hk.elim) (fun k hk => ⟨fun hN => by have := HM.out.hr.lt k hN; omega, fun e => by have := blk_lt HQ.out; omega⟩) HM.out.hu1 (Below.refl _ _) (Nat.zero_le _) (by have := HLN.out; omega) ?_; intro v1 w4 ho hb hg hat; obtain ⟨L2, hL2⟩ : ∃ L, L = L1 ++ [(⟨y.f0, 2, l, v, p⟩ : S39)] := ⟨_, rfl⟩; rw [← hL2] at ho; have HLL := Aside0.mk hL2; clear hL2; obtain ⟨U2, cu2, rfl⟩ := Kd.R_slice ho; have hx2 := HM.out.hx.app HM.out.hu1 (nel5 39 (by decide) (by decide)) hg (fun k hk => .inr (HM.out.nb k hk)); have c_f := hx2.cell 0 rfl 1 rfl; have f_f := hx2.free 0 rfl 1; have n0_ := Aside0.mk (HM.out.stays ho hg hat).leave; clear HM hx2 hb hg hat ho c_1 x_0 x_1 x_2 x_3 x_4; have HM := n0_; clear n0_)
      clear c_f f_f
      go_roundg (l1.length - (i + 1))
      case measure => have := HI.out; omega
      case rel => exact ⟨i + 1, X, c, m, U2, cu2, L2, by go_num, ⟨by omega, by omega, by have := HI.out; omega, by rw [HLI.out, tickA, if_neg (by rw [← HV.out]; exact HV0.out), tickA, ← HI.out.2.2.2, HLL.out, show (⟨y.f0, 2, l, v, p⟩ : S39) = tickE y from tick_good HL2.out HP.out HV.out HL0.out HP0.out]⟩, HM⟩
    ·
     have t6 : (l == 0) = false := by simp [l0]
     have HL0 := Aside0.mk l0
     clear l0
     go_upto_region 16 with (fail)
     clear t6 x_2
     have c_1 := HM.out.hx.cell 0 rfl 1 rfl
     have x_0 := (blk_cell HQ.out 0).trans rfl
     have x_1 := (blk_cell HQ.out 1).trans rfl
     have x_2 := (blk_cell HQ.out 2).trans rfl
     have x_3 := (blk_cell HQ.out 3).trans rfl
     have x_4 := (blk_cell HQ.out 4).trans rfl
     go_wp2_with ((with_reducible refine gate_builtin (b := .append) (xs := #[.tmp 63, .tmp 65]) rfl ?_); at_builtin; refine Kd.R_append k39 (w0 := W3) 0 rfl (.tmp 63) (.tmp 65) 24 39 (.agg #[(.string ⟨#[]⟩), (.int .i64 0), (.int .i64 0), (.int .i64 0), (.int .i64 0)]) 48 rfl Try.underlying24 info39 rfl (by decide) (by omega) _ L1 (⟨y.f0, y.f1, l, v, p⟩ : S39) [.string y.f0, .int .i64 (y.f1), .int .i64 l, .int .i64 v, .int .i64 p] _ (fun _ => False) rfl (by (go_simp; done)) (k39_mkM _ _ _ ((⟨y.f0, y.f1, l, v, p⟩ : S39))) (fun _ hk => hk.elim) (fun k hk => ⟨fun hN => by have := HM.out.hr.lt k hN; omega, fun e => by have := blk_lt HQ.out; omega⟩) HM.out.hu1 (Below.refl _ _) (Nat.zero_le _) (by have := HLN.out; omega) ?_; intro v1 w4 ho hb hg hat; obtain ⟨L2, hL2⟩ : ∃ L, L = L1 ++ [(⟨y.f0, y.f1, l, v, p⟩ : S39)] := ⟨_, rfl⟩; rw [← hL2] at ho; have HLL := Aside0.mk hL2; clear hL2; obtain ⟨U2, cu2, rfl⟩ := Kd.R_slice ho; have hx2 := HM.out.hx.app HM.out.hu1 (nel5 39 (by decide) (by decide)) hg (fun k hk => .inr (HM.out.nb k hk)); have c_f := hx2.cell 0 rfl 1 rfl; have f_f := hx2.free 0 rfl 1; have n0_ := Aside0.mk (HM.out.stays ho hg hat).leave; clear HM hx2 hb hg hat ho c_1 x_0 x_1 x_2 x_3 x_4; have HM := n0_; clear n0_)
     clear c_f f_f
     go_roundg (l1.length - (i + 1))
     case measure => have := HI.out; omega
     case rel => exact ⟨i + 1, X, c, m, U2, cu2, L2, by go_num, ⟨by omega, by omega, by have := HI.out; omega, by rw [HLI.out, tickA, if_neg (by rw [← HV.out]; exact HV0.out), tickA, ← HI.out.2.2.2, HLL.out, show (⟨y.f0, y.f1, l, v, p⟩ : S39) = tickE y from tick_same HL2.out HP.out HV.out HL0.out]⟩, HM⟩
  ·
   have t1 : decide (i < l1.length) = false := decide_eq_false hlt
   have e_ : L1 = LT := by rw [HI.out.2.2.2, HLT.out, List.take_of_length_le (by omega)]
   have HNB := Aside0.mk (show m1.length ≤ n + l1.length ∧ m.length ≤ n + l1.length ∧ m3.length ≤ n + l1.length ∧ m4.length ≤ n + l1.length by have := HI.out; have := HB.out; omega)
   clear HI hlt
   subst e_
   have c_1 := HM.out.hx.cell 1 rfl 1 rfl
   go_upto_region 17 with (fail)
   clear t1 c_1
   refine ret2 (p := 6) (q := 3) (r := 4) (s := 5) (d1 := 68) (d2 := 69) rfl (by kernel_rfl) (by kernel_rfl) (by kernel_rfl) (by kernel_rfl) (by kernel_rfl) (fun _ _ _ _ _ h => h) rfl rfl rfl rfl (show (68 : Nat) < 70 by decide) (show (69 : Nat) < 70 by decide) (by decide) (HM.out.hx.at 0 rfl) (HM.out.hx.at 2 rfl) (HM.out.hx.at 3 rfl) (HM.out.hx.at 4 rfl) ?_ (fun w4 bR bS hk hb => ?_)
   ·
    have := HM.out.hx.nd
    simp at this
    omega
   have HP := Aside0.mk (post_done (n := (n + l1.length)) (link := link) (cd := cd) HM.out.hr HNB.out (Kd.R_mono HM.out.hu1 (fun k hk => hk.1)) HM.out.hu2 (by rw [← HN.out]; exact HM.out.hx.kept) HM.out.hx.b0 (fun k hl hk => by rw [← HN.out]; exact HM.out.ow k hl hk) (HM.out.hx.at 3 rfl) (HM.out.hx.at 4 rfl) (HM.out.hx.new (_, _, _) (List.mem_of_getElem? (i := 3) rfl)) (HM.out.hx.new (_, _, _) (List.mem_of_getElem? (i := 4) rfl)) hk hb)
   go_wp2
   all_goals exact bodyPost_ret (results_cc rfl _ _ _ _ 27 54 _ _ (0, 0) (0, 0) _ _ rfl bR Try.underlying27 rfl (by kernel_rfl) rfl bS Try.underlying54 rfl (by kernel_rfl)) rfl HP.out
end Go.Proofs.Ytnpbnmhbajiefaa.PFnSources
