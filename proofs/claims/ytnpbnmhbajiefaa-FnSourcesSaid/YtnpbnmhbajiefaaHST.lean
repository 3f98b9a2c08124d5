/- spec.l14Step, by hand. -/
import Derived.Test.YtnpbnmhbajiefaaHQ
import Derived.Test.YtnpbnmhbajiefaaHM
namespace Go.Proofs.Ytnpbnmhbajiefaa.PFnSources
open Go.RowKit Go.Proofs.YtnpbnmhbajiefaaW.PrintWords Go.Proofs.YtnpbnmhbajiefaaW.PrintLast Go.Proofs.YtnpbnmhbajiefaaW.PrintMore
set_option linter.unusedVariables false
set_option linter.unusedSimpArgs false
section
variable {P : Program} {ops : Array Oper} {Q : Exit → Act → World → Prop}
theorem skip27 {oi : Oper} {a : Act} {w : World} {K : Act → World → Prop} {p d g : Nat} {s1 : String} {f1 : Array Edge} {s : ByteArray} {A1 A2 : Option Addr} {n1 n2 c1 c2 : Nat} {y0 y1 y2 : Value} (hw : Region.wanted oi (yielded ops a.tmps) = true) (ho : oi = { dst := none, op := .store 27 (.tmp p) (.tmp d), type := 0, pos := s1, after := f1, guard := none })
  (hp : a.tmps[p]?.getD undef = .pointer (some ⟨g, 0, none⟩)) (hd : a.tmps[d]?.getD undef = .agg #[.string s, .slice A1 n1 c1, .slice A2 n2 c2]) (b : w.heap[g]? = some (.cells #[y0, y1, y2] 27 (0, 0)))
  (h : ∀ w', w'.heap[g]? = some (.cells #[.string s, .slice A1 n1 c1, .slice A2 n2 c2] 27 (0, 0)) → Kept w w' (fun k => k = g) → Below 0 w w' → K a w') : if Region.wanted oi (yielded ops a.tmps) = true then Oper.wp Try.prog oi a w K Q else K (a.put none undef) w := by
 subst ho
 obtain ⟨w', hr, b1, k1, o1⟩ := store27 (d := d) (s1 := s1) (f1 := f1) hp hd b
 exact skip_ hw rfl hr (h w' b1 k1 o1)
theorem skip54 {oi : Oper} {a : Act} {w : World} {K : Act → World → Prop} {p d g : Nat} {s1 : String} {f1 : Array Edge} {c : Int} {A1 A2 A3 A4 : Option Addr} {n1 n2 n3 n4 c1 c2 c3 c4 : Nat} {y0 y1 y2 y3 y4 : Value} (hw : Region.wanted oi (yielded ops a.tmps) = true) (ho : oi = { dst := none, op := .store 54 (.tmp p) (.tmp d), type := 0, pos := s1, after := f1, guard := none })
  (hp : a.tmps[p]?.getD undef = .pointer (some ⟨g, 0, none⟩)) (hd : a.tmps[d]?.getD undef = .agg #[.int .i64 c, .slice A1 n1 c1, .slice A2 n2 c2, .slice A3 n3 c3, .slice A4 n4 c4]) (b : w.heap[g]? = some (.cells #[y0, y1, y2, y3, y4] 54 (0, 0)))
  (h : ∀ w', w'.heap[g]? = some (.cells #[.int .i64 c, .slice A1 n1 c1, .slice A2 n2 c2, .slice A3 n3 c3, .slice A4 n4 c4] 54 (0, 0)) → Kept w w' (fun k => k = g) → Below 0 w w' → K a w') : if Region.wanted oi (yielded ops a.tmps) = true then Oper.wp Try.prog oi a w K Q else K (a.put none undef) w := by
 subst ho
 obtain ⟨w', hr, b1, k1, o1⟩ := store54 (d := d) (s1 := s1) (f1 := f1) hp hd b
 exact skip_ hw rfl hr (h w' b1 k1 o1)
end
/-- The post of l14Step. -/
def PostS (w : World) (link : ByteArray) (l1 : List S39) (l2 : List ByteArray) (e : Ending) (w' : World) : Prop :=
 ∃ u1 u2 c' x1 x2 x3 x4 m1 m2 m3 m4, e = .returned (.tuple #[.agg #[.string link, u1, u2], .agg #[.int .i64 c', x1, x2, x3, x4]]) ∧ Rows4 w' x1 x2 x3 x4 m1 m2 m3 m4 ∧ AR w' (fun _ => True) u1 l1 ∧ SR w' (fun _ => True) u2 l2 ∧ Below w.heap.size w w'
/-- What l14Step has of its boxes and rows. -/
structure SI (w W : World) (g0 g1 g2 g3 g4 g5 : Nat) (bx : Array Value) (link : ByteArray) (cd : Int) (a1 a2 u1 u2 x1 x2 x3 x4 : Value) (l1 : List S39) (l2 : List ByteArray) (L1 : List S39) (L2 m1 m2 m3 m4 : List ByteArray) (n : Nat) : Prop where
 hx : HS w W (fun _ => False) [(g5, #[.string link, u1, u2], 27), (g4, #[.int .i64 cd, x1, x2, x3, x4], 54), (g0, #[.string link, a1, a2], 27), (g1, bx, 58), (g2, #[.string ⟨#[]⟩, .slice none 0 0, .slice none 0 0], 27), (g3, #[.int .i64 0, .slice none 0 0, .slice none 0 0, .slice none 0 0, .slice none 0 0], 54)]
 hr : Rows4 W x1 x2 x3 x4 m1 m2 m3 m4
 hn : m1.length ≤ n ∧ m2.length ≤ n ∧ m3.length ≤ n ∧ m4.length ≤ n
 ha1 : AR W (fun k => ¬ Own4 x1 x2 x3 x4 k) a1 l1
 ha2 : SR W (fun k => ¬ Own4 x1 x2 x3 x4 k) a2 l2
 hu1 : AR W (fun k => ¬ Own4 x1 x2 x3 x4 k) u1 L1
 hu2 : SR W (fun k => ¬ Own4 x1 x2 x3 x4 k) u2 L2
 ob : ∀ k, Own4 x1 x2 x3 x4 k → w.heap.size ≤ k
theorem in_f (a lo hi : Int) : spec_l01In.f a lo hi = some (decide (lo ≤ a ∧ a ≤ hi)) := by
 unfold spec_l01In.f
 by_cases h : a ≥ lo
 ·
  rw [if_pos h]; by_cases h2 : a ≤ hi <;> simp [h, h2]
 ·
  rw [if_neg h]; simp; omega
theorem below_of {w W : World} {L : List (Nat × Array Value × Nat)} (h : HS w W (fun _ => False) L) : Below w.heap.size w W := ⟨h.b0.os, h.b0.tape, h.b0.output, h.b0.size, fun k hk => h.kept.2 k hk id⟩
section
variable {w W W1 : World} {g0 g1 g2 g3 g4 g5 n n' : Nat} {bx : Array Value} {link : ByteArray} {cd cd' : Int} {a1 a2 u1 u2 x1 x2 x3 x4 v1 v2 y1 y2 y3 y4 : Value} {l1 L1 K1 : List S39} {l2 L2 K2 m1 m2 m3 m4 p1 p2 p3 p4 : List ByteArray}
theorem SI.below (h : SI w W g0 g1 g2 g3 g4 g5 bx link cd a1 a2 u1 u2 x1 x2 x3 x4 l1 l2 L1 L2 m1 m2 m3 m4 n) (hb : Below W.heap.size W W1) : SI w W1 g0 g1 g2 g3 g4 g5 bx link cd a1 a2 u1 u2 x1 x2 x3 x4 l1 l2 L1 L2 m1 m2 m3 m4 n :=
 ⟨h.hx.below hb, h.hr.below hb, h.hn, Kd.R_below h.ha1 hb, Kd.R_below h.ha2 hb, Kd.R_below h.hu1 hb, Kd.R_below h.hu2 hb, h.ob⟩
theorem t39 {t : Nat} (ht : 39 ≠ t) : ∀ q, q ∈ (39 : Nat) :: k39.E → q ≠ t := fun q hq => by rw [e39 q hq]; exact ht
theorem t9 {t : Nat} (ht : 9 ≠ t) : ∀ q, q ∈ (9 : Nat) :: Kd.string.E → q ≠ t := fun q hq => by rw [e9 q hq]; exact ht
/-- Field j of the o box or the next box is written. -/
theorem SI.code (h : SI w W g0 g1 g2 g3 g4 g5 bx link cd a1 a2 u1 u2 x1 x2 x3 x4 l1 l2 L1 L2 m1 m2 m3 m4 n) (c : Int) : SI w (W.setCell ⟨g4, 0, none⟩ (.int .i64 c)) g0 g1 g2 g3 g4 g5 bx link c a1 a2 u1 u2 x1 x2 x3 x4 l1 l2 L1 L2 m1 m2 m3 m4 n := by
 have q := h.hx.at 1 rfl
 exact ⟨h.hx.set (P := [_]) 0 (.int .i64 c) rfl, h.hr.set q (by decide) 0 _, h.hn, Kd.R_set h.ha1 q (t39 (by decide)) 0 _, Kd.R_set h.ha2 q (t9 (by decide)) 0 _, Kd.R_set h.hu1 q (t39 (by decide)) 0 _, Kd.R_set h.hu2 q (t9 (by decide)) 0 _, h.ob⟩
theorem SI.mid (h : SI w W g0 g1 g2 g3 g4 g5 bx link cd a1 a2 u1 u2 x1 x2 x3 x4 l1 l2 L1 L2 m1 m2 m3 m4 n) (hk : Kept W W1 (Own4 x1 x2 x3 x4)) (hb : Below 0 W W1) : HS w W1 (fun _ => False) [(g5, #[.string link, u1, u2], 27), (g4, #[.int .i64 cd, x1, x2, x3, x4], 54), (g0, #[.string link, a1, a2], 27), (g1, bx, 58), (g2, #[.string ⟨#[]⟩, .slice none 0 0, .slice none 0 0], 27), (g3, #[.int .i64 0, .slice none 0 0, .slice none 0 0, .slice none 0 0, .slice none 0 0], 54)] :=
 h.hx.kept_to hk hb (fun k hk => .inr (h.ob k hk)) (fun p hp => by
  refine h.hr.not (h.hx.box p hp) ?_
  simp only [List.mem_cons, List.not_mem_nil, or_false] at hp
  rcases hp with rfl | rfl | rfl | rfl | rfl | rfl <;> simp)
/-- A call told what comes next and what is told: both boxes are written anew. -/
theorem SI.take (h : SI w W g0 g1 g2 g3 g4 g5 bx link cd a1 a2 u1 u2 x1 x2 x3 x4 l1 l2 L1 L2 m1 m2 m3 m4 n) (hr : Rows4 W1 y1 y2 y3 y4 p1 p2 p3 p4) (hn : p1.length ≤ n' ∧ p2.length ≤ n' ∧ p3.length ≤ n' ∧ p4.length ≤ n') (h1 : AR W1 (fun k => ¬ Own4 y1 y2 y3 y4 k) v1 K1) (h2 : SR W1 (fun k => ¬ Own4 y1 y2 y3 y4 k) v2 K2) (hk : Kept W W1 (Own4 x1 x2 x3 x4)) (hb : Below 0 W W1) (ho : ∀ k, k < W.heap.size → Own4 y1 y2 y3 y4 k → Own4 x1 x2 x3 x4 k) :
  SI w ((((((((W1.setCell ⟨g5, 0, none⟩ (.string link)).setCell ⟨g5, 1, none⟩ v1).setCell ⟨g5, 2, none⟩ v2).setCell ⟨g4, 0, none⟩ (.int .i64 cd')).setCell ⟨g4, 1, none⟩ y1).setCell ⟨g4, 2, none⟩ y2).setCell ⟨g4, 3, none⟩ y3).setCell ⟨g4, 4, none⟩ y4) g0 g1 g2 g3 g4 g5 bx link cd' a1 a2 v1 v2 y1 y2 y3 y4 l1 l2 K1 K2 p1 p2 p3 p4 n' := by
 have hl := h.hx.kept.1
 have s0 := h.mid hk hb
 have s1 := s0.set (P := []) 0 (.string link) rfl
 have s2 := s1.set (P := []) 1 v1 rfl
 have s3 := s2.set (P := []) 2 v2 rfl
 have s4 := s3.set (P := [_]) 0 (.int .i64 cd') rfl
 have s5 := s4.set (P := [_]) 1 y1 rfl
 have s6 := s5.set (P := [_]) 2 y2 rfl
 have s7 := s6.set (P := [_]) 3 y3 rfl
 have s8 := s7.set (P := [_]) 4 y4 rfl
 have q0 := s0.at 0 rfl
 have q1 := s1.at 0 rfl
 have q2 := s2.at 0 rfl
 have q3 := s3.at 1 rfl
 have q4 := s4.at 1 rfl
 have q5 := s5.at 1 rfl
 have q6 := s6.at 1 rfl
 have q7 := s7.at 1 rfl
 have rA : ∀ {v : Value} {l : List S39}, AR W1 (fun k => ¬ Own4 y1 y2 y3 y4 k) v l → AR ((((((((W1.setCell ⟨g5, 0, none⟩ (.string link)).setCell ⟨g5, 1, none⟩ v1).setCell ⟨g5, 2, none⟩ v2).setCell ⟨g4, 0, none⟩ (.int .i64 cd')).setCell ⟨g4, 1, none⟩ y1).setCell ⟨g4, 2, none⟩ y2).setCell ⟨g4, 3, none⟩ y3).setCell ⟨g4, 4, none⟩ y4) (fun k => ¬ Own4 y1 y2 y3 y4 k) v l := fun hv =>
  Kd.R_set (Kd.R_set (Kd.R_set (Kd.R_set (Kd.R_set (Kd.R_set (Kd.R_set (Kd.R_set hv q0 (t39 (by decide)) 0 _) q1 (t39 (by decide)) 1 _) q2 (t39 (by decide)) 2 _) q3 (t39 (by decide)) 0 _) q4 (t39 (by decide)) 1 _) q5 (t39 (by decide)) 2 _) q6 (t39 (by decide)) 3 _) q7 (t39 (by decide)) 4 _
 have rS : ∀ {v : Value} {l : List ByteArray}, SR W1 (fun k => ¬ Own4 y1 y2 y3 y4 k) v l → SR ((((((((W1.setCell ⟨g5, 0, none⟩ (.string link)).setCell ⟨g5, 1, none⟩ v1).setCell ⟨g5, 2, none⟩ v2).setCell ⟨g4, 0, none⟩ (.int .i64 cd')).setCell ⟨g4, 1, none⟩ y1).setCell ⟨g4, 2, none⟩ y2).setCell ⟨g4, 3, none⟩ y3).setCell ⟨g4, 4, none⟩ y4) (fun k => ¬ Own4 y1 y2 y3 y4 k) v l := fun hv =>
  Kd.R_set (Kd.R_set (Kd.R_set (Kd.R_set (Kd.R_set (Kd.R_set (Kd.R_set (Kd.R_set hv q0 (t9 (by decide)) 0 _) q1 (t9 (by decide)) 1 _) q2 (t9 (by decide)) 2 _) q3 (t9 (by decide)) 0 _) q4 (t9 (by decide)) 1 _) q5 (t9 (by decide)) 2 _) q6 (t9 (by decide)) 3 _) q7 (t9 (by decide)) 4 _
 have r8 := (((((((hr.set q0 (by decide) 0 (.string link)).set q1 (by decide) 1 v1).set q2 (by decide) 2 v2).set q3 (by decide) 0 (.int .i64 cd')).set q4 (by decide) 1 y1).set q5 (by decide) 2 y2).set q6 (by decide) 3 y3).set q7 (by decide) 4 y4
 exact ⟨s8, r8, hn, rA (R_keptTo h.ha1 hk ho), rS (R_keptTo h.ha2 hk ho), rA h1, rS h2, fun k hk => by
  rcases Nat.lt_or_ge k W.heap.size with q | q
  ·
   exact h.ob k (ho k q hk)
  ·
   omega⟩
theorem SI.ends (h : SI w W g0 g1 g2 g3 g4 g5 bx link cd a1 a2 u1 u2 x1 x2 x3 x4 l1 l2 L1 L2 m1 m2 m3 m4 n) (hk : Kept W W1 (fun k => k = g2 ∨ k = g3)) (hb : Below 0 W W1) : PostS w link l1 l2 (.returned (.tuple #[.agg #[.string link, a1, a2], .agg #[.int .i64 cd, x1, x2, x3, x4]])) W1 := by
 have bR := h.hx.at 4 rfl
 have bS := h.hx.at 5 rfl
 have hw := below_of h.hx
 have lR := h.hx.new (_, _, _) (List.mem_of_getElem? (i := 4) rfl)
 have lS := h.hx.new (_, _, _) (List.mem_of_getElem? (i := 5) rfl)
 exact ⟨_, _, _, _, _, _, _, _, _, _, _, rfl, h.hr.box2 (by decide) (by decide) bR bS hk, Kd.R_mono (R_box2 h.ha1 e39 (by decide) (by decide) bR bS hk) (fun _ _ => trivial), Kd.R_mono (R_box2 h.ha2 e9 (by decide) (by decide) bR bS hk) (fun _ _ => trivial),
  ⟨hb.os.trans hw.os, hb.tape.trans hw.tape, hb.output.trans hw.output, Nat.le_trans hw.size hb.size, fun k hk' => (hk.2 k (Nat.lt_of_lt_of_le hk' hw.size) (fun e => by have : w.heap.size ≤ g2 := lR; have : w.heap.size ≤ g3 := lS; omega)).trans (hw.block k hk')⟩⟩
/-- The next box is written anew. -/
theorem SI.next (h : SI w W g0 g1 g2 g3 g4 g5 bx link cd a1 a2 u1 u2 x1 x2 x3 x4 l1 l2 L1 L2 m1 m2 m3 m4 n) (hb : Below W.heap.size W W1) (h1 : AR W1 (fun k => ¬ Own4 x1 x2 x3 x4 k) v1 K1) (h2 : SR W1 (fun k => ¬ Own4 x1 x2 x3 x4 k) v2 K2) :
  SI w (((W1.setCell ⟨g5, 0, none⟩ (.string link)).setCell ⟨g5, 1, none⟩ v1).setCell ⟨g5, 2, none⟩ v2) g0 g1 g2 g3 g4 g5 bx link cd a1 a2 v1 v2 x1 x2 x3 x4 l1 l2 K1 K2 m1 m2 m3 m4 n := by
 have h := h.below hb
 have s1 := h.hx.set (P := []) 0 (.string link) rfl
 have s2 := s1.set (P := []) 1 v1 rfl
 have s3 := s2.set (P := []) 2 v2 rfl
 have q0 := h.hx.at 0 rfl
 have q1 := s1.at 0 rfl
 have q2 := s2.at 0 rfl
 have rA : ∀ {v : Value} {l : List S39}, AR W1 (fun k => ¬ Own4 x1 x2 x3 x4 k) v l → AR (((W1.setCell ⟨g5, 0, none⟩ (.string link)).setCell ⟨g5, 1, none⟩ v1).setCell ⟨g5, 2, none⟩ v2) (fun k => ¬ Own4 x1 x2 x3 x4 k) v l := fun hv => Kd.R_set (Kd.R_set (Kd.R_set hv q0 (t39 (by decide)) 0 _) q1 (t39 (by decide)) 1 _) q2 (t39 (by decide)) 2 _
 have rS : ∀ {v : Value} {l : List ByteArray}, SR W1 (fun k => ¬ Own4 x1 x2 x3 x4 k) v l → SR (((W1.setCell ⟨g5, 0, none⟩ (.string link)).setCell ⟨g5, 1, none⟩ v1).setCell ⟨g5, 2, none⟩ v2) (fun k => ¬ Own4 x1 x2 x3 x4 k) v l := fun hv => Kd.R_set (Kd.R_set (Kd.R_set hv q0 (t9 (by decide)) 0 _) q1 (t9 (by decide)) 1 _) q2 (t9 (by decide)) 2 _
 exact ⟨s3, ((h.hr.set q0 (by decide) 0 _).set q1 (by decide) 1 _).set q2 (by decide) 2 _, h.hn, rA h.ha1, rS h.ha2, rA h1, rS h2, h.ob⟩
theorem SI.row1 (h : SI w W g0 g1 g2 g3 g4 g5 bx link cd a1 a2 u1 u2 x1 x2 x3 x4 l1 l2 L1 L2 m1 m2 m3 m4 n) (h1 : AR W (fun k => ¬ Own4 x1 x2 x3 x4 k) v1 K1) : SI w (W.setCell ⟨g5, 1, none⟩ v1) g0 g1 g2 g3 g4 g5 bx link cd a1 a2 v1 u2 x1 x2 x3 x4 l1 l2 K1 L2 m1 m2 m3 m4 n := by
 have q := h.hx.at 0 rfl
 exact ⟨h.hx.set (P := []) 1 v1 rfl, h.hr.set q (by decide) 1 _, h.hn, Kd.R_set h.ha1 q (t39 (by decide)) 1 _, Kd.R_set h.ha2 q (t9 (by decide)) 1 _, Kd.R_set h1 q (t39 (by decide)) 1 _, Kd.R_set h.hu2 q (t9 (by decide)) 1 _, h.ob⟩
theorem nel6 (e : Nat) (h1 : e ≠ 27) (h2 : e ≠ 54) (h3 : e ≠ 58) {c0 c1 c2 c3 c4 c5 : Array Value} : ∀ p ∈ ([(g5, c0, 27), (g4, c1, 54), (g0, c2, 27), (g1, c3, 58), (g2, c4, 27), (g3, c5, 54)] : List (Nat × Array Value × Nat)), e ≠ p.2.2 := by
 simp only [List.mem_cons, List.not_mem_nil, or_false]
 rintro p (rfl | rfl | rfl | rfl | rfl | rfl) <;> assumption
theorem SI.gone (h : SI w W g0 g1 g2 g3 g4 g5 bx link cd a1 a2 u1 u2 x1 x2 x3 x4 l1 l2 L1 L2 m1 m2 m3 m4 n) (ho : SR W1 (fun k => some k ≠ x1.ownBlock ∧ some k ≠ x3.ownBlock ∧ some k ≠ x4.ownBlock) v1 p1) (hp : p1.length ≤ n + 1) (hg : W.grownBy W1 x2.ownBlock) (hat : v1.ownBlock = x2.ownBlock ∨ ∃ b, v1.ownBlock = some b ∧ W.heap.size ≤ b) :
  SI w (W1.setCell ⟨g4, 2, none⟩ v1) g0 g1 g2 g3 g4 g5 bx link cd a1 a2 u1 u2 x1 v1 x3 x4 l1 l2 L1 L2 m1 p1 m3 m4 (n + 1) := by
 have hx := h.hx.app h.hr.r2 (nel6 9 (by decide) (by decide) (by decide)) hg (fun k hk => .inr (h.ob k (.inr (.inl hk.symm))))
 have q := hx.at 1 rfl
 have hl := h.hx.kept.1
 have rA : ∀ {v : Value} {l : List S39}, AR W (fun k => ¬ Own4 x1 x2 x3 x4 k) v l → AR (W1.setCell ⟨g4, 2, none⟩ v1) (fun k => ¬ Own4 x1 v1 x3 x4 k) v l := fun hv => Kd.R_set (R_app (x := x2) (N' := Own4 x1 v1 x3 x4) hv hg (fun k hk => .inr (.inl hk.symm)) (fun k hk => own4_2 hat k hk)) q (t39 (by decide)) 2 _
 have rS : ∀ {v : Value} {l : List ByteArray}, SR W (fun k => ¬ Own4 x1 x2 x3 x4 k) v l → SR (W1.setCell ⟨g4, 2, none⟩ v1) (fun k => ¬ Own4 x1 v1 x3 x4 k) v l := fun hv => Kd.R_set (R_app (x := x2) (N' := Own4 x1 v1 x3 x4) hv hg (fun k hk => .inr (.inl hk.symm)) (fun k hk => own4_2 hat k hk)) q (t9 (by decide)) 2 _
 have hn := h.hn
 exact ⟨hx.set (P := [_]) 2 v1 rfl, (h.hr.app2 ho hg hat).set q (by decide) 2 v1, ⟨by omega, hp, by omega, by omega⟩, rA h.ha1, rS h.ha2, rA h.hu1, rS h.hu2, fun k hk => (own4_2 hat k hk).elim (h.ob k) (fun q => by omega)⟩
theorem SI.fin (h : SI w W g0 g1 g2 g3 g4 g5 bx link cd a1 a2 u1 u2 x1 x2 x3 x4 l1 l2 L1 L2 m1 m2 m3 m4 n) {W2 : World} (hr : Rows4 W1 y1 y2 y3 y4 p1 p2 p3 p4) (hk : Kept W W1 (Own4 x1 x2 x3 x4)) (hb : Below 0 W W1) (hk2 : Kept W1 W2 (fun k => k = g2 ∨ k = g3)) (hb2 : Below 0 W1 W2) : PostS w link L1 L2 (.returned (.tuple #[.agg #[.string link, u1, u2], .agg #[.int .i64 cd', y1, y2, y3, y4]])) W2 := by
 have s0 := h.mid hk hb
 have bR := s0.at 4 rfl
 have bS := s0.at 5 rfl
 have hw := below_of s0
 have lR := s0.new (_, _, _) (List.mem_of_getElem? (i := 4) rfl)
 have lS := s0.new (_, _, _) (List.mem_of_getElem? (i := 5) rfl)
 exact ⟨_, _, _, _, _, _, _, _, _, _, _, rfl, hr.box2 (by decide) (by decide) bR bS hk2, Kd.R_mono (R_box2 (R_kept h.hu1 hk) e39 (by decide) (by decide) bR bS hk2) (fun _ _ => trivial), Kd.R_mono (R_box2 (R_kept h.hu2 hk) e9 (by decide) (by decide) bR bS hk2) (fun _ _ => trivial),
  ⟨hb2.os.trans hw.os, hb2.tape.trans hw.tape, hb2.output.trans hw.output, Nat.le_trans hw.size hb2.size, fun k hk' => (hk2.2 k (Nat.lt_of_lt_of_le hk' hw.size) (fun e => by have : w.heap.size ≤ g2 := lR; have : w.heap.size ≤ g3 := lS; omega)).trans (hw.block k hk')⟩⟩
end
def spec_l14Step.T30 : Bool × List (List Nat × List Nat) := (true, [([], []), ([], []), ([1], [1]), ([], []), ([2, 3], [2, 3]), ([0, 4], [0, 4]), ([], []), ([6], [6]), ([], []), ([8], [8]), ([7, 9], [7, 9]), ([5, 10, 5], [5, 10]), ([0, 1, 2, 3, 4, 5, 6, 7, 8, 9, 10, 11], []), ([12, 11, 11, 0, 1, 2, 3, 4, 5, 6, 7, 8, 9, 10, 11], [11, 12])])
def spec_l14Step.B30 : List Nat := [0, 0, 2, 0, 14, 31, 0, 64, 0, 256, 960, 2047, 4095, 8191]
theorem spec_l14Step.tab30 : rtab .any (opsOf Try.f22 30) = spec_l14Step.T30 := by kernel_rfl
theorem spec_l14Step.bits30 : waitsOk spec_l14Step.T30.2 spec_l14Step.B30 = true := by kernel_rfl
def spec_l14Step.T32 : Bool × List (List Nat × List Nat) := (true, [([], []), ([], []), ([], []), ([], []), ([1, 2, 3], [1, 2, 3]), ([0, 4, 0], [0]), ([4, 5, 0, 1, 2, 3, 4, 5], [4])])
def spec_l14Step.B32 : List Nat := [0, 0, 0, 0, 14, 31, 63]
theorem spec_l14Step.tab32 : rtab .any (opsOf Try.f22 32) = spec_l14Step.T32 := by kernel_rfl
theorem spec_l14Step.bits32 : waitsOk spec_l14Step.T32.2 spec_l14Step.B32 = true := by kernel_rfl
set_option maxHeartbeats 8000000 in
set_option maxRecDepth 100000 in
theorem step_else (link : ByteArray) (A1 A2 : Option Addr) (c1 c2 : Nat) (l1 : List S39) (l2 : List ByteArray) (x : S58) (w : World) (hG : Good link l1 l2) (ha : AR w (fun _ => True) (.slice A1 l1.length c1) l1) (hb : SR w (fun _ => True) (.slice A2 l2.length c2) l2) (h : ¬ x.f0 = 1 ∧ ¬ x.f0 = 2 ∧ ¬ x.f0 = 3 ∧ ¬ x.f0 = 4) :
  Calls Try.prog 22 #[.agg #[.string link, .slice A1 l1.length c1, .slice A2 l2.length c2], .agg #[.int .i64 x.f0, .int .i64 x.f1, .string x.f2, .string x.f3, .int .i64 x.f4, .int .i64 x.f5]] w (PostS w link l1 l2) := by
 have HH := Aside0.mk h
 clear h
 have hu27 := Try.underlying27
 have hu54 := Try.underlying54
 have hu58 := Try.underlying58
 have HG := Aside0.mk hG
 have HA := Aside0.mk ha
 have HQ := Aside0.mk hb
 clear hG ha hb
 go_enter Try.func22, Try.ntmps22
 go_upto_region 1 with (fail)
 refine at_world (fun W hW => ?_)
 obtain ⟨q0, q1, q2, q3, qb, qz⟩ := boxes4 hW
 clear hW
 obtain ⟨g0, e0⟩ : ∃ g, g = w.heap.size := ⟨_, rfl⟩
 obtain ⟨g1, e1⟩ : ∃ g, g = w.heap.size + 1 := ⟨_, rfl⟩
 obtain ⟨g2, e2⟩ : ∃ g, g = w.heap.size + 1 + 1 := ⟨_, rfl⟩
 obtain ⟨g3, e3⟩ : ∃ g, g = w.heap.size + 1 + 1 + 1 := ⟨_, rfl⟩
 simp only [← e3]; simp only [← e2]; simp only [← e1]; simp only [← e0]
 rw [← e3] at q3; rw [← e2] at q2; rw [← e1] at q1; rw [← e0] at q0
 have HX := Aside0.mk (HS.start4 (N := fun _ => False) qb q0 q1 q2 q3 (by omega))
 replace HA := Aside0.mk (Kd.R_below HA.out qb)
 replace HQ := Aside0.mk (Kd.R_below HQ.out qb)
 clear q0 q1 q2 q3 qb qz e0 e1 e2 e3
 go_upto_region 2 with (go_at_call 46; (with_reducible refine (spec_l14Out.calls 0 [] [] [] [] _ rfl).mono ?_); rintro e w1 ⟨v1, v2, v3, v4, rfl, o1, o2, o3, o4, hb⟩; obtain ⟨B1, d1, rfl⟩ := Kd.R_slice o1; obtain ⟨B2, d2, rfl⟩ := Kd.R_slice o2; obtain ⟨B3, d3, rfl⟩ := Kd.R_slice o3; obtain ⟨B4, d4, rfl⟩ := Kd.R_slice o4; have HO := Aside0.mk (fun k (hk : Own4 (.slice B1 ([] : List ByteArray).length d1) (.slice B2 ([] : List ByteArray).length d2) (.slice B3 ([] : List ByteArray).length d3) (.slice B4 ([] : List ByteArray).length d4) k) => show W.heap.size ≤ k from hk.elim (fun e => Kd.R_base o1 k e.symm) (fun hk => hk.elim (fun e => Kd.R_base o2 k e.symm) (fun hk => hk.elim (fun e => Kd.R_base o3 k e.symm) (fun e => Kd.R_base o4 k e.symm)))); have HR := Aside0.mk (Rows4.mk (Kd.R_lower o1 (Nat.zero_le _)) (Kd.R_lower o2 (Nat.zero_le _)) (Kd.R_lower o3 (Nat.zero_le _)) (Kd.R_lower o4 (Nat.zero_le _))); have n0_ := Aside0.mk (HX.out.below hb); have n1_ := Aside0.mk (Kd.R_below (Kd.R_mono (Kd.R_bound HA.out) (fun k hk => (hk.2.2.1 : k < W.heap.size))) hb); have n2_ := Aside0.mk (Kd.R_below (Kd.R_mono (Kd.R_bound HQ.out) (fun k hk => (hk.2.2.1 : k < W.heap.size))) hb); have HW := Aside0.mk HX.out.kept.1; clear HX HA HQ hb o1 o2 o3 o4; have HX := n0_; have HA := n1_; have HQ := n2_; clear n0_ n1_ n2_)
 refine at_world (fun W2 hW => ?_)
 have hb := below_alloc (Below.refl w1.heap.size w1) (Obj.cells #[.int .i64 0, .slice B1 0 d1, .slice B2 0 d2, .slice B3 0 d3, .slice B4 0 d4] 54)
 rw [← hW] at hb
 obtain ⟨g4, e4⟩ : ∃ g, g = w1.heap.size := ⟨_, rfl⟩
 have n0_ := Aside0.mk (HX.out.add (g := g4) (t := 54) (cs := #[.int .i64 0, .slice B1 0 d1, .slice B2 0 d2, .slice B3 0 d3, .slice B4 0 d4]) hb (by rw [hW, e4]; exact blk_new _ _) (by omega)); have n1_ := Aside0.mk (Kd.R_below HA.out hb); have n2_ := Aside0.mk (Kd.R_below HQ.out hb); have n3_ := Aside0.mk (HR.out.below hb); simp only [← e4]; clear HX HA HQ HR hb hW e4; have HX := n0_; have HA := n1_; have HQ := n2_; have HR := n3_; clear n0_ n1_ n2_ n3_
 have x1_0 := HX.out.cell 1 rfl 0 rfl
 have x1_1 := HX.out.cell 1 rfl 1 rfl
 have x1_2 := HX.out.cell 1 rfl 2 rfl
 go_upto_region 3 with (fail)
 clear x1_0 x1_1 x1_2
 refine at_world (fun W3 hW => ?_)
 have hb := below_alloc (Below.refl W2.heap.size W2) (Obj.cells #[.string link, .slice A1 l1.length c1, .slice A2 l2.length c2] 27)
 rw [← hW] at hb
 obtain ⟨g5, e5⟩ : ∃ g, g = W2.heap.size := ⟨_, rfl⟩
 have n0_ := Aside0.mk (HX.out.add (g := g5) (t := 27) (cs := #[.string link, .slice A1 l1.length c1, .slice A2 l2.length c2]) hb (by rw [hW, e5]; exact blk_new _ _) (by omega)); have n1_ := Aside0.mk (Kd.R_below HA.out hb); have n2_ := Aside0.mk (Kd.R_below HQ.out hb); have n3_ := Aside0.mk (HR.out.below hb); simp only [← e5]; clear HX HA HQ HR hb hW e5; have HX := n0_; have HA := n1_; have HQ := n2_; have HR := n3_; clear n0_ n1_ n2_ n3_
 have HS := Aside0.mk (SI.mk (x1 := .slice B1 0 d1) (x2 := .slice B2 0 d2) (x3 := .slice B3 0 d3) (x4 := .slice B4 0 d4) (n := 0) HX.out HR.out ⟨Nat.le_refl _, Nat.le_refl _, Nat.le_refl _, Nat.le_refl _⟩ (Kd.R_mono HA.out (fun k hk hN => by have := HO.out k hN; omega)) (Kd.R_mono HQ.out (fun k hk hN => by have := HO.out k hN; omega)) (Kd.R_mono HA.out (fun k hk hN => by have := HO.out k hN; omega)) (Kd.R_mono HQ.out (fun k hk hN => by have := HO.out k hN; omega)) (fun k hk => Nat.le_trans HW.out (HO.out k hk)))
 clear HX HA HQ HR HO HW
 have x3_0 := HS.out.hx.cell 3 rfl 0 rfl
 have t1 : (x.f0 == 1) = false := by simp [HH.out.1]
 have t2 : (x.f0 == 2) = false := by simp [HH.out.2.1]
 have t3 : (x.f0 == 3) = false := by simp [HH.out.2.2.1]
 have t4 : (x.f0 == 4) = false := by simp [HH.out.2.2.2]
 have y0_ := HS.out.hx.cell 1 rfl 0 rfl
 have f0_ := HS.out.hx.free 1 rfl 0
 go_upto_region 5 with (fail)
 clear t1 t2 t3 t4 x3_0
 have n0_ := Aside0.mk (HS.out.code 3)
 clear HS y0_ f0_
 have HS := n0_
 clear n0_
 generalize World.setCell W3 _ _ = W4 at HS ⊢
 refine ret2 (p := 2) (q := 6) (r := 4) (s := 5) (d1 := 15) (d2 := 16) rfl (by kernel_rfl) (by kernel_rfl) (by kernel_rfl) (by kernel_rfl) (by kernel_rfl) (fun _ _ _ _ _ h => h) rfl rfl rfl rfl (show (15 : Nat) < 124 by decide) (show (16 : Nat) < 124 by decide) (by decide) (HS.out.hx.at 2 rfl) (HS.out.hx.at 1 rfl) (HS.out.hx.at 4 rfl) (HS.out.hx.at 5 rfl) ?_ (fun w4 bR bS hk hb => ?_)
 ·
  have := HS.out.hx.nd
  simp at this
  omega
 have HP := Aside0.mk (HS.out.ends hk hb)
 go_wp2
 all_goals exact bodyPost_ret (results_cc rfl _ _ _ _ 27 54 _ _ (0, 0) (0, 0) _ _ rfl bR Try.underlying27 rfl (by kernel_rfl) rfl bS Try.underlying54 rfl (by kernel_rfl)) rfl HP.out
set_option maxHeartbeats 8000000 in
set_option maxRecDepth 100000 in
theorem step_pre1 (link : ByteArray) (A1 A2 : Option Addr) (c1 c2 : Nat) (l1 : List S39) (l2 : List ByteArray) (x : S58) (w : World) (hG : Good link l1 l2) (ha : AR w (fun _ => True) (.slice A1 l1.length c1) l1) (hb : SR w (fun _ => True) (.slice A2 l2.length c2) l2) (h : x.f0 = 1 ∧ ¬ x.f2.size = 16) :
  Calls Try.prog 22 #[.agg #[.string link, .slice A1 l1.length c1, .slice A2 l2.length c2], .agg #[.int .i64 x.f0, .int .i64 x.f1, .string x.f2, .string x.f3, .int .i64 x.f4, .int .i64 x.f5]] w (PostS w link l1 l2) := by
 have HH := Aside0.mk h
 clear h
 have hu27 := Try.underlying27
 have hu54 := Try.underlying54
 have hu58 := Try.underlying58
 have HG := Aside0.mk hG
 have HA := Aside0.mk ha
 have HQ := Aside0.mk hb
 clear hG ha hb
 go_enter Try.func22, Try.ntmps22
 go_upto_region 1 with (fail)
 refine at_world (fun W hW => ?_)
 obtain ⟨q0, q1, q2, q3, qb, qz⟩ := boxes4 hW
 clear hW
 obtain ⟨g0, e0⟩ : ∃ g, g = w.heap.size := ⟨_, rfl⟩
 obtain ⟨g1, e1⟩ : ∃ g, g = w.heap.size + 1 := ⟨_, rfl⟩
 obtain ⟨g2, e2⟩ : ∃ g, g = w.heap.size + 1 + 1 := ⟨_, rfl⟩
 obtain ⟨g3, e3⟩ : ∃ g, g = w.heap.size + 1 + 1 + 1 := ⟨_, rfl⟩
 simp only [← e3]; simp only [← e2]; simp only [← e1]; simp only [← e0]
 rw [← e3] at q3; rw [← e2] at q2; rw [← e1] at q1; rw [← e0] at q0
 have HX := Aside0.mk (HS.start4 (N := fun _ => False) qb q0 q1 q2 q3 (by omega))
 replace HA := Aside0.mk (Kd.R_below HA.out qb)
 replace HQ := Aside0.mk (Kd.R_below HQ.out qb)
 clear q0 q1 q2 q3 qb qz e0 e1 e2 e3
 go_upto_region 2 with (go_at_call 46; (with_reducible refine (spec_l14Out.calls 0 [] [] [] [] _ rfl).mono ?_); rintro e w1 ⟨v1, v2, v3, v4, rfl, o1, o2, o3, o4, hb⟩; obtain ⟨B1, d1, rfl⟩ := Kd.R_slice o1; obtain ⟨B2, d2, rfl⟩ := Kd.R_slice o2; obtain ⟨B3, d3, rfl⟩ := Kd.R_slice o3; obtain ⟨B4, d4, rfl⟩ := Kd.R_slice o4; have HO := Aside0.mk (fun k (hk : Own4 (.slice B1 ([] : List ByteArray).length d1) (.slice B2 ([] : List ByteArray).length d2) (.slice B3 ([] : List ByteArray).length d3) (.slice B4 ([] : List ByteArray).length d4) k) => show W.heap.size ≤ k from hk.elim (fun e => Kd.R_base o1 k e.symm) (fun hk => hk.elim (fun e => Kd.R_base o2 k e.symm) (fun hk => hk.elim (fun e => Kd.R_base o3 k e.symm) (fun e => Kd.R_base o4 k e.symm)))); have HR := Aside0.mk (Rows4.mk (Kd.R_lower o1 (Nat.zero_le _)) (Kd.R_lower o2 (Nat.zero_le _)) (Kd.R_lower o3 (Nat.zero_le _)) (Kd.R_lower o4 (Nat.zero_le _))); have n0_ := Aside0.mk (HX.out.below hb); have n1_ := Aside0.mk (Kd.R_below (Kd.R_mono (Kd.R_bound HA.out) (fun k hk => (hk.2.2.1 : k < W.heap.size))) hb); have n2_ := Aside0.mk (Kd.R_below (Kd.R_mono (Kd.R_bound HQ.out) (fun k hk => (hk.2.2.1 : k < W.heap.size))) hb); have HW := Aside0.mk HX.out.kept.1; clear HX HA HQ hb o1 o2 o3 o4; have HX := n0_; have HA := n1_; have HQ := n2_; clear n0_ n1_ n2_)
 refine at_world (fun W2 hW => ?_)
 have hb := below_alloc (Below.refl w1.heap.size w1) (Obj.cells #[.int .i64 0, .slice B1 0 d1, .slice B2 0 d2, .slice B3 0 d3, .slice B4 0 d4] 54)
 rw [← hW] at hb
 obtain ⟨g4, e4⟩ : ∃ g, g = w1.heap.size := ⟨_, rfl⟩
 have n0_ := Aside0.mk (HX.out.add (g := g4) (t := 54) (cs := #[.int .i64 0, .slice B1 0 d1, .slice B2 0 d2, .slice B3 0 d3, .slice B4 0 d4]) hb (by rw [hW, e4]; exact blk_new _ _) (by omega)); have n1_ := Aside0.mk (Kd.R_below HA.out hb); have n2_ := Aside0.mk (Kd.R_below HQ.out hb); have n3_ := Aside0.mk (HR.out.below hb); simp only [← e4]; clear HX HA HQ HR hb hW e4; have HX := n0_; have HA := n1_; have HQ := n2_; have HR := n3_; clear n0_ n1_ n2_ n3_
 have x1_0 := HX.out.cell 1 rfl 0 rfl
 have x1_1 := HX.out.cell 1 rfl 1 rfl
 have x1_2 := HX.out.cell 1 rfl 2 rfl
 go_upto_region 3 with (fail)
 clear x1_0 x1_1 x1_2
 refine at_world (fun W3 hW => ?_)
 have hb := below_alloc (Below.refl W2.heap.size W2) (Obj.cells #[.string link, .slice A1 l1.length c1, .slice A2 l2.length c2] 27)
 rw [← hW] at hb
 obtain ⟨g5, e5⟩ : ∃ g, g = W2.heap.size := ⟨_, rfl⟩
 have n0_ := Aside0.mk (HX.out.add (g := g5) (t := 27) (cs := #[.string link, .slice A1 l1.length c1, .slice A2 l2.length c2]) hb (by rw [hW, e5]; exact blk_new _ _) (by omega)); have n1_ := Aside0.mk (Kd.R_below HA.out hb); have n2_ := Aside0.mk (Kd.R_below HQ.out hb); have n3_ := Aside0.mk (HR.out.below hb); simp only [← e5]; clear HX HA HQ HR hb hW e5; have HX := n0_; have HA := n1_; have HQ := n2_; have HR := n3_; clear n0_ n1_ n2_ n3_
 have HS := Aside0.mk (SI.mk (x1 := .slice B1 0 d1) (x2 := .slice B2 0 d2) (x3 := .slice B3 0 d3) (x4 := .slice B4 0 d4) (n := 0) HX.out HR.out ⟨Nat.le_refl _, Nat.le_refl _, Nat.le_refl _, Nat.le_refl _⟩ (Kd.R_mono HA.out (fun k hk hN => by have := HO.out k hN; omega)) (Kd.R_mono HQ.out (fun k hk hN => by have := HO.out k hN; omega)) (Kd.R_mono HA.out (fun k hk hN => by have := HO.out k hN; omega)) (Kd.R_mono HQ.out (fun k hk hN => by have := HO.out k hN; omega)) (fun k hk => Nat.le_trans HW.out (HO.out k hk)))
 clear HX HA HQ HR HO HW
 have x3_0 := HS.out.hx.cell 3 rfl 0 rfl
 have x3_1 := HS.out.hx.cell 3 rfl 1 rfl
 have x3_2 := HS.out.hx.cell 3 rfl 2 rfl
 have x3_3 := HS.out.hx.cell 3 rfl 3 rfl
 have x3_4 := HS.out.hx.cell 3 rfl 4 rfl
 have x3_5 := HS.out.hx.cell 3 rfl 5 rfl
 have t1 : (x.f0 == 1) = true := by simp [HH.out.1]
 have t2 : ((x.f2.size : Int) != 16) = true := by simp; have := HH.out.2; omega
 go_upto_region 8 with (fail)
 clear t1
 clear x3_0 x3_1 x3_2 x3_3 x3_4 x3_5
 have y0_ := HS.out.hx.cell 1 rfl 0 rfl
 have f0_ := HS.out.hx.free 1 rfl 0
 go_upto_region 9 with (fail)
 have n0_ := Aside0.mk (HS.out.code 1)
 clear HS y0_ f0_
 have HS := n0_
 clear n0_
 generalize World.setCell _ _ _ = W4 at HS ⊢
 refine ret2 (p := 2) (q := 6) (r := 4) (s := 5) (d1 := 38) (d2 := 39) rfl (by kernel_rfl) (by kernel_rfl) (by kernel_rfl) (by kernel_rfl) (by kernel_rfl) (fun _ _ _ _ _ h => h) rfl rfl rfl rfl (show (38 : Nat) < 124 by decide) (show (39 : Nat) < 124 by decide) (by decide) (HS.out.hx.at 2 rfl) (HS.out.hx.at 1 rfl) (HS.out.hx.at 4 rfl) (HS.out.hx.at 5 rfl) ?_ (fun w4 bR bS hk hb => ?_)
 ·
  have := HS.out.hx.nd
  simp at this
  omega
 have HP := Aside0.mk (HS.out.ends hk hb)
 go_wp2
 all_goals exact bodyPost_ret (results_cc rfl _ _ _ _ 27 54 _ _ (0, 0) (0, 0) _ _ rfl bR Try.underlying27 rfl (by kernel_rfl) rfl bS Try.underlying54 rfl (by kernel_rfl)) rfl HP.out
set_option maxHeartbeats 8000000 in
set_option maxRecDepth 100000 in
theorem step_pre2 (link : ByteArray) (A1 A2 : Option Addr) (c1 c2 : Nat) (l1 : List S39) (l2 : List ByteArray) (x : S58) (w : World) (hG : Good link l1 l2) (ha : AR w (fun _ => True) (.slice A1 l1.length c1) l1) (hb : SR w (fun _ => True) (.slice A2 l2.length c2) l2) (h : x.f0 = 1 ∧ x.f2.size = 16 ∧ ¬ (0 ≤ x.f4 ∧ x.f4 ≤ 100000)) :
  Calls Try.prog 22 #[.agg #[.string link, .slice A1 l1.length c1, .slice A2 l2.length c2], .agg #[.int .i64 x.f0, .int .i64 x.f1, .string x.f2, .string x.f3, .int .i64 x.f4, .int .i64 x.f5]] w (PostS w link l1 l2) := by
 have HH := Aside0.mk h
 clear h
 have hu27 := Try.underlying27
 have hu54 := Try.underlying54
 have hu58 := Try.underlying58
 have HG := Aside0.mk hG
 have HA := Aside0.mk ha
 have HQ := Aside0.mk hb
 clear hG ha hb
 go_enter Try.func22, Try.ntmps22
 go_upto_region 1 with (fail)
 refine at_world (fun W hW => ?_)
 obtain ⟨q0, q1, q2, q3, qb, qz⟩ := boxes4 hW
 clear hW
 obtain ⟨g0, e0⟩ : ∃ g, g = w.heap.size := ⟨_, rfl⟩
 obtain ⟨g1, e1⟩ : ∃ g, g = w.heap.size + 1 := ⟨_, rfl⟩
 obtain ⟨g2, e2⟩ : ∃ g, g = w.heap.size + 1 + 1 := ⟨_, rfl⟩
 obtain ⟨g3, e3⟩ : ∃ g, g = w.heap.size + 1 + 1 + 1 := ⟨_, rfl⟩
 simp only [← e3]; simp only [← e2]; simp only [← e1]; simp only [← e0]
 rw [← e3] at q3; rw [← e2] at q2; rw [← e1] at q1; rw [← e0] at q0
 have HX := Aside0.mk (HS.start4 (N := fun _ => False) qb q0 q1 q2 q3 (by omega))
 replace HA := Aside0.mk (Kd.R_below HA.out qb)
 replace HQ := Aside0.mk (Kd.R_below HQ.out qb)
 clear q0 q1 q2 q3 qb qz e0 e1 e2 e3
 go_upto_region 2 with (go_at_call 46; (with_reducible refine (spec_l14Out.calls 0 [] [] [] [] _ rfl).mono ?_); rintro e w1 ⟨v1, v2, v3, v4, rfl, o1, o2, o3, o4, hb⟩; obtain ⟨B1, d1, rfl⟩ := Kd.R_slice o1; obtain ⟨B2, d2, rfl⟩ := Kd.R_slice o2; obtain ⟨B3, d3, rfl⟩ := Kd.R_slice o3; obtain ⟨B4, d4, rfl⟩ := Kd.R_slice o4; have HO := Aside0.mk (fun k (hk : Own4 (.slice B1 ([] : List ByteArray).length d1) (.slice B2 ([] : List ByteArray).length d2) (.slice B3 ([] : List ByteArray).length d3) (.slice B4 ([] : List ByteArray).length d4) k) => show W.heap.size ≤ k from hk.elim (fun e => Kd.R_base o1 k e.symm) (fun hk => hk.elim (fun e => Kd.R_base o2 k e.symm) (fun hk => hk.elim (fun e => Kd.R_base o3 k e.symm) (fun e => Kd.R_base o4 k e.symm)))); have HR := Aside0.mk (Rows4.mk (Kd.R_lower o1 (Nat.zero_le _)) (Kd.R_lower o2 (Nat.zero_le _)) (Kd.R_lower o3 (Nat.zero_le _)) (Kd.R_lower o4 (Nat.zero_le _))); have n0_ := Aside0.mk (HX.out.below hb); have n1_ := Aside0.mk (Kd.R_below (Kd.R_mono (Kd.R_bound HA.out) (fun k hk => (hk.2.2.1 : k < W.heap.size))) hb); have n2_ := Aside0.mk (Kd.R_below (Kd.R_mono (Kd.R_bound HQ.out) (fun k hk => (hk.2.2.1 : k < W.heap.size))) hb); have HW := Aside0.mk HX.out.kept.1; clear HX HA HQ hb o1 o2 o3 o4; have HX := n0_; have HA := n1_; have HQ := n2_; clear n0_ n1_ n2_)
 refine at_world (fun W2 hW => ?_)
 have hb := below_alloc (Below.refl w1.heap.size w1) (Obj.cells #[.int .i64 0, .slice B1 0 d1, .slice B2 0 d2, .slice B3 0 d3, .slice B4 0 d4] 54)
 rw [← hW] at hb
 obtain ⟨g4, e4⟩ : ∃ g, g = w1.heap.size := ⟨_, rfl⟩
 have n0_ := Aside0.mk (HX.out.add (g := g4) (t := 54) (cs := #[.int .i64 0, .slice B1 0 d1, .slice B2 0 d2, .slice B3 0 d3, .slice B4 0 d4]) hb (by rw [hW, e4]; exact blk_new _ _) (by omega)); have n1_ := Aside0.mk (Kd.R_below HA.out hb); have n2_ := Aside0.mk (Kd.R_below HQ.out hb); have n3_ := Aside0.mk (HR.out.below hb); simp only [← e4]; clear HX HA HQ HR hb hW e4; have HX := n0_; have HA := n1_; have HQ := n2_; have HR := n3_; clear n0_ n1_ n2_ n3_
 have x1_0 := HX.out.cell 1 rfl 0 rfl
 have x1_1 := HX.out.cell 1 rfl 1 rfl
 have x1_2 := HX.out.cell 1 rfl 2 rfl
 go_upto_region 3 with (fail)
 clear x1_0 x1_1 x1_2
 refine at_world (fun W3 hW => ?_)
 have hb := below_alloc (Below.refl W2.heap.size W2) (Obj.cells #[.string link, .slice A1 l1.length c1, .slice A2 l2.length c2] 27)
 rw [← hW] at hb
 obtain ⟨g5, e5⟩ : ∃ g, g = W2.heap.size := ⟨_, rfl⟩
 have n0_ := Aside0.mk (HX.out.add (g := g5) (t := 27) (cs := #[.string link, .slice A1 l1.length c1, .slice A2 l2.length c2]) hb (by rw [hW, e5]; exact blk_new _ _) (by omega)); have n1_ := Aside0.mk (Kd.R_below HA.out hb); have n2_ := Aside0.mk (Kd.R_below HQ.out hb); have n3_ := Aside0.mk (HR.out.below hb); simp only [← e5]; clear HX HA HQ HR hb hW e5; have HX := n0_; have HA := n1_; have HQ := n2_; have HR := n3_; clear n0_ n1_ n2_ n3_
 have HS := Aside0.mk (SI.mk (x1 := .slice B1 0 d1) (x2 := .slice B2 0 d2) (x3 := .slice B3 0 d3) (x4 := .slice B4 0 d4) (n := 0) HX.out HR.out ⟨Nat.le_refl _, Nat.le_refl _, Nat.le_refl _, Nat.le_refl _⟩ (Kd.R_mono HA.out (fun k hk hN => by have := HO.out k hN; omega)) (Kd.R_mono HQ.out (fun k hk hN => by have := HO.out k hN; omega)) (Kd.R_mono HA.out (fun k hk hN => by have := HO.out k hN; omega)) (Kd.R_mono HQ.out (fun k hk hN => by have := HO.out k hN; omega)) (fun k hk => Nat.le_trans HW.out (HO.out k hk)))
 clear HX HA HQ HR HO HW
 have x3_0 := HS.out.hx.cell 3 rfl 0 rfl
 have x3_1 := HS.out.hx.cell 3 rfl 1 rfl
 have x3_2 := HS.out.hx.cell 3 rfl 2 rfl
 have x3_3 := HS.out.hx.cell 3 rfl 3 rfl
 have x3_4 := HS.out.hx.cell 3 rfl 4 rfl
 have x3_5 := HS.out.hx.cell 3 rfl 5 rfl
 have t1 : (x.f0 == 1) = true := by simp [HH.out.1]
 have t2 : ((x.f2.size : Int) != 16) = false := by simp; have := HH.out.2.1; omega
 have HI2 := Aside0.mk (in_f x.f4 0 100000)
 rw [decide_eq_false HH.out.2.2] at HI2
 go_upto_region 8 with ((go_at_call 37; (with_reducible refine (spec_l01In.calls x.f4 0 100000 false _ HI2.out).mono ?_); rintro e w4 ⟨rfl, ⟨nd, rfl⟩⟩; have n0_ := Aside0.mk (HS.out.below (pw_below_drewN (Below.refl _ _) nd)); clear HS x3_0 x3_1 x3_2 x3_3 x3_4 x3_5; have HS := n0_; clear n0_; generalize World.drewN _ nd = w5_ at HS ⊢; have x3_0 := HS.out.hx.cell 3 rfl 0 rfl; have x3_1 := HS.out.hx.cell 3 rfl 1 rfl; have x3_2 := HS.out.hx.cell 3 rfl 2 rfl; have x3_3 := HS.out.hx.cell 3 rfl 3 rfl; have x3_4 := HS.out.hx.cell 3 rfl 4 rfl; have x3_5 := HS.out.hx.cell 3 rfl 5 rfl))
 clear t1
 clear x3_0 x3_1 x3_2 x3_3 x3_4 x3_5
 have y0_ := HS.out.hx.cell 1 rfl 0 rfl
 have f0_ := HS.out.hx.free 1 rfl 0
 go_upto_region 9 with (fail)
 have n0_ := Aside0.mk (HS.out.code 1)
 clear HS y0_ f0_
 have HS := n0_
 clear n0_
 generalize World.setCell _ _ _ = W4 at HS ⊢
 refine ret2 (p := 2) (q := 6) (r := 4) (s := 5) (d1 := 38) (d2 := 39) rfl (by kernel_rfl) (by kernel_rfl) (by kernel_rfl) (by kernel_rfl) (by kernel_rfl) (fun _ _ _ _ _ h => h) rfl rfl rfl rfl (show (38 : Nat) < 124 by decide) (show (39 : Nat) < 124 by decide) (by decide) (HS.out.hx.at 2 rfl) (HS.out.hx.at 1 rfl) (HS.out.hx.at 4 rfl) (HS.out.hx.at 5 rfl) ?_ (fun w4 bR bS hk hb => ?_)
 ·
  have := HS.out.hx.nd
  simp at this
  omega
 have HP := Aside0.mk (HS.out.ends hk hb)
 go_wp2
 all_goals exact bodyPost_ret (results_cc rfl _ _ _ _ 27 54 _ _ (0, 0) (0, 0) _ _ rfl bR Try.underlying27 rfl (by kernel_rfl) rfl bS Try.underlying54 rfl (by kernel_rfl)) rfl HP.out
set_option maxHeartbeats 8000000 in
set_option maxRecDepth 100000 in
theorem step_pre3 (link : ByteArray) (A1 A2 : Option Addr) (c1 c2 : Nat) (l1 : List S39) (l2 : List ByteArray) (x : S58) (w : World) (hG : Good link l1 l2) (ha : AR w (fun _ => True) (.slice A1 l1.length c1) l1) (hb : SR w (fun _ => True) (.slice A2 l2.length c2) l2) (h : x.f0 = 1 ∧ x.f2.size = 16 ∧ (0 ≤ x.f4 ∧ x.f4 ≤ 100000) ∧ ¬ (0 ≤ x.f5 ∧ x.f5 ≤ x.f4)) :
  Calls Try.prog 22 #[.agg #[.string link, .slice A1 l1.length c1, .slice A2 l2.length c2], .agg #[.int .i64 x.f0, .int .i64 x.f1, .string x.f2, .string x.f3, .int .i64 x.f4, .int .i64 x.f5]] w (PostS w link l1 l2) := by
 have HH := Aside0.mk h
 clear h
 have hu27 := Try.underlying27
 have hu54 := Try.underlying54
 have hu58 := Try.underlying58
 have HG := Aside0.mk hG
 have HA := Aside0.mk ha
 have HQ := Aside0.mk hb
 clear hG ha hb
 go_enter Try.func22, Try.ntmps22
 go_upto_region 1 with (fail)
 refine at_world (fun W hW => ?_)
 obtain ⟨q0, q1, q2, q3, qb, qz⟩ := boxes4 hW
 clear hW
 obtain ⟨g0, e0⟩ : ∃ g, g = w.heap.size := ⟨_, rfl⟩
 obtain ⟨g1, e1⟩ : ∃ g, g = w.heap.size + 1 := ⟨_, rfl⟩
 obtain ⟨g2, e2⟩ : ∃ g, g = w.heap.size + 1 + 1 := ⟨_, rfl⟩
 obtain ⟨g3, e3⟩ : ∃ g, g = w.heap.size + 1 + 1 + 1 := ⟨_, rfl⟩
 simp only [← e3]; simp only [← e2]; simp only [← e1]; simp only [← e0]
 rw [← e3] at q3; rw [← e2] at q2; rw [← e1] at q1; rw [← e0] at q0
 have HX := Aside0.mk (HS.start4 (N := fun _ => False) qb q0 q1 q2 q3 (by omega))
 replace HA := Aside0.mk (Kd.R_below HA.out qb)
 replace HQ := Aside0.mk (Kd.R_below HQ.out qb)
 clear q0 q1 q2 q3 qb qz e0 e1 e2 e3
 go_upto_region 2 with (go_at_call 46; (with_reducible refine (spec_l14Out.calls 0 [] [] [] [] _ rfl).mono ?_); rintro e w1 ⟨v1, v2, v3, v4, rfl, o1, o2, o3, o4, hb⟩; obtain ⟨B1, d1, rfl⟩ := Kd.R_slice o1; obtain ⟨B2, d2, rfl⟩ := Kd.R_slice o2; obtain ⟨B3, d3, rfl⟩ := Kd.R_slice o3; obtain ⟨B4, d4, rfl⟩ := Kd.R_slice o4; have HO := Aside0.mk (fun k (hk : Own4 (.slice B1 ([] : List ByteArray).length d1) (.slice B2 ([] : List ByteArray).length d2) (.slice B3 ([] : List ByteArray).length d3) (.slice B4 ([] : List ByteArray).length d4) k) => show W.heap.size ≤ k from hk.elim (fun e => Kd.R_base o1 k e.symm) (fun hk => hk.elim (fun e => Kd.R_base o2 k e.symm) (fun hk => hk.elim (fun e => Kd.R_base o3 k e.symm) (fun e => Kd.R_base o4 k e.symm)))); have HR := Aside0.mk (Rows4.mk (Kd.R_lower o1 (Nat.zero_le _)) (Kd.R_lower o2 (Nat.zero_le _)) (Kd.R_lower o3 (Nat.zero_le _)) (Kd.R_lower o4 (Nat.zero_le _))); have n0_ := Aside0.mk (HX.out.below hb); have n1_ := Aside0.mk (Kd.R_below (Kd.R_mono (Kd.R_bound HA.out) (fun k hk => (hk.2.2.1 : k < W.heap.size))) hb); have n2_ := Aside0.mk (Kd.R_below (Kd.R_mono (Kd.R_bound HQ.out) (fun k hk => (hk.2.2.1 : k < W.heap.size))) hb); have HW := Aside0.mk HX.out.kept.1; clear HX HA HQ hb o1 o2 o3 o4; have HX := n0_; have HA := n1_; have HQ := n2_; clear n0_ n1_ n2_)
 refine at_world (fun W2 hW => ?_)
 have hb := below_alloc (Below.refl w1.heap.size w1) (Obj.cells #[.int .i64 0, .slice B1 0 d1, .slice B2 0 d2, .slice B3 0 d3, .slice B4 0 d4] 54)
 rw [← hW] at hb
 obtain ⟨g4, e4⟩ : ∃ g, g = w1.heap.size := ⟨_, rfl⟩
 have n0_ := Aside0.mk (HX.out.add (g := g4) (t := 54) (cs := #[.int .i64 0, .slice B1 0 d1, .slice B2 0 d2, .slice B3 0 d3, .slice B4 0 d4]) hb (by rw [hW, e4]; exact blk_new _ _) (by omega)); have n1_ := Aside0.mk (Kd.R_below HA.out hb); have n2_ := Aside0.mk (Kd.R_below HQ.out hb); have n3_ := Aside0.mk (HR.out.below hb); simp only [← e4]; clear HX HA HQ HR hb hW e4; have HX := n0_; have HA := n1_; have HQ := n2_; have HR := n3_; clear n0_ n1_ n2_ n3_
 have x1_0 := HX.out.cell 1 rfl 0 rfl
 have x1_1 := HX.out.cell 1 rfl 1 rfl
 have x1_2 := HX.out.cell 1 rfl 2 rfl
 go_upto_region 3 with (fail)
 clear x1_0 x1_1 x1_2
 refine at_world (fun W3 hW => ?_)
 have hb := below_alloc (Below.refl W2.heap.size W2) (Obj.cells #[.string link, .slice A1 l1.length c1, .slice A2 l2.length c2] 27)
 rw [← hW] at hb
 obtain ⟨g5, e5⟩ : ∃ g, g = W2.heap.size := ⟨_, rfl⟩
 have n0_ := Aside0.mk (HX.out.add (g := g5) (t := 27) (cs := #[.string link, .slice A1 l1.length c1, .slice A2 l2.length c2]) hb (by rw [hW, e5]; exact blk_new _ _) (by omega)); have n1_ := Aside0.mk (Kd.R_below HA.out hb); have n2_ := Aside0.mk (Kd.R_below HQ.out hb); have n3_ := Aside0.mk (HR.out.below hb); simp only [← e5]; clear HX HA HQ HR hb hW e5; have HX := n0_; have HA := n1_; have HQ := n2_; have HR := n3_; clear n0_ n1_ n2_ n3_
 have HS := Aside0.mk (SI.mk (x1 := .slice B1 0 d1) (x2 := .slice B2 0 d2) (x3 := .slice B3 0 d3) (x4 := .slice B4 0 d4) (n := 0) HX.out HR.out ⟨Nat.le_refl _, Nat.le_refl _, Nat.le_refl _, Nat.le_refl _⟩ (Kd.R_mono HA.out (fun k hk hN => by have := HO.out k hN; omega)) (Kd.R_mono HQ.out (fun k hk hN => by have := HO.out k hN; omega)) (Kd.R_mono HA.out (fun k hk hN => by have := HO.out k hN; omega)) (Kd.R_mono HQ.out (fun k hk hN => by have := HO.out k hN; omega)) (fun k hk => Nat.le_trans HW.out (HO.out k hk)))
 clear HX HA HQ HR HO HW
 have x3_0 := HS.out.hx.cell 3 rfl 0 rfl
 have x3_1 := HS.out.hx.cell 3 rfl 1 rfl
 have x3_2 := HS.out.hx.cell 3 rfl 2 rfl
 have x3_3 := HS.out.hx.cell 3 rfl 3 rfl
 have x3_4 := HS.out.hx.cell 3 rfl 4 rfl
 have x3_5 := HS.out.hx.cell 3 rfl 5 rfl
 have t1 : (x.f0 == 1) = true := by simp [HH.out.1]
 have t2 : ((x.f2.size : Int) != 16) = false := by simp; have := HH.out.2.1; omega
 have HI2 := Aside0.mk (in_f x.f4 0 100000)
 have HI3 := Aside0.mk (in_f x.f5 0 x.f4)
 rw [decide_eq_true HH.out.2.2.1] at HI2
 rw [decide_eq_false HH.out.2.2.2] at HI3
 go_upto_region 8 with (first | (go_at_call 37; (with_reducible refine (spec_l01In.calls x.f4 0 100000 true _ HI2.out).mono ?_); rintro e w4 ⟨rfl, ⟨nd, rfl⟩⟩; have n0_ := Aside0.mk (HS.out.below (pw_below_drewN (Below.refl _ _) nd)); clear HS x3_0 x3_1 x3_2 x3_3 x3_4 x3_5; have HS := n0_; clear n0_; generalize World.drewN _ nd = w5_ at HS ⊢; have x3_0 := HS.out.hx.cell 3 rfl 0 rfl; have x3_1 := HS.out.hx.cell 3 rfl 1 rfl; have x3_2 := HS.out.hx.cell 3 rfl 2 rfl; have x3_3 := HS.out.hx.cell 3 rfl 3 rfl; have x3_4 := HS.out.hx.cell 3 rfl 4 rfl; have x3_5 := HS.out.hx.cell 3 rfl 5 rfl) | (go_at_call 37; (with_reducible refine (spec_l01In.calls x.f5 0 x.f4 false _ HI3.out).mono ?_); rintro e w4 ⟨rfl, ⟨nd, rfl⟩⟩; have n0_ := Aside0.mk (HS.out.below (pw_below_drewN (Below.refl _ _) nd)); clear HS x3_0 x3_1 x3_2 x3_3 x3_4 x3_5; have HS := n0_; clear n0_; generalize World.drewN _ nd = w5_ at HS ⊢; have x3_0 := HS.out.hx.cell 3 rfl 0 rfl; have x3_1 := HS.out.hx.cell 3 rfl 1 rfl; have x3_2 := HS.out.hx.cell 3 rfl 2 rfl; have x3_3 := HS.out.hx.cell 3 rfl 3 rfl; have x3_4 := HS.out.hx.cell 3 rfl 4 rfl; have x3_5 := HS.out.hx.cell 3 rfl 5 rfl))
 clear t1
 clear x3_0 x3_1 x3_2 x3_3 x3_4 x3_5
 have y0_ := HS.out.hx.cell 1 rfl 0 rfl
 have f0_ := HS.out.hx.free 1 rfl 0
 go_upto_region 9 with (fail)
 have n0_ := Aside0.mk (HS.out.code 1)
 clear HS y0_ f0_
 have HS := n0_
 clear n0_
 generalize World.setCell _ _ _ = W4 at HS ⊢
 refine ret2 (p := 2) (q := 6) (r := 4) (s := 5) (d1 := 38) (d2 := 39) rfl (by kernel_rfl) (by kernel_rfl) (by kernel_rfl) (by kernel_rfl) (by kernel_rfl) (fun _ _ _ _ _ h => h) rfl rfl rfl rfl (show (38 : Nat) < 124 by decide) (show (39 : Nat) < 124 by decide) (by decide) (HS.out.hx.at 2 rfl) (HS.out.hx.at 1 rfl) (HS.out.hx.at 4 rfl) (HS.out.hx.at 5 rfl) ?_ (fun w4 bR bS hk hb => ?_)
 ·
  have := HS.out.hx.nd
  simp at this
  omega
 have HP := Aside0.mk (HS.out.ends hk hb)
 go_wp2
 all_goals exact bodyPost_ret (results_cc rfl _ _ _ _ 27 54 _ _ (0, 0) (0, 0) _ _ rfl bR Try.underlying27 rfl (by kernel_rfl) rfl bS Try.underlying54 rfl (by kernel_rfl)) rfl HP.out
set_option maxHeartbeats 8000000 in
set_option maxRecDepth 100000 in
theorem step_pre (link : ByteArray) (A1 A2 : Option Addr) (c1 c2 : Nat) (l1 : List S39) (l2 : List ByteArray) (x : S58) (w : World) (hG : Good link l1 l2) (ha : AR w (fun _ => True) (.slice A1 l1.length c1) l1) (hb : SR w (fun _ => True) (.slice A2 l2.length c2) l2) (h : x.f0 = 1 ∧ x.f2.size = 16 ∧ (0 ≤ x.f4 ∧ x.f4 ≤ 100000) ∧ (0 ≤ x.f5 ∧ x.f5 ≤ x.f4)) (K1 : List S39) (K2 : List ByteArray) (hK : prefixA link l1 l2 x = (K1, K2)) (hG' : Good link K1 K2) :
  Calls Try.prog 22 #[.agg #[.string link, .slice A1 l1.length c1, .slice A2 l2.length c2], .agg #[.int .i64 x.f0, .int .i64 x.f1, .string x.f2, .string x.f3, .int .i64 x.f4, .int .i64 x.f5]] w (PostS w link K1 K2) := by
 have HH := Aside0.mk h
 have HK := Aside0.mk hK
 have HG' := Aside0.mk hG'
 clear h hK hG'
 have hu27 := Try.underlying27
 have hu54 := Try.underlying54
 have hu58 := Try.underlying58
 have HG := Aside0.mk hG
 have HA := Aside0.mk ha
 have HQ := Aside0.mk hb
 clear hG ha hb
 go_enter Try.func22, Try.ntmps22
 go_upto_region 1 with (fail)
 refine at_world (fun W hW => ?_)
 obtain ⟨q0, q1, q2, q3, qb, qz⟩ := boxes4 hW
 clear hW
 obtain ⟨g0, e0⟩ : ∃ g, g = w.heap.size := ⟨_, rfl⟩
 obtain ⟨g1, e1⟩ : ∃ g, g = w.heap.size + 1 := ⟨_, rfl⟩
 obtain ⟨g2, e2⟩ : ∃ g, g = w.heap.size + 1 + 1 := ⟨_, rfl⟩
 obtain ⟨g3, e3⟩ : ∃ g, g = w.heap.size + 1 + 1 + 1 := ⟨_, rfl⟩
 simp only [← e3]; simp only [← e2]; simp only [← e1]; simp only [← e0]
 rw [← e3] at q3; rw [← e2] at q2; rw [← e1] at q1; rw [← e0] at q0
 have HX := Aside0.mk (HS.start4 (N := fun _ => False) qb q0 q1 q2 q3 (by omega))
 replace HA := Aside0.mk (Kd.R_below HA.out qb)
 replace HQ := Aside0.mk (Kd.R_below HQ.out qb)
 clear q0 q1 q2 q3 qb qz e0 e1 e2 e3
 go_upto_region 2 with (go_at_call 46; (with_reducible refine (spec_l14Out.calls 0 [] [] [] [] _ rfl).mono ?_); rintro e w1 ⟨v1, v2, v3, v4, rfl, o1, o2, o3, o4, hb⟩; obtain ⟨B1, d1, rfl⟩ := Kd.R_slice o1; obtain ⟨B2, d2, rfl⟩ := Kd.R_slice o2; obtain ⟨B3, d3, rfl⟩ := Kd.R_slice o3; obtain ⟨B4, d4, rfl⟩ := Kd.R_slice o4; have HO := Aside0.mk (fun k (hk : Own4 (.slice B1 ([] : List ByteArray).length d1) (.slice B2 ([] : List ByteArray).length d2) (.slice B3 ([] : List ByteArray).length d3) (.slice B4 ([] : List ByteArray).length d4) k) => show W.heap.size ≤ k from hk.elim (fun e => Kd.R_base o1 k e.symm) (fun hk => hk.elim (fun e => Kd.R_base o2 k e.symm) (fun hk => hk.elim (fun e => Kd.R_base o3 k e.symm) (fun e => Kd.R_base o4 k e.symm)))); have HR := Aside0.mk (Rows4.mk (Kd.R_lower o1 (Nat.zero_le _)) (Kd.R_lower o2 (Nat.zero_le _)) (Kd.R_lower o3 (Nat.zero_le _)) (Kd.R_lower o4 (Nat.zero_le _))); have n0_ := Aside0.mk (HX.out.below hb); have n1_ := Aside0.mk (Kd.R_below (Kd.R_mono (Kd.R_bound HA.out) (fun k hk => (hk.2.2.1 : k < W.heap.size))) hb); have n2_ := Aside0.mk (Kd.R_below (Kd.R_mono (Kd.R_bound HQ.out) (fun k hk => (hk.2.2.1 : k < W.heap.size))) hb); have HW := Aside0.mk HX.out.kept.1; clear HX HA HQ hb o1 o2 o3 o4; have HX := n0_; have HA := n1_; have HQ := n2_; clear n0_ n1_ n2_)
 refine at_world (fun W2 hW => ?_)
 have hb := below_alloc (Below.refl w1.heap.size w1) (Obj.cells #[.int .i64 0, .slice B1 0 d1, .slice B2 0 d2, .slice B3 0 d3, .slice B4 0 d4] 54)
 rw [← hW] at hb
 obtain ⟨g4, e4⟩ : ∃ g, g = w1.heap.size := ⟨_, rfl⟩
 have n0_ := Aside0.mk (HX.out.add (g := g4) (t := 54) (cs := #[.int .i64 0, .slice B1 0 d1, .slice B2 0 d2, .slice B3 0 d3, .slice B4 0 d4]) hb (by rw [hW, e4]; exact blk_new _ _) (by omega)); have n1_ := Aside0.mk (Kd.R_below HA.out hb); have n2_ := Aside0.mk (Kd.R_below HQ.out hb); have n3_ := Aside0.mk (HR.out.below hb); simp only [← e4]; clear HX HA HQ HR hb hW e4; have HX := n0_; have HA := n1_; have HQ := n2_; have HR := n3_; clear n0_ n1_ n2_ n3_
 have x1_0 := HX.out.cell 1 rfl 0 rfl
 have x1_1 := HX.out.cell 1 rfl 1 rfl
 have x1_2 := HX.out.cell 1 rfl 2 rfl
 go_upto_region 3 with (fail)
 clear x1_0 x1_1 x1_2
 refine at_world (fun W3 hW => ?_)
 have hb := below_alloc (Below.refl W2.heap.size W2) (Obj.cells #[.string link, .slice A1 l1.length c1, .slice A2 l2.length c2] 27)
 rw [← hW] at hb
 obtain ⟨g5, e5⟩ : ∃ g, g = W2.heap.size := ⟨_, rfl⟩
 have n0_ := Aside0.mk (HX.out.add (g := g5) (t := 27) (cs := #[.string link, .slice A1 l1.length c1, .slice A2 l2.length c2]) hb (by rw [hW, e5]; exact blk_new _ _) (by omega)); have n1_ := Aside0.mk (Kd.R_below HA.out hb); have n2_ := Aside0.mk (Kd.R_below HQ.out hb); have n3_ := Aside0.mk (HR.out.below hb); simp only [← e5]; clear HX HA HQ HR hb hW e5; have HX := n0_; have HA := n1_; have HQ := n2_; have HR := n3_; clear n0_ n1_ n2_ n3_
 have HS := Aside0.mk (SI.mk (x1 := .slice B1 0 d1) (x2 := .slice B2 0 d2) (x3 := .slice B3 0 d3) (x4 := .slice B4 0 d4) (n := 0) HX.out HR.out ⟨Nat.le_refl _, Nat.le_refl _, Nat.le_refl _, Nat.le_refl _⟩ (Kd.R_mono HA.out (fun k hk hN => by have := HO.out k hN; omega)) (Kd.R_mono HQ.out (fun k hk hN => by have := HO.out k hN; omega)) (Kd.R_mono HA.out (fun k hk hN => by have := HO.out k hN; omega)) (Kd.R_mono HQ.out (fun k hk hN => by have := HO.out k hN; omega)) (fun k hk => Nat.le_trans HW.out (HO.out k hk)))
 clear HX HA HQ HR HO HW
 have x3_0 := HS.out.hx.cell 3 rfl 0 rfl
 have x3_1 := HS.out.hx.cell 3 rfl 1 rfl
 have x3_2 := HS.out.hx.cell 3 rfl 2 rfl
 have x3_3 := HS.out.hx.cell 3 rfl 3 rfl
 have x3_4 := HS.out.hx.cell 3 rfl 4 rfl
 have x3_5 := HS.out.hx.cell 3 rfl 5 rfl
 have t1 : (x.f0 == 1) = true := by simp [HH.out.1]
 have t2 : ((x.f2.size : Int) != 16) = false := by simp; have := HH.out.2.1; omega
 have HI2 := Aside0.mk (in_f x.f4 0 100000)
 have HI3 := Aside0.mk (in_f x.f5 0 x.f4)
 rw [decide_eq_true HH.out.2.2.1] at HI2
 rw [decide_eq_true HH.out.2.2.2] at HI3
 go_upto_region 10 with (first | (go_at_call 37; (with_reducible refine (spec_l01In.calls x.f4 0 100000 true _ HI2.out).mono ?_); rintro e w4 ⟨rfl, ⟨nd, rfl⟩⟩; have n0_ := Aside0.mk (HS.out.below (pw_below_drewN (Below.refl _ _) nd)); clear HS x3_0 x3_1 x3_2 x3_3 x3_4 x3_5; have HS := n0_; clear n0_; generalize World.drewN _ nd = w5_ at HS ⊢; have x3_0 := HS.out.hx.cell 3 rfl 0 rfl; have x3_1 := HS.out.hx.cell 3 rfl 1 rfl; have x3_2 := HS.out.hx.cell 3 rfl 2 rfl; have x3_3 := HS.out.hx.cell 3 rfl 3 rfl; have x3_4 := HS.out.hx.cell 3 rfl 4 rfl; have x3_5 := HS.out.hx.cell 3 rfl 5 rfl) | (go_at_call 37; (with_reducible refine (spec_l01In.calls x.f5 0 x.f4 true _ HI3.out).mono ?_); rintro e w4 ⟨rfl, ⟨nd, rfl⟩⟩; have n0_ := Aside0.mk (HS.out.below (pw_below_drewN (Below.refl _ _) nd)); clear HS x3_0 x3_1 x3_2 x3_3 x3_4 x3_5; have HS := n0_; clear n0_; generalize World.drewN _ nd = w5_ at HS ⊢; have x3_0 := HS.out.hx.cell 3 rfl 0 rfl; have x3_1 := HS.out.hx.cell 3 rfl 1 rfl; have x3_2 := HS.out.hx.cell 3 rfl 2 rfl; have x3_3 := HS.out.hx.cell 3 rfl 3 rfl; have x3_4 := HS.out.hx.cell 3 rfl 4 rfl; have x3_5 := HS.out.hx.cell 3 rfl 5 rfl))
 clear t1 t2 x3_0 x3_1 x3_2 x3_3 x3_4 x3_5
 have l2_0 := HS.out.hx.cell 2 rfl 0 rfl
 have l2_1 := HS.out.hx.cell 2 rfl 1 rfl
 have l2_2 := HS.out.hx.cell 2 rfl 2 rfl
 have l3_0 := HS.out.hx.cell 3 rfl 0 rfl
 have l3_1 := HS.out.hx.cell 3 rfl 1 rfl
 have l3_2 := HS.out.hx.cell 3 rfl 2 rfl
 have l3_3 := HS.out.hx.cell 3 rfl 3 rfl
 have l3_4 := HS.out.hx.cell 3 rfl 4 rfl
 have l3_5 := HS.out.hx.cell 3 rfl 5 rfl
 have l1_0 := HS.out.hx.cell 1 rfl 0 rfl
 have l1_1 := HS.out.hx.cell 1 rfl 1 rfl
 have l1_2 := HS.out.hx.cell 1 rfl 2 rfl
 have l1_3 := HS.out.hx.cell 1 rfl 3 rfl
 have l1_4 := HS.out.hx.cell 1 rfl 4 rfl
 have HC_ := Aside0.mk (prefix_post link A1 A2 B1 B2 B3 B4 c1 c2 d1 d2 d3 d4 0 0 0 0 l1 l2 [] [] [] [] 0 _ 0 x HG.out HH.out.2.1 HS.out.hn (by omega) HS.out.hr HS.out.ha1 HS.out.ha2)
 rw [HK.out] at HC_
 go_upto_region 32 with (go_at_call 47; (with_reducible refine HC_.out.mono ?_); rintro e w4 ⟨z1, z2, cd', y1, y2, y3, y4, p1, p2, p3, p4, rfl, hr_, hn_, h1_, h2_, hk_, hb_, ho_⟩; obtain ⟨Z1, k1, rfl⟩ := Kd.R_slice h1_; obtain ⟨Z2, k2, rfl⟩ := Kd.R_slice h2_; obtain ⟨Y1, j1, rfl⟩ := Kd.R_slice hr_.r1; obtain ⟨Y2, j2, rfl⟩ := Kd.R_slice hr_.r2; obtain ⟨Y3, j3, rfl⟩ := Kd.R_slice hr_.r3; obtain ⟨Y4, j4, rfl⟩ := Kd.R_slice hr_.r4; have s0_ := HS.out.mid hk_ hb_; have c50 := s0_.cell 0 rfl 0 rfl; have f50 := s0_.free 0 rfl 0; have c51 := s0_.cell 0 rfl 1 rfl; have f51 := s0_.free 0 rfl 1; have c52 := s0_.cell 0 rfl 2 rfl; have f52 := s0_.free 0 rfl 2; have c40 := s0_.cell 1 rfl 0 rfl; have f40 := s0_.free 1 rfl 0; have c41 := s0_.cell 1 rfl 1 rfl; have f41 := s0_.free 1 rfl 1; have c42 := s0_.cell 1 rfl 2 rfl; have f42 := s0_.free 1 rfl 2; have c43 := s0_.cell 1 rfl 3 rfl; have f43 := s0_.free 1 rfl 3; have c44 := s0_.cell 1 rfl 4 rfl; have f44 := s0_.free 1 rfl 4; have ne1_ : g5 ≠ g4 := (by have := s0_.nd; simp at this; omega); have ne2_ : g4 ≠ g5 := fun e => ne1_ e.symm; have n0_ := Aside0.mk (HS.out.take (cd' := cd') hr_ hn_ h1_ h2_ hk_ hb_ ho_); clear HS hr_ hn_ h1_ h2_ hk_ hb_ ho_ s0_; have HS := n0_; clear n0_; clear l2_0 l2_1 l2_2 l3_0 l3_1 l3_2 l3_3 l3_4 l3_5 l1_0 l1_1 l1_2 l1_3 l1_4; clear HC_)
 clear c50 f50 c51 f51 c52 f52 c40 f40 c41 f41 c42 f42 c43 f43 c44 f44 ne1_ ne2_
 generalize World.setCell _ _ _ = W6 at HS ⊢
 have HNN := Aside0.mk (show (0 : Nat) + 1 ≤ 1000000 by decide)
 have hg1_ := groups_f link l1 l2 (by have := HG.out.n1; omega) (fun y hy => (HG.out.el y hy).sz)
 obtain ⟨G1, hG1, hG1l⟩ := hg1_
 have hg2_ := groups_f link K1 K2 (by have := HG'.out.n1; omega) (fun y hy => (HG'.out.el y hy).sz)
 obtain ⟨G2, hG2, hG2l⟩ := hg2_
 have HGG := Aside0.mk (And.intro hG1 (And.intro hG2 (show G1.length ≤ 1000 ∧ G2.length ≤ 1000 by have := HG.out.n1; have := HG'.out.n1; omega)))
 clear hG1 hG2 hG1l hG2l
 refine start_ (n := 7) (S := fun w' => w'.cell? ⟨g5, 0, none⟩ = some (.string link) ∧ w'.cell? ⟨g5, 1, none⟩ = some (.slice Z1 K1.length k1) ∧ w'.cell? ⟨g5, 2, none⟩ = some (.slice Z2 K2.length k2) ∧ w'.cell? ⟨g0, 0, none⟩ = some (.string link) ∧ w'.cell? ⟨g0, 1, none⟩ = some (.slice A1 l1.length c1) ∧ w'.cell? ⟨g0, 2, none⟩ = some (.slice A2 l2.length c2) ∧ w'.cell? ⟨g4, 0, none⟩ = some (.int .i64 cd') ∧ w'.cell? ⟨g4, 1, none⟩ = some (.slice Y1 p1.length j1) ∧ w'.cell? ⟨g4, 2, none⟩ = some (.slice Y2 p2.length j2) ∧ w'.cell? ⟨g4, 3, none⟩ = some (.slice Y3 p3.length j3) ∧ w'.cell? ⟨g4, 4, none⟩ = some (.slice Y4 p4.length j4)) (ds := [5, 6]) #[false, false, false, false, false, false, false] (by kernel_rfl) rfl rfl ⟨HS.out.hx.cell 0 rfl 0 rfl, HS.out.hx.cell 0 rfl 1 rfl, HS.out.hx.cell 0 rfl 2 rfl, HS.out.hx.cell 2 rfl 0 rfl, HS.out.hx.cell 2 rfl 1 rfl, HS.out.hx.cell 2 rfl 2 rfl, HS.out.hx.cell 1 rfl 0 rfl, HS.out.hx.cell 1 rfl 1 rfl, HS.out.hx.cell 1 rfl 2 rfl, HS.out.hx.cell 1 rfl 3 rfl, HS.out.hx.cell 1 rfl 4 rfl⟩ (fun hHeld => ?_); refine with_tabW spec_l14Step.tab32 spec_l14Step.bits32 (fun HT_ HW_ => ?_)
 have n0_ := Aside0.mk (HS.out.below (below_drew1 (Below.refl _ _)))
 clear HS
 have HS := n0_
 clear n0_
 generalize World.drew _ = W7 at HS hHeld ⊢
 refine take_ (i := 0) (N := some 119) (v := ?_) (a' := ?_) #[true, false, false, false, false, false, false] rfl rfl (take_ofW HT_.out HW_.out (by kernel_rfl)) (fun _ _ _ h => h) (Or.inl ⟨by rfl, ?_⟩) hHeld ?_ ?_
 rotate_left
 ·
  rintro w' ⟨s0, s1, s2, s3, s4, s5, s6, s7, s8, s9, s10⟩
  go_simp
  with_reducible rfl
 rotate_left
 ·
  simp only [Act.put, pq]
  rfl
 refine take_ (i := 1) (N := some 120) (v := ?_) (a' := ?_) #[true, true, false, false, false, false, false] rfl rfl (take_ofW HT_.out HW_.out (by kernel_rfl)) (fun _ _ _ h => h) (Or.inl ⟨by rfl, ?_⟩) hHeld ?_ ?_
 rotate_left
 ·
  rintro w' ⟨s0, s1, s2, s3, s4, s5, s6, s7, s8, s9, s10⟩
  go_simp
  with_reducible rfl
 rotate_left
 ·
  simp only [Act.put, pq]
  rfl
 refine take_ (i := 2) (N := some 121) (v := ?_) (a' := ?_) #[true, true, true, false, false, false, false] rfl rfl (take_ofW HT_.out HW_.out (by kernel_rfl)) (fun _ _ _ h => h) (Or.inl ⟨by rfl, ?_⟩) hHeld ?_ ?_
 rotate_left
 ·
  rintro w' ⟨s0, s1, s2, s3, s4, s5, s6, s7, s8, s9, s10⟩
  go_simp
  with_reducible rfl
 rotate_left
 ·
  simp only [Act.put, pq]
  rfl
 refine take_ (i := 3) (N := some 122) (v := ?_) (a' := ?_) #[true, true, true, true, false, false, false] rfl rfl (take_ofW HT_.out HW_.out (by kernel_rfl)) (fun _ _ _ h => h) (Or.inl ⟨by rfl, ?_⟩) hHeld ?_ ?_
 rotate_left
 ·
  rintro w' ⟨s0, s1, s2, s3, s4, s5, s6, s7, s8, s9, s10⟩
  go_simp
  with_reducible rfl
 rotate_left
 ·
  simp only [Act.put, pq]
  rfl
 refine one_ (i := 4) (N := some 123) #[true, true, true, true, true, false, false] rfl rfl (one_of HT_.out (by kernel_rfl)) (by decide) (fun K hK => ?_)
 refine goes_ Try.func50 (by kernel_rfl) rfl #[.agg #[.string link, .slice A1 l1.length c1, .slice A2 l2.length c2], .agg #[.string link, .slice Z1 K1.length k1, .slice Z2 K2.length k2], .agg #[.int .i64 cd', .slice Y1 p1.length j1, .slice Y2 p2.length j2, .slice Y3 p3.length j3, .slice Y4 p4.length j4]] (by rfl) rfl rfl (by (try simp only [List.map_toArray, List.map_cons, List.map_nil]); rfl) ?_
 with_reducible refine (moves_calls link link A1 A2 Z1 Z2 Y1 Y2 Y3 Y4 c1 c2 k1 k2 j1 j2 j3 j4 p1.length p2.length p3.length p4.length l1 l2 K1 K2 p1 p2 p3 p4 cd' _ G1 G2 HGG.out.1 HGG.out.2.1 HGG.out.2.2.1 HGG.out.2.2.2 _ HS.out.hn HNN.out HS.out.hr (Kd.R_reads' HS.out.ha1).2.2 (Kd.R_reads' HS.out.ha1).2.1 (Kd.R_reads' HS.out.ha2).2.2 (Kd.R_reads' HS.out.ha2).2.1 (Kd.R_reads' HS.out.hu1).2.2 (Kd.R_reads' HS.out.hu1).2.1 (Kd.R_reads' HS.out.hu2).2.2 (Kd.R_reads' HS.out.hu2).2.1).mono ?_
 rintro e W8 ⟨cd2, y1, y2, y3, y4, q1, q2, q3, q4, rfl, hr_, -, hk_, hb_, -⟩
 obtain ⟨X1, i1, rfl⟩ := Kd.R_slice hr_.r1
 obtain ⟨X2, i2, rfl⟩ := Kd.R_slice hr_.r2
 obtain ⟨X3, i3, rfl⟩ := Kd.R_slice hr_.r3
 obtain ⟨X4, i4, rfl⟩ := Kd.R_slice hr_.r4
 have s0_ := HS.out.mid hk_ hb_
 refine ⟨_, rfl, ?_⟩
 refine hK.out _ _ ⟨s0_.cell 0 rfl 0 rfl, s0_.cell 0 rfl 1 rfl, s0_.cell 0 rfl 2 rfl, s0_.cell 2 rfl 0 rfl, s0_.cell 2 rfl 1 rfl, s0_.cell 2 rfl 2 rfl, s0_.cell 1 rfl 0 rfl, s0_.cell 1 rfl 1 rfl, s0_.cell 1 rfl 2 rfl, s0_.cell 1 rfl 3 rfl, s0_.cell 1 rfl 4 rfl⟩ (fun hHeld => ?_)
 clear hK K
 refine norm_ (a' := ?_) ?_ ?_
 rotate_left
 ·
  show Act.put _ (some 123) _ = _
  simp only [Act.put, pq]
  rfl
 refine last_ (i := 5) (N := none) #[true, true, true, true, true, true, false] rfl rfl (one_of HT_.out (by kernel_rfl)) (by decide) (fun K hK => ?_)
 refine skip27 (s := link) (A1 := Z1) (n1 := K1.length) (c1 := k1) (A2 := Z2) (n2 := K2.length) (c2 := k2) (by rfl) rfl (by rfl) (by rfl) (s0_.at 4 rfl) (fun W9 b1_ k1_ o1_ => ?_)
 refine hK.out _ _ ?_
 clear hK K
 have ne_ : g2 ≠ g3 := by have := s0_.nd; simp at this; omega
 have b5_ := blk_kept (W := W8) (s0_.at 5 rfl) k1_ (fun e => ne_ e.symm)
 refine last_ (i := 6) (N := none) #[true, true, true, true, true, true, true] rfl rfl (one_of HT_.out (by kernel_rfl)) (by decide) (fun K hK => ?_)
 refine skip54 (c := cd2) (A1 := X1) (n1 := q1.length) (c1 := i1) (A2 := X2) (n2 := q2.length) (c2 := i2) (A3 := X3) (n3 := q3.length) (c3 := i3) (A4 := X4) (n4 := q4.length) (c4 := i4) (by rfl) rfl (by rfl) (by rfl) b5_ (fun WA b2_ k2_ o2_ => ?_)
 refine hK.out _ _ ?_
 clear hK K
 refine done_ (done_of HT_.out (by kernel_rfl)) ?_
 have HP := Aside0.mk (HS.out.fin (cd' := cd2) hr_ hk_ hb_ ((Kept.then_ (k1_.mono (fun k hk => .inl hk)) k2_ (fun k hk => .inl (.inr hk)))) (o1_.trans o2_))
 have bR_ := blk_kept b1_ k2_ ne_
 clear hr_ hk_ hb_ k1_ k2_ o1_ o2_ s0_ b5_ b1_ hHeld HT_ HW_ HS
 go_wp2
 all_goals exact bodyPost_ret (results_cc rfl _ _ _ _ 27 54 _ _ (0, 0) (0, 0) _ _ rfl bR_ Try.underlying27 rfl (by kernel_rfl) rfl b2_ Try.underlying54 rfl (by kernel_rfl)) rfl HP.out
set_option maxHeartbeats 8000000 in
set_option maxRecDepth 100000 in
theorem step_tick0 (link : ByteArray) (A1 A2 : Option Addr) (c1 c2 : Nat) (l1 : List S39) (l2 : List ByteArray) (x : S58) (w : World) (hG : Good link l1 l2) (ha : AR w (fun _ => True) (.slice A1 l1.length c1) l1) (hb : SR w (fun _ => True) (.slice A2 l2.length c2) l2) (h : x.f0 = 2 ∧ ¬ (0 ≤ x.f1 ∧ x.f1 ≤ 1000)) :
  Calls Try.prog 22 #[.agg #[.string link, .slice A1 l1.length c1, .slice A2 l2.length c2], .agg #[.int .i64 x.f0, .int .i64 x.f1, .string x.f2, .string x.f3, .int .i64 x.f4, .int .i64 x.f5]] w (PostS w link l1 l2) := by
 have HH := Aside0.mk h
 clear h
 have hu27 := Try.underlying27
 have hu54 := Try.underlying54
 have hu58 := Try.underlying58
 have HG := Aside0.mk hG
 have HA := Aside0.mk ha
 have HQ := Aside0.mk hb
 clear hG ha hb
 go_enter Try.func22, Try.ntmps22
 go_upto_region 1 with (fail)
 refine at_world (fun W hW => ?_)
 obtain ⟨q0, q1, q2, q3, qb, qz⟩ := boxes4 hW
 clear hW
 obtain ⟨g0, e0⟩ : ∃ g, g = w.heap.size := ⟨_, rfl⟩
 obtain ⟨g1, e1⟩ : ∃ g, g = w.heap.size + 1 := ⟨_, rfl⟩
 obtain ⟨g2, e2⟩ : ∃ g, g = w.heap.size + 1 + 1 := ⟨_, rfl⟩
 obtain ⟨g3, e3⟩ : ∃ g, g = w.heap.size + 1 + 1 + 1 := ⟨_, rfl⟩
 simp only [← e3]; simp only [← e2]; simp only [← e1]; simp only [← e0]
 rw [← e3] at q3; rw [← e2] at q2; rw [← e1] at q1; rw [← e0] at q0
 have HX := Aside0.mk (HS.start4 (N := fun _ => False) qb q0 q1 q2 q3 (by omega))
 replace HA := Aside0.mk (Kd.R_below HA.out qb)
 replace HQ := Aside0.mk (Kd.R_below HQ.out qb)
 clear q0 q1 q2 q3 qb qz e0 e1 e2 e3
 go_upto_region 2 with (go_at_call 46; (with_reducible refine (spec_l14Out.calls 0 [] [] [] [] _ rfl).mono ?_); rintro e w1 ⟨v1, v2, v3, v4, rfl, o1, o2, o3, o4, hb⟩; obtain ⟨B1, d1, rfl⟩ := Kd.R_slice o1; obtain ⟨B2, d2, rfl⟩ := Kd.R_slice o2; obtain ⟨B3, d3, rfl⟩ := Kd.R_slice o3; obtain ⟨B4, d4, rfl⟩ := Kd.R_slice o4; have HO := Aside0.mk (fun k (hk : Own4 (.slice B1 ([] : List ByteArray).length d1) (.slice B2 ([] : List ByteArray).length d2) (.slice B3 ([] : List ByteArray).length d3) (.slice B4 ([] : List ByteArray).length d4) k) => show W.heap.size ≤ k from hk.elim (fun e => Kd.R_base o1 k e.symm) (fun hk => hk.elim (fun e => Kd.R_base o2 k e.symm) (fun hk => hk.elim (fun e => Kd.R_base o3 k e.symm) (fun e => Kd.R_base o4 k e.symm)))); have HR := Aside0.mk (Rows4.mk (Kd.R_lower o1 (Nat.zero_le _)) (Kd.R_lower o2 (Nat.zero_le _)) (Kd.R_lower o3 (Nat.zero_le _)) (Kd.R_lower o4 (Nat.zero_le _))); have n0_ := Aside0.mk (HX.out.below hb); have n1_ := Aside0.mk (Kd.R_below (Kd.R_mono (Kd.R_bound HA.out) (fun k hk => (hk.2.2.1 : k < W.heap.size))) hb); have n2_ := Aside0.mk (Kd.R_below (Kd.R_mono (Kd.R_bound HQ.out) (fun k hk => (hk.2.2.1 : k < W.heap.size))) hb); have HW := Aside0.mk HX.out.kept.1; clear HX HA HQ hb o1 o2 o3 o4; have HX := n0_; have HA := n1_; have HQ := n2_; clear n0_ n1_ n2_)
 refine at_world (fun W2 hW => ?_)
 have hb := below_alloc (Below.refl w1.heap.size w1) (Obj.cells #[.int .i64 0, .slice B1 0 d1, .slice B2 0 d2, .slice B3 0 d3, .slice B4 0 d4] 54)
 rw [← hW] at hb
 obtain ⟨g4, e4⟩ : ∃ g, g = w1.heap.size := ⟨_, rfl⟩
 have n0_ := Aside0.mk (HX.out.add (g := g4) (t := 54) (cs := #[.int .i64 0, .slice B1 0 d1, .slice B2 0 d2, .slice B3 0 d3, .slice B4 0 d4]) hb (by rw [hW, e4]; exact blk_new _ _) (by omega)); have n1_ := Aside0.mk (Kd.R_below HA.out hb); have n2_ := Aside0.mk (Kd.R_below HQ.out hb); have n3_ := Aside0.mk (HR.out.below hb); simp only [← e4]; clear HX HA HQ HR hb hW e4; have HX := n0_; have HA := n1_; have HQ := n2_; have HR := n3_; clear n0_ n1_ n2_ n3_
 have x1_0 := HX.out.cell 1 rfl 0 rfl
 have x1_1 := HX.out.cell 1 rfl 1 rfl
 have x1_2 := HX.out.cell 1 rfl 2 rfl
 go_upto_region 3 with (fail)
 clear x1_0 x1_1 x1_2
 refine at_world (fun W3 hW => ?_)
 have hb := below_alloc (Below.refl W2.heap.size W2) (Obj.cells #[.string link, .slice A1 l1.length c1, .slice A2 l2.length c2] 27)
 rw [← hW] at hb
 obtain ⟨g5, e5⟩ : ∃ g, g = W2.heap.size := ⟨_, rfl⟩
 have n0_ := Aside0.mk (HX.out.add (g := g5) (t := 27) (cs := #[.string link, .slice A1 l1.length c1, .slice A2 l2.length c2]) hb (by rw [hW, e5]; exact blk_new _ _) (by omega)); have n1_ := Aside0.mk (Kd.R_below HA.out hb); have n2_ := Aside0.mk (Kd.R_below HQ.out hb); have n3_ := Aside0.mk (HR.out.below hb); simp only [← e5]; clear HX HA HQ HR hb hW e5; have HX := n0_; have HA := n1_; have HQ := n2_; have HR := n3_; clear n0_ n1_ n2_ n3_
 have HS := Aside0.mk (SI.mk (x1 := .slice B1 0 d1) (x2 := .slice B2 0 d2) (x3 := .slice B3 0 d3) (x4 := .slice B4 0 d4) (n := 0) HX.out HR.out ⟨Nat.le_refl _, Nat.le_refl _, Nat.le_refl _, Nat.le_refl _⟩ (Kd.R_mono HA.out (fun k hk hN => by have := HO.out k hN; omega)) (Kd.R_mono HQ.out (fun k hk hN => by have := HO.out k hN; omega)) (Kd.R_mono HA.out (fun k hk hN => by have := HO.out k hN; omega)) (Kd.R_mono HQ.out (fun k hk hN => by have := HO.out k hN; omega)) (fun k hk => Nat.le_trans HW.out (HO.out k hk)))
 clear HX HA HQ HR HO HW
 have x3_0 := HS.out.hx.cell 3 rfl 0 rfl
 have x3_1 := HS.out.hx.cell 3 rfl 1 rfl
 have x3_2 := HS.out.hx.cell 3 rfl 2 rfl
 have x3_3 := HS.out.hx.cell 3 rfl 3 rfl
 have x3_4 := HS.out.hx.cell 3 rfl 4 rfl
 have x3_5 := HS.out.hx.cell 3 rfl 5 rfl
 have t1_1 : (x.f0 == 1) = false := by simp [HH.out.1]
 have t1_2 : (x.f0 == 2) = true := by simp [HH.out.1]
 have HI2 := Aside0.mk (in_f x.f1 0 1000)
 rw [decide_eq_false HH.out.2] at HI2
 go_upto_region 13 with ((go_at_call 37; (with_reducible refine (spec_l01In.calls x.f1 0 1000 false _ HI2.out).mono ?_); rintro e w4 ⟨rfl, ⟨nd, rfl⟩⟩; have n0_ := Aside0.mk (HS.out.below (pw_below_drewN (Below.refl _ _) nd)); clear HS x3_0 x3_1 x3_2 x3_3 x3_4 x3_5; have HS := n0_; clear n0_; generalize World.drewN _ nd = w5_ at HS ⊢; have x3_0 := HS.out.hx.cell 3 rfl 0 rfl; have x3_1 := HS.out.hx.cell 3 rfl 1 rfl; have x3_2 := HS.out.hx.cell 3 rfl 2 rfl; have x3_3 := HS.out.hx.cell 3 rfl 3 rfl; have x3_4 := HS.out.hx.cell 3 rfl 4 rfl; have x3_5 := HS.out.hx.cell 3 rfl 5 rfl))
 clear t1_1 t1_2
 clear x3_0 x3_1 x3_2 x3_3 x3_4 x3_5
 have y0_ := HS.out.hx.cell 1 rfl 0 rfl
 have f0_ := HS.out.hx.free 1 rfl 0
 go_upto_region 14 with (fail)
 have n0_ := Aside0.mk (HS.out.code 4)
 clear HS y0_ f0_
 have HS := n0_
 clear n0_
 generalize World.setCell _ _ _ = W4 at HS ⊢
 refine ret2 (p := 2) (q := 6) (r := 4) (s := 5) (d1 := 54) (d2 := 55) rfl (by kernel_rfl) (by kernel_rfl) (by kernel_rfl) (by kernel_rfl) (by kernel_rfl) (fun _ _ _ _ _ h => h) rfl rfl rfl rfl (show (54 : Nat) < 124 by decide) (show (55 : Nat) < 124 by decide) (by decide) (HS.out.hx.at 2 rfl) (HS.out.hx.at 1 rfl) (HS.out.hx.at 4 rfl) (HS.out.hx.at 5 rfl) ?_ (fun w4 bR bS hk hb => ?_)
 ·
  have := HS.out.hx.nd
  simp at this
  omega
 have HP := Aside0.mk (HS.out.ends hk hb)
 go_wp2
 all_goals exact bodyPost_ret (results_cc rfl _ _ _ _ 27 54 _ _ (0, 0) (0, 0) _ _ rfl bR Try.underlying27 rfl (by kernel_rfl) rfl bS Try.underlying54 rfl (by kernel_rfl)) rfl HP.out
set_option maxHeartbeats 8000000 in
set_option maxRecDepth 100000 in
theorem step_heard0 (link : ByteArray) (A1 A2 : Option Addr) (c1 c2 : Nat) (l1 : List S39) (l2 : List ByteArray) (x : S58) (w : World) (hG : Good link l1 l2) (ha : AR w (fun _ => True) (.slice A1 l1.length c1) l1) (hb : SR w (fun _ => True) (.slice A2 l2.length c2) l2) (h : x.f0 = 3 ∧ ¬ x.f3.size = 16) :
  Calls Try.prog 22 #[.agg #[.string link, .slice A1 l1.length c1, .slice A2 l2.length c2], .agg #[.int .i64 x.f0, .int .i64 x.f1, .string x.f2, .string x.f3, .int .i64 x.f4, .int .i64 x.f5]] w (PostS w link l1 l2) := by
 have HH := Aside0.mk h
 clear h
 have hu27 := Try.underlying27
 have hu54 := Try.underlying54
 have hu58 := Try.underlying58
 have HG := Aside0.mk hG
 have HA := Aside0.mk ha
 have HQ := Aside0.mk hb
 clear hG ha hb
 go_enter Try.func22, Try.ntmps22
 go_upto_region 1 with (fail)
 refine at_world (fun W hW => ?_)
 obtain ⟨q0, q1, q2, q3, qb, qz⟩ := boxes4 hW
 clear hW
 obtain ⟨g0, e0⟩ : ∃ g, g = w.heap.size := ⟨_, rfl⟩
 obtain ⟨g1, e1⟩ : ∃ g, g = w.heap.size + 1 := ⟨_, rfl⟩
 obtain ⟨g2, e2⟩ : ∃ g, g = w.heap.size + 1 + 1 := ⟨_, rfl⟩
 obtain ⟨g3, e3⟩ : ∃ g, g = w.heap.size + 1 + 1 + 1 := ⟨_, rfl⟩
 simp only [← e3]; simp only [← e2]; simp only [← e1]; simp only [← e0]
 rw [← e3] at q3; rw [← e2] at q2; rw [← e1] at q1; rw [← e0] at q0
 have HX := Aside0.mk (HS.start4 (N := fun _ => False) qb q0 q1 q2 q3 (by omega))
 replace HA := Aside0.mk (Kd.R_below HA.out qb)
 replace HQ := Aside0.mk (Kd.R_below HQ.out qb)
 clear q0 q1 q2 q3 qb qz e0 e1 e2 e3
 go_upto_region 2 with (go_at_call 46; (with_reducible refine (spec_l14Out.calls 0 [] [] [] [] _ rfl).mono ?_); rintro e w1 ⟨v1, v2, v3, v4, rfl, o1, o2, o3, o4, hb⟩; obtain ⟨B1, d1, rfl⟩ := Kd.R_slice o1; obtain ⟨B2, d2, rfl⟩ := Kd.R_slice o2; obtain ⟨B3, d3, rfl⟩ := Kd.R_slice o3; obtain ⟨B4, d4, rfl⟩ := Kd.R_slice o4; have HO := Aside0.mk (fun k (hk : Own4 (.slice B1 ([] : List ByteArray).length d1) (.slice B2 ([] : List ByteArray).length d2) (.slice B3 ([] : List ByteArray).length d3) (.slice B4 ([] : List ByteArray).length d4) k) => show W.heap.size ≤ k from hk.elim (fun e => Kd.R_base o1 k e.symm) (fun hk => hk.elim (fun e => Kd.R_base o2 k e.symm) (fun hk => hk.elim (fun e => Kd.R_base o3 k e.symm) (fun e => Kd.R_base o4 k e.symm)))); have HR := Aside0.mk (Rows4.mk (Kd.R_lower o1 (Nat.zero_le _)) (Kd.R_lower o2 (Nat.zero_le _)) (Kd.R_lower o3 (Nat.zero_le _)) (Kd.R_lower o4 (Nat.zero_le _))); have n0_ := Aside0.mk (HX.out.below hb); have n1_ := Aside0.mk (Kd.R_below (Kd.R_mono (Kd.R_bound HA.out) (fun k hk => (hk.2.2.1 : k < W.heap.size))) hb); have n2_ := Aside0.mk (Kd.R_below (Kd.R_mono (Kd.R_bound HQ.out) (fun k hk => (hk.2.2.1 : k < W.heap.size))) hb); have HW := Aside0.mk HX.out.kept.1; clear HX HA HQ hb o1 o2 o3 o4; have HX := n0_; have HA := n1_; have HQ := n2_; clear n0_ n1_ n2_)
 refine at_world (fun W2 hW => ?_)
 have hb := below_alloc (Below.refl w1.heap.size w1) (Obj.cells #[.int .i64 0, .slice B1 0 d1, .slice B2 0 d2, .slice B3 0 d3, .slice B4 0 d4] 54)
 rw [← hW] at hb
 obtain ⟨g4, e4⟩ : ∃ g, g = w1.heap.size := ⟨_, rfl⟩
 have n0_ := Aside0.mk (HX.out.add (g := g4) (t := 54) (cs := #[.int .i64 0, .slice B1 0 d1, .slice B2 0 d2, .slice B3 0 d3, .slice B4 0 d4]) hb (by rw [hW, e4]; exact blk_new _ _) (by omega)); have n1_ := Aside0.mk (Kd.R_below HA.out hb); have n2_ := Aside0.mk (Kd.R_below HQ.out hb); have n3_ := Aside0.mk (HR.out.below hb); simp only [← e4]; clear HX HA HQ HR hb hW e4; have HX := n0_; have HA := n1_; have HQ := n2_; have HR := n3_; clear n0_ n1_ n2_ n3_
 have x1_0 := HX.out.cell 1 rfl 0 rfl
 have x1_1 := HX.out.cell 1 rfl 1 rfl
 have x1_2 := HX.out.cell 1 rfl 2 rfl
 go_upto_region 3 with (fail)
 clear x1_0 x1_1 x1_2
 refine at_world (fun W3 hW => ?_)
 have hb := below_alloc (Below.refl W2.heap.size W2) (Obj.cells #[.string link, .slice A1 l1.length c1, .slice A2 l2.length c2] 27)
 rw [← hW] at hb
 obtain ⟨g5, e5⟩ : ∃ g, g = W2.heap.size := ⟨_, rfl⟩
 have n0_ := Aside0.mk (HX.out.add (g := g5) (t := 27) (cs := #[.string link, .slice A1 l1.length c1, .slice A2 l2.length c2]) hb (by rw [hW, e5]; exact blk_new _ _) (by omega)); have n1_ := Aside0.mk (Kd.R_below HA.out hb); have n2_ := Aside0.mk (Kd.R_below HQ.out hb); have n3_ := Aside0.mk (HR.out.below hb); simp only [← e5]; clear HX HA HQ HR hb hW e5; have HX := n0_; have HA := n1_; have HQ := n2_; have HR := n3_; clear n0_ n1_ n2_ n3_
 have HS := Aside0.mk (SI.mk (x1 := .slice B1 0 d1) (x2 := .slice B2 0 d2) (x3 := .slice B3 0 d3) (x4 := .slice B4 0 d4) (n := 0) HX.out HR.out ⟨Nat.le_refl _, Nat.le_refl _, Nat.le_refl _, Nat.le_refl _⟩ (Kd.R_mono HA.out (fun k hk hN => by have := HO.out k hN; omega)) (Kd.R_mono HQ.out (fun k hk hN => by have := HO.out k hN; omega)) (Kd.R_mono HA.out (fun k hk hN => by have := HO.out k hN; omega)) (Kd.R_mono HQ.out (fun k hk hN => by have := HO.out k hN; omega)) (fun k hk => Nat.le_trans HW.out (HO.out k hk)))
 clear HX HA HQ HR HO HW
 have x3_0 := HS.out.hx.cell 3 rfl 0 rfl
 have x3_1 := HS.out.hx.cell 3 rfl 1 rfl
 have x3_2 := HS.out.hx.cell 3 rfl 2 rfl
 have x3_3 := HS.out.hx.cell 3 rfl 3 rfl
 have x3_4 := HS.out.hx.cell 3 rfl 4 rfl
 have x3_5 := HS.out.hx.cell 3 rfl 5 rfl
 have t1_1 : (x.f0 == 1) = false := by simp [HH.out.1]
 have t1_2 : (x.f0 == 2) = false := by simp [HH.out.1]
 have t1_3 : (x.f0 == 3) = true := by simp [HH.out.1]
 have t2 : ((x.f3.size : Int) != 16) = true := by simp; have := HH.out.2; omega
 go_upto_region 21 with (fail)
 clear t1_1 t1_2 t1_3
 clear x3_0 x3_1 x3_2 x3_3 x3_4 x3_5 t2
 have y0_ := HS.out.hx.cell 1 rfl 0 rfl
 have f0_ := HS.out.hx.free 1 rfl 0
 go_upto_region 22 with (fail)
 have n0_ := Aside0.mk (HS.out.code 1)
 clear HS y0_ f0_
 have HS := n0_
 clear n0_
 generalize World.setCell _ _ _ = W4 at HS ⊢
 refine ret2 (p := 2) (q := 6) (r := 4) (s := 5) (d1 := 75) (d2 := 76) rfl (by kernel_rfl) (by kernel_rfl) (by kernel_rfl) (by kernel_rfl) (by kernel_rfl) (fun _ _ _ _ _ h => h) rfl rfl rfl rfl (show (75 : Nat) < 124 by decide) (show (76 : Nat) < 124 by decide) (by decide) (HS.out.hx.at 2 rfl) (HS.out.hx.at 1 rfl) (HS.out.hx.at 4 rfl) (HS.out.hx.at 5 rfl) ?_ (fun w4 bR bS hk hb => ?_)
 ·
  have := HS.out.hx.nd
  simp at this
  omega
 have HP := Aside0.mk (HS.out.ends hk hb)
 go_wp2
 all_goals exact bodyPost_ret (results_cc rfl _ _ _ _ 27 54 _ _ (0, 0) (0, 0) _ _ rfl bR Try.underlying27 rfl (by kernel_rfl) rfl bS Try.underlying54 rfl (by kernel_rfl)) rfl HP.out
set_option maxHeartbeats 8000000 in
set_option maxRecDepth 100000 in
theorem step_drop0 (link : ByteArray) (A1 A2 : Option Addr) (c1 c2 : Nat) (l1 : List S39) (l2 : List ByteArray) (x : S58) (w : World) (hG : Good link l1 l2) (ha : AR w (fun _ => True) (.slice A1 l1.length c1) l1) (hb : SR w (fun _ => True) (.slice A2 l2.length c2) l2) (h : x.f0 = 4 ∧ fxF x.f3 l1 0 < 0) :
  Calls Try.prog 22 #[.agg #[.string link, .slice A1 l1.length c1, .slice A2 l2.length c2], .agg #[.int .i64 x.f0, .int .i64 x.f1, .string x.f2, .string x.f3, .int .i64 x.f4, .int .i64 x.f5]] w (PostS w link l1 l2) := by
 have HH := Aside0.mk h
 clear h
 have hu27 := Try.underlying27
 have hu54 := Try.underlying54
 have hu58 := Try.underlying58
 have HG := Aside0.mk hG
 have HA := Aside0.mk ha
 have HQ := Aside0.mk hb
 clear hG ha hb
 go_enter Try.func22, Try.ntmps22
 go_upto_region 1 with (fail)
 refine at_world (fun W hW => ?_)
 obtain ⟨q0, q1, q2, q3, qb, qz⟩ := boxes4 hW
 clear hW
 obtain ⟨g0, e0⟩ : ∃ g, g = w.heap.size := ⟨_, rfl⟩
 obtain ⟨g1, e1⟩ : ∃ g, g = w.heap.size + 1 := ⟨_, rfl⟩
 obtain ⟨g2, e2⟩ : ∃ g, g = w.heap.size + 1 + 1 := ⟨_, rfl⟩
 obtain ⟨g3, e3⟩ : ∃ g, g = w.heap.size + 1 + 1 + 1 := ⟨_, rfl⟩
 simp only [← e3]; simp only [← e2]; simp only [← e1]; simp only [← e0]
 rw [← e3] at q3; rw [← e2] at q2; rw [← e1] at q1; rw [← e0] at q0
 have HX := Aside0.mk (HS.start4 (N := fun _ => False) qb q0 q1 q2 q3 (by omega))
 replace HA := Aside0.mk (Kd.R_below HA.out qb)
 replace HQ := Aside0.mk (Kd.R_below HQ.out qb)
 clear q0 q1 q2 q3 qb qz e0 e1 e2 e3
 go_upto_region 2 with (go_at_call 46; (with_reducible refine (spec_l14Out.calls 0 [] [] [] [] _ rfl).mono ?_); rintro e w1 ⟨v1, v2, v3, v4, rfl, o1, o2, o3, o4, hb⟩; obtain ⟨B1, d1, rfl⟩ := Kd.R_slice o1; obtain ⟨B2, d2, rfl⟩ := Kd.R_slice o2; obtain ⟨B3, d3, rfl⟩ := Kd.R_slice o3; obtain ⟨B4, d4, rfl⟩ := Kd.R_slice o4; have HO := Aside0.mk (fun k (hk : Own4 (.slice B1 ([] : List ByteArray).length d1) (.slice B2 ([] : List ByteArray).length d2) (.slice B3 ([] : List ByteArray).length d3) (.slice B4 ([] : List ByteArray).length d4) k) => show W.heap.size ≤ k from hk.elim (fun e => Kd.R_base o1 k e.symm) (fun hk => hk.elim (fun e => Kd.R_base o2 k e.symm) (fun hk => hk.elim (fun e => Kd.R_base o3 k e.symm) (fun e => Kd.R_base o4 k e.symm)))); have HR := Aside0.mk (Rows4.mk (Kd.R_lower o1 (Nat.zero_le _)) (Kd.R_lower o2 (Nat.zero_le _)) (Kd.R_lower o3 (Nat.zero_le _)) (Kd.R_lower o4 (Nat.zero_le _))); have n0_ := Aside0.mk (HX.out.below hb); have n1_ := Aside0.mk (Kd.R_below (Kd.R_mono (Kd.R_bound HA.out) (fun k hk => (hk.2.2.1 : k < W.heap.size))) hb); have n2_ := Aside0.mk (Kd.R_below (Kd.R_mono (Kd.R_bound HQ.out) (fun k hk => (hk.2.2.1 : k < W.heap.size))) hb); have HW := Aside0.mk HX.out.kept.1; clear HX HA HQ hb o1 o2 o3 o4; have HX := n0_; have HA := n1_; have HQ := n2_; clear n0_ n1_ n2_)
 refine at_world (fun W2 hW => ?_)
 have hb := below_alloc (Below.refl w1.heap.size w1) (Obj.cells #[.int .i64 0, .slice B1 0 d1, .slice B2 0 d2, .slice B3 0 d3, .slice B4 0 d4] 54)
 rw [← hW] at hb
 obtain ⟨g4, e4⟩ : ∃ g, g = w1.heap.size := ⟨_, rfl⟩
 have n0_ := Aside0.mk (HX.out.add (g := g4) (t := 54) (cs := #[.int .i64 0, .slice B1 0 d1, .slice B2 0 d2, .slice B3 0 d3, .slice B4 0 d4]) hb (by rw [hW, e4]; exact blk_new _ _) (by omega)); have n1_ := Aside0.mk (Kd.R_below HA.out hb); have n2_ := Aside0.mk (Kd.R_below HQ.out hb); have n3_ := Aside0.mk (HR.out.below hb); simp only [← e4]; clear HX HA HQ HR hb hW e4; have HX := n0_; have HA := n1_; have HQ := n2_; have HR := n3_; clear n0_ n1_ n2_ n3_
 have x1_0 := HX.out.cell 1 rfl 0 rfl
 have x1_1 := HX.out.cell 1 rfl 1 rfl
 have x1_2 := HX.out.cell 1 rfl 2 rfl
 go_upto_region 3 with (fail)
 clear x1_0 x1_1 x1_2
 refine at_world (fun W3 hW => ?_)
 have hb := below_alloc (Below.refl W2.heap.size W2) (Obj.cells #[.string link, .slice A1 l1.length c1, .slice A2 l2.length c2] 27)
 rw [← hW] at hb
 obtain ⟨g5, e5⟩ : ∃ g, g = W2.heap.size := ⟨_, rfl⟩
 have n0_ := Aside0.mk (HX.out.add (g := g5) (t := 27) (cs := #[.string link, .slice A1 l1.length c1, .slice A2 l2.length c2]) hb (by rw [hW, e5]; exact blk_new _ _) (by omega)); have n1_ := Aside0.mk (Kd.R_below HA.out hb); have n2_ := Aside0.mk (Kd.R_below HQ.out hb); have n3_ := Aside0.mk (HR.out.below hb); simp only [← e5]; clear HX HA HQ HR hb hW e5; have HX := n0_; have HA := n1_; have HQ := n2_; have HR := n3_; clear n0_ n1_ n2_ n3_
 have HS := Aside0.mk (SI.mk (x1 := .slice B1 0 d1) (x2 := .slice B2 0 d2) (x3 := .slice B3 0 d3) (x4 := .slice B4 0 d4) (n := 0) HX.out HR.out ⟨Nat.le_refl _, Nat.le_refl _, Nat.le_refl _, Nat.le_refl _⟩ (Kd.R_mono HA.out (fun k hk hN => by have := HO.out k hN; omega)) (Kd.R_mono HQ.out (fun k hk hN => by have := HO.out k hN; omega)) (Kd.R_mono HA.out (fun k hk hN => by have := HO.out k hN; omega)) (Kd.R_mono HQ.out (fun k hk hN => by have := HO.out k hN; omega)) (fun k hk => Nat.le_trans HW.out (HO.out k hk)))
 clear HX HA HQ HR HO HW
 have x3_0 := HS.out.hx.cell 3 rfl 0 rfl
 have x3_1 := HS.out.hx.cell 3 rfl 1 rfl
 have x3_2 := HS.out.hx.cell 3 rfl 2 rfl
 have x3_3 := HS.out.hx.cell 3 rfl 3 rfl
 have x3_4 := HS.out.hx.cell 3 rfl 4 rfl
 have x3_5 := HS.out.hx.cell 3 rfl 5 rfl
 have t1_1 : (x.f0 == 1) = false := by simp [HH.out.1]
 have t1_2 : (x.f0 == 2) = false := by simp [HH.out.1]
 have t1_3 : (x.f0 == 3) = false := by simp [HH.out.1]
 have t1_4 : (x.f0 == 4) = true := by simp [HH.out.1]
 have HF := Aside0.mk (find_f l1 x.f3 (by have := HG.out.n1; omega))
 have t2 : decide (fxF x.f3 l1 0 < 0) = true := decide_eq_true HH.out.2
 generalize fxF x.f3 l1 0 = tt at HF t2 HH
 have x2_1 := HS.out.hx.cell 2 rfl 1 rfl
 go_upto_region 27 with ((go_at_call 36; (with_reducible refine (spec_l14Find.calls (l1.length + 1) _ _ l1 x.f3 tt _ (Kd.R_reads' HS.out.ha1).2.2 (Kd.R_reads' HS.out.ha1).2.1 HF.out).mono ?_); rintro e w4 ⟨rfl, ⟨nd, rfl⟩⟩; have n0_ := Aside0.mk (HS.out.below (pw_below_drewN (Below.refl _ _) nd)); clear HS x3_0 x3_1 x3_2 x3_3 x3_4 x3_5 x2_1; have HS := n0_; clear n0_; generalize World.drewN _ nd = w5_ at HS ⊢))
 clear t1_1 t1_2 t1_3 t1_4
 clear t2
 have y0_ := HS.out.hx.cell 1 rfl 0 rfl
 have f0_ := HS.out.hx.free 1 rfl 0
 go_upto_region 28 with (fail)
 have n0_ := Aside0.mk (HS.out.code 5)
 clear HS y0_ f0_
 have HS := n0_
 clear n0_
 generalize World.setCell _ _ _ = W4 at HS ⊢
 refine ret2 (p := 2) (q := 6) (r := 4) (s := 5) (d1 := 95) (d2 := 96) rfl (by kernel_rfl) (by kernel_rfl) (by kernel_rfl) (by kernel_rfl) (by kernel_rfl) (fun _ _ _ _ _ h => h) rfl rfl rfl rfl (show (95 : Nat) < 124 by decide) (show (96 : Nat) < 124 by decide) (by decide) (HS.out.hx.at 2 rfl) (HS.out.hx.at 1 rfl) (HS.out.hx.at 4 rfl) (HS.out.hx.at 5 rfl) ?_ (fun w4 bR bS hk hb => ?_)
 ·
  have := HS.out.hx.nd
  simp at this
  omega
 have HP := Aside0.mk (HS.out.ends hk hb)
 go_wp2
 all_goals exact bodyPost_ret (results_cc rfl _ _ _ _ 27 54 _ _ (0, 0) (0, 0) _ _ rfl bR Try.underlying27 rfl (by kernel_rfl) rfl bS Try.underlying54 rfl (by kernel_rfl)) rfl HP.out
set_option maxHeartbeats 8000000 in
set_option maxRecDepth 100000 in
theorem step_heard (link : ByteArray) (A1 A2 : Option Addr) (c1 c2 : Nat) (l1 : List S39) (l2 : List ByteArray) (x : S58) (w : World) (hG : Good link l1 l2) (ha : AR w (fun _ => True) (.slice A1 l1.length c1) l1) (hb : SR w (fun _ => True) (.slice A2 l2.length c2) l2) (h : x.f0 = 3 ∧ x.f3.size = 16) (K1 : List S39) (K2 : List ByteArray) (hK : heardA l1 l2 x.f3 = (K1, K2)) (hG' : Good link K1 K2) :
  Calls Try.prog 22 #[.agg #[.string link, .slice A1 l1.length c1, .slice A2 l2.length c2], .agg #[.int .i64 x.f0, .int .i64 x.f1, .string x.f2, .string x.f3, .int .i64 x.f4, .int .i64 x.f5]] w (PostS w link K1 K2) := by
 have HH := Aside0.mk h
 have HK := Aside0.mk hK
 have HG' := Aside0.mk hG'
 clear h hK hG'
 have hu27 := Try.underlying27
 have hu54 := Try.underlying54
 have hu58 := Try.underlying58
 have HG := Aside0.mk hG
 have HA := Aside0.mk ha
 have HQ := Aside0.mk hb
 clear hG ha hb
 go_enter Try.func22, Try.ntmps22
 go_upto_region 1 with (fail)
 refine at_world (fun W hW => ?_)
 obtain ⟨q0, q1, q2, q3, qb, qz⟩ := boxes4 hW
 clear hW
 obtain ⟨g0, e0⟩ : ∃ g, g = w.heap.size := ⟨_, rfl⟩
 obtain ⟨g1, e1⟩ : ∃ g, g = w.heap.size + 1 := ⟨_, rfl⟩
 obtain ⟨g2, e2⟩ : ∃ g, g = w.heap.size + 1 + 1 := ⟨_, rfl⟩
 obtain ⟨g3, e3⟩ : ∃ g, g = w.heap.size + 1 + 1 + 1 := ⟨_, rfl⟩
 simp only [← e3]; simp only [← e2]; simp only [← e1]; simp only [← e0]
 rw [← e3] at q3; rw [← e2] at q2; rw [← e1] at q1; rw [← e0] at q0
 have HX := Aside0.mk (HS.start4 (N := fun _ => False) qb q0 q1 q2 q3 (by omega))
 replace HA := Aside0.mk (Kd.R_below HA.out qb)
 replace HQ := Aside0.mk (Kd.R_below HQ.out qb)
 clear q0 q1 q2 q3 qb qz e0 e1 e2 e3
 go_upto_region 2 with (go_at_call 46; (with_reducible refine (spec_l14Out.calls 0 [] [] [] [] _ rfl).mono ?_); rintro e w1 ⟨v1, v2, v3, v4, rfl, o1, o2, o3, o4, hb⟩; obtain ⟨B1, d1, rfl⟩ := Kd.R_slice o1; obtain ⟨B2, d2, rfl⟩ := Kd.R_slice o2; obtain ⟨B3, d3, rfl⟩ := Kd.R_slice o3; obtain ⟨B4, d4, rfl⟩ := Kd.R_slice o4; have HO := Aside0.mk (fun k (hk : Own4 (.slice B1 ([] : List ByteArray).length d1) (.slice B2 ([] : List ByteArray).length d2) (.slice B3 ([] : List ByteArray).length d3) (.slice B4 ([] : List ByteArray).length d4) k) => show W.heap.size ≤ k from hk.elim (fun e => Kd.R_base o1 k e.symm) (fun hk => hk.elim (fun e => Kd.R_base o2 k e.symm) (fun hk => hk.elim (fun e => Kd.R_base o3 k e.symm) (fun e => Kd.R_base o4 k e.symm)))); have HR := Aside0.mk (Rows4.mk (Kd.R_lower o1 (Nat.zero_le _)) (Kd.R_lower o2 (Nat.zero_le _)) (Kd.R_lower o3 (Nat.zero_le _)) (Kd.R_lower o4 (Nat.zero_le _))); have n0_ := Aside0.mk (HX.out.below hb); have n1_ := Aside0.mk (Kd.R_below (Kd.R_mono (Kd.R_bound HA.out) (fun k hk => (hk.2.2.1 : k < W.heap.size))) hb); have n2_ := Aside0.mk (Kd.R_below (Kd.R_mono (Kd.R_bound HQ.out) (fun k hk => (hk.2.2.1 : k < W.heap.size))) hb); have HW := Aside0.mk HX.out.kept.1; clear HX HA HQ hb o1 o2 o3 o4; have HX := n0_; have HA := n1_; have HQ := n2_; clear n0_ n1_ n2_)
 refine at_world (fun W2 hW => ?_)
 have hb := below_alloc (Below.refl w1.heap.size w1) (Obj.cells #[.int .i64 0, .slice B1 0 d1, .slice B2 0 d2, .slice B3 0 d3, .slice B4 0 d4] 54)
 rw [← hW] at hb
 obtain ⟨g4, e4⟩ : ∃ g, g = w1.heap.size := ⟨_, rfl⟩
 have n0_ := Aside0.mk (HX.out.add (g := g4) (t := 54) (cs := #[.int .i64 0, .slice B1 0 d1, .slice B2 0 d2, .slice B3 0 d3, .slice B4 0 d4]) hb (by rw [hW, e4]; exact blk_new _ _) (by omega)); have n1_ := Aside0.mk (Kd.R_below HA.out hb); have n2_ := Aside0.mk (Kd.R_below HQ.out hb); have n3_ := Aside0.mk (HR.out.below hb); simp only [← e4]; clear HX HA HQ HR hb hW e4; have HX := n0_; have HA := n1_; have HQ := n2_; have HR := n3_; clear n0_ n1_ n2_ n3_
 have x1_0 := HX.out.cell 1 rfl 0 rfl
 have x1_1 := HX.out.cell 1 rfl 1 rfl
 have x1_2 := HX.out.cell 1 rfl 2 rfl
 go_upto_region 3 with (fail)
 clear x1_0 x1_1 x1_2
 refine at_world (fun W3 hW => ?_)
 have hb := below_alloc (Below.refl W2.heap.size W2) (Obj.cells #[.string link, .slice A1 l1.length c1, .slice A2 l2.length c2] 27)
 rw [← hW] at hb
 obtain ⟨g5, e5⟩ : ∃ g, g = W2.heap.size := ⟨_, rfl⟩
 have n0_ := Aside0.mk (HX.out.add (g := g5) (t := 27) (cs := #[.string link, .slice A1 l1.length c1, .slice A2 l2.length c2]) hb (by rw [hW, e5]; exact blk_new _ _) (by omega)); have n1_ := Aside0.mk (Kd.R_below HA.out hb); have n2_ := Aside0.mk (Kd.R_below HQ.out hb); have n3_ := Aside0.mk (HR.out.below hb); simp only [← e5]; clear HX HA HQ HR hb hW e5; have HX := n0_; have HA := n1_; have HQ := n2_; have HR := n3_; clear n0_ n1_ n2_ n3_
 have HS := Aside0.mk (SI.mk (x1 := .slice B1 0 d1) (x2 := .slice B2 0 d2) (x3 := .slice B3 0 d3) (x4 := .slice B4 0 d4) (n := 0) HX.out HR.out ⟨Nat.le_refl _, Nat.le_refl _, Nat.le_refl _, Nat.le_refl _⟩ (Kd.R_mono HA.out (fun k hk hN => by have := HO.out k hN; omega)) (Kd.R_mono HQ.out (fun k hk hN => by have := HO.out k hN; omega)) (Kd.R_mono HA.out (fun k hk hN => by have := HO.out k hN; omega)) (Kd.R_mono HQ.out (fun k hk hN => by have := HO.out k hN; omega)) (fun k hk => Nat.le_trans HW.out (HO.out k hk)))
 clear HX HA HQ HR HO HW
 have x3_0 := HS.out.hx.cell 3 rfl 0 rfl
 have x3_1 := HS.out.hx.cell 3 rfl 1 rfl
 have x3_2 := HS.out.hx.cell 3 rfl 2 rfl
 have x3_3 := HS.out.hx.cell 3 rfl 3 rfl
 have x3_4 := HS.out.hx.cell 3 rfl 4 rfl
 have x3_5 := HS.out.hx.cell 3 rfl 5 rfl
 have t1_1 : (x.f0 == 1) = false := by simp [HH.out.1]
 have t1_2 : (x.f0 == 2) = false := by simp [HH.out.1]
 have t1_3 : (x.f0 == 3) = true := by simp [HH.out.1]
 have t2 : ((x.f3.size : Int) != 16) = false := by simp; have := HH.out.2; omega
 go_upto_region 23 with (fail)
 clear t1_1 t1_2 t1_3
 clear t2 x3_0 x3_1 x3_2 x3_3 x3_4 x3_5
 have l2_0 := HS.out.hx.cell 2 rfl 0 rfl
 have l2_1 := HS.out.hx.cell 2 rfl 1 rfl
 have l2_2 := HS.out.hx.cell 2 rfl 2 rfl
 have l3_0 := HS.out.hx.cell 3 rfl 0 rfl
 have l3_1 := HS.out.hx.cell 3 rfl 1 rfl
 have l3_2 := HS.out.hx.cell 3 rfl 2 rfl
 have l3_3 := HS.out.hx.cell 3 rfl 3 rfl
 have l3_4 := HS.out.hx.cell 3 rfl 4 rfl
 have l3_5 := HS.out.hx.cell 3 rfl 5 rfl
 have l1_0 := HS.out.hx.cell 1 rfl 0 rfl
 have l1_1 := HS.out.hx.cell 1 rfl 1 rfl
 have l1_2 := HS.out.hx.cell 1 rfl 2 rfl
 have l1_3 := HS.out.hx.cell 1 rfl 3 rfl
 have l1_4 := HS.out.hx.cell 1 rfl 4 rfl
 have HC_ := Aside0.mk (heard_post link A1 A2 B1 B2 B3 B4 c1 c2 d1 d2 d3 d4 0 0 0 0 l1 l2 [] [] [] [] 0 _ 0 x.f3 HG.out HS.out.hn (by omega) HS.out.hr HS.out.ha1 HS.out.ha2)
 rw [HK.out] at HC_
 go_upto_region 32 with (go_at_call 49; (with_reducible refine HC_.out.mono ?_); rintro e w4 ⟨z1, z2, cd', y1, y2, y3, y4, p1, p2, p3, p4, rfl, hr_, hn_, h1_, h2_, hk_, hb_, ho_⟩; obtain ⟨Z1, k1, rfl⟩ := Kd.R_slice h1_; obtain ⟨Z2, k2, rfl⟩ := Kd.R_slice h2_; obtain ⟨Y1, j1, rfl⟩ := Kd.R_slice hr_.r1; obtain ⟨Y2, j2, rfl⟩ := Kd.R_slice hr_.r2; obtain ⟨Y3, j3, rfl⟩ := Kd.R_slice hr_.r3; obtain ⟨Y4, j4, rfl⟩ := Kd.R_slice hr_.r4; have s0_ := HS.out.mid hk_ hb_; have c50 := s0_.cell 0 rfl 0 rfl; have f50 := s0_.free 0 rfl 0; have c51 := s0_.cell 0 rfl 1 rfl; have f51 := s0_.free 0 rfl 1; have c52 := s0_.cell 0 rfl 2 rfl; have f52 := s0_.free 0 rfl 2; have c40 := s0_.cell 1 rfl 0 rfl; have f40 := s0_.free 1 rfl 0; have c41 := s0_.cell 1 rfl 1 rfl; have f41 := s0_.free 1 rfl 1; have c42 := s0_.cell 1 rfl 2 rfl; have f42 := s0_.free 1 rfl 2; have c43 := s0_.cell 1 rfl 3 rfl; have f43 := s0_.free 1 rfl 3; have c44 := s0_.cell 1 rfl 4 rfl; have f44 := s0_.free 1 rfl 4; have ne1_ : g5 ≠ g4 := (by have := s0_.nd; simp at this; omega); have ne2_ : g4 ≠ g5 := fun e => ne1_ e.symm; have n0_ := Aside0.mk (HS.out.take (cd' := cd') hr_ hn_ h1_ h2_ hk_ hb_ ho_); clear HS hr_ hn_ h1_ h2_ hk_ hb_ ho_ s0_; have HS := n0_; clear n0_; clear l2_0 l2_1 l2_2 l3_0 l3_1 l3_2 l3_3 l3_4 l3_5 l1_0 l1_1 l1_2 l1_3 l1_4; clear HC_)
 clear c50 f50 c51 f51 c52 f52 c40 f40 c41 f41 c42 f42 c43 f43 c44 f44 ne1_ ne2_
 generalize World.setCell _ _ _ = W6 at HS ⊢
 have HNN := Aside0.mk (show (0 : Nat) + 1 ≤ 1000000 by decide)
 have hg1_ := groups_f link l1 l2 (by have := HG.out.n1; omega) (fun y hy => (HG.out.el y hy).sz)
 obtain ⟨G1, hG1, hG1l⟩ := hg1_
 have hg2_ := groups_f link K1 K2 (by have := HG'.out.n1; omega) (fun y hy => (HG'.out.el y hy).sz)
 obtain ⟨G2, hG2, hG2l⟩ := hg2_
 have HGG := Aside0.mk (And.intro hG1 (And.intro hG2 (show G1.length ≤ 1000 ∧ G2.length ≤ 1000 by have := HG.out.n1; have := HG'.out.n1; omega)))
 clear hG1 hG2 hG1l hG2l
 refine start_ (n := 7) (S := fun w' => w'.cell? ⟨g5, 0, none⟩ = some (.string link) ∧ w'.cell? ⟨g5, 1, none⟩ = some (.slice Z1 K1.length k1) ∧ w'.cell? ⟨g5, 2, none⟩ = some (.slice Z2 K2.length k2) ∧ w'.cell? ⟨g0, 0, none⟩ = some (.string link) ∧ w'.cell? ⟨g0, 1, none⟩ = some (.slice A1 l1.length c1) ∧ w'.cell? ⟨g0, 2, none⟩ = some (.slice A2 l2.length c2) ∧ w'.cell? ⟨g4, 0, none⟩ = some (.int .i64 cd') ∧ w'.cell? ⟨g4, 1, none⟩ = some (.slice Y1 p1.length j1) ∧ w'.cell? ⟨g4, 2, none⟩ = some (.slice Y2 p2.length j2) ∧ w'.cell? ⟨g4, 3, none⟩ = some (.slice Y3 p3.length j3) ∧ w'.cell? ⟨g4, 4, none⟩ = some (.slice Y4 p4.length j4)) (ds := [5, 6]) #[false, false, false, false, false, false, false] (by kernel_rfl) rfl rfl ⟨HS.out.hx.cell 0 rfl 0 rfl, HS.out.hx.cell 0 rfl 1 rfl, HS.out.hx.cell 0 rfl 2 rfl, HS.out.hx.cell 2 rfl 0 rfl, HS.out.hx.cell 2 rfl 1 rfl, HS.out.hx.cell 2 rfl 2 rfl, HS.out.hx.cell 1 rfl 0 rfl, HS.out.hx.cell 1 rfl 1 rfl, HS.out.hx.cell 1 rfl 2 rfl, HS.out.hx.cell 1 rfl 3 rfl, HS.out.hx.cell 1 rfl 4 rfl⟩ (fun hHeld => ?_); refine with_tabW spec_l14Step.tab32 spec_l14Step.bits32 (fun HT_ HW_ => ?_)
 have n0_ := Aside0.mk (HS.out.below (below_drew1 (Below.refl _ _)))
 clear HS
 have HS := n0_
 clear n0_
 generalize World.drew _ = W7 at HS hHeld ⊢
 refine take_ (i := 0) (N := some 119) (v := ?_) (a' := ?_) #[true, false, false, false, false, false, false] rfl rfl (take_ofW HT_.out HW_.out (by kernel_rfl)) (fun _ _ _ h => h) (Or.inl ⟨by rfl, ?_⟩) hHeld ?_ ?_
 rotate_left
 ·
  rintro w' ⟨s0, s1, s2, s3, s4, s5, s6, s7, s8, s9, s10⟩
  go_simp
  with_reducible rfl
 rotate_left
 ·
  simp only [Act.put, pq]
  rfl
 refine take_ (i := 1) (N := some 120) (v := ?_) (a' := ?_) #[true, true, false, false, false, false, false] rfl rfl (take_ofW HT_.out HW_.out (by kernel_rfl)) (fun _ _ _ h => h) (Or.inl ⟨by rfl, ?_⟩) hHeld ?_ ?_
 rotate_left
 ·
  rintro w' ⟨s0, s1, s2, s3, s4, s5, s6, s7, s8, s9, s10⟩
  go_simp
  with_reducible rfl
 rotate_left
 ·
  simp only [Act.put, pq]
  rfl
 refine take_ (i := 2) (N := some 121) (v := ?_) (a' := ?_) #[true, true, true, false, false, false, false] rfl rfl (take_ofW HT_.out HW_.out (by kernel_rfl)) (fun _ _ _ h => h) (Or.inl ⟨by rfl, ?_⟩) hHeld ?_ ?_
 rotate_left
 ·
  rintro w' ⟨s0, s1, s2, s3, s4, s5, s6, s7, s8, s9, s10⟩
  go_simp
  with_reducible rfl
 rotate_left
 ·
  simp only [Act.put, pq]
  rfl
 refine take_ (i := 3) (N := some 122) (v := ?_) (a' := ?_) #[true, true, true, true, false, false, false] rfl rfl (take_ofW HT_.out HW_.out (by kernel_rfl)) (fun _ _ _ h => h) (Or.inl ⟨by rfl, ?_⟩) hHeld ?_ ?_
 rotate_left
 ·
  rintro w' ⟨s0, s1, s2, s3, s4, s5, s6, s7, s8, s9, s10⟩
  go_simp
  with_reducible rfl
 rotate_left
 ·
  simp only [Act.put, pq]
  rfl
 refine one_ (i := 4) (N := some 123) #[true, true, true, true, true, false, false] rfl rfl (one_of HT_.out (by kernel_rfl)) (by decide) (fun K hK => ?_)
 refine goes_ Try.func50 (by kernel_rfl) rfl #[.agg #[.string link, .slice A1 l1.length c1, .slice A2 l2.length c2], .agg #[.string link, .slice Z1 K1.length k1, .slice Z2 K2.length k2], .agg #[.int .i64 cd', .slice Y1 p1.length j1, .slice Y2 p2.length j2, .slice Y3 p3.length j3, .slice Y4 p4.length j4]] (by rfl) rfl rfl (by (try simp only [List.map_toArray, List.map_cons, List.map_nil]); rfl) ?_
 with_reducible refine (moves_calls link link A1 A2 Z1 Z2 Y1 Y2 Y3 Y4 c1 c2 k1 k2 j1 j2 j3 j4 p1.length p2.length p3.length p4.length l1 l2 K1 K2 p1 p2 p3 p4 cd' _ G1 G2 HGG.out.1 HGG.out.2.1 HGG.out.2.2.1 HGG.out.2.2.2 _ HS.out.hn HNN.out HS.out.hr (Kd.R_reads' HS.out.ha1).2.2 (Kd.R_reads' HS.out.ha1).2.1 (Kd.R_reads' HS.out.ha2).2.2 (Kd.R_reads' HS.out.ha2).2.1 (Kd.R_reads' HS.out.hu1).2.2 (Kd.R_reads' HS.out.hu1).2.1 (Kd.R_reads' HS.out.hu2).2.2 (Kd.R_reads' HS.out.hu2).2.1).mono ?_
 rintro e W8 ⟨cd2, y1, y2, y3, y4, q1, q2, q3, q4, rfl, hr_, -, hk_, hb_, -⟩
 obtain ⟨X1, i1, rfl⟩ := Kd.R_slice hr_.r1
 obtain ⟨X2, i2, rfl⟩ := Kd.R_slice hr_.r2
 obtain ⟨X3, i3, rfl⟩ := Kd.R_slice hr_.r3
 obtain ⟨X4, i4, rfl⟩ := Kd.R_slice hr_.r4
 have s0_ := HS.out.mid hk_ hb_
 refine ⟨_, rfl, ?_⟩
 refine hK.out _ _ ⟨s0_.cell 0 rfl 0 rfl, s0_.cell 0 rfl 1 rfl, s0_.cell 0 rfl 2 rfl, s0_.cell 2 rfl 0 rfl, s0_.cell 2 rfl 1 rfl, s0_.cell 2 rfl 2 rfl, s0_.cell 1 rfl 0 rfl, s0_.cell 1 rfl 1 rfl, s0_.cell 1 rfl 2 rfl, s0_.cell 1 rfl 3 rfl, s0_.cell 1 rfl 4 rfl⟩ (fun hHeld => ?_)
 clear hK K
 refine norm_ (a' := ?_) ?_ ?_
 rotate_left
 ·
  show Act.put _ (some 123) _ = _
  simp only [Act.put, pq]
  rfl
 refine last_ (i := 5) (N := none) #[true, true, true, true, true, true, false] rfl rfl (one_of HT_.out (by kernel_rfl)) (by decide) (fun K hK => ?_)
 refine skip27 (s := link) (A1 := Z1) (n1 := K1.length) (c1 := k1) (A2 := Z2) (n2 := K2.length) (c2 := k2) (by rfl) rfl (by rfl) (by rfl) (s0_.at 4 rfl) (fun W9 b1_ k1_ o1_ => ?_)
 refine hK.out _ _ ?_
 clear hK K
 have ne_ : g2 ≠ g3 := by have := s0_.nd; simp at this; omega
 have b5_ := blk_kept (W := W8) (s0_.at 5 rfl) k1_ (fun e => ne_ e.symm)
 refine last_ (i := 6) (N := none) #[true, true, true, true, true, true, true] rfl rfl (one_of HT_.out (by kernel_rfl)) (by decide) (fun K hK => ?_)
 refine skip54 (c := cd2) (A1 := X1) (n1 := q1.length) (c1 := i1) (A2 := X2) (n2 := q2.length) (c2 := i2) (A3 := X3) (n3 := q3.length) (c3 := i3) (A4 := X4) (n4 := q4.length) (c4 := i4) (by rfl) rfl (by rfl) (by rfl) b5_ (fun WA b2_ k2_ o2_ => ?_)
 refine hK.out _ _ ?_
 clear hK K
 refine done_ (done_of HT_.out (by kernel_rfl)) ?_
 have HP := Aside0.mk (HS.out.fin (cd' := cd2) hr_ hk_ hb_ ((Kept.then_ (k1_.mono (fun k hk => .inl hk)) k2_ (fun k hk => .inl (.inr hk)))) (o1_.trans o2_))
 have bR_ := blk_kept b1_ k2_ ne_
 clear hr_ hk_ hb_ k1_ k2_ o1_ o2_ s0_ b5_ b1_ hHeld HT_ HW_ HS
 go_wp2
 all_goals exact bodyPost_ret (results_cc rfl _ _ _ _ 27 54 _ _ (0, 0) (0, 0) _ _ rfl bR_ Try.underlying27 rfl (by kernel_rfl) rfl b2_ Try.underlying54 rfl (by kernel_rfl)) rfl HP.out
set_option maxHeartbeats 8000000 in
set_option maxRecDepth 100000 in
theorem step_ticks (link : ByteArray) (A1 A2 : Option Addr) (c1 c2 : Nat) (l1 : List S39) (l2 : List ByteArray) (x : S58) (w : World) (hG : Good link l1 l2) (ha : AR w (fun _ => True) (.slice A1 l1.length c1) l1) (hb : SR w (fun _ => True) (.slice A2 l2.length c2) l2) (h : x.f0 = 2 ∧ 0 ≤ x.f1 ∧ x.f1 ≤ 1000) (K1 : List S39) (hK : tickN x.f1.toNat l1 = K1) :
  Calls Try.prog 22 #[.agg #[.string link, .slice A1 l1.length c1, .slice A2 l2.length c2], .agg #[.int .i64 x.f0, .int .i64 x.f1, .string x.f2, .string x.f3, .int .i64 x.f4, .int .i64 x.f5]] w (PostS w link K1 l2) := by
 obtain ⟨T, hT⟩ : ∃ T : Nat, x.f1 = (T : Int) := ⟨x.f1.toNat, by omega⟩
 rw [hT, Int.toNat_natCast] at hK
 have HH := Aside0.mk (show x.f0 = 2 ∧ x.f1 = (T : Int) ∧ T ≤ 1000 by omega)
 have HK := Aside0.mk hK
 clear h hK hT
 have hu27 := Try.underlying27
 have hu54 := Try.underlying54
 have hu58 := Try.underlying58
 have HG := Aside0.mk hG
 have HA := Aside0.mk ha
 have HQ := Aside0.mk hb
 clear hG ha hb
 go_enter Try.func22, Try.ntmps22
 go_upto_region 1 with (fail)
 refine at_world (fun W hW => ?_)
 obtain ⟨q0, q1, q2, q3, qb, qz⟩ := boxes4 hW
 clear hW
 obtain ⟨g0, e0⟩ : ∃ g, g = w.heap.size := ⟨_, rfl⟩
 obtain ⟨g1, e1⟩ : ∃ g, g = w.heap.size + 1 := ⟨_, rfl⟩
 obtain ⟨g2, e2⟩ : ∃ g, g = w.heap.size + 1 + 1 := ⟨_, rfl⟩
 obtain ⟨g3, e3⟩ : ∃ g, g = w.heap.size + 1 + 1 + 1 := ⟨_, rfl⟩
 simp only [← e3]; simp only [← e2]; simp only [← e1]; simp only [← e0]
 rw [← e3] at q3; rw [← e2] at q2; rw [← e1] at q1; rw [← e0] at q0
 have HX := Aside0.mk (HS.start4 (N := fun _ => False) qb q0 q1 q2 q3 (by omega))
 replace HA := Aside0.mk (Kd.R_below HA.out qb)
 replace HQ := Aside0.mk (Kd.R_below HQ.out qb)
 clear q0 q1 q2 q3 qb qz e0 e1 e2 e3
 go_upto_region 2 with (go_at_call 46; (with_reducible refine (spec_l14Out.calls 0 [] [] [] [] _ rfl).mono ?_); rintro e w1 ⟨v1, v2, v3, v4, rfl, o1, o2, o3, o4, hb⟩; obtain ⟨B1, d1, rfl⟩ := Kd.R_slice o1; obtain ⟨B2, d2, rfl⟩ := Kd.R_slice o2; obtain ⟨B3, d3, rfl⟩ := Kd.R_slice o3; obtain ⟨B4, d4, rfl⟩ := Kd.R_slice o4; have HO := Aside0.mk (fun k (hk : Own4 (.slice B1 ([] : List ByteArray).length d1) (.slice B2 ([] : List ByteArray).length d2) (.slice B3 ([] : List ByteArray).length d3) (.slice B4 ([] : List ByteArray).length d4) k) => show W.heap.size ≤ k from hk.elim (fun e => Kd.R_base o1 k e.symm) (fun hk => hk.elim (fun e => Kd.R_base o2 k e.symm) (fun hk => hk.elim (fun e => Kd.R_base o3 k e.symm) (fun e => Kd.R_base o4 k e.symm)))); have HR := Aside0.mk (Rows4.mk (Kd.R_lower o1 (Nat.zero_le _)) (Kd.R_lower o2 (Nat.zero_le _)) (Kd.R_lower o3 (Nat.zero_le _)) (Kd.R_lower o4 (Nat.zero_le _))); have n0_ := Aside0.mk (HX.out.below hb); have n1_ := Aside0.mk (Kd.R_below (Kd.R_mono (Kd.R_bound HA.out) (fun k hk => (hk.2.2.1 : k < W.heap.size))) hb); have n2_ := Aside0.mk (Kd.R_below (Kd.R_mono (Kd.R_bound HQ.out) (fun k hk => (hk.2.2.1 : k < W.heap.size))) hb); have HW := Aside0.mk HX.out.kept.1; clear HX HA HQ hb o1 o2 o3 o4; have HX := n0_; have HA := n1_; have HQ := n2_; clear n0_ n1_ n2_)
 refine at_world (fun W2 hW => ?_)
 have hb := below_alloc (Below.refl w1.heap.size w1) (Obj.cells #[.int .i64 0, .slice B1 0 d1, .slice B2 0 d2, .slice B3 0 d3, .slice B4 0 d4] 54)
 rw [← hW] at hb
 obtain ⟨g4, e4⟩ : ∃ g, g = w1.heap.size := ⟨_, rfl⟩
 have n0_ := Aside0.mk (HX.out.add (g := g4) (t := 54) (cs := #[.int .i64 0, .slice B1 0 d1, .slice B2 0 d2, .slice B3 0 d3, .slice B4 0 d4]) hb (by rw [hW, e4]; exact blk_new _ _) (by omega)); have n1_ := Aside0.mk (Kd.R_below HA.out hb); have n2_ := Aside0.mk (Kd.R_below HQ.out hb); have n3_ := Aside0.mk (HR.out.below hb); simp only [← e4]; clear HX HA HQ HR hb hW e4; have HX := n0_; have HA := n1_; have HQ := n2_; have HR := n3_; clear n0_ n1_ n2_ n3_
 have x1_0 := HX.out.cell 1 rfl 0 rfl
 have x1_1 := HX.out.cell 1 rfl 1 rfl
 have x1_2 := HX.out.cell 1 rfl 2 rfl
 go_upto_region 3 with (fail)
 clear x1_0 x1_1 x1_2
 refine at_world (fun W3 hW => ?_)
 have hb := below_alloc (Below.refl W2.heap.size W2) (Obj.cells #[.string link, .slice A1 l1.length c1, .slice A2 l2.length c2] 27)
 rw [← hW] at hb
 obtain ⟨g5, e5⟩ : ∃ g, g = W2.heap.size := ⟨_, rfl⟩
 have n0_ := Aside0.mk (HX.out.add (g := g5) (t := 27) (cs := #[.string link, .slice A1 l1.length c1, .slice A2 l2.length c2]) hb (by rw [hW, e5]; exact blk_new _ _) (by omega)); have n1_ := Aside0.mk (Kd.R_below HA.out hb); have n2_ := Aside0.mk (Kd.R_below HQ.out hb); have n3_ := Aside0.mk (HR.out.below hb); simp only [← e5]; clear HX HA HQ HR hb hW e5; have HX := n0_; have HA := n1_; have HQ := n2_; have HR := n3_; clear n0_ n1_ n2_ n3_
 have HS := Aside0.mk (SI.mk (x1 := .slice B1 0 d1) (x2 := .slice B2 0 d2) (x3 := .slice B3 0 d3) (x4 := .slice B4 0 d4) (n := 0) HX.out HR.out ⟨Nat.le_refl _, Nat.le_refl _, Nat.le_refl _, Nat.le_refl _⟩ (Kd.R_mono HA.out (fun k hk hN => by have := HO.out k hN; omega)) (Kd.R_mono HQ.out (fun k hk hN => by have := HO.out k hN; omega)) (Kd.R_mono HA.out (fun k hk hN => by have := HO.out k hN; omega)) (Kd.R_mono HQ.out (fun k hk hN => by have := HO.out k hN; omega)) (fun k hk => Nat.le_trans HW.out (HO.out k hk)))
 clear HX HA HQ HR HO HW
 have x3_0 := HS.out.hx.cell 3 rfl 0 rfl
 have x3_1 := HS.out.hx.cell 3 rfl 1 rfl
 have x3_2 := HS.out.hx.cell 3 rfl 2 rfl
 have x3_3 := HS.out.hx.cell 3 rfl 3 rfl
 have x3_4 := HS.out.hx.cell 3 rfl 4 rfl
 have x3_5 := HS.out.hx.cell 3 rfl 5 rfl
 have t1_1 : (x.f0 == 1) = false := by simp [HH.out.1]
 have t1_2 : (x.f0 == 2) = true := by simp [HH.out.1]
 have HI2 := Aside0.mk (in_f x.f1 0 1000)
 rw [decide_eq_true (show 0 ≤ x.f1 ∧ x.f1 ≤ 1000 by have := HH.out; omega)] at HI2
 go_upto_region 15 with ((go_at_call 37; (with_reducible refine (spec_l01In.calls x.f1 0 1000 true _ HI2.out).mono ?_); rintro e w4 ⟨rfl, ⟨nd, rfl⟩⟩; have n0_ := Aside0.mk (HS.out.below (pw_below_drewN (Below.refl _ _) nd)); clear HS x3_0 x3_1 x3_2 x3_3 x3_4 x3_5; have HS := n0_; clear n0_; generalize World.drewN _ nd = w5_ at HS ⊢; have x3_0 := HS.out.hx.cell 3 rfl 0 rfl; have x3_1 := HS.out.hx.cell 3 rfl 1 rfl; have x3_2 := HS.out.hx.cell 3 rfl 2 rfl; have x3_3 := HS.out.hx.cell 3 rfl 3 rfl; have x3_4 := HS.out.hx.cell 3 rfl 4 rfl; have x3_5 := HS.out.hx.cell 3 rfl 5 rfl))
 clear t1_1 t1_2
 clear x3_0 x3_1 x3_2 x3_3 x3_4 x3_5
 go_wp2
 go_loopg [8] T (fun gg v8 w' => ∃ (i : Nat) (KL : List S39) (Z1 Z2 Y1 Y2 Y3 Y4 : Option Addr) (k1 k2 j1 j2 j3 j4 : Nat) (p1 p2 p3 p4 : List ByteArray) (cd' : Int), v8 = .int .i64 (i : Int) ∧ Aside0 (i ≤ T ∧ T - i ≤ gg ∧ KL = tickN i l1) ∧ Aside0 (SI w w' g0 g1 g2 g3 g4 g5 #[.int .i64 x.f0, .int .i64 x.f1, .string x.f2, .string x.f3, .int .i64 x.f4, .int .i64 x.f5] link cd' (.slice A1 l1.length c1) (.slice A2 l2.length c2) (.slice Z1 KL.length k1) (.slice Z2 l2.length k2) (.slice Y1 p1.length j1) (.slice Y2 p2.length j2) (.slice Y3 p3.length j3) (.slice Y4 p4.length j4) l1 l2 KL l2 p1 p2 p3 p4 (6 * i)))
 case atStart => exact ⟨0, l1, A1, A2, B1, B2, B3, B4, c1, c2, d1, d2, d3, d4, [], [], [], [], 0, rfl, ⟨Nat.zero_le _, by omega, rfl⟩, HS⟩
 case round =>
  clear HS
  obtain ⟨i, KL, Z1, Z2, Y1, Y2, Y3, Y4, k1, k2, j1, j2, j3, j4, p1, p2, p3, p4, cd', rfl, HI, HS⟩ := hrel
  have x3_1 : wr.cell? ⟨g1, 1, none⟩ = some (.int .i64 (T : Int)) := by rw [← HH.out.2.1]; exact HS.out.hx.cell 3 rfl 1 rfl
  by_cases hlt : i < T
  ·
   have t1 : decide (i < T) = true := decide_eq_true hlt
   have t0 : ((i : Int) < (T : Int)) := by omega
   have t2 : (0 : Int) ≤ (i : Int) := by omega
   have t3 : (i : Int) ≤ 1000 := by have := HH.out; omega
   have l0_0 := HS.out.hx.cell 0 rfl 0 rfl
   have l0_1 := HS.out.hx.cell 0 rfl 1 rfl
   have l0_2 := HS.out.hx.cell 0 rfl 2 rfl
   have l1_0 := HS.out.hx.cell 1 rfl 0 rfl
   have l1_1 := HS.out.hx.cell 1 rfl 1 rfl
   have l1_2 := HS.out.hx.cell 1 rfl 2 rfl
   have l1_3 := HS.out.hx.cell 1 rfl 3 rfl
   have l1_4 := HS.out.hx.cell 1 rfl 4 rfl
   have HC_ := Aside0.mk (tick_post link Z1 Z2 Y1 Y2 Y3 Y4 k1 k2 j1 j2 j3 j4 p1.length p2.length p3.length p4.length KL l2 p1 p2 p3 p4 cd' _ (6 * i) (by rw [HI.out.2.2]; exact HG.out.ticks i) HS.out.hn (by have := HH.out; omega) HS.out.hr HS.out.hu1 HS.out.hu2)
   go_wp2_with (go_at_call 48; (with_reducible refine HC_.out.mono ?_); rintro e w4 ⟨z1, z2, cd2, y1, y2, y3, y4, q1, q2, q3, q4, rfl, hr_, hn_, h1_, h2_, hk_, hb_, ho_⟩; obtain ⟨Z1', k1', rfl⟩ := Kd.R_slice h1_; obtain ⟨Z2', k2', rfl⟩ := Kd.R_slice h2_; obtain ⟨Y1', j1', rfl⟩ := Kd.R_slice hr_.r1; obtain ⟨Y2', j2', rfl⟩ := Kd.R_slice hr_.r2; obtain ⟨Y3', j3', rfl⟩ := Kd.R_slice hr_.r3; obtain ⟨Y4', j4', rfl⟩ := Kd.R_slice hr_.r4; have s0_ := HS.out.mid hk_ hb_; have c50 := s0_.cell 0 rfl 0 rfl; have f50 := s0_.free 0 rfl 0; have c51 := s0_.cell 0 rfl 1 rfl; have f51 := s0_.free 0 rfl 1; have c52 := s0_.cell 0 rfl 2 rfl; have f52 := s0_.free 0 rfl 2; have c40 := s0_.cell 1 rfl 0 rfl; have f40 := s0_.free 1 rfl 0; have c41 := s0_.cell 1 rfl 1 rfl; have f41 := s0_.free 1 rfl 1; have c42 := s0_.cell 1 rfl 2 rfl; have f42 := s0_.free 1 rfl 2; have c43 := s0_.cell 1 rfl 3 rfl; have f43 := s0_.free 1 rfl 3; have c44 := s0_.cell 1 rfl 4 rfl; have f44 := s0_.free 1 rfl 4; have ne1_ : g5 ≠ g4 := (by have := s0_.nd; simp at this; omega); have ne2_ : g4 ≠ g5 := fun e => ne1_ e.symm; have n0_ := Aside0.mk (HS.out.take (cd' := cd2) hr_ hn_ h1_ h2_ hk_ hb_ ho_); clear HS hr_ hn_ h1_ h2_ hk_ hb_ ho_ s0_; have HS := n0_; clear n0_; clear l0_0 l0_1 l0_2 l1_0 l1_1 l1_2 l1_3 l1_4; clear x3_1; clear HC_)
   clear c50 f50 c51 f51 c52 f52 c40 f40 c41 f41 c42 f42 c43 f43 c44 f44 ne1_ ne2_
   go_roundg (T - (i + 1))
   case measure => have := HI.out; omega
   case rel => exact ⟨i + 1, tickA KL, Z1', Z2', Y1', Y2', Y3', Y4', k1', k2', j1', j2', j3', j4', q1, q2, q3, q4, cd2, by go_num, ⟨by omega, by omega, by rw [HI.out.2.2]; rfl⟩, by rw [show 6 * (i + 1) = 6 * i + 6 by omega]; exact HS⟩
  ·
   have t1 : decide (i < T) = false := decide_eq_false hlt
   have t2 : ¬ ((i : Int) < (T : Int)) := by omega
   obtain rfl : KL = K1 := by rw [HI.out.2.2, ← HK.out, show i = T by have := HI.out.1; omega]
   have HNN := Aside0.mk (show 6 * i ≤ 1000000 by have := HI.out.1; have := HH.out; omega)
   have HG' := Aside0.mk (show Good link KL l2 by rw [HI.out.2.2]; exact HG.out.ticks i)
   clear hlt HI
   go_upto_region 32 with (fail)
   clear t1 t2 x3_1
   have hg1_ := groups_f link l1 l2 (by have := HG.out.n1; omega) (fun y hy => (HG.out.el y hy).sz)
   obtain ⟨G1, hG1, hG1l⟩ := hg1_
   have hg2_ := groups_f link KL l2 (by have := HG'.out.n1; omega) (fun y hy => (HG'.out.el y hy).sz)
   obtain ⟨G2, hG2, hG2l⟩ := hg2_
   have HGG := Aside0.mk (And.intro hG1 (And.intro hG2 (show G1.length ≤ 1000 ∧ G2.length ≤ 1000 by have := HG.out.n1; have := HG'.out.n1; omega)))
   clear hG1 hG2 hG1l hG2l
   refine start_ (n := 7) (S := fun w' => w'.cell? ⟨g5, 0, none⟩ = some (.string link) ∧ w'.cell? ⟨g5, 1, none⟩ = some (.slice Z1 KL.length k1) ∧ w'.cell? ⟨g5, 2, none⟩ = some (.slice Z2 l2.length k2) ∧ w'.cell? ⟨g0, 0, none⟩ = some (.string link) ∧ w'.cell? ⟨g0, 1, none⟩ = some (.slice A1 l1.length c1) ∧ w'.cell? ⟨g0, 2, none⟩ = some (.slice A2 l2.length c2) ∧ w'.cell? ⟨g4, 0, none⟩ = some (.int .i64 cd') ∧ w'.cell? ⟨g4, 1, none⟩ = some (.slice Y1 p1.length j1) ∧ w'.cell? ⟨g4, 2, none⟩ = some (.slice Y2 p2.length j2) ∧ w'.cell? ⟨g4, 3, none⟩ = some (.slice Y3 p3.length j3) ∧ w'.cell? ⟨g4, 4, none⟩ = some (.slice Y4 p4.length j4)) (ds := [5, 6]) #[false, false, false, false, false, false, false] (by kernel_rfl) rfl rfl ⟨HS.out.hx.cell 0 rfl 0 rfl, HS.out.hx.cell 0 rfl 1 rfl, HS.out.hx.cell 0 rfl 2 rfl, HS.out.hx.cell 2 rfl 0 rfl, HS.out.hx.cell 2 rfl 1 rfl, HS.out.hx.cell 2 rfl 2 rfl, HS.out.hx.cell 1 rfl 0 rfl, HS.out.hx.cell 1 rfl 1 rfl, HS.out.hx.cell 1 rfl 2 rfl, HS.out.hx.cell 1 rfl 3 rfl, HS.out.hx.cell 1 rfl 4 rfl⟩ (fun hHeld => ?_); refine with_tabW spec_l14Step.tab32 spec_l14Step.bits32 (fun HT_ HW_ => ?_)
   have n0_ := Aside0.mk (HS.out.below (below_drew1 (Below.refl _ _)))
   clear HS
   have HS := n0_
   clear n0_
   generalize World.drew _ = W7 at HS hHeld ⊢
   refine take_ (i := 0) (N := some 119) (v := ?_) (a' := ?_) #[true, false, false, false, false, false, false] rfl rfl (take_ofW HT_.out HW_.out (by kernel_rfl)) (fun _ _ _ h => h) (Or.inl ⟨by rfl, ?_⟩) hHeld ?_ ?_
   rotate_left
   ·
    rintro w' ⟨s0, s1, s2, s3, s4, s5, s6, s7, s8, s9, s10⟩
    go_simp
    with_reducible rfl
   rotate_left
   ·
    simp only [Act.put, pq]
    rfl
   refine take_ (i := 1) (N := some 120) (v := ?_) (a' := ?_) #[true, true, false, false, false, false, false] rfl rfl (take_ofW HT_.out HW_.out (by kernel_rfl)) (fun _ _ _ h => h) (Or.inl ⟨by rfl, ?_⟩) hHeld ?_ ?_
   rotate_left
   ·
    rintro w' ⟨s0, s1, s2, s3, s4, s5, s6, s7, s8, s9, s10⟩
    go_simp
    with_reducible rfl
   rotate_left
   ·
    simp only [Act.put, pq]
    rfl
   refine take_ (i := 2) (N := some 121) (v := ?_) (a' := ?_) #[true, true, true, false, false, false, false] rfl rfl (take_ofW HT_.out HW_.out (by kernel_rfl)) (fun _ _ _ h => h) (Or.inl ⟨by rfl, ?_⟩) hHeld ?_ ?_
   rotate_left
   ·
    rintro w' ⟨s0, s1, s2, s3, s4, s5, s6, s7, s8, s9, s10⟩
    go_simp
    with_reducible rfl
   rotate_left
   ·
    simp only [Act.put, pq]
    rfl
   refine take_ (i := 3) (N := some 122) (v := ?_) (a' := ?_) #[true, true, true, true, false, false, false] rfl rfl (take_ofW HT_.out HW_.out (by kernel_rfl)) (fun _ _ _ h => h) (Or.inl ⟨by rfl, ?_⟩) hHeld ?_ ?_
   rotate_left
   ·
    rintro w' ⟨s0, s1, s2, s3, s4, s5, s6, s7, s8, s9, s10⟩
    go_simp
    with_reducible rfl
   rotate_left
   ·
    simp only [Act.put, pq]
    rfl
   refine one_ (i := 4) (N := some 123) #[true, true, true, true, true, false, false] rfl rfl (one_of HT_.out (by kernel_rfl)) (by decide) (fun K hK => ?_)
   refine goes_ Try.func50 (by kernel_rfl) rfl #[.agg #[.string link, .slice A1 l1.length c1, .slice A2 l2.length c2], .agg #[.string link, .slice Z1 KL.length k1, .slice Z2 l2.length k2], .agg #[.int .i64 cd', .slice Y1 p1.length j1, .slice Y2 p2.length j2, .slice Y3 p3.length j3, .slice Y4 p4.length j4]] (by rfl) rfl rfl (by (try simp only [List.map_toArray, List.map_cons, List.map_nil]); rfl) ?_
   with_reducible refine (moves_calls link link A1 A2 Z1 Z2 Y1 Y2 Y3 Y4 c1 c2 k1 k2 j1 j2 j3 j4 p1.length p2.length p3.length p4.length l1 l2 KL l2 p1 p2 p3 p4 cd' _ G1 G2 HGG.out.1 HGG.out.2.1 HGG.out.2.2.1 HGG.out.2.2.2 _ HS.out.hn HNN.out HS.out.hr (Kd.R_reads' HS.out.ha1).2.2 (Kd.R_reads' HS.out.ha1).2.1 (Kd.R_reads' HS.out.ha2).2.2 (Kd.R_reads' HS.out.ha2).2.1 (Kd.R_reads' HS.out.hu1).2.2 (Kd.R_reads' HS.out.hu1).2.1 (Kd.R_reads' HS.out.hu2).2.2 (Kd.R_reads' HS.out.hu2).2.1).mono ?_
   rintro e W8 ⟨cd2, y1, y2, y3, y4, q1, q2, q3, q4, rfl, hr_, -, hk_, hb_, -⟩
   obtain ⟨X1, i1, rfl⟩ := Kd.R_slice hr_.r1
   obtain ⟨X2, i2, rfl⟩ := Kd.R_slice hr_.r2
   obtain ⟨X3, i3, rfl⟩ := Kd.R_slice hr_.r3
   obtain ⟨X4, i4, rfl⟩ := Kd.R_slice hr_.r4
   have s0_ := HS.out.mid hk_ hb_
   refine ⟨_, rfl, ?_⟩
   refine hK.out _ _ ⟨s0_.cell 0 rfl 0 rfl, s0_.cell 0 rfl 1 rfl, s0_.cell 0 rfl 2 rfl, s0_.cell 2 rfl 0 rfl, s0_.cell 2 rfl 1 rfl, s0_.cell 2 rfl 2 rfl, s0_.cell 1 rfl 0 rfl, s0_.cell 1 rfl 1 rfl, s0_.cell 1 rfl 2 rfl, s0_.cell 1 rfl 3 rfl, s0_.cell 1 rfl 4 rfl⟩ (fun hHeld => ?_)
   clear hK K
   refine norm_ (a' := ?_) ?_ ?_
   rotate_left
   ·
    show Act.put _ (some 123) _ = _
    simp only [Act.put, pq]
    rfl
   refine last_ (i := 5) (N := none) #[true, true, true, true, true, true, false] rfl rfl (one_of HT_.out (by kernel_rfl)) (by decide) (fun K hK => ?_)
   refine skip27 (s := link) (A1 := Z1) (n1 := KL.length) (c1 := k1) (A2 := Z2) (n2 := l2.length) (c2 := k2) (by rfl) rfl (by rfl) (by rfl) (s0_.at 4 rfl) (fun W9 b1_ k1_ o1_ => ?_)
   refine hK.out _ _ ?_
   clear hK K
   have ne_ : g2 ≠ g3 := by have := s0_.nd; simp at this; omega
   have b5_ := blk_kept (W := W8) (s0_.at 5 rfl) k1_ (fun e => ne_ e.symm)
   refine last_ (i := 6) (N := none) #[true, true, true, true, true, true, true] rfl rfl (one_of HT_.out (by kernel_rfl)) (by decide) (fun K hK => ?_)
   refine skip54 (c := cd2) (A1 := X1) (n1 := q1.length) (c1 := i1) (A2 := X2) (n2 := q2.length) (c2 := i2) (A3 := X3) (n3 := q3.length) (c3 := i3) (A4 := X4) (n4 := q4.length) (c4 := i4) (by rfl) rfl (by rfl) (by rfl) b5_ (fun WA b2_ k2_ o2_ => ?_)
   refine hK.out _ _ ?_
   clear hK K
   refine done_ (done_of HT_.out (by kernel_rfl)) ?_
   have HP := Aside0.mk (HS.out.fin (cd' := cd2) hr_ hk_ hb_ ((Kept.then_ (k1_.mono (fun k hk => .inl hk)) k2_ (fun k hk => .inl (.inr hk)))) (o1_.trans o2_))
   have bR_ := blk_kept b1_ k2_ ne_
   clear hr_ hk_ hb_ k1_ k2_ o1_ o2_ s0_ b5_ b1_ hHeld HT_ HW_ HS
   go_wp2
   all_goals exact bodyPost_ret (results_cc rfl _ _ _ _ 27 54 _ _ (0, 0) (0, 0) _ _ rfl bR_ Try.underlying27 rfl (by kernel_rfl) rfl b2_ Try.underlying54 rfl (by kernel_rfl)) rfl HP.out
set_option maxHeartbeats 8000000 in
set_option maxRecDepth 100000 in
theorem step_drop (link : ByteArray) (A1 A2 : Option Addr) (c1 c2 : Nat) (l1 : List S39) (l2 : List ByteArray) (x : S58) (w : World) (hG : Good link l1 l2) (ha : AR w (fun _ => True) (.slice A1 l1.length c1) l1) (hb : SR w (fun _ => True) (.slice A2 l2.length c2) l2) (h : x.f0 = 4 ∧ ¬ fxF x.f3 l1 0 < 0 ∧ fxF x.f3 l1 0 < (l1.length : Int)) (K1 : List S39) (hK : dropA l1 x.f3 = K1) (hG' : Good link K1 l2) :
  Calls Try.prog 22 #[.agg #[.string link, .slice A1 l1.length c1, .slice A2 l2.length c2], .agg #[.int .i64 x.f0, .int .i64 x.f1, .string x.f2, .string x.f3, .int .i64 x.f4, .int .i64 x.f5]] w (PostS w link K1 l2) := by
 obtain ⟨T, hT⟩ : ∃ T : Nat, fxF x.f3 l1 0 = (T : Int) := ⟨(fxF x.f3 l1 0).toNat, by omega⟩
 have HF := Aside0.mk (find_f l1 x.f3 (by have := hG.n1; omega))
 unfold dropA at hK
 rw [if_neg h.2.1, hT, Int.toNat_natCast] at hK
 rw [hT] at HF h
 have HT := Aside0.mk (show T < l1.length ∧ l1.length ≤ 6 by have := hG.n1; omega)
 have HH := Aside0.mk h.1
 have HK := Aside0.mk hK
 have HG' := Aside0.mk hG'
 clear h hK hT hG'
 have hu27 := Try.underlying27
 have hu54 := Try.underlying54
 have hu58 := Try.underlying58
 have HG := Aside0.mk hG
 have HA := Aside0.mk ha
 have HQ := Aside0.mk hb
 clear hG ha hb
 go_enter Try.func22, Try.ntmps22
 go_upto_region 1 with (fail)
 refine at_world (fun W hW => ?_)
 obtain ⟨q0, q1, q2, q3, qb, qz⟩ := boxes4 hW
 clear hW
 obtain ⟨g0, e0⟩ : ∃ g, g = w.heap.size := ⟨_, rfl⟩
 obtain ⟨g1, e1⟩ : ∃ g, g = w.heap.size + 1 := ⟨_, rfl⟩
 obtain ⟨g2, e2⟩ : ∃ g, g = w.heap.size + 1 + 1 := ⟨_, rfl⟩
 obtain ⟨g3, e3⟩ : ∃ g, g = w.heap.size + 1 + 1 + 1 := ⟨_, rfl⟩
 simp only [← e3]; simp only [← e2]; simp only [← e1]; simp only [← e0]
 rw [← e3] at q3; rw [← e2] at q2; rw [← e1] at q1; rw [← e0] at q0
 have HX := Aside0.mk (HS.start4 (N := fun _ => False) qb q0 q1 q2 q3 (by omega))
 replace HA := Aside0.mk (Kd.R_below HA.out qb)
 replace HQ := Aside0.mk (Kd.R_below HQ.out qb)
 clear q0 q1 q2 q3 qb qz e0 e1 e2 e3
 go_upto_region 2 with (go_at_call 46; (with_reducible refine (spec_l14Out.calls 0 [] [] [] [] _ rfl).mono ?_); rintro e w1 ⟨v1, v2, v3, v4, rfl, o1, o2, o3, o4, hb⟩; obtain ⟨B1, d1, rfl⟩ := Kd.R_slice o1; obtain ⟨B2, d2, rfl⟩ := Kd.R_slice o2; obtain ⟨B3, d3, rfl⟩ := Kd.R_slice o3; obtain ⟨B4, d4, rfl⟩ := Kd.R_slice o4; have HO := Aside0.mk (fun k (hk : Own4 (.slice B1 ([] : List ByteArray).length d1) (.slice B2 ([] : List ByteArray).length d2) (.slice B3 ([] : List ByteArray).length d3) (.slice B4 ([] : List ByteArray).length d4) k) => show W.heap.size ≤ k from hk.elim (fun e => Kd.R_base o1 k e.symm) (fun hk => hk.elim (fun e => Kd.R_base o2 k e.symm) (fun hk => hk.elim (fun e => Kd.R_base o3 k e.symm) (fun e => Kd.R_base o4 k e.symm)))); have HR := Aside0.mk (Rows4.mk (Kd.R_lower o1 (Nat.zero_le _)) (Kd.R_lower o2 (Nat.zero_le _)) (Kd.R_lower o3 (Nat.zero_le _)) (Kd.R_lower o4 (Nat.zero_le _))); have n0_ := Aside0.mk (HX.out.below hb); have n1_ := Aside0.mk (Kd.R_below (Kd.R_mono (Kd.R_bound HA.out) (fun k hk => (hk.2.2.1 : k < W.heap.size))) hb); have n2_ := Aside0.mk (Kd.R_below (Kd.R_mono (Kd.R_bound HQ.out) (fun k hk => (hk.2.2.1 : k < W.heap.size))) hb); have HW := Aside0.mk HX.out.kept.1; clear HX HA HQ hb o1 o2 o3 o4; have HX := n0_; have HA := n1_; have HQ := n2_; clear n0_ n1_ n2_)
 refine at_world (fun W2 hW => ?_)
 have hb := below_alloc (Below.refl w1.heap.size w1) (Obj.cells #[.int .i64 0, .slice B1 0 d1, .slice B2 0 d2, .slice B3 0 d3, .slice B4 0 d4] 54)
 rw [← hW] at hb
 obtain ⟨g4, e4⟩ : ∃ g, g = w1.heap.size := ⟨_, rfl⟩
 have n0_ := Aside0.mk (HX.out.add (g := g4) (t := 54) (cs := #[.int .i64 0, .slice B1 0 d1, .slice B2 0 d2, .slice B3 0 d3, .slice B4 0 d4]) hb (by rw [hW, e4]; exact blk_new _ _) (by omega)); have n1_ := Aside0.mk (Kd.R_below HA.out hb); have n2_ := Aside0.mk (Kd.R_below HQ.out hb); have n3_ := Aside0.mk (HR.out.below hb); simp only [← e4]; clear HX HA HQ HR hb hW e4; have HX := n0_; have HA := n1_; have HQ := n2_; have HR := n3_; clear n0_ n1_ n2_ n3_
 have x1_0 := HX.out.cell 1 rfl 0 rfl
 have x1_1 := HX.out.cell 1 rfl 1 rfl
 have x1_2 := HX.out.cell 1 rfl 2 rfl
 go_upto_region 3 with (fail)
 clear x1_0 x1_1 x1_2
 refine at_world (fun W3 hW => ?_)
 have hb := below_alloc (Below.refl W2.heap.size W2) (Obj.cells #[.string link, .slice A1 l1.length c1, .slice A2 l2.length c2] 27)
 rw [← hW] at hb
 obtain ⟨g5, e5⟩ : ∃ g, g = W2.heap.size := ⟨_, rfl⟩
 have n0_ := Aside0.mk (HX.out.add (g := g5) (t := 27) (cs := #[.string link, .slice A1 l1.length c1, .slice A2 l2.length c2]) hb (by rw [hW, e5]; exact blk_new _ _) (by omega)); have n1_ := Aside0.mk (Kd.R_below HA.out hb); have n2_ := Aside0.mk (Kd.R_below HQ.out hb); have n3_ := Aside0.mk (HR.out.below hb); simp only [← e5]; clear HX HA HQ HR hb hW e5; have HX := n0_; have HA := n1_; have HQ := n2_; have HR := n3_; clear n0_ n1_ n2_ n3_
 have HS := Aside0.mk (SI.mk (x1 := .slice B1 0 d1) (x2 := .slice B2 0 d2) (x3 := .slice B3 0 d3) (x4 := .slice B4 0 d4) (n := 0) HX.out HR.out ⟨Nat.le_refl _, Nat.le_refl _, Nat.le_refl _, Nat.le_refl _⟩ (Kd.R_mono HA.out (fun k hk hN => by have := HO.out k hN; omega)) (Kd.R_mono HQ.out (fun k hk hN => by have := HO.out k hN; omega)) (Kd.R_mono HA.out (fun k hk hN => by have := HO.out k hN; omega)) (Kd.R_mono HQ.out (fun k hk hN => by have := HO.out k hN; omega)) (fun k hk => Nat.le_trans HW.out (HO.out k hk)))
 clear HX HA HQ HR HO HW
 have x3_0 := HS.out.hx.cell 3 rfl 0 rfl
 have x3_1 := HS.out.hx.cell 3 rfl 1 rfl
 have x3_2 := HS.out.hx.cell 3 rfl 2 rfl
 have x3_3 := HS.out.hx.cell 3 rfl 3 rfl
 have x3_4 := HS.out.hx.cell 3 rfl 4 rfl
 have x3_5 := HS.out.hx.cell 3 rfl 5 rfl
 have t1_1 : (x.f0 == 1) = false := by simp [HH.out]
 have t1_2 : (x.f0 == 2) = false := by simp [HH.out]
 have t1_3 : (x.f0 == 3) = false := by simp [HH.out]
 have t1_4 : (x.f0 == 4) = true := by simp [HH.out]
 have t2 : decide ((T : Int) < 0) = false := decide_eq_false (by omega)
 have x2_1 := HS.out.hx.cell 2 rfl 1 rfl
 go_upto_region 29 with ((go_at_call 36; (with_reducible refine (spec_l14Find.calls (l1.length + 1) _ _ l1 x.f3 T _ (Kd.R_reads' HS.out.ha1).2.2 (Kd.R_reads' HS.out.ha1).2.1 HF.out).mono ?_); rintro e w4 ⟨rfl, ⟨nd, rfl⟩⟩; have n0_ := Aside0.mk (HS.out.below (pw_below_drewN (Below.refl _ _) nd)); clear HS x3_0 x3_1 x3_2 x3_3 x3_4 x3_5 x2_1; have HS := n0_; clear n0_; generalize World.drewN _ nd = w5_ at HS ⊢))
 clear t1_1 t1_2 t1_3 t1_4
 clear t2
 have HW := Aside0.mk (own_f link l1 l2 (by have := HG.out.n1; omega) (by have := HG.out.n2; omega))
 have l2_0 := HS.out.hx.cell 2 rfl 0 rfl
 have l2_1 := HS.out.hx.cell 2 rfl 1 rfl
 have l2_2 := HS.out.hx.cell 2 rfl 2 rfl
 go_upto_region 30 with (go_at_call 23; (with_reducible refine (spec_l14Own.calls link _ _ l1 _ _ l2 link l1 l2 _ (Kd.R_reads' HS.out.ha1).2.2 (Kd.R_reads' HS.out.ha1).2.1 (Kd.R_reads' HS.out.ha2).2.2 (Kd.R_reads' HS.out.ha2).2.1 HW.out).mono ?_); rintro e w5 ⟨z1, z2, rfl, h1_, h2_, hb_⟩; obtain ⟨Z0, k0, rfl⟩ := Kd.R_slice h1_; obtain ⟨Z2, k2, rfl⟩ := Kd.R_slice h2_; have s0_ := HS.out.hx.below hb_; have c50 := s0_.cell 0 rfl 0 rfl; have f50 := s0_.free 0 rfl 0; have c51 := s0_.cell 0 rfl 1 rfl; have f51 := s0_.free 0 rfl 1; have c52 := s0_.cell 0 rfl 2 rfl; have f52 := s0_.free 0 rfl 2; have n0_ := Aside0.mk (HS.out.next hb_ (R_newN h1_ HS.out.hr.lt) (R_newN h2_ HS.out.hr.lt)); clear HS h1_ h2_ hb_ s0_ l2_0 l2_1 l2_2; have HS := n0_; clear n0_)
 clear c50 f50 c51 f51 c52 f52
 generalize World.setCell _ _ _ = W6 at HS ⊢
 obtain ⟨ad, ea, hx0_⟩ := at_T39 (Kd.R_reads' HS.out.ha1).2.2 (T : Int) (by omega) (by have := HT.out; omega)
 subst ea
 clear hx0_
 obtain ⟨i0_, hi0_, _, hsz_, _⟩ := info_parts info39
 have hc_ := (Kd.R_reads' HS.out.ha1).2.1
 have hC_ := (Kd.R_reads' HS.out.ha1).2.2
 have hT_ := HT.out.1
 have hw64_ : wrap64 ((T : Int) + 1) = (T : Int) + 1 := by have := HT.out.2; unfold wrap64; omega
 obtain ⟨ya, hya⟩ : ∃ y, y = l1.take T := ⟨_, rfl⟩
 obtain ⟨yb, hyb⟩ : ∃ y, y = l1.drop (T + 1) := ⟨_, rfl⟩
 have hcut1 := cut_to (P := Try.prog) 24 39 .i64 Try.underlying24 hi0_ (some ad) l1.length c1 (T : Int) (by omega) (by omega) hc_
 have hr1_ := Kd.C_take (m := T) hC_ (by omega)
 have hcut2 := cut_from (P := Try.prog) 24 39 .i64 Try.underlying24 hi0_ 5 hsz_ (some ad) l1.length c1 ((T : Int) + 1) (by omega) (by omega)
 have hr2_ := Kd.C_drop (m := T + 1) (c := c1) hC_ (by omega) hc_
 simp only [Int.toNat_natCast, show ((T : Int) + 1).toNat = T + 1 from by omega] at hcut1 hcut2
 obtain ⟨A3, hA3⟩ : ∃ A1, A1 = (if c1 = T + 1 then (some ad) else ((some ad) : Option Addr).map (·.add ((T + 1) * 5))) := ⟨_, rfl⟩
 rw [← hya] at hr1_
 replace hr2_ : Kd.C k39 _ A3 yb.length yb := (by rw [hA3, hyb]; exact hr2_)
 have hyt : ya.length = T := by rw [hya, List.length_take]; omega
 have hyd : yb.length = l1.length - (T + 1) := by rw [hyb]; exact List.length_drop
 have HL_ := Aside0.mk (show ya.length ≤ 1000 ∧ yb.length ≤ 1000 by have := HT.out.2; omega)
 rw [← hyd, ← hA3] at hcut2
 obtain ⟨cb_, hcb_⟩ : ∃ x, x = c1 - (T + 1) := ⟨_, rfl⟩
 rw [← hcb_] at hcut2
 obtain ⟨L1, hL1⟩ : ∃ L, L = ya ++ yb := ⟨_, rfl⟩
 have HYL := Aside0.mk hL1
 have HYF := Aside0.mk (show L1 = l1.take T ++ l1.drop (T + 1) by rw [hL1, hya, hyb])
 clear hL1 hya hyb hcb_ hyd
 have HX1 := Aside0.mk hr1_
 have HX2 := Aside0.mk hr2_
 have HYT := Aside0.mk hyt
 clear hr1_ hr2_ hA3 hi0_ hsz_ hC_ hyt hc_ hT_
 have c_1 := HS.out.hx.cell 2 rfl 1 rfl
 refine start_ (n := 14) (S := fun w' => w'.cell? ⟨g0, 1, none⟩ = some (.slice (some ad) l1.length c1)) (ds := []) #[false, false, false, false, false, false, false, false, false, false, false, false, false, false] (by kernel_rfl) rfl rfl c_1 (fun hHeld => ?_); refine with_tabW spec_l14Step.tab30 spec_l14Step.bits30 (fun HT_ HW_ => ?_)
 clear c_1
 replace HS := Aside0.mk (HS.out.below (below_drew1 (Below.refl _ _)))
 replace HX1 := Aside0.mk (Kd.C_drew HX1.out)
 replace HX2 := Aside0.mk (Kd.C_drew HX2.out)
 generalize World.drew _ = W9 at HS HX1 HX2 hHeld ⊢
 refine pure_ (i := 1) (N := some 100) (v := ?_) (a' := ?_) #[false, true, false, false, false, false, false, false, false, false, false, false, false, false] rfl rfl (any_of HT_.out (by kernel_rfl)) (fun _ _ _ h => h) (Or.inl ⟨by rfl, ?_⟩) ?_ ?_
 rotate_left
 ·
  intro w'
  go_simp
  with_reducible rfl
 rotate_left
 ·
  simp only [Act.put, pq]
  rfl
 refine pure_ (i := 3) (N := some 102) (v := ?_) (a' := ?_) #[false, true, false, true, false, false, false, false, false, false, false, false, false, false] rfl rfl (any_of HT_.out (by kernel_rfl)) (fun _ _ _ h => h) (Or.inl ⟨by rfl, ?_⟩) ?_ ?_
 rotate_left
 ·
  intro w'
  go_simp
  with_reducible rfl
 rotate_left
 ·
  simp only [Act.put, pq]
  rfl
 refine pure_ (i := 6) (N := some 105) (v := ?_) (a' := ?_) #[false, true, false, true, false, false, true, false, false, false, false, false, false, false] rfl rfl (any_of HT_.out (by kernel_rfl)) (fun _ _ _ h => h) (Or.inl ⟨by rfl, ?_⟩) ?_ ?_
 rotate_left
 ·
  intro w'
  go_simp
  with_reducible rfl
 rotate_left
 ·
  simp only [Act.put, pq]
  rfl
 refine pure_ (i := 8) (N := some 107) (v := ?_) (a' := ?_) #[false, true, false, true, false, false, true, false, true, false, false, false, false, false] rfl rfl (any_of HT_.out (by kernel_rfl)) (fun _ _ _ h => h) (Or.inl ⟨by rfl, ?_⟩) ?_ ?_
 rotate_left
 ·
  intro w'
  go_simp
  with_reducible rfl
 rotate_left
 ·
  simp only [Act.put, pq]
  rfl
 refine pure_ (i := 9) (N := some 108) (v := ?_) (a' := ?_) #[false, true, false, true, false, false, true, false, true, true, false, false, false, false] rfl rfl (any_of HT_.out (by kernel_rfl)) (fun _ _ _ h => h) (Or.inl ⟨by rfl, ?_⟩) ?_ ?_
 rotate_left
 ·
  intro w'
  go_simp
  with_reducible rfl
 rotate_left
 ·
  simp only [Act.put, pq]
  rfl
 refine take_ (i := 2) (N := some 101) (v := ?_) (a' := ?_) #[false, true, true, true, false, false, true, false, true, true, false, false, false, false] rfl rfl (take_ofW HT_.out HW_.out (by kernel_rfl)) (fun _ _ _ h => h) (Or.inl ⟨by rfl, ?_⟩) hHeld ?_ ?_
 rotate_left
 ·
  intro w' s0
  go_simp
  with_reducible rfl
 rotate_left
 ·
  simp only [Act.put, pq]
  rfl
 refine pure_ (i := 4) (N := some 103) (v := ?_) (a' := ?_) #[false, true, true, true, true, false, true, false, true, true, false, false, false, false] rfl rfl (any_of HT_.out (by kernel_rfl)) (fun _ _ _ h => h) (Or.inl ⟨by rfl, ?_⟩) ?_ ?_
 rotate_left
 ·
  intro w'
  go_simp
  with_reducible rfl
 rotate_left
 ·
  simp only [Act.put, pq]
  rfl
 refine take_ (i := 7) (N := some 106) (v := ?_) (a' := ?_) #[false, true, true, true, true, false, true, true, true, true, false, false, false, false] rfl rfl (take_ofW HT_.out HW_.out (by kernel_rfl)) (fun _ _ _ h => h) (Or.inl ⟨by rfl, ?_⟩) hHeld ?_ ?_
 rotate_left
 ·
  intro w' s0
  go_simp
  with_reducible rfl
 rotate_left
 ·
  simp only [Act.put, pq]
  rfl
 refine pure_ (i := 10) (N := some 109) (v := ?_) (a' := ?_) #[false, true, true, true, true, false, true, true, true, true, true, false, false, false] rfl rfl (any_of HT_.out (by kernel_rfl)) (fun _ _ _ h => h) (Or.inl ⟨by rfl, ?_⟩) ?_ ?_
 rotate_left
 ·
  intro w'
  go_simp
  with_reducible rfl
 rotate_left
 ·
  simp only [Act.put, pq]
  rfl
 refine one_ (i := 0) (N := some 99) #[true, true, true, true, true, false, true, true, true, true, true, false, false, false] rfl rfl (one_of HT_.out (by kernel_rfl)) (by decide) (fun K hK => ?_)
 refine Kd.R_lit_step k39 (w0 := W9) W9.heap.size 39 ?hg (N := 99) ?hd (xs := ([] : List S39)) (inner := []) (ok := fun _ => True) (okp := fun _ => True) ?hr ?hp (fun _ hk => hk) trivial (Below.refl _ _) (Nat.le_refl _) (by simp) ?_; (case hd => rfl); (case hg => rfl); (case hr => (go_simp; done)); (case hp => exact (Reps.none _ _))
 intro y1 z1 hy1_ hb1_ hg_ hnew_
 clear hg_ hnew_
 refine hK.out _ _ ((blk_cell (blk_below (HS.out.hx.at 2 rfl) hb1_) 1).trans rfl) (fun hHeld => ?_)
 clear hK K
 refine norm_ (a' := ?_) ?_ ?_
 rotate_left
 ·
  show Act.put _ (some 99) _ = _
  simp only [Act.put, pq]
  rfl
 refine one_ (i := 5) (N := some 104) #[true, true, true, true, true, true, true, true, true, true, true, false, false, false] rfl rfl (one_of HT_.out (by kernel_rfl)) (by decide) (fun K hK => ?_)
 refine Kd.R_append_rows_step k39 (w0 := W9) W9.heap.size (by rfl) (.tmp 99) (.tmp 103) 24 39 (.agg #[(.string ⟨#[]⟩), (.int .i64 0), (.int .i64 0), (.int .i64 0), (.int .i64 0)]) 48 rfl Try.underlying24 info39 rfl (by decide) (by omega) y1 [] ya _ _ _ (fun _ => True) (fun _ => False) rfl (by rw [HYT.out]; rfl) hy1_ (Kd.C_below (w := W9) HX1.out hb1_) (fun _ _ h => h) (fun _ h => h.elim) (fun _ _ => trivial) hb1_ hb1_.size (by have := HL_.out; simp only [List.length_nil]; omega) ?_
 intro y2 z2 hy2_ hb2_ hg_ hnew_
 rw [List.nil_append] at hy2_
 clear hg_ hnew_ hy1_ hb1_
 refine hK.out _ _ ((blk_cell (blk_below (HS.out.hx.at 2 rfl) hb2_) 1).trans rfl) (fun hHeld => ?_)
 clear hK K
 refine norm_ (a' := ?_) ?_ ?_
 rotate_left
 ·
  show Act.put _ (some 104) _ = _
  simp only [Act.put, pq]
  rfl
 refine one_ (i := 11) (N := some 110) #[true, true, true, true, true, true, true, true, true, true, true, true, false, false] rfl rfl (one_of HT_.out (by kernel_rfl)) (by decide) (fun K hK => ?_)
 refine Kd.R_append_rows_step k39 (w0 := W9) W9.heap.size (by rfl) (.tmp 104) (.tmp 109) 24 39 (.agg #[(.string ⟨#[]⟩), (.int .i64 0), (.int .i64 0), (.int .i64 0), (.int .i64 0)]) 48 rfl Try.underlying24 info39 rfl (by decide) (by omega) y2 ya yb _ _ _ (fun _ => True) (fun _ => False) rfl rfl hy2_ (Kd.C_below (w := W9) HX2.out hb2_) (fun _ _ h => h) (fun _ h => h.elim) (fun _ _ => trivial) hb2_ hb2_.size (by have := HL_.out; omega) ?_
 intro y3 z3 hy3_ hb hg_ hnew_
 clear hg_ hnew_ hy2_ hb2_
 rw [← HYL.out] at hy3_
 obtain ⟨Z1, k1, rfl⟩ := Kd.R_slice hy3_
 refine hK.out _ _ ((blk_cell (blk_below (HS.out.hx.at 2 rfl) hb) 1).trans rfl) (fun hHeld => ?_)
 clear hK K
 refine norm_ (a' := ?_) ?_ ?_
 rotate_left
 ·
  show Act.put _ (some 110) _ = _
  simp only [Act.put, pq]
  rfl
 have n0_ := Aside0.mk (HS.out.below hb); have HN3 := Aside0.mk (fun k hk => Nat.le_trans HS.out.hx.kept.1 (Kd.R_base hy3_ k hk)); have HZ1 := Aside0.mk (R_newN (W := W9) hy3_ (HS.out.hr.lt)); clear HS hb hy3_ HX1 HX2 HYT HYL HL_; have HS := n0_; clear n0_
 refine pure_ (i := 12) (N := some 111) (v := ?_) (a' := ?_) #[true, true, true, true, true, true, true, true, true, true, true, true, true, false] rfl rfl (any_of HT_.out (by kernel_rfl)) (fun _ _ _ h => h) (Or.inl ⟨by rfl, ?_⟩) ?_ ?_
 rotate_left
 ·
  intro w'
  go_simp
  with_reducible rfl
 rotate_left
 ·
  simp only [Act.put, pq]
  rfl
 refine one_ (i := 13) (N := none) #[true, true, true, true, true, true, true, true, true, true, true, true, true, true] rfl rfl (one_of HT_.out (by kernel_rfl)) (by decide) (fun K hK => ?_)
 have c_1 := HS.out.hx.cell 0 rfl 1 rfl; have f_1 := HS.out.hx.free 0 rfl 1
 have hne : g0 ≠ g5 := by have := HS.out.hx.nd; simp at this; omega
 refine skip_ (w1 := ?_) (by rfl) rfl ?_ ?_
 rotate_left
 ·
  go_simp
  rfl
 refine hK.out _ _ ((cell_far (p := ⟨g5, _, none⟩) hne _).trans hHeld) (fun hHeld => ?_)
 clear hK K
 refine done_ (done_of HT_.out (by kernel_rfl)) ?_
 clear hHeld HT_ HW_ hcut1 hcut2 c_1 f_1 hne hw64_
 refine at_then (fun W7_ hW => ?_)
 obtain rfl : K1 = L1 := by rw [HYF.out, ← HK.out]; rfl
 have n0_ := Aside0.mk (HS.out.row1 HZ1.out)
 rw [← hW] at n0_
 clear HS HZ1 HYF hW HN3
 have HS := n0_
 clear n0_
 generalize W7_ = W7 at HS ⊢
 have l1_2 := HS.out.hx.cell 1 rfl 2 rfl
 have l3_3 := HS.out.hx.cell 3 rfl 3 rfl
 go_upto_region 32 with ((with_reducible refine gate_builtin (b := .append) (xs := #[.tmp 113, .tmp 116]) rfl ?_); at_builtin; refine Kd.R_append Kd.string (w0 := W7) 0 rfl (.tmp 113) (.tmp 116) 25 9 (.string ⟨#[]⟩) 16 rfl Try.underlying25 info9 rfl (by decide) (by omega) _ [] x.f3 [.string x.f3] _ (fun _ => False) rfl (by (go_simp; done)) rfl (fun _ hk => hk.elim) HS.out.hr.fresh2 HS.out.hr.r2 (Below.refl _ _) (Nat.zero_le _) (by decide) ?_; intro v1 w8 ho hb hg hat; obtain ⟨M, hM⟩ : ∃ M, M = ([] : List ByteArray) ++ [x.f3] := ⟨_, rfl⟩; rw [← hM] at ho; have HML := Aside0.mk hM; clear hM; obtain ⟨X2, i2, rfl⟩ := Kd.R_slice ho; have hx2 := HS.out.hx.app HS.out.hr.r2 (nel6 9 (by decide) (by decide) (by decide)) hg (fun k hk => .inr (HS.out.ob k (.inr (.inl hk.symm)))); have c_f := hx2.cell 1 rfl 2 rfl; have f_f := hx2.free 1 rfl 2; have n0_ := Aside0.mk (HS.out.gone ho (by rw [HML.out]; exact Nat.le_refl _) hg hat); clear HS hx2 hb hg hat ho l1_2 l3_3; have HS := n0_; clear n0_)
 clear c_f f_f
 generalize World.setCell _ _ _ = W6 at HS ⊢
 have HNN := Aside0.mk (show (0 : Nat) + 1 ≤ 1000000 by decide)
 have hg1_ := groups_f link l1 l2 (by have := HG.out.n1; omega) (fun y hy => (HG.out.el y hy).sz)
 obtain ⟨G1, hG1, hG1l⟩ := hg1_
 have hg2_ := groups_f link K1 l2 (by have := HG'.out.n1; omega) (fun y hy => (HG'.out.el y hy).sz)
 obtain ⟨G2, hG2, hG2l⟩ := hg2_
 have HGG := Aside0.mk (And.intro hG1 (And.intro hG2 (show G1.length ≤ 1000 ∧ G2.length ≤ 1000 by have := HG.out.n1; have := HG'.out.n1; omega)))
 clear hG1 hG2 hG1l hG2l
 refine start_ (n := 7) (S := fun w' => w'.cell? ⟨g5, 0, none⟩ = some (.string link) ∧ w'.cell? ⟨g5, 1, none⟩ = some (.slice Z1 K1.length k1) ∧ w'.cell? ⟨g5, 2, none⟩ = some (.slice Z2 l2.length k2) ∧ w'.cell? ⟨g0, 0, none⟩ = some (.string link) ∧ w'.cell? ⟨g0, 1, none⟩ = some (.slice (some ad) l1.length c1) ∧ w'.cell? ⟨g0, 2, none⟩ = some (.slice A2 l2.length c2) ∧ w'.cell? ⟨g4, 0, none⟩ = some (.int .i64 0) ∧ w'.cell? ⟨g4, 1, none⟩ = some (.slice B1 0 d1) ∧ w'.cell? ⟨g4, 2, none⟩ = some (.slice X2 M.length i2) ∧ w'.cell? ⟨g4, 3, none⟩ = some (.slice B3 0 d3) ∧ w'.cell? ⟨g4, 4, none⟩ = some (.slice B4 0 d4)) (ds := [5, 6]) #[false, false, false, false, false, false, false] (by kernel_rfl) rfl rfl ⟨HS.out.hx.cell 0 rfl 0 rfl, HS.out.hx.cell 0 rfl 1 rfl, HS.out.hx.cell 0 rfl 2 rfl, HS.out.hx.cell 2 rfl 0 rfl, HS.out.hx.cell 2 rfl 1 rfl, HS.out.hx.cell 2 rfl 2 rfl, HS.out.hx.cell 1 rfl 0 rfl, HS.out.hx.cell 1 rfl 1 rfl, HS.out.hx.cell 1 rfl 2 rfl, HS.out.hx.cell 1 rfl 3 rfl, HS.out.hx.cell 1 rfl 4 rfl⟩ (fun hHeld => ?_); refine with_tabW spec_l14Step.tab32 spec_l14Step.bits32 (fun HT_ HW_ => ?_)
 have n0_ := Aside0.mk (HS.out.below (below_drew1 (Below.refl _ _)))
 clear HS
 have HS := n0_
 clear n0_
 generalize World.drew _ = W7 at HS hHeld ⊢
 refine take_ (i := 0) (N := some 119) (v := ?_) (a' := ?_) #[true, false, false, false, false, false, false] rfl rfl (take_ofW HT_.out HW_.out (by kernel_rfl)) (fun _ _ _ h => h) (Or.inl ⟨by rfl, ?_⟩) hHeld ?_ ?_
 rotate_left
 ·
  rintro w' ⟨s0, s1, s2, s3, s4, s5, s6, s7, s8, s9, s10⟩
  go_simp
  with_reducible rfl
 rotate_left
 ·
  simp only [Act.put, pq]
  rfl
 refine take_ (i := 1) (N := some 120) (v := ?_) (a' := ?_) #[true, true, false, false, false, false, false] rfl rfl (take_ofW HT_.out HW_.out (by kernel_rfl)) (fun _ _ _ h => h) (Or.inl ⟨by rfl, ?_⟩) hHeld ?_ ?_
 rotate_left
 ·
  rintro w' ⟨s0, s1, s2, s3, s4, s5, s6, s7, s8, s9, s10⟩
  go_simp
  with_reducible rfl
 rotate_left
 ·
  simp only [Act.put, pq]
  rfl
 refine take_ (i := 2) (N := some 121) (v := ?_) (a' := ?_) #[true, true, true, false, false, false, false] rfl rfl (take_ofW HT_.out HW_.out (by kernel_rfl)) (fun _ _ _ h => h) (Or.inl ⟨by rfl, ?_⟩) hHeld ?_ ?_
 rotate_left
 ·
  rintro w' ⟨s0, s1, s2, s3, s4, s5, s6, s7, s8, s9, s10⟩
  go_simp
  with_reducible rfl
 rotate_left
 ·
  simp only [Act.put, pq]
  rfl
 refine take_ (i := 3) (N := some 122) (v := ?_) (a' := ?_) #[true, true, true, true, false, false, false] rfl rfl (take_ofW HT_.out HW_.out (by kernel_rfl)) (fun _ _ _ h => h) (Or.inl ⟨by rfl, ?_⟩) hHeld ?_ ?_
 rotate_left
 ·
  rintro w' ⟨s0, s1, s2, s3, s4, s5, s6, s7, s8, s9, s10⟩
  go_simp
  with_reducible rfl
 rotate_left
 ·
  simp only [Act.put, pq]
  rfl
 refine one_ (i := 4) (N := some 123) #[true, true, true, true, true, false, false] rfl rfl (one_of HT_.out (by kernel_rfl)) (by decide) (fun K hK => ?_)
 refine goes_ Try.func50 (by kernel_rfl) rfl #[.agg #[.string link, .slice (some ad) l1.length c1, .slice A2 l2.length c2], .agg #[.string link, .slice Z1 K1.length k1, .slice Z2 l2.length k2], .agg #[.int .i64 0, .slice B1 0 d1, .slice X2 M.length i2, .slice B3 0 d3, .slice B4 0 d4]] (by rfl) rfl rfl (by (try simp only [List.map_toArray, List.map_cons, List.map_nil]); rfl) ?_
 with_reducible refine (moves_calls link link (some ad) A2 Z1 Z2 B1 X2 B3 B4 c1 c2 k1 k2 d1 i2 d3 d4 0 M.length 0 0 l1 l2 K1 l2 [] M [] [] 0 _ G1 G2 HGG.out.1 HGG.out.2.1 HGG.out.2.2.1 HGG.out.2.2.2 _ HS.out.hn HNN.out HS.out.hr (Kd.R_reads' HS.out.ha1).2.2 (Kd.R_reads' HS.out.ha1).2.1 (Kd.R_reads' HS.out.ha2).2.2 (Kd.R_reads' HS.out.ha2).2.1 (Kd.R_reads' HS.out.hu1).2.2 (Kd.R_reads' HS.out.hu1).2.1 (Kd.R_reads' HS.out.hu2).2.2 (Kd.R_reads' HS.out.hu2).2.1).mono ?_
 rintro e W8 ⟨cd2, y1, y2, y3, y4, q1, q2, q3, q4, rfl, hr_, -, hk_, hb_, -⟩
 obtain ⟨X1, i1, rfl⟩ := Kd.R_slice hr_.r1
 obtain ⟨X2, i2, rfl⟩ := Kd.R_slice hr_.r2
 obtain ⟨X3, i3, rfl⟩ := Kd.R_slice hr_.r3
 obtain ⟨X4, i4, rfl⟩ := Kd.R_slice hr_.r4
 have s0_ := HS.out.mid hk_ hb_
 refine ⟨_, rfl, ?_⟩
 refine hK.out _ _ ⟨s0_.cell 0 rfl 0 rfl, s0_.cell 0 rfl 1 rfl, s0_.cell 0 rfl 2 rfl, s0_.cell 2 rfl 0 rfl, s0_.cell 2 rfl 1 rfl, s0_.cell 2 rfl 2 rfl, s0_.cell 1 rfl 0 rfl, s0_.cell 1 rfl 1 rfl, s0_.cell 1 rfl 2 rfl, s0_.cell 1 rfl 3 rfl, s0_.cell 1 rfl 4 rfl⟩ (fun hHeld => ?_)
 clear hK K
 refine norm_ (a' := ?_) ?_ ?_
 rotate_left
 ·
  show Act.put _ (some 123) _ = _
  simp only [Act.put, pq]
  rfl
 refine last_ (i := 5) (N := none) #[true, true, true, true, true, true, false] rfl rfl (one_of HT_.out (by kernel_rfl)) (by decide) (fun K hK => ?_)
 refine skip27 (s := link) (A1 := Z1) (n1 := K1.length) (c1 := k1) (A2 := Z2) (n2 := l2.length) (c2 := k2) (by rfl) rfl (by rfl) (by rfl) (s0_.at 4 rfl) (fun W9 b1_ k1_ o1_ => ?_)
 refine hK.out _ _ ?_
 clear hK K
 have ne_ : g2 ≠ g3 := by have := s0_.nd; simp at this; omega
 have b5_ := blk_kept (W := W8) (s0_.at 5 rfl) k1_ (fun e => ne_ e.symm)
 refine last_ (i := 6) (N := none) #[true, true, true, true, true, true, true] rfl rfl (one_of HT_.out (by kernel_rfl)) (by decide) (fun K hK => ?_)
 refine skip54 (c := cd2) (A1 := X1) (n1 := q1.length) (c1 := i1) (A2 := X2) (n2 := q2.length) (c2 := i2) (A3 := X3) (n3 := q3.length) (c3 := i3) (A4 := X4) (n4 := q4.length) (c4 := i4) (by rfl) rfl (by rfl) (by rfl) b5_ (fun WA b2_ k2_ o2_ => ?_)
 refine hK.out _ _ ?_
 clear hK K
 refine done_ (done_of HT_.out (by kernel_rfl)) ?_
 have HP := Aside0.mk (HS.out.fin (cd' := cd2) hr_ hk_ hb_ ((Kept.then_ (k1_.mono (fun k hk => .inl hk)) k2_ (fun k hk => .inl (.inr hk)))) (o1_.trans o2_))
 have bR_ := blk_kept b1_ k2_ ne_
 clear hr_ hk_ hb_ k1_ k2_ o1_ o2_ s0_ b5_ b1_ hHeld HT_ HW_ HS
 go_wp2
 all_goals exact bodyPost_ret (results_cc rfl _ _ _ _ 27 54 _ _ (0, 0) (0, 0) _ _ rfl bR_ Try.underlying27 rfl (by kernel_rfl) rfl b2_ Try.underlying54 rfl (by kernel_rfl)) rfl HP.out
end Go.Proofs.Ytnpbnmhbajiefaa.PFnSources
