/- spec.l14Moves, by hand. -/
import Derived.Test.YtnpbnmhbajiefaaHD
import Derived.Test.YtnpbnmhbajiefaaHL
namespace Go.Proofs.Ytnpbnmhbajiefaa.PFnSources
open Go.RowKit Go.Proofs.YtnpbnmhbajiefaaW.PrintWords Go.Proofs.YtnpbnmhbajiefaaW.PrintLast Go.Proofs.YtnpbnmhbajiefaaW.PrintMore
set_option linter.unusedVariables false
set_option linter.unusedSimpArgs false
/-- The post of a function that hands on what it tells. -/
def PostO (w : World) (v1 v2 v3 v4 : Value) (n : Nat) (e : Ending) (w' : World) : Prop :=
 ∃ c' x1 x2 x3 x4 m1 m2 m3 m4, e = .returned (.agg #[.int .i64 c', x1, x2, x3, x4]) ∧ Rows4 w' x1 x2 x3 x4 m1 m2 m3 m4 ∧ (m1.length ≤ n ∧ m2.length ≤ n ∧ m3.length ≤ n ∧ m4.length ≤ n) ∧ Kept w w' (Own4 v1 v2 v3 v4) ∧ Below 0 w w' ∧ ∀ k, k < w.heap.size → Own4 x1 x2 x3 x4 k → Own4 v1 v2 v3 v4 k
/-- What the loops of l14Moves keep. -/
structure MI (w W : World) (N : Nat → Prop) (g0 g1 g2 g3 : Nat) (b0 b1 b3 : Array Value) (cd : Int) (x1 x2 x3 x4 : Value) (v7 v8 : Value) (G1 G2 m1 m2 m3 m4 : List ByteArray) : Prop where
 hx : HS w W N [(g0, b0, 27), (g1, b1, 27), (g2, #[.int .i64 cd, x1, x2, x3, x4], 54), (g3, b3, 54)]
 hr : Rows4 W x1 x2 x3 x4 m1 m2 m3 m4
 h7 : SR W (fun k => ¬ Own4 x1 x2 x3 x4 k) v7 G1
 h8 : SR W (fun k => ¬ Own4 x1 x2 x3 x4 k) v8 G2
 ow : ∀ k, k < w.heap.size → Own4 x1 x2 x3 x4 k → N k
section
variable {w W W1 : World} {N : Nat → Prop} {g0 g1 g2 g3 : Nat} {b0 b1 b3 : Array Value} {cd : Int} {x1 x2 x3 x4 v7 v8 x' : Value} {G1 G2 m1 m2 m3 m4 m' : List ByteArray}
theorem MI.below (h : MI w W N g0 g1 g2 g3 b0 b1 b3 cd x1 x2 x3 x4 v7 v8 G1 G2 m1 m2 m3 m4) (hb : Below W.heap.size W W1) : MI w W1 N g0 g1 g2 g3 b0 b1 b3 cd x1 x2 x3 x4 v7 v8 G1 G2 m1 m2 m3 m4 :=
 ⟨h.hx.below hb, h.hr.below hb, Kd.R_below h.h7 hb, Kd.R_below h.h8 hb, h.ow⟩
theorem nel : ∀ p ∈ ([(g0, b0, 27), (g1, b1, 27), (g2, #[.int .i64 cd, x1, x2, x3, x4], 54), (g3, b3, 54)] : List (Nat × Array Value × Nat)), 9 ≠ p.2.2 := by
 simp only [List.mem_cons, List.not_mem_nil, or_false]
 rintro p (rfl | rfl | rfl | rfl) <;> simp
theorem MI.app3 (h : MI w W N g0 g1 g2 g3 b0 b1 b3 cd x1 x2 x3 x4 v7 v8 G1 G2 m1 m2 m3 m4) (ho : SR W1 (fun k => some k ≠ x1.ownBlock ∧ some k ≠ x2.ownBlock ∧ some k ≠ x4.ownBlock) x' m') (hg : W.grownBy W1 x3.ownBlock) (hat : x'.ownBlock = x3.ownBlock ∨ ∃ b, x'.ownBlock = some b ∧ W.heap.size ≤ b) :
  MI w (W1.setCell ⟨g2, 3, none⟩ x') N g0 g1 g2 g3 b0 b1 b3 cd x1 x2 x' x4 v7 v8 G1 G2 m1 m2 m' m4 := by
 have hx := h.hx.app h.hr.r3 nel hg (fun k hk => by
  rcases Nat.lt_or_ge k w.heap.size with hl | hl
  ·
   exact .inl (h.ow k hl (.inr (.inr (.inl hk.symm))))
  ·
   exact .inr hl)
 have hat2 := hx.at 2 rfl
 have d2 : ∀ {v m}, SR W1 (fun k => ¬ Own4 x1 x2 x' x4 k) v m → SR (W1.setCell ⟨g2, 3, none⟩ x') (fun k => ¬ Own4 x1 x2 x' x4 k) v m := fun hv => Kd.R_set hv hat2 (fun q hq => by rw [e9 q hq]; decide) 3 x'
 exact ⟨hx.set (P := [_, _]) 3 x' rfl, (h.hr.app3 ho hg hat).set hat2 (by decide) 3 x', d2 (R_app (x := x3) (N' := Own4 x1 x2 x' x4) h.h7 hg (fun k hk => .inr (.inr (.inl hk.symm))) (fun k hk => own4_3 hat k hk)), d2 (R_app (x := x3) (N' := Own4 x1 x2 x' x4) h.h8 hg (fun k hk => .inr (.inr (.inl hk.symm))) (fun k hk => own4_3 hat k hk)),
  fun k hl hk => (own4_3 hat k hk).elim (fun q => h.ow k hl q) (fun q => absurd hl (by have := h.hx.kept.1; omega))⟩
theorem MI.app4 (h : MI w W N g0 g1 g2 g3 b0 b1 b3 cd x1 x2 x3 x4 v7 v8 G1 G2 m1 m2 m3 m4) (ho : SR W1 (fun k => some k ≠ x1.ownBlock ∧ some k ≠ x2.ownBlock ∧ some k ≠ x3.ownBlock) x' m') (hg : W.grownBy W1 x4.ownBlock) (hat : x'.ownBlock = x4.ownBlock ∨ ∃ b, x'.ownBlock = some b ∧ W.heap.size ≤ b) :
  MI w (W1.setCell ⟨g2, 4, none⟩ x') N g0 g1 g2 g3 b0 b1 b3 cd x1 x2 x3 x' v7 v8 G1 G2 m1 m2 m3 m' := by
 have hx := h.hx.app h.hr.r4 nel hg (fun k hk => by
  rcases Nat.lt_or_ge k w.heap.size with hl | hl
  ·
   exact .inl (h.ow k hl (.inr (.inr (.inr hk.symm))))
  ·
   exact .inr hl)
 have hat2 := hx.at 2 rfl
 have d2 : ∀ {v m}, SR W1 (fun k => ¬ Own4 x1 x2 x3 x' k) v m → SR (W1.setCell ⟨g2, 4, none⟩ x') (fun k => ¬ Own4 x1 x2 x3 x' k) v m := fun hv => Kd.R_set hv hat2 (fun q hq => by rw [e9 q hq]; decide) 4 x'
 exact ⟨hx.set (P := [_, _]) 4 x' rfl, (h.hr.app4 ho hg hat).set hat2 (by decide) 4 x', d2 (R_app (x := x4) (N' := Own4 x1 x2 x3 x') h.h7 hg (fun k hk => .inr (.inr (.inr hk.symm))) (fun k hk => own4_4 hat k hk)), d2 (R_app (x := x4) (N' := Own4 x1 x2 x3 x') h.h8 hg (fun k hk => .inr (.inr (.inr hk.symm))) (fun k hk => own4_4 hat k hk)),
  fun k hl hk => (own4_4 hat k hk).elim (fun q => h.ow k hl q) (fun q => absurd hl (by have := h.hx.kept.1; omega))⟩
end
def spec_l14Moves.T7 : Bool × List (List Nat × List Nat) := (true, [([], []), ([0], [0]), ([], []), ([], []), ([2, 3], [2, 3]), ([4], [4]), ([5], [5]), ([1, 6], [1, 6]), ([0, 1, 2, 3, 4, 5, 6, 7], []), ([8, 7, 7, 0, 1, 2, 3, 4, 5, 6, 7], [7, 8])])
def spec_l14Moves.B7 : List Nat := [0, 1, 0, 0, 12, 28, 60, 127, 255, 511]
theorem spec_l14Moves.tab7 : rtab .any (opsOf Try.f50 7) = spec_l14Moves.T7 := by kernel_rfl
theorem spec_l14Moves.bits7 : waitsOk spec_l14Moves.T7.2 spec_l14Moves.B7 = true := by kernel_rfl
def spec_l14Moves.T12 : Bool × List (List Nat × List Nat) := (true, [([], []), ([0], [0]), ([], []), ([], []), ([2, 3], [2, 3]), ([4], [4]), ([5], [5]), ([1, 6], [1, 6]), ([0, 1, 2, 3, 4, 5, 6, 7], []), ([8, 7, 7, 0, 1, 2, 3, 4, 5, 6, 7], [7, 8])])
def spec_l14Moves.B12 : List Nat := [0, 1, 0, 0, 12, 28, 60, 127, 255, 511]
theorem spec_l14Moves.tab12 : rtab .any (opsOf Try.f50 12) = spec_l14Moves.T12 := by kernel_rfl
theorem spec_l14Moves.bits12 : waitsOk spec_l14Moves.T12.2 spec_l14Moves.B12 = true := by kernel_rfl
set_option maxHeartbeats 8000000 in
set_option maxRecDepth 100000 in
theorem moves_calls (link link2 : ByteArray) (A1 A2 A3 A4 B1 B2 B3 B4 : Option Addr) (c1 c2 c3 c4 d1 d2 d3 d4 : Nat) (n1 n2 n3 n4 : Nat) (l1 : List S39) (l2 : List ByteArray) (l3 : List S39) (l4 m1 m2 m3 m4 : List ByteArray) (cd : Int) (w : World) (G1 G2 : List ByteArray) (h1 : spec_l14Groups.f 6000 link l1 l2 = some G1) (h2 : spec_l14Groups.f 6000 link2 l3 l4 = some G2) (hl1 : G1.length ≤ 1000) (hl2 : G2.length ≤ 1000)
  (n : Nat) (hn : m1.length ≤ n ∧ m2.length ≤ n ∧ m3.length ≤ n ∧ m4.length ≤ n) (hn2 : n ≤ 1000000) (hr : Rows4 w (.slice B1 n1 d1) (.slice B2 n2 d2) (.slice B3 n3 d3) (.slice B4 n4 d4) m1 m2 m3 m4) (ha1 : Kd.C k39 w A1 l1.length l1) (hc1 : l1.length ≤ c1) (ha2 : Kd.C Kd.string w A2 l2.length l2) (hc2 : l2.length ≤ c2) (ha3 : Kd.C k39 w A3 l3.length l3) (hc3 : l3.length ≤ c3) (ha4 : Kd.C Kd.string w A4 l4.length l4) (hc4 : l4.length ≤ c4) :
  Calls Try.prog 50 #[.agg #[.string link, .slice A1 l1.length c1, .slice A2 l2.length c2], .agg #[.string link2, .slice A3 l3.length c3, .slice A4 l4.length c4], .agg #[.int .i64 cd, .slice B1 n1 d1, .slice B2 n2 d2, .slice B3 n3 d3, .slice B4 n4 d4]] w (PostO w (.slice B1 n1 d1) (.slice B2 n2 d2) (.slice B3 n3 d3) (.slice B4 n4 d4) (n + 1000)) := by
 have hu27 := Try.underlying27
 have hu54 := Try.underlying54
 have H1 := Aside0.mk h1
 have H2 := Aside0.mk h2
 have HL := Aside0.mk (And.intro hl1 (And.intro hl2 hn2))
 have HB := Aside0.mk hn
 have HR := Aside0.mk hr
 have HC1 := Aside0.mk ha1
 have HC2 := Aside0.mk ha2
 have HC3 := Aside0.mk ha3
 have HC4 := Aside0.mk ha4
 have HC := Aside0.mk (And.intro hc1 (And.intro hc2 (And.intro hc3 hc4)))
 clear h1 h2 hl1 hl2 hn hn2 hr ha1 ha2 ha3 ha4 hc1 hc2 hc3 hc4
 obtain ⟨N, hN⟩ : ∃ N, N = Own4 (.slice B1 n1 d1) (.slice B2 n2 d2) (.slice B3 n3 d3) (.slice B4 n4 d4) := ⟨_, rfl⟩
 have HN := Aside0.mk hN
 clear hN
 go_enter Try.func50, Try.ntmps50
 go_upto_region 1 with (fail)
 refine at_world (fun W hW => ?_)
 obtain ⟨q0, q1, q2, q3, qb, qz⟩ := boxes4 hW
 clear hW
 obtain ⟨g0, e0⟩ : ∃ g, g = w.heap.size := ⟨_, rfl⟩
 obtain ⟨g1, e1⟩ : ∃ g, g = w.heap.size + 1 := ⟨_, rfl⟩
 obtain ⟨g2, e2⟩ : ∃ g, g = w.heap.size + 1 + 1 := ⟨_, rfl⟩
 obtain ⟨g3, e3⟩ : ∃ g, g = w.heap.size + 1 + 1 + 1 := ⟨_, rfl⟩
 simp only [← e3]; simp only [← e2]; simp only [← e1]; simp only [← e0]
 rw [← e3] at q3; rw [← e2] at q2; rw [← e1] at q1; rw [← e0] at q0
 have HX := Aside0.mk (HS.start4 (N := N) qb q0 q1 q2 q3 (by omega))
 replace HR := Aside0.mk (HR.out.below qb)
 replace HC1 := Aside0.mk (Kd.C_below HC1.out qb); replace HC2 := Aside0.mk (Kd.C_below HC2.out qb); replace HC3 := Aside0.mk (Kd.C_below HC3.out qb); replace HC4 := Aside0.mk (Kd.C_below HC4.out qb)
 clear q0 q1 q2 q3 qb qz e0 e1 e2 e3
 have x0_0 := HX.out.cell 0 rfl 0 rfl
 have x0_1 := HX.out.cell 0 rfl 1 rfl
 have x0_2 := HX.out.cell 0 rfl 2 rfl
 go_upto_region 2 with (go_at_call 61; (with_reducible refine (spec_l14Groups.calls 6000 link _ _ l1 _ _ l2 G1 _ HC1.out HC.out.1 HC2.out HC.out.2.1 H1.out).mono ?_); rintro e w1 ⟨v7, rfl, h7, hb⟩; obtain ⟨A7, c7, rfl⟩ := Kd.R_slice h7; have hh := HR.out.lt; have n0_ := Aside0.mk (HX.out.below hb); have n1_ := Aside0.mk (HR.out.below hb); have n2_ := Aside0.mk (Kd.C_below HC3.out hb); have n3_ := Aside0.mk (Kd.C_below HC4.out hb); have H7 := Aside0.mk (R_newN h7 hh); clear HX HR HC3 HC4 hb h7 hh x0_0 x0_1 x0_2 HC1 HC2; have HX := n0_; have HR := n1_; have HC3 := n2_; have HC4 := n3_; clear n0_ n1_ n2_ n3_)
 have x1_0 := HX.out.cell 1 rfl 0 rfl
 have x1_1 := HX.out.cell 1 rfl 1 rfl
 have x1_2 := HX.out.cell 1 rfl 2 rfl
 go_upto_region 3 with (go_at_call 61; (with_reducible refine (spec_l14Groups.calls 6000 link2 _ _ l3 _ _ l4 G2 _ HC3.out HC.out.2.2.1 HC4.out HC.out.2.2.2 H2.out).mono ?_); rintro e w2 ⟨v8, rfl, h8, hb⟩; obtain ⟨A8, c8, rfl⟩ := Kd.R_slice h8; have hh := HR.out.lt; have n0_ := Aside0.mk (HX.out.below hb); have n1_ := Aside0.mk (HR.out.below hb); have n2_ := Aside0.mk (Kd.R_below H7.out hb); have H8 := Aside0.mk (R_newN h8 hh); clear HX HR H7 hb h8 hh x1_0 x1_1 x1_2 HC3 HC4; have HX := n0_; have HR := n1_; have H7 := n2_; clear n0_ n1_ n2_)
 have e1 := (Kd.R_reads' HR.out.r1).1; have e2 := (Kd.R_reads' HR.out.r2).1; have e3 := (Kd.R_reads' HR.out.r3).1; have e4 := (Kd.R_reads' HR.out.r4).1
 subst e1 e2 e3 e4
 have HM := Aside0.mk (MI.mk HX.out HR.out H7.out H8.out (fun k _ hk => by rw [HN.out]; exact hk))
 clear HX HR H7 H8 HC H1 H2
 go_wp2
 go_loopg [9] G2.length (fun gg v9 w' => ∃ (i : Nat) (X : Option Addr) (c : Nat) (m : List ByteArray), v9 = .int .i64 (i : Int) ∧ Aside0 (i ≤ G2.length ∧ G2.length - i ≤ gg ∧ m.length ≤ n + i) ∧ Aside0 (MI w w' N g0 g1 g2 g3 #[.string link, .slice A1 l1.length c1, .slice A2 l2.length c2] #[.string link2, .slice A3 l3.length c3, .slice A4 l4.length c4] #[.int .i64 0, .slice none 0 0, .slice none 0 0, .slice none 0 0, .slice none 0 0] cd (.slice B1 m1.length d1) (.slice B2 m2.length d2) (.slice X m.length c) (.slice B4 m4.length d4) (.slice A7 G1.length c7) (.slice A8 G2.length c8) G1 G2 m1 m2 m m4))
 case atStart => exact ⟨0, B3, d3, m3, rfl, ⟨Nat.zero_le _, by omega, by have := HB.out; omega⟩, HM⟩
 case round =>
  clear HM
  obtain ⟨i, X, c, m, rfl, HI, HM⟩ := hrel
  by_cases hlt : i < G2.length
  ·
   have t0 : ((i : Int) < (G2.length : Int)) := by omega
   have t1 : decide ((i : Int) < (G2.length : Int)) = true := decide_eq_true t0
   have t2 : (0 : Int) ≤ (i : Int) := by omega
   have t3 : (i : Int) ≤ 1000 := by have := HL.out.2.1; omega
   obtain ⟨ad, ea, hx⟩ := Kd.at_string (Kd.R_reads' HM.out.h8).2.2 (i : Int) t2 t0
   subst ea
   obtain ⟨s, hs⟩ : ∃ s, s = rdOf ByteArray.empty G2 (i : Int) := ⟨_, rfl⟩
   rw [← hs] at hx
   simp only [Int.toNat_natCast] at hx
   clear hs
   obtain ⟨tb, htb⟩ : ∃ tb, tb = txF s G1 := ⟨_, rfl⟩
   have HT := Aside0.mk (show spec_l14Text.f 2000 G1 s = some tb by rw [htb]; exact text_f G1 s 2000 (by have := HL.out.1; omega) (by have := HL.out.1; omega))
   clear htb hlt
   cases tb with
   | true => 
    go_wp2_with (go_at_call 35; (with_reducible refine (spec_l14Text.calls 2000 _ _ G1 s true _ (Kd.R_reads' HM.out.h7).2.2 (Kd.R_reads' HM.out.h7).2.1 HT.out).mono ?_); rintro e w2 ⟨rfl, ⟨nd, rfl⟩⟩; have n0_ := Aside0.mk (HM.out.below (pw_below_drewN (Below.refl _ _) nd)); clear HM hx; have HM := n0_; clear n0_)
    go_roundg (G2.length - (i + 1))
    case measure => have := HI.out; omega
    case rel => exact ⟨i + 1, X, c, m, by go_num, ⟨by omega, by omega, by have := HI.out; omega⟩, HM⟩
   | false => 
    go_upto_region 7 with (go_at_call 35; (with_reducible refine (spec_l14Text.calls 2000 _ _ G1 s false _ (Kd.R_reads' HM.out.h7).2.2 (Kd.R_reads' HM.out.h7).2.1 HT.out).mono ?_); rintro e w2 ⟨rfl, ⟨nd, rfl⟩⟩; have n0_ := Aside0.mk (HM.out.below (pw_below_drewN (Below.refl _ _) nd)); have n1_ : (World.drewN _ nd).cell? (ad.add i) = some (.string s) := hx; clear HM hx; have HM := n0_; have hx := n1_; clear n0_ n1_)
    have c_f := HM.out.hx.cell 2 rfl 3 rfl
    refine start_ (n := 10) (S := fun w' => w'.cell? ⟨g2, 3, none⟩ = some (.slice X m.length c) ∧ w'.cell? (ad.add i) = some (.string s)) (ds := [7, 9]) #[false, false, false, false, false, false, false, false, false, false] (by kernel_rfl) rfl rfl ⟨c_f, hx⟩ (fun hHeld => ?_); refine with_tabW spec_l14Moves.tab7 spec_l14Moves.bits7 (fun HT_ HW_ => ?_)
    clear c_f hx
    have n0_ := Aside0.mk (HM.out.below (below_drew1 (Below.refl _ _)))
    clear HM
    have HM := n0_
    clear n0_
    generalize World.drew _ = w3 at HM hHeld ⊢
    refine pure_ (i := 0) (N := some 28) (v := ?_) (a' := ?_) #[true, false, false, false, false, false, false, false, false, false] rfl rfl (any_of HT_.out (by kernel_rfl)) (fun _ _ _ h => h) (Or.inl ⟨by rfl, ?_⟩) ?_ ?_
    rotate_left
    ·
     intro w'
     go_simp
     with_reducible rfl
    rotate_left
    ·
     simp only [Act.put, pq]
     rfl
    refine pure_ (i := 2) (N := some 30) (v := ?_) (a' := ?_) #[true, false, true, false, false, false, false, false, false, false] rfl rfl (any_of HT_.out (by kernel_rfl)) (fun _ _ _ h => h) (Or.inl ⟨by rfl, ?_⟩) ?_ ?_
    rotate_left
    ·
     intro w'
     go_simp
     with_reducible rfl
    rotate_left
    ·
     simp only [Act.put, pq]
     rfl
    refine pure_ (i := 3) (N := some 31) (v := ?_) (a' := ?_) #[true, false, true, true, false, false, false, false, false, false] rfl rfl (any_of HT_.out (by kernel_rfl)) (fun _ _ _ h => h) (Or.inl ⟨by rfl, ?_⟩) ?_ ?_
    rotate_left
    ·
     intro w'
     go_simp
     with_reducible rfl
    rotate_left
    ·
     simp only [Act.put, pq]
     rfl
    refine pure_ (i := 4) (N := some 32) (v := ?_) (a' := ?_) #[true, false, true, true, true, false, false, false, false, false] rfl rfl (any_of HT_.out (by kernel_rfl)) (fun _ _ _ h => h) (Or.inl ⟨by rfl, ?_⟩) ?_ ?_
    rotate_left
    ·
     intro w'
     go_simp
     with_reducible rfl
    rotate_left
    ·
     simp only [Act.put, pq]
     rfl
    refine take_ (i := 1) (N := some 29) (v := ?_) (a' := ?_) #[true, true, true, true, true, false, false, false, false, false] rfl rfl (take_ofW HT_.out HW_.out (by kernel_rfl)) (fun _ _ _ h => h) (Or.inl ⟨by rfl, ?_⟩) hHeld ?_ ?_
    rotate_left
    ·
     rintro w' ⟨s0, s1⟩
     go_simp
     with_reducible rfl
    rotate_left
    ·
     simp only [Act.put, pq]
     rfl
    refine take_ (i := 5) (N := some 33) (v := ?_) (a' := ?_) #[true, true, true, true, true, true, false, false, false, false] rfl rfl (take_ofW HT_.out HW_.out (by kernel_rfl)) (fun _ _ _ h => h) (Or.inl ⟨by rfl, ?_⟩) hHeld ?_ ?_
    rotate_left
    ·
     rintro w' ⟨s0, s1⟩
     go_simp
     with_reducible rfl
    rotate_left
    ·
     simp only [Act.put, pq]
     rfl
    refine one_ (i := 6) (N := some 34) #[true, true, true, true, true, true, true, false, false, false] rfl rfl (one_of HT_.out (by kernel_rfl)) (by decide) (fun K hK => ?_)
    refine value_ (w1 := ?_) (v := ?_) (by rfl) rfl ?_ ?_
    rotate_left 2
    ·
     go_simp
     constructor
     ·
      rfl
     ·
      rfl
    refine hK.out _ _ ⟨(World.cell?_alloc_lt _ _ _ (World.block_lt_of_cell? _ _ hHeld.1)).trans hHeld.1, (World.cell?_alloc_lt _ _ _ (World.block_lt_of_cell? _ _ hHeld.2)).trans hHeld.2⟩ (fun hHeld => ?_)
    clear hK K
    refine norm_ (a' := ?_) ?_ ?_
    rotate_left
    ·
     show Act.put _ (some 34) _ = _
     simp only [Act.put, pq]
     rfl
    refine last_ (i := 7) (N := some 35) #[true, true, true, true, true, true, true, true, false, false] rfl rfl (one_of HT_.out (by kernel_rfl)) (by decide) (fun K hK => ?_)
    refine Kd.R_append_step Kd.string (w0 := w3) 0 (by rfl) (.tmp 29) (.tmp 34) 25 9 (.string ⟨#[]⟩) 16 rfl Try.underlying25 info9 rfl (by decide) (by omega) _ m s [.string s] _ (fun _ => False) rfl (by (go_simp; done)) rfl (fun _ hk => hk.elim) HM.out.hr.fresh3 HM.out.hr.r3 (Below.refl _ _) (Nat.zero_le _) (by have := HI.out; have := HL.out; omega) ?_
    intro v1 w4 ho hb hg hat
    obtain ⟨M, hM⟩ : ∃ M, M = m ++ [s] := ⟨_, rfl⟩
    rw [← hM] at ho
    have HML := Aside0.mk hM
    clear hM
    obtain ⟨X2, c2_, rfl⟩ := Kd.R_slice ho
    have hx2 := HM.out.hx.app HM.out.hr.r3 nel hg (fun k hk => by
     rcases Nat.lt_or_ge k w.heap.size with hl | hl
     ·
      exact .inl (HM.out.ow k hl (.inr (.inr (.inl hk.symm))))
     ·
      exact .inr hl)
    have c_f := hx2.cell 2 rfl 3 rfl
    have f_f := hx2.free 2 rfl 3
    have n0_ := Aside0.mk (HM.out.app3 ho hg hat)
    clear HM hx2 hb hg hat ho hHeld
    have HM := n0_
    clear n0_
    refine hK.out _ _ ?_
    clear hK K
    refine norm_ (a' := ?_) ?_ ?_
    rotate_left
    ·
     show Act.put _ (some 35) _ = _
     simp only [Act.put, pq]
     rfl
    refine pure_ (i := 8) (N := some 36) (v := ?_) (a' := ?_) #[true, true, true, true, true, true, true, true, true, false] rfl rfl (any_of HT_.out (by kernel_rfl)) (fun _ _ _ h => h) (Or.inl ⟨by rfl, ?_⟩) ?_ ?_
    rotate_left
    ·
     intro w'
     go_simp
     with_reducible rfl
    rotate_left
    ·
     simp only [Act.put, pq]
     rfl
    refine last_ (i := 9) (N := none) #[true, true, true, true, true, true, true, true, true, true] rfl rfl (one_of HT_.out (by kernel_rfl)) (by decide) (fun K hK => ?_)
    refine skip_ (w1 := ?_) (by rfl) rfl ?_ ?_
    rotate_left
    ·
     go_simp
     rfl
    refine hK.out _ _ ?_
    clear hK K
    refine done_ (done_of HT_.out (by kernel_rfl)) ?_
    clear HT_ HW_ c_f f_f
    go_wp2
    go_roundg (G2.length - (i + 1))
    case measure => have := HI.out; omega
    case rel => exact ⟨i + 1, X2, c2_, M, by go_num, ⟨by omega, by omega, by have := HI.out; rw [HML.out, List.length_append]; simp only [List.length_cons, List.length_nil]; omega⟩, HM⟩
  ·
   have t1 : decide (i < G2.length) = false := decide_eq_false hlt
   clear hlt
   have HJ := Aside0.mk (show m.length ≤ n + 1000 by have := HI.out; have := HL.out.2.1; omega)
   clear HI
   go_wp2
   clear t1
   go_loopg [10] G1.length (fun gg v10 w' => ∃ (i : Nat) (Y : Option Addr) (c' : Nat) (m' : List ByteArray), v10 = .int .i64 (i : Int) ∧ Aside0 (i ≤ G1.length ∧ G1.length - i ≤ gg ∧ m'.length ≤ n + i) ∧ Aside0 (MI w w' N g0 g1 g2 g3 #[.string link, .slice A1 l1.length c1, .slice A2 l2.length c2] #[.string link2, .slice A3 l3.length c3, .slice A4 l4.length c4] #[.int .i64 0, .slice none 0 0, .slice none 0 0, .slice none 0 0, .slice none 0 0] cd (.slice B1 m1.length d1) (.slice B2 m2.length d2) (.slice X m.length c) (.slice Y m'.length c') (.slice A7 G1.length c7) (.slice A8 G2.length c8) G1 G2 m1 m2 m m'))
   case atStart => exact ⟨0, B4, d4, m4, rfl, ⟨Nat.zero_le _, by omega, by have := HB.out; omega⟩, HM⟩
   case round =>
    clear HM
    obtain ⟨i, Y, c', m', rfl, HI, HM⟩ := hrel
    by_cases hlt : i < G1.length
    ·
     have t0 : ((i : Int) < (G1.length : Int)) := by omega
     have t1 : decide ((i : Int) < (G1.length : Int)) = true := decide_eq_true t0
     have t2 : (0 : Int) ≤ (i : Int) := by omega
     have t3 : (i : Int) ≤ 1000 := by have := HL.out.1; omega
     obtain ⟨ad, ea, hx⟩ := Kd.at_string (Kd.R_reads' HM.out.h7).2.2 (i : Int) t2 t0
     subst ea
     obtain ⟨s, hs⟩ : ∃ s, s = rdOf ByteArray.empty G1 (i : Int) := ⟨_, rfl⟩
     rw [← hs] at hx
     simp only [Int.toNat_natCast] at hx
     clear hs
     obtain ⟨tb, htb⟩ : ∃ tb, tb = txF s G2 := ⟨_, rfl⟩
     have HT := Aside0.mk (show spec_l14Text.f 2000 G2 s = some tb by rw [htb]; exact text_f G2 s 2000 (by have := HL.out.2.1; omega) (by have := HL.out.2.1; omega))
     clear htb hlt
     cases tb with
     | true => 
      go_wp2_with (go_at_call 35; (with_reducible refine (spec_l14Text.calls 2000 _ _ G2 s true _ (Kd.R_reads' HM.out.h8).2.2 (Kd.R_reads' HM.out.h8).2.1 HT.out).mono ?_); rintro e w2 ⟨rfl, ⟨nd, rfl⟩⟩; have n0_ := Aside0.mk (HM.out.below (pw_below_drewN (Below.refl _ _) nd)); clear HM hx; have HM := n0_; clear n0_)
      go_roundg (G1.length - (i + 1))
      case measure => have := HI.out; omega
      case rel => exact ⟨i + 1, Y, c', m', by go_num, ⟨by omega, by omega, by have := HI.out; omega⟩, HM⟩
     | false => 
      go_upto_region 12 with (go_at_call 35; (with_reducible refine (spec_l14Text.calls 2000 _ _ G2 s false _ (Kd.R_reads' HM.out.h8).2.2 (Kd.R_reads' HM.out.h8).2.1 HT.out).mono ?_); rintro e w2 ⟨rfl, ⟨nd, rfl⟩⟩; have n0_ := Aside0.mk (HM.out.below (pw_below_drewN (Below.refl _ _) nd)); have n1_ : (World.drewN _ nd).cell? (ad.add i) = some (.string s) := hx; clear HM hx; have HM := n0_; have hx := n1_; clear n0_ n1_)
      have c_f := HM.out.hx.cell 2 rfl 4 rfl
      refine start_ (n := 10) (S := fun w' => w'.cell? ⟨g2, 4, none⟩ = some (.slice Y m'.length c') ∧ w'.cell? (ad.add i) = some (.string s)) (ds := [7, 9]) #[false, false, false, false, false, false, false, false, false, false] (by kernel_rfl) rfl rfl ⟨c_f, hx⟩ (fun hHeld => ?_); refine with_tabW spec_l14Moves.tab12 spec_l14Moves.bits12 (fun HT_ HW_ => ?_)
      clear c_f hx
      have n0_ := Aside0.mk (HM.out.below (below_drew1 (Below.refl _ _)))
      clear HM
      have HM := n0_
      clear n0_
      generalize World.drew _ = w3 at HM hHeld ⊢
      refine pure_ (i := 0) (N := some 50) (v := ?_) (a' := ?_) #[true, false, false, false, false, false, false, false, false, false] rfl rfl (any_of HT_.out (by kernel_rfl)) (fun _ _ _ h => h) (Or.inl ⟨by rfl, ?_⟩) ?_ ?_
      rotate_left
      ·
       intro w'
       go_simp
       with_reducible rfl
      rotate_left
      ·
       simp only [Act.put, pq]
       rfl
      refine pure_ (i := 2) (N := some 52) (v := ?_) (a' := ?_) #[true, false, true, false, false, false, false, false, false, false] rfl rfl (any_of HT_.out (by kernel_rfl)) (fun _ _ _ h => h) (Or.inl ⟨by rfl, ?_⟩) ?_ ?_
      rotate_left
      ·
       intro w'
       go_simp
       with_reducible rfl
      rotate_left
      ·
       simp only [Act.put, pq]
       rfl
      refine pure_ (i := 3) (N := some 53) (v := ?_) (a' := ?_) #[true, false, true, true, false, false, false, false, false, false] rfl rfl (any_of HT_.out (by kernel_rfl)) (fun _ _ _ h => h) (Or.inl ⟨by rfl, ?_⟩) ?_ ?_
      rotate_left
      ·
       intro w'
       go_simp
       with_reducible rfl
      rotate_left
      ·
       simp only [Act.put, pq]
       rfl
      refine pure_ (i := 4) (N := some 54) (v := ?_) (a' := ?_) #[true, false, true, true, true, false, false, false, false, false] rfl rfl (any_of HT_.out (by kernel_rfl)) (fun _ _ _ h => h) (Or.inl ⟨by rfl, ?_⟩) ?_ ?_
      rotate_left
      ·
       intro w'
       go_simp
       with_reducible rfl
      rotate_left
      ·
       simp only [Act.put, pq]
       rfl
      refine take_ (i := 1) (N := some 51) (v := ?_) (a' := ?_) #[true, true, true, true, true, false, false, false, false, false] rfl rfl (take_ofW HT_.out HW_.out (by kernel_rfl)) (fun _ _ _ h => h) (Or.inl ⟨by rfl, ?_⟩) hHeld ?_ ?_
      rotate_left
      ·
       rintro w' ⟨s0, s1⟩
       go_simp
       with_reducible rfl
      rotate_left
      ·
       simp only [Act.put, pq]
       rfl
      refine take_ (i := 5) (N := some 55) (v := ?_) (a' := ?_) #[true, true, true, true, true, true, false, false, false, false] rfl rfl (take_ofW HT_.out HW_.out (by kernel_rfl)) (fun _ _ _ h => h) (Or.inl ⟨by rfl, ?_⟩) hHeld ?_ ?_
      rotate_left
      ·
       rintro w' ⟨s0, s1⟩
       go_simp
       with_reducible rfl
      rotate_left
      ·
       simp only [Act.put, pq]
       rfl
      refine one_ (i := 6) (N := some 56) #[true, true, true, true, true, true, true, false, false, false] rfl rfl (one_of HT_.out (by kernel_rfl)) (by decide) (fun K hK => ?_)
      refine value_ (w1 := ?_) (v := ?_) (by rfl) rfl ?_ ?_
      rotate_left 2
      ·
       go_simp
       constructor
       ·
        rfl
       ·
        rfl
      refine hK.out _ _ ⟨(World.cell?_alloc_lt _ _ _ (World.block_lt_of_cell? _ _ hHeld.1)).trans hHeld.1, (World.cell?_alloc_lt _ _ _ (World.block_lt_of_cell? _ _ hHeld.2)).trans hHeld.2⟩ (fun hHeld => ?_)
      clear hK K
      refine norm_ (a' := ?_) ?_ ?_
      rotate_left
      ·
       show Act.put _ (some 56) _ = _
       simp only [Act.put, pq]
       rfl
      refine last_ (i := 7) (N := some 57) #[true, true, true, true, true, true, true, true, false, false] rfl rfl (one_of HT_.out (by kernel_rfl)) (by decide) (fun K hK => ?_)
      refine Kd.R_append_step Kd.string (w0 := w3) 0 (by rfl) (.tmp 51) (.tmp 56) 25 9 (.string ⟨#[]⟩) 16 rfl Try.underlying25 info9 rfl (by decide) (by omega) _ m' s [.string s] _ (fun _ => False) rfl (by (go_simp; done)) rfl (fun _ hk => hk.elim) HM.out.hr.fresh4 HM.out.hr.r4 (Below.refl _ _) (Nat.zero_le _) (by have := HI.out; have := HL.out; omega) ?_
      intro v1 w4 ho hb hg hat
      obtain ⟨M, hM⟩ : ∃ M, M = m' ++ [s] := ⟨_, rfl⟩
      rw [← hM] at ho
      have HML := Aside0.mk hM
      clear hM
      obtain ⟨X2, c2_, rfl⟩ := Kd.R_slice ho
      have hx2 := HM.out.hx.app HM.out.hr.r4 nel hg (fun k hk => by
       rcases Nat.lt_or_ge k w.heap.size with hl | hl
       ·
        exact .inl (HM.out.ow k hl (.inr (.inr (.inr hk.symm))))
       ·
        exact .inr hl)
      have c_f := hx2.cell 2 rfl 4 rfl
      have f_f := hx2.free 2 rfl 4
      have n0_ := Aside0.mk (HM.out.app4 ho hg hat)
      clear HM hx2 hb hg hat ho hHeld
      have HM := n0_
      clear n0_
      refine hK.out _ _ ?_
      clear hK K
      refine norm_ (a' := ?_) ?_ ?_
      rotate_left
      ·
       show Act.put _ (some 57) _ = _
       simp only [Act.put, pq]
       rfl
      refine pure_ (i := 8) (N := some 58) (v := ?_) (a' := ?_) #[true, true, true, true, true, true, true, true, true, false] rfl rfl (any_of HT_.out (by kernel_rfl)) (fun _ _ _ h => h) (Or.inl ⟨by rfl, ?_⟩) ?_ ?_
      rotate_left
      ·
       intro w'
       go_simp
       with_reducible rfl
      rotate_left
      ·
       simp only [Act.put, pq]
       rfl
      refine last_ (i := 9) (N := none) #[true, true, true, true, true, true, true, true, true, true] rfl rfl (one_of HT_.out (by kernel_rfl)) (by decide) (fun K hK => ?_)
      refine skip_ (w1 := ?_) (by rfl) rfl ?_ ?_
      rotate_left
      ·
       go_simp
       rfl
      refine hK.out _ _ ?_
      clear hK K
      refine done_ (done_of HT_.out (by kernel_rfl)) ?_
      clear HT_ HW_ c_f f_f
      go_wp2
      go_roundg (G1.length - (i + 1))
      case measure => have := HI.out; omega
      case rel => exact ⟨i + 1, X2, c2_, M, by go_num, ⟨by omega, by omega, by have := HI.out; rw [HML.out, List.length_append]; simp only [List.length_cons, List.length_nil]; omega⟩, HM⟩
    ·
     have t1 : decide (i < G1.length) = false := decide_eq_false hlt
     clear hlt
     have HK := Aside0.mk (show m'.length ≤ n + 1000 by have := HI.out; have := HL.out.1; omega)
     clear HI
     have x0 := HM.out.hx.cell 2 rfl 0 rfl; have x1 := HM.out.hx.cell 2 rfl 1 rfl; have x2 := HM.out.hx.cell 2 rfl 2 rfl; have x3 := HM.out.hx.cell 2 rfl 3 rfl; have x4 := HM.out.hx.cell 2 rfl 4 rfl
     have y0 := HM.out.hx.cell 3 rfl 0 rfl; have z0 := HM.out.hx.free 3 rfl 0
     have y1 := HM.out.hx.cell 3 rfl 1 rfl; have z1 := HM.out.hx.free 3 rfl 1
     have y2 := HM.out.hx.cell 3 rfl 2 rfl; have z2 := HM.out.hx.free 3 rfl 2
     have y3 := HM.out.hx.cell 3 rfl 3 rfl; have z3 := HM.out.hx.free 3 rfl 3
     have y4 := HM.out.hx.cell 3 rfl 4 rfl; have z4 := HM.out.hx.free 3 rfl 4
     have hne : g2 ≠ g3 := by have := HM.out.hx.nd; simp at this; omega
     have hne2 : g3 ≠ g2 := fun e => hne e.symm
     go_wp2
     clear x0 x1 x2 x3 x4 y0 y1 y2 y3 y4 z0 z1 z2 z3 z4 hne hne2
     have e0 := HM.out.hx.set (P := [_, _, _]) 0 (.int .i64 cd) rfl
     have r0 := HM.out.hr.set (HM.out.hx.at 3 rfl) (by decide) 0 (.int .i64 cd)
     have e1 := e0.set (P := [_, _, _]) 1 (.slice B1 m1.length d1) rfl
     have r1 := r0.set (e0.at 3 rfl) (by decide) 1 (.slice B1 m1.length d1)
     have e2 := e1.set (P := [_, _, _]) 2 (.slice B2 m2.length d2) rfl
     have r2 := r1.set (e1.at 3 rfl) (by decide) 2 (.slice B2 m2.length d2)
     have e3 := e2.set (P := [_, _, _]) 3 (.slice X m.length c) rfl
     have r3 := r2.set (e2.at 3 rfl) (by decide) 3 (.slice X m.length c)
     have e4 := e3.set (P := [_, _, _]) 4 (.slice Y m'.length c') rfl
     have r4 := r3.set (e3.at 3 rfl) (by decide) 4 (.slice Y m'.length c')
     have bR := e4.at 3 rfl
     exact bodyPost_ret (results_cell_row rfl _ _ _ 54 _ (0, 0) _ rfl bR Try.underlying54 rfl (by kernel_rfl)) rfl ⟨cd, _, _, _, _, m1, m2, m, m', rfl, r4, ⟨by have := HB.out; omega, by have := HB.out; omega, HJ.out, HK.out⟩, by rw [← HN.out]; exact e4.kept, e4.b0, fun k hk ho => by rw [← HN.out]; exact HM.out.ow k hk ho⟩
end Go.Proofs.Ytnpbnmhbajiefaa.PFnSources
