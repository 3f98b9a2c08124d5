/- l14Prefix, l14Heard, l14Tick on right states: one contract each. -/
import Derived.Test.YtnpbnmhbajiefaaHP
import Derived.Test.YtnpbnmhbajiefaaHH
import Derived.Test.YtnpbnmhbajiefaaHG
namespace Go.Proofs.Ytnpbnmhbajiefaa.PFnSources
open Go.RowKit Go.Proofs.YtnpbnmhbajiefaaW.PrintWords Go.Proofs.YtnpbnmhbajiefaaW.PrintLast Go.Proofs.YtnpbnmhbajiefaaW.PrintMore
set_option linter.unusedVariables false
theorem Post.up {w : World} {v1 v2 v3 v4 : Value} {n n' : Nat} {link : ByteArray} {l1 : List S39} {l2 : List ByteArray} {e : Ending} {w' : World} (h : Post w v1 v2 v3 v4 n link l1 l2 e w') (hn : n ≤ n') : Post w v1 v2 v3 v4 n' link l1 l2 e w' := by
 obtain ⟨u1, u2, c', x1, x2, x3, x4, m1, m2, m3, m4, he, hr, hl, h'⟩ := h
 exact ⟨u1, u2, c', x1, x2, x3, x4, m1, m2, m3, m4, he, hr, by omega, h'⟩
section
variable (link : ByteArray) (A1 A2 B1 B2 B3 B4 : Option Addr) (c1 c2 d1 d2 d3 d4 : Nat) (n1 n2 n3 n4 : Nat) (l1 : List S39) (l2 m1 m2 m3 m4 : List ByteArray) (cd : Int) (w : World) (n : Nat)
theorem prefix_post (x : S58) (hG : Good link l1 l2) (h2 : x.f2.size = 16) (hn : m1.length ≤ n ∧ m2.length ≤ n ∧ m3.length ≤ n ∧ m4.length ≤ n) (hn2 : n ≤ 1000000) (hr : Rows4 w (.slice B1 n1 d1) (.slice B2 n2 d2) (.slice B3 n3 d3) (.slice B4 n4 d4) m1 m2 m3 m4) (ha : AR w (fun k => ¬ Own4 (.slice B1 n1 d1) (.slice B2 n2 d2) (.slice B3 n3 d3) (.slice B4 n4 d4) k) (.slice A1 l1.length c1) l1) (hb : SR w (fun k => ¬ Own4 (.slice B1 n1 d1) (.slice B2 n2 d2) (.slice B3 n3 d3) (.slice B4 n4 d4) k) (.slice A2 l2.length c2) l2) :
  Calls Try.prog 47 #[.agg #[.string link, .slice A1 l1.length c1, .slice A2 l2.length c2], .agg #[.int .i64 x.f0, .int .i64 x.f1, .string x.f2, .string x.f3, .int .i64 x.f4, .int .i64 x.f5], .agg #[.int .i64 cd, .slice B1 n1 d1, .slice B2 n2 d2, .slice B3 n3 d3, .slice B4 n4 d4]] w (Post w (.slice B1 n1 d1) (.slice B2 n2 d2) (.slice B3 n3 d3) (.slice B4 n4 d4) (n + 1) link (prefixA link l1 l2 x).1 (prefixA link l1 l2 x).2) := by
 have hl1 := hG.n1
 have hl2 := hG.n2
 obtain ⟨he, _⟩ := eui_f x.f2 link h2 hG.ln
 have hf := find_f l1 (eui x.f2 link) (by omega)
 have ht := text_f l2 (eui x.f2 link) (l1.length + 1 + 100) (by omega) (by omega)
 have hf2 : spec_l14Find.f (l1.length + 1 + 100) l1 (eui x.f2 link) = some (fxF (eui x.f2 link) l1 0) := find_l0 l1 _ (by omega) _ 0 (by omega) (by omega)
 have hw := own_f link l1 l2 (by omega) (by omega)
 unfold prefixA
 generalize eui x.f2 link = a at *
 by_cases c : txF a l2 = true
 ·
  rw [if_pos c]
  rw [c] at ht
  exact (prefix_bad link A1 A2 B1 B2 B3 B4 c1 c2 d1 d2 d3 d4 n1 n2 n3 n4 l1 l2 m1 m2 m3 m4 x cd w a _ _ he hf2 ht hw n hn hr ha hb).mono fun e w' hp => hp.up (by omega)
 ·
  rw [if_neg c]
  rw [Bool.not_eq_true] at c
  rw [c] at ht
  by_cases c1' : fxF a l1 0 < 0
  ·
   rw [if_pos c1']
   by_cases c2' : x.f4 = 0
   ·
    rw [if_pos c2']
    exact (prefix_none link A1 A2 B1 B2 B3 B4 c1 c2 d1 d2 d3 d4 n1 n2 n3 n4 l1 l2 m1 m2 m3 m4 x cd w a _ _ he hf2 ht hw n hn hr ha hb c1' c2').mono fun e w' hp => hp.up (by omega)
   ·
    rw [if_neg c2']
    by_cases c3 : l1.length = 6
    ·
     rw [if_pos c3]
     exact (prefix_full link A1 A2 B1 B2 B3 B4 c1 c2 d1 d2 d3 d4 n1 n2 n3 n4 l1 l2 m1 m2 m3 m4 x cd w a _ _ he hf2 ht hw n hn hr ha hb c1' c2' c3).mono fun e w' hp => hp.up (by omega)
    ·
     rw [if_neg c3]
     exact prefix_add link A1 A2 B1 B2 B3 B4 c1 c2 d1 d2 d3 d4 n1 n2 n3 n4 l1 l2 m1 m2 m3 m4 x cd w a _ _ he hf2 ht hw n hn hr ha hb c1' c2' (by omega) hn2 _ rfl
  ·
   rw [if_neg c1']
   have hT : fxF a l1 0 < (l1.length : Int) := by
    rcases fxF_or a l1 0 with ⟨e, _⟩ | ⟨T, h1, e, _⟩ <;> omega
   exact (prefix_known link A1 A2 B1 B2 B3 B4 c1 c2 d1 d2 d3 d4 n1 n2 n3 n4 l1 l2 m1 m2 m3 m4 x cd w a _ _ he hf2 ht hw n hn hr ha hb (by omega) hT hl1 _ rfl).mono fun e w' hp => hp.up (by omega)
theorem heard_post (addr : ByteArray) (hG : Good link l1 l2) (hn : m1.length ≤ n ∧ m2.length ≤ n ∧ m3.length ≤ n ∧ m4.length ≤ n) (hn2 : n ≤ 1000000) (hr : Rows4 w (.slice B1 n1 d1) (.slice B2 n2 d2) (.slice B3 n3 d3) (.slice B4 n4 d4) m1 m2 m3 m4) (ha : AR w (fun k => ¬ Own4 (.slice B1 n1 d1) (.slice B2 n2 d2) (.slice B3 n3 d3) (.slice B4 n4 d4) k) (.slice A1 l1.length c1) l1) (hb : SR w (fun k => ¬ Own4 (.slice B1 n1 d1) (.slice B2 n2 d2) (.slice B3 n3 d3) (.slice B4 n4 d4) k) (.slice A2 l2.length c2) l2) :
  Calls Try.prog 49 #[.agg #[.string link, .slice A1 l1.length c1, .slice A2 l2.length c2], .string addr, .agg #[.int .i64 cd, .slice B1 n1 d1, .slice B2 n2 d2, .slice B3 n3 d3, .slice B4 n4 d4]] w (Post w (.slice B1 n1 d1) (.slice B2 n2 d2) (.slice B3 n3 d3) (.slice B4 n4 d4) (n + 1) link (heardA l1 l2 addr).1 (heardA l1 l2 addr).2) := by
 have hl1 := hG.n1
 have hl2 := hG.n2
 have hf2 := find_f l1 addr (by omega)
 unfold heardA
 by_cases c1' : fxF addr l1 0 < 0
 ·
  rw [if_pos c1']
  exact (heard_none link addr A1 A2 B1 B2 B3 B4 c1 c2 d1 d2 d3 d4 n1 n2 n3 n4 l1 l2 m1 m2 m3 m4 cd w _ _ hf2 n hn (by omega) hr ha hb c1').mono fun e w' hp => hp.up (by omega)
 ·
  rw [if_neg c1']
  have hT : fxF addr l1 0 < (l1.length : Int) := by
   rcases fxF_or addr l1 0 with ⟨e, _⟩ | ⟨T, h1, e, _⟩ <;> omega
  by_cases c2' : (l1.getD (fxF addr l1 0).toNat z39).f1 = 1
  ·
   rw [if_pos c2']
   exact heard_cut link addr A1 A2 B1 B2 B3 B4 c1 c2 d1 d2 d3 d4 n1 n2 n3 n4 l1 l2 m1 m2 m3 m4 cd w _ _ hf2 n hn (by omega) hr ha hb (by omega) hT hl1 c2' (by omega) _ rfl _ rfl
  ·
   rw [if_neg c2']
   exact (heard_again link addr A1 A2 B1 B2 B3 B4 c1 c2 d1 d2 d3 d4 n1 n2 n3 n4 l1 l2 m1 m2 m3 m4 cd w _ _ hf2 n hn (by omega) hr ha hb (by omega) hT hl1 c2').mono fun e w' hp => hp.up (by omega)
theorem tick_post (hG : Good link l1 l2) (hn : m1.length ≤ n ∧ m2.length ≤ n ∧ m3.length ≤ n ∧ m4.length ≤ n) (hn2 : n ≤ 1000000) (hr : Rows4 w (.slice B1 n1 d1) (.slice B2 n2 d2) (.slice B3 n3 d3) (.slice B4 n4 d4) m1 m2 m3 m4) (ha : AR w (fun k => ¬ Own4 (.slice B1 n1 d1) (.slice B2 n2 d2) (.slice B3 n3 d3) (.slice B4 n4 d4) k) (.slice A1 l1.length c1) l1) (hb : SR w (fun k => ¬ Own4 (.slice B1 n1 d1) (.slice B2 n2 d2) (.slice B3 n3 d3) (.slice B4 n4 d4) k) (.slice A2 l2.length c2) l2) :
  Calls Try.prog 48 #[.agg #[.string link, .slice A1 l1.length c1, .slice A2 l2.length c2], .agg #[.int .i64 cd, .slice B1 n1 d1, .slice B2 n2 d2, .slice B3 n3 d3, .slice B4 n4 d4]] w (Post w (.slice B1 n1 d1) (.slice B2 n2 d2) (.slice B3 n3 d3) (.slice B4 n4 d4) (n + 6) link (tickA l1) l2) := by
 have hl1 := hG.n1
 have hl2 := hG.n2
 refine (tick_calls link A1 A2 B1 B2 B3 B4 c1 c2 d1 d2 d3 d4 n1 n2 n3 n4 l1 l2 m1 m2 m3 m4 cd w (by omega) (by omega) (fun y hy => ?_) n hn (by omega) hr ha hb _ rfl).mono fun e w' hp => hp.up (by omega)
 obtain ⟨h0, h1, h2, h3, h6, h7, h8, h9⟩ := hG.el y hy
 by_cases c : y.f1 = 1
 ·
  have := h6 c; omega
 ·
  have := h7 c; omega
end
end Go.Proofs.Ytnpbnmhbajiefaa.PFnSources
