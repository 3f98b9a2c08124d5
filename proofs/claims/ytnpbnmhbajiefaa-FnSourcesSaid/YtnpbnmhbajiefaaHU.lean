/- l14Step on right states: one contract. -/
import Derived.Test.YtnpbnmhbajiefaaHST
namespace Go.Proofs.Ytnpbnmhbajiefaa.PFnSources
open Go.RowKit Go.Proofs.YtnpbnmhbajiefaaW.PrintWords Go.Proofs.YtnpbnmhbajiefaaW.PrintLast Go.Proofs.YtnpbnmhbajiefaaW.PrintMore
set_option linter.unusedVariables false
theorem step_calls (link : ByteArray) (A1 A2 : Option Addr) (c1 c2 : Nat) (l1 : List S39) (l2 : List ByteArray) (x : S58) (w : World) (hG : Good link l1 l2) (ha : AR w (fun _ => True) (.slice A1 l1.length c1) l1) (hb : SR w (fun _ => True) (.slice A2 l2.length c2) l2) :
  Calls Try.prog 22 #[.agg #[.string link, .slice A1 l1.length c1, .slice A2 l2.length c2], .agg #[.int .i64 x.f0, .int .i64 x.f1, .string x.f2, .string x.f3, .int .i64 x.f4, .int .i64 x.f5]] w (PostS w link (stepA link l1 l2 x).1 (stepA link l1 l2 x).2) := by
 have hG' := hG.step x
 unfold stepA at hG' ⊢
 by_cases k1 : x.f0 = 1
 ·
  rw [if_pos k1] at hG' ⊢
  by_cases h2 : x.f2.size = 16
  ·
   by_cases h4 : 0 ≤ x.f4 ∧ x.f4 ≤ 100000
   ·
    by_cases h5 : 0 ≤ x.f5 ∧ x.f5 ≤ x.f4
    ·
     rw [if_pos ⟨h2, h4, h5⟩] at hG' ⊢
     exact step_pre link A1 A2 c1 c2 l1 l2 x w hG ha hb ⟨k1, h2, h4, h5⟩ _ _ rfl hG'
    ·
     rw [if_neg (fun h => h5 h.2.2)]
     exact step_pre3 link A1 A2 c1 c2 l1 l2 x w hG ha hb ⟨k1, h2, h4, h5⟩
   ·
    rw [if_neg (fun h => h4 h.2.1)]
    exact step_pre2 link A1 A2 c1 c2 l1 l2 x w hG ha hb ⟨k1, h2, h4⟩
  ·
   rw [if_neg (fun h => h2 h.1)]
   exact step_pre1 link A1 A2 c1 c2 l1 l2 x w hG ha hb ⟨k1, h2⟩
 ·
  rw [if_neg k1] at hG' ⊢
  by_cases k2 : x.f0 = 2
  ·
   rw [if_pos k2] at hG' ⊢
   by_cases h1 : 0 ≤ x.f1 ∧ x.f1 ≤ 1000
   ·
    rw [if_pos h1]
    exact step_ticks link A1 A2 c1 c2 l1 l2 x w hG ha hb ⟨k2, h1⟩ _ rfl
   ·
    rw [if_neg h1]
    exact step_tick0 link A1 A2 c1 c2 l1 l2 x w hG ha hb ⟨k2, h1⟩
  ·
   rw [if_neg k2] at hG' ⊢
   by_cases k3 : x.f0 = 3
   ·
    rw [if_pos k3] at hG' ⊢
    by_cases h1 : x.f3.size = 16
    ·
     rw [if_pos h1] at hG' ⊢
     exact step_heard link A1 A2 c1 c2 l1 l2 x w hG ha hb ⟨k3, h1⟩ _ _ rfl hG'
    ·
     rw [if_neg h1]
     exact step_heard0 link A1 A2 c1 c2 l1 l2 x w hG ha hb ⟨k3, h1⟩
   ·
    rw [if_neg k3] at hG' ⊢
    by_cases k4 : x.f0 = 4
    ·
     rw [if_pos k4] at hG' ⊢
     by_cases h1 : fxF x.f3 l1 0 < 0
     ·
      unfold dropA
      rw [if_pos h1]
      exact step_drop0 link A1 A2 c1 c2 l1 l2 x w hG ha hb ⟨k4, h1⟩
     ·
      have hT : fxF x.f3 l1 0 < (l1.length : Int) := by
       rcases fxF_or x.f3 l1 0 with ⟨e, _⟩ | ⟨T, h1, e, _⟩ <;> omega
      exact step_drop link A1 A2 c1 c2 l1 l2 x w hG ha hb ⟨k4, h1, hT⟩ _ rfl hG'
    ·
     rw [if_neg k4]
     exact step_else link A1 A2 c1 c2 l1 l2 x w hG ha hb ⟨k1, k2, k3, k4⟩
end Go.Proofs.Ytnpbnmhbajiefaa.PFnSources
