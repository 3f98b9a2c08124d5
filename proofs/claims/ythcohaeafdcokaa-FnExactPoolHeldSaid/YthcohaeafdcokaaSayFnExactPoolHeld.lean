/- FnExactPoolHeld: the statement over whole numbers and lists alone ('Say'), and the law's row out of it. -/
import Derived.Test.YthcohaeafdcokaaRows
import Derived.Test.YthcohaeafdcokaaGFnExactPoolHeldx5
import Derived.Test.YthcohaeafdcokaaOpen
import Derived.WalkKit
import Derived.ProofKit
import Derived.OpenShut
import Derived.ShutString
import Derived.ChangeOld
import Derived.Below
import Derived.SizedLaws
import Derived.KernelRfl
namespace Go.Proofs.Ythcohaeafdcokaa.fnExactPoolHeld
open Go.ChangeShapes Go.WideShapes Go.ChangeAt Go.RowKit Go.Proofs.Ythcohaeafdcokaa.Open Go.Proofs.Ythcohaeafdcokaa.PFnExactPoolHeld Go.Proofs.YthcohaeafdcokaaW.PrintWords Go.Proofs.YthcohaeafdcokaaW.PrintLast Go.Proofs.YthcohaeafdcokaaW.PrintMore
open Go.ChangeMaps (open_string shut_string)
set_option linter.unusedVariables false
def Say : Prop := ∀ (l0_0 : List Int) (l0_1 : List Int) (a1 : Int), (l0_0.length ≤ maxLen ∧ ∀ y ∈ l0_0, (Lit.int .i64 y).wf = true) → (l0_1.length ≤ maxLen ∧ ∀ y ∈ l0_1, (Lit.int .i64 y).wf = true) → (Lit.int .i64 a1).wf = true → ∃ k, laws_FnExactPoolHeld.f k l0_0 l0_1 a1 = some true
theorem own : ownKnob Try.prog.godebug = none := by kernel_rfl
theorem laidOut : laidOutB Try.prog = true := by kernel_rfl
set_option maxRecDepth 100000 in
set_option maxHeartbeats 1000000 in
theorem lifted (P : Say) (os : Os) (started : os.Started) (H : Type) (enc : TypeId × Value → H) :
    ReturnsInHanded {} Try.checked os 8 .any (Rows.fnExactPoolHeldSpec.pre6 enc Try.prog Try.f8 Rows.fnExactPoolHeldRow.domain false) (Rows.fnExactPoolHeldSpec.post enc Try.prog Try.f8 false true false false) := by
  refine returnsInHanded_of_change_sized (C := Try.checked) own started (by kernel_rfl) Try.func8
    (ChangeSpec.witness6 (enc := enc) (C := Try.checked) false ⟨#[], #[.agg #[.slice none 0 0, .slice none 0 0], .int .i64 0], []⟩ 8 (by kernel_rfl) (by kernel_rfl) (by kernel_rfl) (by kernel_rfl)) ?_
  intro W base args ds gs before hval0 hW hcnd hsz0 _
  have hval : ∀ (j : Nat) t v, Try.f8.params[j]? = some t → args[j]? = some v → Value.okWide Try.prog W .any base t v := hval0
  have hW' := hW
  obtain ⟨p, q, hA0, hV, rfl, hfz, hnd⟩ := hW
  have hA : DataW.TrodAll enc Try.prog W 0 (fun _ => true) true Try.f8.params.toList args.toList ds p := hA0
  rw [Try.params8] at hA hval
  obtain ⟨v0, vs0, d0, ds0, p0, q0, hargs, rfl, rfl, h0, r0⟩ := trodAll_cons hA
  obtain ⟨v1, vs1, d1, ds1, p1, q1, rfl, rfl, rfl, h1, r1⟩ := trodAll_cons r0
  obtain ⟨rfl, rfl, rfl⟩ := trodAll_nil r1
  obtain rfl : args = #[v0, v1] := by cases args; simp_all
  obtain ⟨rfl, rfl⟩ := trodVars_none hV
  have k0 := h0
  have lt0 : ∀ x ∈ p0, x.block < W.heap.size := by obtain ⟨m, hm⟩ := k0; exact DataW.trod_lt m _ _ _ hm
  obtain ⟨⟨l0_0, l0_1⟩, hK0, ⟨g0_0, g0_1⟩⟩ := Opens.arg (Opens.struct Try.underlying50 (by kernel_rfl) (OpensF.cons (Opens.slice Try.underlying22 (by kernel_rfl) (Opens.int Try.underlying3)) rfl (by kernel_rfl) (OpensF.last (Opens.slice Try.underlying22 (by kernel_rfl) (Opens.int Try.underlying3)) rfl (by kernel_rfl)))) h0
  obtain ⟨x0_0, y0_0, z0_0, b0_0, t0_0⟩ := hK0
  obtain ⟨A0_0, c0_0, u0_0, hc0_0, hr0_0⟩ := b0_0
  obtain ⟨A0_1, c0_1, u0_1, hc0_1, hr0_1⟩ := t0_0
  have hcells0 : v0.cells.toList = [.slice A0_0 l0_0.length c0_0, .slice A0_1 l0_1.length c0_1] := by
    have u0_0' : x0_0 = [.slice A0_0 l0_0.length c0_0] := u0_0
    have u0_1' : y0_0 = [.slice A0_1 l0_1.length c0_1] := u0_1
    rw [z0_0, u0_0', u0_1']
    rfl
  obtain rfl := agg_of Try.underlying50 (hval 0 50 v0 rfl rfl) hcells0
  have k1 := h1
  have lt1 : ∀ x ∈ p1, x.block < W.heap.size := by obtain ⟨m, hm⟩ := k1; exact DataW.trod_lt m _ _ _ hm
  obtain ⟨a1, rfl, e1, e1', g1⟩ := open_int Try.underlying3 (hval 1 3 v1 rfl rfl) h1
  clear hA0 hval0 hsz0
  obtain ⟨k, hk⟩ := P l0_0 l0_1 a1 g0_0 g0_1 g1
  refine (laws_FnExactPoolHeld.calls (k := k) (l0_0 := l0_0) (l0_1 := l0_1) (a1 := a1) (r := true) (w := W) (hr0_0 := hr0_0) (hc0_0 := hc0_0) (hr0_1 := hr0_1) (hc0_1 := hc0_1) (h := hk)).mono fun e W' ⟨he, hd⟩ => ?_
  have bel : Below W.heap.size W W' := by first | exact hd | exact hd.below
  subst he
  exact ⟨_, rfl, _, _, _, [], _, [], hW', trodAll_mk1 (shut_bool Try.underlying4 _), (trodAll_cons_mk (Below.trod laidOut (by kernel_rfl) (of_decide_eq_true (by kernel_rfl)) k0 bel lt0) (trodAll_cons_mk (Below.trod laidOut (by kernel_rfl) (of_decide_eq_true (by kernel_rfl)) k1 bel lt1) trodAll_mk0)), rfl, bel.frame _, fun h => by cases h⟩
theorem over (P : Say) : Rows.fnExactPoolHeldRow.holds Try.pinned (OpenSpec.ofChange Rows.fnExactPoolHeldSpec) :=
  OpenClaim.holds_of_wide 8 Try.f8 rfl rfl rfl rfl rfl rfl rfl ⟨rfl, rfl, rfl, rfl, rfl⟩ rfl rfl rfl rfl rfl (by kernel_rfl) Try.func8 (by kernel_rfl)
    (of_decide_eq_true (by kernel_rfl)) (by unfold Func.isWrapper; first | (rw [if_pos (by decide +kernel)]; kernel_rfl) | (rw [if_neg (by decide +kernel)]; exact ⟨rfl, rfl⟩))
    (fun os started H enc _ => lifted P os started H enc)
/-- The row, out of the plain statement. -/
theorem row_of (P : Say) : Rows.FnExactPoolHeldSaid := over P
end Go.Proofs.Ythcohaeafdcokaa.fnExactPoolHeld
