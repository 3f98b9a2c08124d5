/- FnExactRingOK: the statement over whole numbers and lists alone ('Say'), and the law's row out of it. -/
import Derived.Test.YthcohaeafdcokaaRows
import Derived.Test.YthcohaeafdcokaaPFnExactRingOKx5
import Derived.Test.YthcohaeafdcokaaOpen
import Derived.WalkKit
import Derived.ProofKit
import Derived.OpenShut
import Derived.ShutString
import Derived.ChangeOld
import Derived.Below
import Derived.SizedLaws
import Derived.KernelRfl
namespace Go.Proofs.Ythcohaeafdcokaa.fnExactRingOK
open Go.ChangeShapes Go.WideShapes Go.ChangeAt Go.RowKit Go.Proofs.Ythcohaeafdcokaa.Open Go.Proofs.Ythcohaeafdcokaa.PFnExactRingOK Go.Proofs.YthcohaeafdcokaaW.PrintWords Go.Proofs.YthcohaeafdcokaaW.PrintLast Go.Proofs.YthcohaeafdcokaaW.PrintMore
open Go.ChangeMaps (open_string shut_string)
set_option linter.unusedVariables false
def Say : Prop := ∀ (a0_0 : Int) (a0_1 : Bool) (l0_2 : List Int) (l0_3 : List Int) (a0_4 : Int) (a0_5 : Int) (a0_6 : Int) (a0_7 : Int), (Lit.int .i64 a0_0).wf = true → True → (l0_2.length ≤ maxLen ∧ ∀ y ∈ l0_2, (Lit.int .i64 y).wf = true) → (l0_3.length ≤ maxLen ∧ ∀ y ∈ l0_3, (Lit.int .i64 y).wf = true) → (Lit.int .i64 a0_4).wf = true → (Lit.int .i64 a0_5).wf = true → (Lit.int .i64 a0_6).wf = true → (Lit.int .i64 a0_7).wf = true → ∃ k, laws_FnExactRingOK.f k a0_0 a0_1 l0_2 l0_3 a0_4 a0_5 a0_6 a0_7 = some true
theorem own : ownKnob Try.prog.godebug = none := by kernel_rfl
theorem laidOut : laidOutB Try.prog = true := by kernel_rfl
set_option maxRecDepth 100000 in
set_option maxHeartbeats 1000000 in
theorem lifted (P : Say) (os : Os) (started : os.Started) (H : Type) (enc : TypeId × Value → H) :
    ReturnsInHanded {} Try.checked os 5 .any (Rows.fnExactRingOKSpec.pre6 enc Try.prog Try.f5 Rows.fnExactRingOKRow.domain false) (Rows.fnExactRingOKSpec.post enc Try.prog Try.f5 false true false false) := by
  refine returnsInHanded_of_change_sized (C := Try.checked) own started (by kernel_rfl) Try.func5
    (ChangeSpec.witness6 (enc := enc) (C := Try.checked) false ⟨#[], #[.agg #[.int .i64 0, .bool false, .slice none 0 0, .slice none 0 0, .int .i64 0, .int .i64 0, .int .i64 0, .int .i64 0]], []⟩ 8 (by kernel_rfl) (by kernel_rfl) (by kernel_rfl) (by kernel_rfl)) ?_
  intro W base args ds gs before hval0 hW hcnd hsz0 _
  have hval : ∀ (j : Nat) t v, Try.f5.params[j]? = some t → args[j]? = some v → Value.okWide Try.prog W .any base t v := hval0
  have hW' := hW
  obtain ⟨p, q, hA0, hV, rfl, hfz, hnd⟩ := hW
  have hA : DataW.TrodAll enc Try.prog W 0 (fun _ => true) true Try.f5.params.toList args.toList ds p := hA0
  rw [Try.params5] at hA hval
  obtain ⟨v0, vs0, d0, ds0, p0, q0, hargs, rfl, rfl, h0, r0⟩ := trodAll_cons hA
  obtain ⟨rfl, rfl, rfl⟩ := trodAll_nil r0
  obtain rfl : args = #[v0] := by cases args; simp_all
  obtain ⟨rfl, rfl⟩ := trodVars_none hV
  have k0 := h0
  have lt0 : ∀ x ∈ p0, x.block < W.heap.size := by obtain ⟨m, hm⟩ := k0; exact DataW.trod_lt m _ _ _ hm
  obtain ⟨⟨a0_0, a0_1, l0_2, l0_3, a0_4, a0_5, a0_6, a0_7⟩, hK0, ⟨g0_0, g0_1, g0_2, g0_3, g0_4, g0_5, g0_6, g0_7⟩⟩ := Opens.arg (Opens.struct Try.underlying38 (by kernel_rfl) (OpensF.cons (Opens.int Try.underlying3) rfl (by kernel_rfl) (OpensF.cons (Opens.bool Try.underlying4) rfl (by kernel_rfl) (OpensF.cons (Opens.slice Try.underlying22 (by kernel_rfl) (Opens.int Try.underlying3)) rfl (by kernel_rfl) (OpensF.cons (Opens.slice Try.underlying22 (by kernel_rfl) (Opens.int Try.underlying3)) rfl (by kernel_rfl) (OpensF.cons (Opens.int Try.underlying3) rfl (by kernel_rfl) (OpensF.cons (Opens.int Try.underlying3) rfl (by kernel_rfl) (OpensF.cons (Opens.int Try.underlying3) rfl (by kernel_rfl) (OpensF.last (Opens.int Try.underlying3) rfl (by kernel_rfl)))))))))) h0
  obtain ⟨x0_0, y0_0, z0_0, b0_0, t0_0⟩ := hK0
  have u0_0 := b0_0
  obtain ⟨x0_1, y0_1, z0_1, b0_1, t0_1⟩ := t0_0
  have u0_1 := b0_1
  obtain ⟨x0_2, y0_2, z0_2, b0_2, t0_2⟩ := t0_1
  obtain ⟨A0_2, c0_2, u0_2, hc0_2, hr0_2⟩ := b0_2
  obtain ⟨x0_3, y0_3, z0_3, b0_3, t0_3⟩ := t0_2
  obtain ⟨A0_3, c0_3, u0_3, hc0_3, hr0_3⟩ := b0_3
  obtain ⟨x0_4, y0_4, z0_4, b0_4, t0_4⟩ := t0_3
  have u0_4 := b0_4
  obtain ⟨x0_5, y0_5, z0_5, b0_5, t0_5⟩ := t0_4
  have u0_5 := b0_5
  obtain ⟨x0_6, y0_6, z0_6, b0_6, t0_6⟩ := t0_5
  have u0_6 := b0_6
  have u0_7 := t0_6
  have hcells0 : v0.cells.toList = [.int .i64 a0_0, .bool a0_1, .slice A0_2 l0_2.length c0_2, .slice A0_3 l0_3.length c0_3, .int .i64 a0_4, .int .i64 a0_5, .int .i64 a0_6, .int .i64 a0_7] := by
    have u0_0' : x0_0 = [.int .i64 a0_0] := u0_0
    have u0_1' : x0_1 = [.bool a0_1] := u0_1
    have u0_2' : x0_2 = [.slice A0_2 l0_2.length c0_2] := u0_2
    have u0_3' : x0_3 = [.slice A0_3 l0_3.length c0_3] := u0_3
    have u0_4' : x0_4 = [.int .i64 a0_4] := u0_4
    have u0_5' : x0_5 = [.int .i64 a0_5] := u0_5
    have u0_6' : x0_6 = [.int .i64 a0_6] := u0_6
    have u0_7' : y0_6 = [.int .i64 a0_7] := u0_7
    rw [z0_0, u0_0', z0_1, u0_1', z0_2, u0_2', z0_3, u0_3', z0_4, u0_4', z0_5, u0_5', z0_6, u0_6', u0_7']
    rfl
  obtain rfl := agg_of Try.underlying38 (hval 0 38 v0 rfl rfl) hcells0
  clear hA0 hval0 hsz0
  obtain ⟨k, hk⟩ := P a0_0 a0_1 l0_2 l0_3 a0_4 a0_5 a0_6 a0_7 g0_0 g0_1 g0_2 g0_3 g0_4 g0_5 g0_6 g0_7
  refine (laws_FnExactRingOK.calls (k := k) (a0_0 := a0_0) (a0_1 := a0_1) (l0_2 := l0_2) (l0_3 := l0_3) (a0_4 := a0_4) (a0_5 := a0_5) (a0_6 := a0_6) (a0_7 := a0_7) (r := true) (w := W) (hr0_2 := hr0_2) (hc0_2 := hc0_2) (hr0_3 := hr0_3) (hc0_3 := hc0_3) (h := hk)).mono fun e W' ⟨he, hd⟩ => ?_
  have bel : Below W.heap.size W W' := by first | exact hd | exact hd.below
  subst he
  exact ⟨_, rfl, _, _, _, [], _, [], hW', trodAll_mk1 (shut_bool Try.underlying4 _), (trodAll_cons_mk (Below.trod laidOut (by kernel_rfl) (of_decide_eq_true (by kernel_rfl)) k0 bel lt0) trodAll_mk0), rfl, bel.frame _, fun h => by cases h⟩
theorem over (P : Say) : Rows.fnExactRingOKRow.holds Try.pinned (OpenSpec.ofChange Rows.fnExactRingOKSpec) :=
  OpenClaim.holds_of_wide 5 Try.f5 rfl rfl rfl rfl rfl rfl rfl ⟨rfl, rfl, rfl, rfl, rfl⟩ rfl rfl rfl rfl rfl (by kernel_rfl) Try.func5 (by kernel_rfl)
    (of_decide_eq_true (by kernel_rfl)) (by unfold Func.isWrapper; first | (rw [if_pos (by decide +kernel)]; kernel_rfl) | (rw [if_neg (by decide +kernel)]; exact ⟨rfl, rfl⟩))
    (fun os started H enc _ => lifted P os started H enc)
/-- The row, out of the plain statement. -/
theorem row_of (P : Say) : Rows.FnExactRingOKSaid := over P
end Go.Proofs.Ythcohaeafdcokaa.fnExactRingOK
