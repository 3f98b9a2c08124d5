/- FnExactBucketWait: the statement over whole numbers and lists alone ('Say'), and the law's row out of it. -/
import Derived.Test.YtfjpfjofogbpgaaRows
import Derived.Test.YtfjpfjofogbpgaaGFnExactBucketWaitx1
import Derived.Test.YtfjpfjofogbpgaaOpen
import Derived.WalkKit
import Derived.ProofKit
import Derived.OpenShut
import Derived.ShutString
import Derived.ChangeOld
import Derived.Below
import Derived.SizedLaws
import Derived.KernelRfl
namespace Go.Proofs.Ytfjpfjofogbpgaa.fnExactBucketWait
open Go.ChangeShapes Go.WideShapes Go.ChangeAt Go.RowKit Go.Proofs.Ytfjpfjofogbpgaa.Open Go.Proofs.Ytfjpfjofogbpgaa.PFnExactBucketWait Go.Proofs.YtfjpfjofogbpgaaW.PrintWords Go.Proofs.YtfjpfjofogbpgaaW.PrintLast Go.Proofs.YtfjpfjofogbpgaaW.PrintMore
open Go.ChangeMaps (open_string shut_string)
set_option linter.unusedVariables false
def Say : Prop := ∀ (a0_0 : Int) (a0_1 : Int) (a0_2 : Int) (a0_3 : Int) (a1 : Int), (Lit.int .i64 a0_0).wf = true → (Lit.int .i64 a0_1).wf = true → (Lit.int .i64 a0_2).wf = true → (Lit.int .i64 a0_3).wf = true → (Lit.int .i64 a1).wf = true → laws_FnExactBucketWait.f a0_0 a0_1 a0_2 a0_3 a1 = some true
theorem own : ownKnob Try.prog.godebug = none := by kernel_rfl
theorem laidOut : laidOutB Try.prog = true := by kernel_rfl
set_option maxRecDepth 100000 in
set_option maxHeartbeats 1000000 in
theorem lifted (P : Say) (os : Os) (started : os.Started) (H : Type) (enc : TypeId × Value → H) :
    ReturnsInHanded {} Try.checked os 6 .any (Rows.fnExactBucketWaitSpec.pre6 enc Try.prog Try.f6 Rows.fnExactBucketWaitRow.domain false) (Rows.fnExactBucketWaitSpec.post enc Try.prog Try.f6 false true false false) := by
  refine returnsInHanded_of_change_sized (C := Try.checked) own started (by kernel_rfl) Try.func6
    (ChangeSpec.witness6 (enc := enc) (C := Try.checked) false ⟨#[], #[.agg #[.int .i64 0, .int .i64 0, .int .i64 0, .int .i64 0], .int .i64 0], []⟩ 8 (by kernel_rfl) (by kernel_rfl) (by kernel_rfl) (by kernel_rfl)) ?_
  intro W base args ds gs before hval0 hW hcnd hsz0 _
  have hval : ∀ (j : Nat) t v, Try.f6.params[j]? = some t → args[j]? = some v → Value.okWide Try.prog W .any base t v := hval0
  have hW' := hW
  obtain ⟨p, q, hA0, hV, rfl, hfz, hnd⟩ := hW
  have hA : DataW.TrodAll enc Try.prog W 0 (fun _ => true) true Try.f6.params.toList args.toList ds p := hA0
  rw [Try.params6] at hA hval
  obtain ⟨v0, vs0, d0, ds0, p0, q0, hargs, rfl, rfl, h0, r0⟩ := trodAll_cons hA
  obtain ⟨v1, vs1, d1, ds1, p1, q1, rfl, rfl, rfl, h1, r1⟩ := trodAll_cons r0
  obtain ⟨rfl, rfl, rfl⟩ := trodAll_nil r1
  obtain rfl : args = #[v0, v1] := by cases args; simp_all
  obtain ⟨rfl, rfl⟩ := trodVars_none hV
  have k0 := h0
  have lt0 : ∀ x ∈ p0, x.block < W.heap.size := by obtain ⟨m, hm⟩ := k0; exact DataW.trod_lt m _ _ _ hm
  obtain ⟨⟨a0_0, a0_1, a0_2, a0_3⟩, hK0, ⟨g0_0, g0_1, g0_2, g0_3⟩⟩ := Opens.arg (Opens.struct Try.underlying23 (by kernel_rfl) (OpensF.cons (Opens.int Try.underlying3) rfl (by kernel_rfl) (OpensF.cons (Opens.int Try.underlying3) rfl (by kernel_rfl) (OpensF.cons (Opens.int Try.underlying3) rfl (by kernel_rfl) (OpensF.last (Opens.int Try.underlying3) rfl (by kernel_rfl)))))) h0
  obtain ⟨x0_0, y0_0, z0_0, b0_0, t0_0⟩ := hK0
  have u0_0 := b0_0
  obtain ⟨x0_1, y0_1, z0_1, b0_1, t0_1⟩ := t0_0
  have u0_1 := b0_1
  obtain ⟨x0_2, y0_2, z0_2, b0_2, t0_2⟩ := t0_1
  have u0_2 := b0_2
  have u0_3 := t0_2
  have hcells0 : v0.cells.toList = [.int .i64 a0_0, .int .i64 a0_1, .int .i64 a0_2, .int .i64 a0_3] := by
    have u0_0' : x0_0 = [.int .i64 a0_0] := u0_0
    have u0_1' : x0_1 = [.int .i64 a0_1] := u0_1
    have u0_2' : x0_2 = [.int .i64 a0_2] := u0_2
    have u0_3' : y0_2 = [.int .i64 a0_3] := u0_3
    rw [z0_0, u0_0', z0_1, u0_1', z0_2, u0_2', u0_3']
    rfl
  obtain rfl := agg_of Try.underlying23 (hval 0 23 v0 rfl rfl) hcells0
  have k1 := h1
  have lt1 : ∀ x ∈ p1, x.block < W.heap.size := by obtain ⟨m, hm⟩ := k1; exact DataW.trod_lt m _ _ _ hm
  obtain ⟨a1, rfl, e1, e1', g1⟩ := open_int Try.underlying3 (hval 1 3 v1 rfl rfl) h1
  clear hA0 hval0 hsz0
  have hk := P a0_0 a0_1 a0_2 a0_3 a1 g0_0 g0_1 g0_2 g0_3 g1
  refine (laws_FnExactBucketWait.calls (a0_0 := a0_0) (a0_1 := a0_1) (a0_2 := a0_2) (a0_3 := a0_3) (a1 := a1) (r := true) (w := W)  (h := hk)).mono fun e W' ⟨he, hd⟩ => ?_
  have bel : Below W.heap.size W W' := by first | exact hd | exact hd.below
  subst he
  exact ⟨_, rfl, _, _, _, [], _, [], hW', trodAll_mk1 (shut_bool Try.underlying4 _), (trodAll_cons_mk (Below.trod laidOut (by kernel_rfl) (of_decide_eq_true (by kernel_rfl)) k0 bel lt0) (trodAll_cons_mk (Below.trod laidOut (by kernel_rfl) (of_decide_eq_true (by kernel_rfl)) k1 bel lt1) trodAll_mk0)), rfl, bel.frame _, fun h => by cases h⟩
theorem over (P : Say) : Rows.fnExactBucketWaitRow.holds Try.pinned (OpenSpec.ofChange Rows.fnExactBucketWaitSpec) :=
  OpenClaim.holds_of_wide 6 Try.f6 rfl rfl rfl rfl rfl rfl rfl ⟨rfl, rfl, rfl, rfl, rfl⟩ rfl rfl rfl rfl rfl (by kernel_rfl) Try.func6 (by kernel_rfl)
    (of_decide_eq_true (by kernel_rfl)) (by unfold Func.isWrapper; first | (rw [if_pos (by decide +kernel)]; kernel_rfl) | (rw [if_neg (by decide +kernel)]; exact ⟨rfl, rfl⟩))
    (fun os started H enc _ => lifted P os started H enc)
/-- The row, out of the plain statement. -/
theorem row_of (P : Say) : Rows.FnExactBucketWaitSaid := over P
end Go.Proofs.Ytfjpfjofogbpgaa.fnExactBucketWait
