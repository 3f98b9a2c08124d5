/- FnExactTcpStep: the statement over whole numbers and lists alone ('Say'), and the law's row out of it. -/
import Derived.Test.YtacjjlnjmmfmnaaRows
import Derived.Test.YtacjjlnjmmfmnaaGFnExactTcpStepx5
import Derived.Test.YtacjjlnjmmfmnaaOpen
import Derived.WalkKit
import Derived.ProofKit
import Derived.OpenShut
import Derived.ShutString
import Derived.ChangeOld
import Derived.Below
import Derived.SizedLaws
import Derived.KernelRfl
namespace Go.Proofs.Ytacjjlnjmmfmnaa.fnExactTcpStep
open Go.ChangeShapes Go.WideShapes Go.ChangeAt Go.RowKit Go.Proofs.Ytacjjlnjmmfmnaa.Open Go.Proofs.Ytacjjlnjmmfmnaa.PFnExactTcpStep Go.Proofs.YtacjjlnjmmfmnaaW.PrintWords Go.Proofs.YtacjjlnjmmfmnaaW.PrintLast Go.Proofs.YtacjjlnjmmfmnaaW.PrintMore
open Go.ChangeMaps (open_string shut_string)
set_option linter.unusedVariables false
def Say : Prop := ∀ (a0 : Int) (a1_0 : Int) (a1_1 : Int), (Lit.int .i64 a0).wf = true → (Lit.int .i64 a1_0).wf = true → (Lit.int .i64 a1_1).wf = true → ∃ k, laws_FnExactTcpStep.f k a0 a1_0 a1_1 = some true
theorem own : ownKnob Try.prog.godebug = none := by kernel_rfl
theorem laidOut : laidOutB Try.prog = true := by kernel_rfl
set_option maxRecDepth 100000 in
set_option maxHeartbeats 1000000 in
theorem lifted (P : Say) (os : Os) (started : os.Started) (H : Type) (enc : TypeId × Value → H) :
    ReturnsInHanded {} Try.checked os 4 .any (Rows.fnExactTcpStepSpec.pre6 enc Try.prog Try.f4 Rows.fnExactTcpStepRow.domain false) (Rows.fnExactTcpStepSpec.post enc Try.prog Try.f4 false true false false) := by
  refine returnsInHanded_of_change_sized (C := Try.checked) own started (by kernel_rfl) Try.func4
    (ChangeSpec.witness6 (enc := enc) (C := Try.checked) false ⟨#[], #[.int .i64 0, .agg #[.int .i64 0, .int .i64 0]], []⟩ 8 (by kernel_rfl) (by kernel_rfl) (by kernel_rfl) (by kernel_rfl)) ?_
  intro W base args ds gs before hval0 hW hcnd hsz0 _
  have hval : ∀ (j : Nat) t v, Try.f4.params[j]? = some t → args[j]? = some v → Value.okWide Try.prog W .any base t v := hval0
  have hW' := hW
  obtain ⟨p, q, hA0, hV, rfl, hfz, hnd⟩ := hW
  have hA : DataW.TrodAll enc Try.prog W 0 (fun _ => true) true Try.f4.params.toList args.toList ds p := hA0
  rw [Try.params4] at hA hval
  obtain ⟨v0, vs0, d0, ds0, p0, q0, hargs, rfl, rfl, h0, r0⟩ := trodAll_cons hA
  obtain ⟨v1, vs1, d1, ds1, p1, q1, rfl, rfl, rfl, h1, r1⟩ := trodAll_cons r0
  obtain ⟨rfl, rfl, rfl⟩ := trodAll_nil r1
  obtain rfl : args = #[v0, v1] := by cases args; simp_all
  obtain ⟨rfl, rfl⟩ := trodVars_none hV
  have k0 := h0
  have lt0 : ∀ x ∈ p0, x.block < W.heap.size := by obtain ⟨m, hm⟩ := k0; exact DataW.trod_lt m _ _ _ hm
  obtain ⟨a0, rfl, e0, e0', g0⟩ := open_int Try.underlying3 (hval 0 3 v0 rfl rfl) h0
  have k1 := h1
  have lt1 : ∀ x ∈ p1, x.block < W.heap.size := by obtain ⟨m, hm⟩ := k1; exact DataW.trod_lt m _ _ _ hm
  obtain ⟨⟨a1_0, a1_1⟩, hK1, ⟨g1_0, g1_1⟩⟩ := Opens.arg (Opens.struct Try.underlying26 (by kernel_rfl) (OpensF.cons (Opens.int Try.underlying3) rfl (by kernel_rfl) (OpensF.last (Opens.int Try.underlying3) rfl (by kernel_rfl)))) h1
  obtain ⟨x1_0, y1_0, z1_0, b1_0, t1_0⟩ := hK1
  have u1_0 := b1_0
  have u1_1 := t1_0
  have hcells1 : v1.cells.toList = [.int .i64 a1_0, .int .i64 a1_1] := by
    have u1_0' : x1_0 = [.int .i64 a1_0] := u1_0
    have u1_1' : y1_0 = [.int .i64 a1_1] := u1_1
    rw [z1_0, u1_0', u1_1']
    rfl
  obtain rfl := agg_of Try.underlying26 (hval 1 26 v1 rfl rfl) hcells1
  clear hA0 hval0 hsz0
  obtain ⟨k, hk⟩ := P a0 a1_0 a1_1 g0 g1_0 g1_1
  refine (laws_FnExactTcpStep.calls (k := k) (a0 := a0) (a1_0 := a1_0) (a1_1 := a1_1) (r := true) (w := W)  (h := hk)).mono fun e W' ⟨he, hd⟩ => ?_
  have bel : Below W.heap.size W W' := by first | exact hd | exact hd.below
  subst he
  exact ⟨_, rfl, _, _, _, [], _, [], hW', trodAll_mk1 (shut_bool Try.underlying4 _), (trodAll_cons_mk (Below.trod laidOut (by kernel_rfl) (of_decide_eq_true (by kernel_rfl)) k0 bel lt0) (trodAll_cons_mk (Below.trod laidOut (by kernel_rfl) (of_decide_eq_true (by kernel_rfl)) k1 bel lt1) trodAll_mk0)), rfl, bel.frame _, fun h => by cases h⟩
theorem over (P : Say) : Rows.fnExactTcpStepRow.holds Try.pinned (OpenSpec.ofChange Rows.fnExactTcpStepSpec) :=
  OpenClaim.holds_of_wide 4 Try.f4 rfl rfl rfl rfl rfl rfl rfl ⟨rfl, rfl, rfl, rfl, rfl⟩ rfl rfl rfl rfl rfl (by kernel_rfl) Try.func4 (by kernel_rfl)
    (of_decide_eq_true (by kernel_rfl)) (by unfold Func.isWrapper; first | (rw [if_pos (by decide +kernel)]; kernel_rfl) | (rw [if_neg (by decide +kernel)]; exact ⟨rfl, rfl⟩))
    (fun os started H enc _ => lifted P os started H enc)
/-- The row, out of the plain statement. -/
theorem row_of (P : Say) : Rows.FnExactTcpStepSaid := over P
end Go.Proofs.Ytacjjlnjmmfmnaa.fnExactTcpStep
