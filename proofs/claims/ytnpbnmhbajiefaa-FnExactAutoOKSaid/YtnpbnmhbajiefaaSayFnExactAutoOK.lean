/- FnExactAutoOK: the statement over whole numbers and lists alone ('Say'), and the law's row out of it. -/
import Derived.Test.YtnpbnmhbajiefaaRows
import Derived.Test.YtnpbnmhbajiefaaGFnExactAutoOKx6
import Derived.Test.YtnpbnmhbajiefaaOpen
import Derived.WalkKit
import Derived.ProofKit
import Derived.OpenShut
import Derived.ShutString
import Derived.ChangeOld
import Derived.Below
import Derived.SizedLaws
import Derived.KernelRfl
namespace Go.Proofs.Ytnpbnmhbajiefaa.fnExactAutoOK
open Go.ChangeShapes Go.WideShapes Go.ChangeAt Go.RowKit Go.Proofs.Ytnpbnmhbajiefaa.Open Go.Proofs.Ytnpbnmhbajiefaa.PFnExactAutoOK Go.Proofs.YtnpbnmhbajiefaaW.PrintWords Go.Proofs.YtnpbnmhbajiefaaW.PrintLast Go.Proofs.YtnpbnmhbajiefaaW.PrintMore
open Go.ChangeMaps (open_string shut_string)
set_option linter.unusedVariables false
def Say : Prop := ∀ (a0_0 : ByteArray) (l0_1 : List S86) (l0_2 : List ByteArray), a0_0.size ≤ maxLen → (l0_1.length ≤ maxLen ∧ ∀ y ∈ l0_1, (y.f0.size ≤ maxLen ∧ (Lit.int .i64 y.f1).wf = true ∧ (Lit.int .i64 y.f2).wf = true ∧ (Lit.int .i64 y.f3).wf = true ∧ (Lit.int .i64 y.f4).wf = true)) → (l0_2.length ≤ maxLen ∧ ∀ y ∈ l0_2, y.size ≤ maxLen) → ∃ k, laws_FnExactAutoOK.f k a0_0 l0_1 l0_2 = some true
theorem own : ownKnob Try.prog.godebug = none := by kernel_rfl
theorem laidOut : laidOutB Try.prog = true := by kernel_rfl
set_option maxRecDepth 100000 in
set_option maxHeartbeats 1000000 in
theorem lifted (P : Say) (os : Os) (started : os.Started) (H : Type) (enc : TypeId × Value → H) :
    ReturnsInHanded {} Try.checked os 4 .any (Rows.fnExactAutoOKSpec.pre6 enc Try.prog Try.f4 Rows.fnExactAutoOKRow.domain false) (Rows.fnExactAutoOKSpec.post enc Try.prog Try.f4 false true false false) := by
  refine returnsInHanded_of_change_sized (C := Try.checked) own started (by kernel_rfl) Try.func4
    (ChangeSpec.witness6 (enc := enc) (C := Try.checked) false ⟨#[], #[.agg #[.string ⟨#[]⟩, .slice none 0 0, .slice none 0 0]], []⟩ 8 (by kernel_rfl) (by kernel_rfl) (by kernel_rfl) (by kernel_rfl)) ?_
  intro W base args ds gs before hval0 hW hcnd hsz0 _
  have hval : ∀ (j : Nat) t v, Try.f4.params[j]? = some t → args[j]? = some v → Value.okWide Try.prog W .any base t v := hval0
  have hW' := hW
  obtain ⟨p, q, hA0, hV, rfl, hfz, hnd⟩ := hW
  have hA : DataW.TrodAll enc Try.prog W 0 (fun _ => true) true Try.f4.params.toList args.toList ds p := hA0
  rw [Try.params4] at hA hval
  obtain ⟨v0, vs0, d0, ds0, p0, q0, hargs, rfl, rfl, h0, r0⟩ := trodAll_cons hA
  obtain ⟨rfl, rfl, rfl⟩ := trodAll_nil r0
  obtain rfl : args = #[v0] := by cases args; simp_all
  obtain ⟨rfl, rfl⟩ := trodVars_none hV
  have k0 := h0
  have lt0 : ∀ x ∈ p0, x.block < W.heap.size := by obtain ⟨m, hm⟩ := k0; exact DataW.trod_lt m _ _ _ hm
  obtain ⟨⟨a0_0, l0_1, l0_2⟩, hK0, ⟨g0_0, g0_1, g0_2⟩⟩ := Opens.arg (Opens.struct Try.underlying43 (by kernel_rfl) (OpensF.cons (Opens.string Try.underlying9) rfl (by kernel_rfl) (OpensF.cons (Opens.slice Try.underlying41 (by kernel_rfl) (Opens.iso (Opens.struct Try.underlying86 (by kernel_rfl) (OpensF.cons (Opens.string Try.underlying9) rfl (by kernel_rfl) (OpensF.cons (Opens.int Try.underlying3) rfl (by kernel_rfl) (OpensF.cons (Opens.int Try.underlying3) rfl (by kernel_rfl) (OpensF.cons (Opens.int Try.underlying3) rfl (by kernel_rfl) (OpensF.last (Opens.int Try.underlying3) rfl (by kernel_rfl))))))) (fun x : S86 => (x.f0, x.f1, x.f2, x.f3, x.f4)) (fun p => ⟨p.1, p.2.1, p.2.2.1, p.2.2.2.1, p.2.2.2.2⟩) (fun _ => rfl))) rfl (by kernel_rfl) (OpensF.last (Opens.slice Try.underlying25 (by kernel_rfl) (Opens.string Try.underlying9)) rfl (by kernel_rfl))))) h0
  obtain ⟨x0_0, y0_0, z0_0, b0_0, t0_0⟩ := hK0
  have u0_0 := b0_0
  obtain ⟨x0_1, y0_1, z0_1, b0_1, t0_1⟩ := t0_0
  obtain ⟨A0_1, c0_1, u0_1, hc0_1, hr0_1⟩ := b0_1
  obtain ⟨A0_2, c0_2, u0_2, hc0_2, hr0_2⟩ := t0_1
  have hcells0 : v0.cells.toList = [.string a0_0, .slice A0_1 l0_1.length c0_1, .slice A0_2 l0_2.length c0_2] := by
    have u0_0' : x0_0 = [.string a0_0] := u0_0
    have u0_1' : x0_1 = [.slice A0_1 l0_1.length c0_1] := u0_1
    have u0_2' : y0_1 = [.slice A0_2 l0_2.length c0_2] := u0_2
    rw [z0_0, u0_0', z0_1, u0_1', u0_2']
    rfl
  obtain rfl := agg_of Try.underlying43 (hval 0 43 v0 rfl rfl) hcells0
  clear hA0 hval0 hsz0
  obtain ⟨k, hk⟩ := P a0_0 l0_1 l0_2 g0_0 g0_1 g0_2
  refine (laws_FnExactAutoOK.calls (k := k) (a0_0 := a0_0) (l0_1 := l0_1) (l0_2 := l0_2) (r := true) (w := W) (hr0_1 := hr0_1) (hc0_1 := hc0_1) (hr0_2 := hr0_2) (hc0_2 := hc0_2) (h := hk)).mono fun e W' ⟨he, hd⟩ => ?_
  have bel : Below W.heap.size W W' := by first | exact hd | exact hd.below
  subst he
  exact ⟨_, rfl, _, _, _, [], _, [], hW', trodAll_mk1 (shut_bool Try.underlying4 _), (trodAll_cons_mk (Below.trod laidOut (by kernel_rfl) (of_decide_eq_true (by kernel_rfl)) k0 bel lt0) trodAll_mk0), rfl, bel.frame _, fun h => by cases h⟩
theorem over (P : Say) : Rows.fnExactAutoOKRow.holds Try.pinned (OpenSpec.ofChange Rows.fnExactAutoOKSpec) :=
  OpenClaim.holds_of_wide 4 Try.f4 rfl rfl rfl rfl rfl rfl rfl ⟨rfl, rfl, rfl, rfl, rfl⟩ rfl rfl rfl rfl rfl (by kernel_rfl) Try.func4 (by kernel_rfl)
    (of_decide_eq_true (by kernel_rfl)) (by unfold Func.isWrapper; first | (rw [if_pos (by decide +kernel)]; kernel_rfl) | (rw [if_neg (by decide +kernel)]; exact ⟨rfl, rfl⟩))
    (fun os started H enc _ => lifted P os started H enc)
/-- The row, out of the plain statement. -/
theorem row_of (P : Say) : Rows.FnExactAutoOKSaid := over P
end Go.Proofs.Ytnpbnmhbajiefaa.fnExactAutoOK
