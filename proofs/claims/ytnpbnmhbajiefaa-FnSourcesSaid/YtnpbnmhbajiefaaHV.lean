/- spec.AutoRun as the tool's texts want it, over the walk by hand. -/
import Derived.Test.YtnpbnmhbajiefaaHR
namespace Go.Proofs.Ytnpbnmhbajiefaa.PFnSources
open Go.RowKit Go.Proofs.YtnpbnmhbajiefaaW.PrintWords Go.Proofs.YtnpbnmhbajiefaaW.PrintLast Go.Proofs.YtnpbnmhbajiefaaW.PrintMore
set_option linter.unusedVariables false
def spec_AutoRun.f (k : Nat) (a0 : ByteArray) (l1 : List S58) : Option (ByteArray × List S39 × List ByteArray × List S54 × Int) :=
 if a0.size = 6 ∧ l1.length ≤ 300 then some (a0, (runA a0 l1).1, (runA a0 l1).2, [], 0) else none
theorem spec_AutoRun.calls (k : Nat) (a0 : ByteArray) (A1 : Option Addr) (c1 : Nat) (l1 : List S58) (r1 : ByteArray) (r2 : List S39) (r3 : List ByteArray) (r4 : List S54) (r5 : Int) (w : World) (hr1 : Kd.C k58 w A1 l1.length l1) (hc1 : l1.length ≤ c1)
  (h : spec_AutoRun.f k a0 l1 = some (r1, r2, r3, r4, r5)) :
  Calls Try.prog 6 #[.string a0, .slice A1 l1.length c1] w fun e w' => ∃ v1_ v2_ v3_ : Value, e = .returned (.tuple #[.agg #[.string r1, v1_, v2_], v3_, .int .i64 r5]) ∧ Kd.R k39 39 w' w.heap.size (fun _ => True) v1_ r2 ∧ Kd.R Kd.string 9 w' w.heap.size (fun _ => True) v2_ r3 ∧ True ∧ Below w.heap.size w w' := by
 unfold spec_AutoRun.f at h
 by_cases c : a0.size = 6 ∧ l1.length ≤ 300
 ·
  rw [if_pos c] at h
  simp only [Option.some.injEq, Prod.mk.injEq] at h
  obtain ⟨rfl, rfl, rfl, rfl, rfl⟩ := h
  exact run_calls a0 A1 c1 l1 w c.1 c.2 hr1 hc1
 ·
  rw [if_neg c] at h; cases h
end Go.Proofs.Ytnpbnmhbajiefaa.PFnSources
