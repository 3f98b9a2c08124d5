/- FnPrefixes: the statement over whole numbers and lists alone ('Say'), and the law's row and card out of it. -/
import Derived.Test.YtnpbnmhbajiefaaDoorRows
import Derived.Test.YtnpbnmhbajiefaaDoorCards
import Derived.Test.YtnpbnmhbajiefaaDoorTie
import Derived.Test.YtnpbnmhbajiefaaDoorGFnPrefixesx16
import Derived.Test.YtnpbnmhbajiefaaDoorOpen
import Derived.Deep.DeepHandedRow
import Derived.Deep.DeepWitnessRowRef
import Derived.Lib.LaidIn
import Derived.Stop.LaidErr
import Derived.SevenTiedAt
import Derived.WalkKit
import Derived.ProofKit
import Derived.OpenShut
import Derived.ShutString
import Derived.ChangeOld
import Derived.Below
import Derived.SizedLaws
import Derived.KernelRfl
import Derived.Lib.TrailingZeros
namespace Go.Proofs.YtnpbnmhbajiefaaDoor.fnPrefixes
open Go.ChangeShapes Go.WideShapes Go.ChangeAt Go.RowKit Go.Proofs.YtnpbnmhbajiefaaDoor.Open Go.Proofs.YtnpbnmhbajiefaaDoor.PFnPrefixes Go.Proofs.YtnpbnmhbajiefaaDoorW.PrintWords Go.Proofs.YtnpbnmhbajiefaaDoorW.PrintLast Go.Proofs.YtnpbnmhbajiefaaDoorW.PrintMore
open Go.ChangeMaps (open_string shut_string)
set_option linter.unusedVariables false
def Say : Prop := ∀ (l0 : List Int), (l0.length ≤ maxLen ∧ ∀ y ∈ l0, (Lit.int .u8 y).wf = true) → ∃ k, laws_FnPrefixes.f k l0 = some true
theorem own : ownKnob Tryd.prog.godebug = none := by kernel_rfl
theorem laidOut : laidOutB Tryd.prog = true := by kernel_rfl
abbrev sp : OpenSpec := OpenSpec.ofChange Rows.fnPrefixesSpec
/-- The witness: the settled world, the five tables holding what their initialisers lay. -/
noncomputable def laidWorld (os : Os) : World :=
  let w0 := World.holding Tryd.prog os ⟨#[], #[], []⟩
  let put (h : Array Obj) (g : Nat) (cs : Array Value) : Array Obj := h.modify g fun
    | .cells _ t frozen => .cells cs t frozen
    | o => o
  let lits (d : DataW Unit) : Array Value := match d with
    | .agg l => (l.flatMap fun x => match x with
      | .lit (.int k n) => [Value.int k n]
      | .agg m => m.map fun y => match y with
        | .lit (.int k n) => Value.int k n
        | _ => undef
      | _ => [undef]).toArray
    | _ => #[]
  { w0 with heap := put (put (put (put (put w0.heap 2 (lits Rows.laid_math_bits_deBruijn32tab)) 3 (lits Rows.laid_math_bits_deBruijn64tab)) 1 (lits Rows.laid_internal_strconv_uint64pow10)) 5 (lits Rows.laid_unicode_utf8_acceptRanges)) 4 (lits Rows.laid_unicode_utf8_first) }
set_option maxRecDepth 1000000 in
theorem laid_met (os : Os) (args : Array Value) : laidMet Tryd.prog Rows.fnPrefixesRow.laid ((laidWorld os).forCall (fun _ _ => 0) ⟨#[], args, []⟩).memory :=
  (LaidIn.of_run [2, 3, 1, 5, 4] 8 (by kernel_rfl) (by kernel_rfl) (by kernel_rfl) (by kernel_rfl) : LaidIn Tryd.prog ((laidWorld os).forCall (fun _ _ => 0) ⟨#[], args, []⟩).memory Rows.fnPrefixesRow.laid [2, 3, 1, 5, 4]).met
theorem witness_row (os : Os) {H : Type} (enc : TypeId × Value → H) :
    sp.preRow enc Tryd.prog Tryd.f3 Rows.fnPrefixesRow.domain false Rows.fnPrefixesRow.laid ((laidWorld os).forCall (fun _ _ => 0) ⟨#[], #[.slice none 0 0], []⟩).memory #[.slice none 0 0] := by
  have hw : (DataW.whole enc Tryd.prog ((laidWorld os).forCall (fun _ _ => 0) ⟨#[], #[.slice none 0 0], []⟩).memory Tryd.f3.params.toList sp.vars false #[Value.slice none 0 0].toList 8).map (fun x => (x.1, x.2.1)) =
      some ([.nil], []) := by kernel_rfl
  obtain ⟨⟨x1, x2, x3⟩, hx, hx1⟩ := Option.map_eq_some_iff.1 hw
  simp only [Prod.mk.injEq] at hx1
  obtain ⟨rfl, rfl⟩ := hx1
  exact OpenSpec.preRow_of_cond 8 hx (by kernel_rfl) (fun k hk => by cases hk) (by kernel_rfl) (laid_met os _)
theorem glob {W : World} (h : laidMetH Tryd.prog Rows.fnPrefixesRow.laid W) (hs : W.ShapedOpen Tryd.prog) : Glob W := by
  have hL : laidMet Tryd.prog Rows.fnPrefixesRow.laid W := h
  refine ⟨Shelf.split.s1_3 W hs, ?_, ?_⟩
  · exact Lib.tabIs_of_head (g := 1) (t := 94) (e := 82) (n := 20) (by kernel_rfl) (by kernel_rfl) Tryd.underlying94 Tryd.underlying82 (by kernel_rfl) (by kernel_rfl) (show laidMet Tryd.prog (("internal/strconv.uint64pow10", Lib.tabData .u64 Lib.pow10Tab) :: _) W from hL.tail.tail)
  · have hT := Lib.tabIs_of_head (zs := Lib.deBruijn64tab.map Int.ofNat) (g := 3) (t := 101) (e := 5) (n := 64) (by kernel_rfl) (by kernel_rfl) Tryd.underlying101 Tryd.underlying5 (by kernel_rfl) (by kernel_rfl) (show laidMet Tryd.prog (("math/bits.deBruijn64tab", Lib.tabData .u8 (Lib.deBruijn64tab.map Int.ofNat)) :: _) W from hL.tail)
    exact hT.cell (by kernel_rfl) 15 (by decide)
set_option maxRecDepth 100000 in
set_option maxHeartbeats 1000000 in
theorem lifted (P : Say) (os : Os) (started : os.Started) (H : Type) (enc : TypeId × Value → H) (F : Stop.Interp) :
    ReturnsInHanded {} Tryd.checked os 3 .any (sp.preRow enc Tryd.prog Tryd.f3 Rows.fnPrefixesRow.domain false Rows.fnPrefixesRow.laid) ((sp.at F).post enc Tryd.prog Tryd.f3 false true false false) := by
  refine returnsInHanded_of_row (C := Tryd.checked) (s := sp) own started (by kernel_rfl) Tryd.func3
    (witness_row_atRef (enc := enc) (C := Tryd.checked) false (laidWorld os) #[.slice none 0 0] rfl (by kernel_rfl) (by kernel_rfl) (by kernel_rfl) (witness_row os enc)) ?_
  intro W base args ds gs before hval0 hW hcnd _ hsz0 hL hsh _
  have hval : ∀ (j : Nat) t v, Tryd.f3.params[j]? = some t → args[j]? = some v → Value.okWide Tryd.prog W .any base t v := hval0
  have hW' := hW
  obtain ⟨p, q, hA0, hV, rfl, hfz, hnd⟩ := hW
  have hA : DataW.TrodAll enc Tryd.prog W 0 (fun _ => true) true Tryd.f3.params.toList args.toList ds p := hA0
  rw [Tryd.params3] at hA hval
  obtain ⟨v0, vs0, d0, ds0, p0, q0, hargs, rfl, rfl, h0, r0⟩ := trodAll_cons hA
  obtain ⟨rfl, rfl, rfl⟩ := trodAll_nil r0
  obtain rfl : args = #[v0] := by cases args; simp_all
  obtain ⟨rfl, rfl⟩ := trodVars_none hV
  have k0 := h0
  have lt0 : ∀ x ∈ p0, x.block < W.heap.size := by obtain ⟨m, hm⟩ := k0; exact DataW.trod_lt m _ _ _ hm
  obtain ⟨l0, ⟨A0, c0, hs0, hc0, hr0⟩, g0⟩ := Opens.arg (Opens.slice Tryd.underlying22 (by kernel_rfl) (Opens.int Tryd.underlying5)) h0
  obtain rfl := slice_of Tryd.underlying22 (hval 0 22 v0 rfl rfl) hs0
  have hG := glob hL hsh
  clear hA0 hval0 hsz0
  obtain ⟨k, hk⟩ := P l0 g0
  refine (laws_FnPrefixes.calls (k := k) (l0 := l0) (r := true) (w := W) (hr0 := hr0) (hc0 := hc0) (h := hk) (hG := hG)).mono fun e W' ⟨he, hd⟩ => ?_
  have bel : Below W.heap.size W W' := by first | exact hd | exact hd.below
  subst he
  exact ⟨_, rfl, _, _, _, [], _, [], hW', trodAll_mk1 (shut_bool Tryd.underlying4 _), (trodAll_cons_mk (Below.trod laidOut (by kernel_rfl) (of_decide_eq_true (by kernel_rfl)) k0 bel lt0) trodAll_mk0), rfl, bel.frame _, fun h => by cases h⟩
theorem over (P : Say) : Rows.FnPrefixesSaid :=
  OpenClaim.holds_of_cond 3 Tryd.f3 rfl rfl rfl rfl rfl rfl rfl ⟨rfl, rfl, rfl, rfl, rfl⟩ rfl rfl rfl rfl rfl (by kernel_rfl) Tryd.func3 (by kernel_rfl)
    (of_decide_eq_true (by kernel_rfl)) (by unfold Func.isWrapper; first | (rw [if_pos (by decide +kernel)]; kernel_rfl) | (rw [if_neg (by decide +kernel)]; exact ⟨rfl, rfl⟩))
    (fun os started H enc _ F0 => by rw [OpenClaim.pre_eq_preRow]; exact lifted P os started H enc F0)
/-- The tied card, out of the plain statement. -/
theorem card_of (P : Say) : Rows.FnPrefixesCardSaid :=
  Claim7.holds_tied_plain_at .later [] [.data, .data, .data, .data, .pinned] true (true, "83944af2f21b66013e6d2feef92c571cc387a6c25d6436d68ac8845c6829e021") false
    (over P) (fun _ h => by cases h) (by kernel_rfl) (fun _ h => by cases h) fnPrefixes_row_tie rfl ⟨rfl, rfl⟩ (by kernel_rfl) rfl
    (fun f fn hf hfn => by
      obtain rfl : f = 3 := Option.some.inj ((show Tryd.prog.funcNamed "loop.example/g00202/laws.FnPrefixes" = some 3 by kernel_rfl).symm.trans hf) |>.symm
      obtain rfl : fn = Tryd.f3 := (Option.some.inj (Tryd.func3.symm.trans hfn)).symm
      exact ⟨by kernel_rfl, fun j t ht => by
        rw [Tryd.params3] at ht
        have h3 : t = 22 := by
          rcases j with _ | j
          · simpa using ht.symm
          · simp at ht
        subst h3
        exact (show Tryd.prog.wantsStandIn 22 = false by kernel_rfl)⟩)
    (by kernel_rfl)
end Go.Proofs.YtnpbnmhbajiefaaDoor.fnPrefixes
