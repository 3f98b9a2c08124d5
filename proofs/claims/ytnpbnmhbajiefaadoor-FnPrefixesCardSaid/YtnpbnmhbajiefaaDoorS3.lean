/- spec.l01Hex, of the numbers below 65536. -/
import Derived.Test.YtnpbnmhbajiefaaDoorS2
import Derived.Deep.QuietTactic
import Derived.BigQuiet
import Derived.Laws.Runes
namespace Go.Proofs.YtnpbnmhbajiefaaDoor.PFnPrefixes
open Go.RowKit Go.Proofs.YtnpbnmhbajiefaaDoorW.PrintWords Go.Proofs.YtnpbnmhbajiefaaDoorW.PrintLast Go.Proofs.YtnpbnmhbajiefaaDoorW.PrintMore
set_option linter.unusedVariables false
set_option linter.unusedSimpArgs false
abbrev digh : ByteArray := ⟨#[48, 49, 50, 51, 52, 53, 54, 55, 56, 57, 97, 98, 99, 100, 101, 102]⟩
theorem digh_at (u : Nat) (hu : u < 16) (p : u < digh.size) : digh[u]'p = hexB u := by
  have h : ∀ i : Fin 16, digh.data[i.val]? = some (hexB i.val) := by decide
  have h1 := h ⟨u, hu⟩
  have p' : u < digh.data.size := p
  rw [Array.getElem?_eq_getElem p'] at h1
  exact Option.some.inj h1
theorem enc_hex (u : Nat) (hu : u < 16) : Utf8.encode ((hexB u).toNat : Int) = (⟨#[hexB u]⟩ : ByteArray) := by
  have h : ∀ i : Fin 16, Utf8.encode ((hexB i.val).toNat : Int) = (⟨#[hexB i.val]⟩ : ByteArray) := by decide
  exact h ⟨u, hu⟩
theorem hexL_len : ∀ (k n : Nat), n < 16 ^ (k + 1) → (hexL n).length ≤ k + 1
  | k, n, h => by
    by_cases hlt : n < 16
    · rw [hexL_small hlt]; simp
    · cases k with
      | zero => omega
      | succ k =>
        rw [hexL_step hlt, List.length_append]
        have := hexL_len k (n / 16) (by rw [Nat.pow_succ] at h; omega)
        simp only [List.length_singleton]
        omega
theorem conv_hex (u : Nat) (hu : u < 16) (w : World) : (convert 5 9 (.int .u8 ((hexB u).toNat : Int))).run Tryd.prog w = .ok (.string ⟨#[hexB u]⟩) w := by
  rw [run_convert_int_string w 5 9 .u8 _ (by rw [Tryd.underlying5]; rfl) Tryd.underlying9]
  have h : ∀ i : Fin 16, Utf8.encode ((hexB i.val).toNat : Int) = (⟨#[hexB i.val]⟩ : ByteArray) := by decide
  exact congrArg (fun x => Result.ok (Value.string x) w) (h ⟨u, hu⟩)
set_option maxHeartbeats 1000000 in
set_option maxRecDepth 100000 in
theorem hex_calls : ∀ (n : Nat), n < 65536 → ∀ (w : World), Calls Tryd.prog 47 #[.int .i64 n] w fun e w' => e = .returned (.string ⟨(hexL n).toArray⟩) ∧ Drawn0 w w' := by
  intro n
  induction n using Nat.strongRecOn with
  | _ n ih =>
  intro hn w
  by_cases hlt : n < 16
  · have c1 : (n : Int) < 16 := by omega
    have c2 : (0 : Int) ≤ (n : Int) := by omega
    have hdg := digh_at n hlt
    have hcv := conv_hex n hlt
    rw [hexL_small hlt]
    go_enter Tryd.func47, Tryd.ntmps47
    go_wp2_with (simp only [hdg])
    go_ret
    exact ⟨rfl, Drawn0.refl _⟩
  · have c1 : ¬ (n : Int) < 16 := by omega
    have c2 : (0 : Int) ≤ ((n % 16 : Nat) : Int) := by omega
    have hdg := digh_at (n % 16) (by omega)
    have hcv := conv_hex (n % 16) (by omega)
    have e1 : Int.tdiv (n : Int) 16 = ((n / 16 : Nat) : Int) := rfl
    have e2 : Int.tmod (n : Int) 16 = ((n % 16 : Nat) : Int) := rfl
    have IH : Aside0 (∀ w, Calls Tryd.prog 47 #[.int .i64 ((n : Int) / 16)] w fun e w' => e = .returned (.string ⟨(hexL (n / 16)).toArray⟩) ∧ Drawn0 w w') := ⟨fun w => by
      have h := ih (n / 16) (by omega) (by omega) w
      rwa [show (((n / 16 : Nat)) : Int) = (n : Int) / 16 by omega] at h⟩
    have hwr : IntKind.i64.wrap ((n : Int) / 16) = (n : Int) / 16 := wrap_small _ (by omega) (by omega)
    have hsz : ∀ (l : List UInt8), (⟨l.toArray⟩ : ByteArray) ++ (⟨#[hexB (n % 16)]⟩ : ByteArray) = ⟨(l ++ [hexB (n % 16)]).toArray⟩ := fun l => by
      apply ByteArray.ext; simp
    have cI : (0 : Int) ≤ (n : Int) % 16 ∧ (n : Int) % 16 < 16 := by omega
    have cI2 : (n : Int) % 16 < 16 := cI.2
    have cI1 : (0 : Int) ≤ (n : Int) % 16 := cI.1
    have hdg2 : ∀ p, digh[((n : Int) % 16).toNat]'p = hexB (n % 16) := by
      have e : ((n : Int) % 16).toNat = n % 16 := by omega
      simp only [e]
      exact hdg
    have henc := enc_hex (n % 16) (by omega)
    have hl : (hexL (n / 16)).length ≤ 4 := hexL_len 3 _ (by omega)
    have hl2 : ¬ (9223372036854775807 < (hexL (n / 16)).length + 1) := by omega
    have hl3 : (hexL (n / 16)).length + 1 ≤ 9223372036854775807 := by omega
    rw [hexL_step hlt]
    go_enter Tryd.func47, Tryd.ntmps47
    go_wp2
    go_quiet (first | (go_at_call 47; (try rw [hwr]); (with_reducible refine (IH.out _).mono ?_); rintro e w' ⟨rfl, ⟨nd, rfl⟩⟩; (try first | exact ⟨rfl, _, World.drewN_drewN _ _ _⟩ | exact ⟨rfl, _, Eq.trans (World.drewN_drewN _ _ _) (congrArg (World.drewN _) (Nat.add_assoc _ _ _))⟩)) | simp only [hdg])
    go_wp2
    go_ret
    exact ⟨rfl, ⟨_, rfl⟩⟩
def spec_l01Hex.f (k : Nat) (a0 : Int) : Option ByteArray := if 0 ≤ a0 ∧ a0 < 65536 then some ⟨(hexL a0.toNat).toArray⟩ else none
theorem spec_l01Hex.mono : ∀ a0 k, LeO (spec_l01Hex.f k a0) (spec_l01Hex.f (k + 1) a0) := fun _ _ => LeO.refl _
theorem spec_l01Hex.calls (k : Nat) (a0 : Int) (r : ByteArray) (w : World) (h : spec_l01Hex.f k a0 = some r) :
    Calls Tryd.prog 47 #[.int .i64 a0] w fun e w' => e = .returned (.string r) ∧ Drawn0 w w' := by
  unfold spec_l01Hex.f at h
  split at h
  · rename_i hs
    obtain ⟨n, rfl⟩ : ∃ n : Nat, a0 = n := ⟨a0.toNat, by omega⟩
    obtain rfl := Option.some.inj h
    rw [Int.toNat_natCast]
    exact hex_calls n (by omega) w
  · cases h
end Go.Proofs.YtnpbnmhbajiefaaDoor.PFnPrefixes
