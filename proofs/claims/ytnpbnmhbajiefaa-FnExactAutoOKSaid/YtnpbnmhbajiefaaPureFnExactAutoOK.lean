/- The law FnExactAutoOK holds. -/
import Derived.Test.YtnpbnmhbajiefaaAid
import Derived.Test.YtnpbnmhbajiefaaSayFnExactAutoOK
namespace Go.Proofs.Ytnpbnmhbajiefaa.Pure
set_option linter.unusedSimpArgs false
set_option linter.unusedVariables false
open Go.RowKit Go.Proofs.Ytnpbnmhbajiefaa.PFnExactAutoOK Go.Proofs.YtnpbnmhbajiefaaW.PrintWords Go.Proofs.YtnpbnmhbajiefaaW.PrintLast Go.Proofs.YtnpbnmhbajiefaaW.PrintMore Go.Proofs.Ytnpbnmhbajiefaa.Aid
theorem inR (a b c : Int) : impl_inRange.f a b c = some (decide (b ≤ a ∧ a ≤ c)) := by
  unfold impl_inRange.f
  by_cases h : a ≥ b
  · rw [if_pos h]; simp [show b ≤ a from h]
  · rw [if_neg h]; simp; omega
theorem inS (a b c : Int) : spec_l01In.f a b c = some (decide (b ≤ a ∧ a ≤ c)) := by
  unfold spec_l01In.f
  by_cases h : a ≥ b
  · rw [if_pos h]; simp [show b ≤ a from h]
  · rw [if_neg h]; simp; omega
theorem ww (i : Nat) (h : i < 4000000000000000000) : wrap64 ((i : Int) + 1) = ((i + 1 : Nat) : Int) := by rw [w64 (by omega) (by omega)]; simp
theorem set_mid {α : Type} (A R : List α) (z v : α) : (A ++ z :: R).set A.length v = A ++ v :: R := by
  simp [List.set_append]
def cv (x : S86) : S39 := ⟨x.f0, x.f1, x.f2, x.f3, x.f4⟩
theorem rd39 {l : List S39} {i : Nat} (h : i < l.length) : rd_T39 l (i : Int) = l[i] := by simp [rd_T39, List.getD_eq_getElem?_getD, h]
theorem rd86 {l : List S86} {i : Nat} (h : i < l.length) : rd_T86 l (i : Int) = l[i] := by simp [rd_T86, List.getD_eq_getElem?_getD, h]
theorem rdB {l : List ByteArray} {i : Nat} (h : i < l.length) : rdOf ByteArray.empty l (i : Int) = l[i] := by simp [rdOf, List.getD_eq_getElem?_getD, h]
theorem szA_l0 (l : List S86) (hl : l.length ≤ 2000000) (hm : ∀ y ∈ l, y.f0.size ≤ 9223372036854775807) (d : Nat) : ∀ (k i : Nat) (q : Int), l.length = i + d → d < k → 0 ≤ q → q ≤ 1048576 → ∃ v, laws_szAutoAddrS.l0 k l q (i : Int) = some v ∧ v ≤ 1048576 := by
  induction d with
  | zero =>
    intro k i q hi hk _ _
    obtain ⟨k, rfl⟩ : ∃ m, k = m + 1 := ⟨k - 1, by omega⟩
    exact ⟨q, by rw [laws_szAutoAddrS.l0, if_neg (by omega)], by omega⟩
  | succ d ih =>
    intro k i q hi hk h0 h1
    obtain ⟨k, rfl⟩ : ∃ m, k = m + 1 := ⟨k - 1, by omega⟩
    have hx := hm l[i] (by simp)
    rw [laws_szAutoAddrS.l0, if_pos (by omega), if_pos (by omega), rd86 (by omega), ww i (by omega)]
    simp only [laws_szAutoAddr.f]
    rw [w64 (x := q - (l[i].f0.size : Int)) (by omega) (by omega)]
    by_cases c : q - (l[i].f0.size : Int) < 0
    · exact ⟨-1, by rw [if_pos c]; rfl, by omega⟩
    · obtain ⟨v, hv, hv2⟩ := ih k (i + 1) (q - (l[i].f0.size : Int)) (by omega) (by omega) (by omega) (by omega)
      exact ⟨v, by rw [if_neg c, Option.bind_some, if_neg c, hv], hv2⟩
theorem szA (l : List S86) (q : Int) (q0 : 0 ≤ q) (q1 : q ≤ 1048576) (hl : l.length ≤ 9223372036854775807) (hm : ∀ y ∈ l, y.f0.size ≤ 9223372036854775807) (k : Nat) (hk : 1100000 < k) : ∃ v, laws_szAutoAddrS.f k l q = some v ∧ v ≤ 1048576 ∧ (l.length ≤ 1048576 ∨ v < 0) := by
  unfold laws_szAutoAddrS.f
  rw [w64 (x := q - (l.length : Int)) (by omega) (by omega)]
  by_cases c : q - (l.length : Int) < 0
  · exact ⟨-1, by rw [if_pos c], by omega, Or.inr (by omega)⟩
  · rw [if_neg c]
    obtain ⟨v, hv, hv2⟩ := szA_l0 l (by omega) hm l.length k 0 (q - (l.length : Int)) (by omega) (by omega) (by omega) (by omega)
    exact ⟨v, hv, hv2, Or.inl (by omega)⟩
theorem szS_l0 (l : List ByteArray) (hl : l.length ≤ 2000000) (hm : ∀ y ∈ l, y.size ≤ 9223372036854775807) (d : Nat) : ∀ (k i : Nat) (q : Int), l.length = i + d → d < k → 0 ≤ q → q ≤ 1048576 → ∃ v, laws_szStringS.l0 k l q (i : Int) = some v := by
  induction d with
  | zero =>
    intro k i q hi hk _ _
    obtain ⟨k, rfl⟩ : ∃ m, k = m + 1 := ⟨k - 1, by omega⟩
    exact ⟨q, by rw [laws_szStringS.l0, if_neg (by omega)]⟩
  | succ d ih =>
    intro k i q hi hk h0 h1
    obtain ⟨k, rfl⟩ : ∃ m, k = m + 1 := ⟨k - 1, by omega⟩
    have hx := hm l[i] (by simp)
    rw [laws_szStringS.l0, if_pos (by omega), if_pos (by omega), rdB (by omega), ww i (by omega), w64 (x := q - (l[i].size : Int)) (by omega) (by omega)]
    by_cases c : q - (l[i].size : Int) < 0
    · exact ⟨-1, by rw [if_pos c]⟩
    · obtain ⟨v, hv⟩ := ih k (i + 1) (q - (l[i].size : Int)) (by omega) (by omega) (by omega) (by omega)
      exact ⟨v, by rw [if_neg c, hv]⟩
theorem szS (l : List ByteArray) (q : Int) (q0 : 0 ≤ q) (q1 : q ≤ 1048576) (hl : l.length ≤ 9223372036854775807) (hm : ∀ y ∈ l, y.size ≤ 9223372036854775807) (k : Nat) (hk : 1100000 < k) : ∃ v, laws_szStringS.f k l q = some v ∧ (l.length ≤ 1048576 ∨ v < 0) := by
  unfold laws_szStringS.f
  rw [w64 (x := q - (l.length : Int)) (by omega) (by omega)]
  by_cases c : q - (l.length : Int) < 0
  · exact ⟨-1, by rw [if_pos c], Or.inr (by omega)⟩
  · rw [if_neg c]
    obtain ⟨v, hv⟩ := szS_l0 l (by omega) hm l.length k 0 (q - (l.length : Int)) (by omega) (by omega) (by omega) (by omega)
    exact ⟨v, hv, Or.inl (by omega)⟩
theorem toA_l0 (l : List S86) (hl : l.length ≤ 1048576) (d : Nat) : ∀ (k i : Nat), l.length = i + d → d < k → laws_toAutoAddrS.l0 k l ((l.take i).map cv ++ List.replicate d z39) (i : Int) = some (l.map cv) := by
  induction d with
  | zero =>
    intro k i hi hk
    obtain ⟨k, rfl⟩ : ∃ m, k = m + 1 := ⟨k - 1, by omega⟩
    simp only [laws_toAutoAddrS.l0]
    rw [if_neg (by omega), List.take_of_length_le (by omega)]
    simp
  | succ d ih =>
    intro k i hi hk
    obtain ⟨k, rfl⟩ : ∃ m, k = m + 1 := ⟨k - 1, by omega⟩
    simp only [laws_toAutoAddrS.l0, laws_toAutoAddr.f, Option.bind_some]
    rw [if_pos (by omega), if_pos (by omega), if_pos (by simp; omega), ww i (by omega), rd86 (by omega)]
    have e : (((l.take i).map cv ++ List.replicate (d + 1) z39).set ((i : Int).toNat) (⟨l[i].f0, l[i].f1, l[i].f2, l[i].f3, l[i].f4⟩ : S39)) = (l.take (i + 1)).map cv ++ List.replicate d z39 := by
      rw [Int.toNat_natCast, List.replicate_succ]
      have := set_mid ((l.take i).map cv) (List.replicate d z39) z39 (cv l[i])
      rw [show ((l.take i).map cv).length = i by simp; omega] at this
      rw [List.take_succ_eq_append_getElem (by omega)]
      simp only [List.map_append, List.map_cons, List.map_nil, List.append_assoc, List.singleton_append]
      exact this
    rw [e]
    exact ih k (i + 1) (by omega) (by omega)
theorem toA_ok (l : List S86) (hl : l.length ≤ 1048576) (k : Nat) (hk : l.length < k) : laws_toAutoAddrS.f k l = some (l.map cv) := by
  unfold laws_toAutoAddrS.f
  rw [if_pos (by omega), if_pos (by omega)]
  have := toA_l0 l hl l.length k 0 (by omega) hk
  simpa using this
theorem toS_l0 (l : List ByteArray) (hl : l.length ≤ 1048576) (d : Nat) : ∀ (k i : Nat), l.length = i + d → d < k → laws_toStringS.l0 k l (l.take i ++ List.replicate d (⟨#[]⟩ : ByteArray)) (i : Int) = some l := by
  induction d with
  | zero =>
    intro k i hi hk
    obtain ⟨k, rfl⟩ : ∃ m, k = m + 1 := ⟨k - 1, by omega⟩
    simp only [laws_toStringS.l0]
    rw [if_neg (by omega), List.take_of_length_le (by omega)]
    simp
  | succ d ih =>
    intro k i hi hk
    obtain ⟨k, rfl⟩ : ∃ m, k = m + 1 := ⟨k - 1, by omega⟩
    simp only [laws_toStringS.l0]
    rw [if_pos (by omega), if_pos (by omega), if_pos (by simp; omega), ww i (by omega), rdB (by omega)]
    have e : ((l.take i ++ List.replicate (d + 1) (⟨#[]⟩ : ByteArray)).set ((i : Int).toNat) l[i]) = l.take (i + 1) ++ List.replicate d (⟨#[]⟩ : ByteArray) := by
      rw [Int.toNat_natCast, List.replicate_succ]
      have := set_mid (l.take i) (List.replicate d (⟨#[]⟩ : ByteArray)) (⟨#[]⟩ : ByteArray) l[i]
      rw [show (l.take i).length = i by simp; omega] at this
      rw [List.take_succ_eq_append_getElem (by omega)]
      simp only [List.append_assoc, List.singleton_append]
      exact this
    rw [e]
    exact ih k (i + 1) (by omega) (by omega)
theorem toS_ok (l : List ByteArray) (hl : l.length ≤ 1048576) (k : Nat) (hk : l.length < k) : laws_toStringS.f k l = some l := by
  unfold laws_toStringS.f
  rw [if_pos (by omega), if_pos (by omega)]
  have := toS_l0 l hl l.length k 0 (by omega) hk
  simpa using this
theorem eqA_l0 (l : List S39) (hl : l.length ≤ 2000000) (d : Nat) : ∀ (k i : Nat), l.length = i + d → d < k → laws_eqAutoAddrS.l0 k l l (i : Int) = some true := by
  induction d with
  | zero =>
    intro k i hi hk
    obtain ⟨k, rfl⟩ : ∃ m, k = m + 1 := ⟨k - 1, by omega⟩
    simp only [laws_eqAutoAddrS.l0]
    rw [if_neg (by omega)]
  | succ d ih =>
    intro k i hi hk
    obtain ⟨k, rfl⟩ : ∃ m, k = m + 1 := ⟨k - 1, by omega⟩
    simp only [laws_eqAutoAddrS.l0, laws_eqAutoAddr.f, if_true, Option.bind_some]
    rw [if_pos (by omega), if_pos (by omega), if_pos (by omega), ww i (by omega)]
    exact ih k (i + 1) (by omega) (by omega)
theorem eqA_ok (l : List S39) (hl : l.length ≤ 2000000) (k : Nat) (hk : l.length < k) : laws_eqAutoAddrS.f k l l = some true := by
  unfold laws_eqAutoAddrS.f
  rw [if_pos rfl]
  exact eqA_l0 l hl l.length k 0 (by omega) hk
theorem eqS_l0 (l : List ByteArray) (hl : l.length ≤ 2000000) (d : Nat) : ∀ (k i : Nat), l.length = i + d → d < k → laws_eqStringS.l0 k l l (i : Int) = some true := by
  induction d with
  | zero =>
    intro k i hi hk
    obtain ⟨k, rfl⟩ : ∃ m, k = m + 1 := ⟨k - 1, by omega⟩
    simp only [laws_eqStringS.l0]
    rw [if_neg (by omega)]
  | succ d ih =>
    intro k i hi hk
    obtain ⟨k, rfl⟩ : ∃ m, k = m + 1 := ⟨k - 1, by omega⟩
    simp only [laws_eqStringS.l0, if_true]
    rw [if_pos (by omega), if_pos (by omega), if_pos (by omega), ww i (by omega)]
    exact ih k (i + 1) (by omega) (by omega)
theorem eqS_ok (l : List ByteArray) (hl : l.length ≤ 2000000) (k : Nat) (hk : l.length < k) : laws_eqStringS.f k l l = some true := by
  unfold laws_eqStringS.f
  rw [if_pos rfl]
  exact eqS_l0 l hl l.length k 0 (by omega) hk
/-! what both tell -/
def keys (l : List ByteArray) : List (List UInt8) := l.map ByteArray.toList
def names (l : List S39) : List (List UInt8) := l.map (fun x => x.f0.toList)
def chk {α : Type} (ok : α → Bool) (key : α → List UInt8) : List (List UInt8) → List α → Bool
  | _, [] => true
  | pre, x :: r => ok x && (!pre.contains (key x) && chk ok key (pre ++ [key x]) r)
theorem chk_iff {α : Type} (ok : α → Bool) (key : α → List UInt8) (L : List α) : ∀ pre, chk ok key pre L = true ↔ (∀ x ∈ L, ok x = true) ∧ (∀ x ∈ L, key x ∉ pre) ∧ (L.map key).Nodup := by
  induction L with
  | nil => intro pre; simp [chk]
  | cons x r ih =>
    intro pre
    have e : chk ok key pre (x :: r) = (ok x && (!pre.contains (key x) && chk ok key (pre ++ [key x]) r)) := rfl
    rw [e, Bool.and_eq_true, Bool.and_eq_true, ih, Bool.not_eq_true', List.map_cons, List.nodup_cons]
    constructor
    · rintro ⟨h1, h2, h3, h4, h5⟩
      refine ⟨?_, ?_, ?_, h5⟩
      · intro y hy
        rcases List.mem_cons.1 hy with rfl | hy
        · exact h1
        · exact h3 y hy
      · intro y hy hp
        rcases List.mem_cons.1 hy with rfl | hy
        · rw [List.contains_iff_mem.2 hp] at h2; cases h2
        · exact h4 y hy (List.mem_append_left _ hp)
      · intro hx
        obtain ⟨y, hy, e2⟩ := List.mem_map.1 hx
        exact h4 y hy (by rw [e2]; simp)
    · rintro ⟨h1, h2, h3, h5⟩
      refine ⟨h1 x (by simp), ?_, fun y hy => h1 y (by simp [hy]), ?_, h5⟩
      · rw [← Bool.not_eq_true]
        intro hc
        exact h2 x (by simp) (List.contains_iff_mem.1 hc)
      · intro y hy hp
        rcases List.mem_append.1 hp with hp | hp
        · exact h2 y (by simp [hy]) hp
        · simp only [List.mem_singleton] at hp
          exact h3 (List.mem_map.2 ⟨y, hy, hp⟩)
def ok16 (x : ByteArray) : Bool := decide ((x.size : Int) = 16)
def stA (x : S39) : Bool := if x.f1 = 1 then decide (1 ≤ x.f2 ∧ x.f2 ≤ 3) else if x.f1 = 2 then (decide (x.f2 = 0) && decide (x.f4 > 0)) else if x.f1 = 3 then (decide (x.f2 = 0) && decide (x.f4 = 0)) else false
def okA (x : S39) : Bool := decide ((x.f0.size : Int) = 16) && (decide (1 ≤ x.f3 ∧ x.f3 ≤ 100000) && (decide (0 ≤ x.f4 ∧ x.f4 ≤ x.f3) && stA x))
theorem swap (l1 : List S39) (l2 : List ByteArray) : (chk ok16 ByteArray.toList [] l2 && chk (fun x => okA x && !(keys l2).contains x.f0.toList) (fun x => x.f0.toList) [] l1) = (chk okA (fun x => x.f0.toList) [] l1 && chk ok16 ByteArray.toList (names l1) l2) := by
  rw [Bool.eq_iff_iff, Bool.and_eq_true, Bool.and_eq_true, chk_iff, chk_iff, chk_iff, chk_iff]
  constructor
  · rintro ⟨⟨a1, _, a3⟩, b1, _, b3⟩
    refine ⟨⟨fun x hx => (Bool.and_eq_true _ _ ▸ b1 x hx : _ ∧ _).1, by simp, b3⟩, a1, fun x hx hm => ?_, a3⟩
    obtain ⟨y, hy, e⟩ := List.mem_map.1 hm
    have := (Bool.and_eq_true _ _ ▸ b1 y hy : _ ∧ _).2
    rw [Bool.not_eq_true'] at this
    have hc : (keys l2).contains y.f0.toList = true := List.contains_iff_mem.2 (List.mem_map.2 ⟨x, hx, e.symm⟩)
    rw [hc] at this; cases this
  · rintro ⟨⟨a1, _, a3⟩, b1, b2, b3⟩
    refine ⟨⟨b1, by simp, b3⟩, fun x hx => ?_, by simp, a3⟩
    rw [Bool.and_eq_true, a1 x hx, Bool.not_eq_true', ← Bool.not_eq_true]
    refine ⟨rfl, fun hc => ?_⟩
    obtain ⟨y, hy, e⟩ := List.mem_map.1 (List.contains_iff_mem.1 hc)
    exact b2 y hy (by rw [e]; exact List.mem_map.2 ⟨x, hx, rfl⟩)
theorem text_l0 (P : List ByteArray) (a : ByteArray) (hl : P.length ≤ 2000000) (d : Nat) : ∀ (k i : Nat), P.length = i + d → d < k → spec_l14Text.l0 k P a (i : Int) = some ((keys (P.drop i)).contains a.toList) := by
  induction d with
  | zero =>
    intro k i hi hk
    obtain ⟨k, rfl⟩ : ∃ m, k = m + 1 := ⟨k - 1, by omega⟩
    rw [spec_l14Text.l0, if_neg (by omega), List.drop_of_length_le (by omega)]; rfl
  | succ d ih =>
    intro k i hi hk
    obtain ⟨k, rfl⟩ : ∃ m, k = m + 1 := ⟨k - 1, by omega⟩
    rw [spec_l14Text.l0, if_pos (by omega), if_pos (by omega), rdB (by omega), ww i (by omega), ih k (i + 1) (by omega) (by omega), List.drop_eq_getElem_cons (i := i) (by omega)]
    have e : (keys (P[i] :: P.drop (i + 1))).contains a.toList = (a.toList == P[i].toList || (keys (P.drop (i + 1))).contains a.toList) := List.contains_cons ..
    rw [e]
    by_cases h : P[i].toList = a.toList
    · rw [if_pos h, h]; simp
    · rw [if_neg h]
      have e2 : (a.toList == P[i].toList) = false := by simp; exact fun h' => h h'.symm
      rw [e2, Bool.false_or]
theorem text_ok (P : List ByteArray) (a : ByteArray) (hl : P.length ≤ 2000000) (k : Nat) (hk : P.length < k) : spec_l14Text.f k P a = some ((keys P).contains a.toList) := by
  have := text_l0 P a hl P.length k 0 (by omega) hk
  simpa [spec_l14Text.f] using this
theorem ixs_l0 (P : List ByteArray) (a : ByteArray) (hl : P.length ≤ 2000000) (d : Nat) : ∀ (k i : Nat), P.length = i + d → d < k → ∃ r, slices_Index_string_string.l0 k P a (P.length : Int) (i : Int) = some r ∧ decide (r ≥ 0) = (keys (P.drop i)).contains a.toList := by
  induction d with
  | zero =>
    intro k i hi hk
    obtain ⟨k, rfl⟩ : ∃ m, k = m + 1 := ⟨k - 1, by omega⟩
    refine ⟨-1, by rw [slices_Index_string_string.l0, if_neg (by omega)], ?_⟩
    rw [List.drop_of_length_le (by omega)]; rfl
  | succ d ih =>
    intro k i hi hk
    obtain ⟨k, rfl⟩ : ∃ m, k = m + 1 := ⟨k - 1, by omega⟩
    rw [slices_Index_string_string.l0, if_pos (by omega), if_pos (by omega), if_pos (by omega), rdB (by omega), ww i (by omega), List.drop_eq_getElem_cons (i := i) (by omega)]
    have e : (keys (P[i] :: P.drop (i + 1))).contains a.toList = (a.toList == P[i].toList || (keys (P.drop (i + 1))).contains a.toList) := List.contains_cons ..
    rw [e]
    by_cases h : a.toList = P[i].toList
    · refine ⟨i, by rw [if_pos h], ?_⟩
      rw [← h, decide_eq_true (by omega)]; simp
    · obtain ⟨r, h1, h2⟩ := ih k (i + 1) (by omega) (by omega)
      refine ⟨r, by rw [if_neg h]; exact h1, ?_⟩
      have e2 : (a.toList == P[i].toList) = false := by simp; exact h
      rw [e2, Bool.false_or, h2]
theorem cont_ok (P : List ByteArray) (a : ByteArray) (hl : P.length ≤ 2000000) (k : Nat) (hk : P.length < k) : slices_Contains_string_string.f k P a = some ((keys P).contains a.toList) := by
  obtain ⟨r, h1, h2⟩ := ixs_l0 P a hl P.length k 0 (by omega) hk
  unfold slices_Contains_string_string.f slices_Index_string_string.f
  have h1' : slices_Index_string_string.l0 k P a (P.length : Int) 0 = some r := h1
  rw [h1', Option.bind_some, h2, List.drop_zero]
theorem findA_l0 (l : List S39) (a : ByteArray) (hl : l.length ≤ 2000000) (d : Nat) : ∀ (k i : Nat), l.length = i + d → d < k → ∃ r, spec_l14Find.l0 k l a (i : Int) = some r ∧ ∀ j : Nat, i ≤ j → ∀ hj : j < l.length, l[j].f0.toList = a.toList → decide (r = (j : Int)) = !(names ((l.take j).drop i)).contains a.toList := by
  induction d with
  | zero =>
    intro k i hi hk
    obtain ⟨k, rfl⟩ : ∃ m, k = m + 1 := ⟨k - 1, by omega⟩
    exact ⟨-1, by rw [spec_l14Find.l0, if_neg (by omega)], fun j h1 h2 _ => by omega⟩
  | succ d ih =>
    intro k i hi hk
    obtain ⟨k, rfl⟩ : ∃ m, k = m + 1 := ⟨k - 1, by omega⟩
    rw [spec_l14Find.l0, if_pos (by omega), if_pos (by omega), rd39 (by omega), ww i (by omega)]
    have st : ∀ j, i < j → j < l.length → (names ((l.take j).drop i)).contains a.toList = (a.toList == l[i].f0.toList || (names ((l.take j).drop (i + 1))).contains a.toList) := by
      intro j h1 h2
      rw [List.drop_eq_getElem_cons (i := i) (by simp; omega), List.getElem_take]
      exact List.contains_cons ..
    by_cases h : l[i].f0.toList = a.toList
    · refine ⟨i, by rw [if_pos h], fun j h1 hj hja => ?_⟩
      by_cases hij : i = j
      · subst hij
        rw [decide_eq_true rfl, List.drop_of_length_le (by simp; omega)]; rfl
      · rw [decide_eq_false (by omega), st j (by omega) hj, h]; simp
    · obtain ⟨r, h1, h2⟩ := ih k (i + 1) (by omega) (by omega)
      refine ⟨r, by rw [if_neg h]; exact h1, fun j h3 hj hja => ?_⟩
      have hij : i ≠ j := by rintro rfl; exact h hja
      rw [h2 j (by omega) hj hja, st j (by omega) hj]
      have e2 : (a.toList == l[i].f0.toList) = false := by simp; exact fun h' => h h'.symm
      rw [e2, Bool.false_or]
theorem findA (l : List S39) (hl : l.length ≤ 2000000) (i : Nat) (hi : i < l.length) (k : Nat) (hk : l.length < k) : ∃ r, spec_l14Find.f k l l[i].f0 = some r ∧ decide (r = (i : Int)) = !(names (l.take i)).contains l[i].f0.toList := by
  obtain ⟨r, h1, h2⟩ := findA_l0 l l[i].f0 hl l.length k 0 (by omega) hk
  refine ⟨r, h1, ?_⟩
  rw [h2 i (by omega) hi rfl, List.drop_zero]
theorem addrOK (x : S39) (k : Nat) (hk : 0 < k) : impl_autoAddrOK.f k x.f0 x.f1 x.f2 x.f3 x.f4 = some (okA x) := by
  obtain ⟨k, rfl⟩ : ∃ m, k = m + 1 := ⟨k - 1, by omega⟩
  unfold impl_autoAddrOK.f impl_isSix.f okA stA
  rw [inR, inR, Option.bind_some, Option.bind_some, Option.bind_some]
  simp only [impl_autoAddrOK.j0, inR, Option.bind_some]
  by_cases c0 : (x.f0.size : Int) = 16
  · rw [if_pos (by simpa using c0), decide_eq_true c0]
    by_cases c3 : 1 ≤ x.f3 ∧ x.f3 ≤ 100000
    · rw [decide_eq_true c3, if_pos rfl]
      by_cases c4 : 0 ≤ x.f4 ∧ x.f4 ≤ x.f3
      · rw [decide_eq_true c4]
        by_cases e1 : x.f1 = 1
        · simp [e1]
        · by_cases e2 : x.f1 = 2
          · by_cases z : x.f2 = 0 <;> simp [e2, z]
          · by_cases e3 : x.f1 = 3
            · by_cases z : x.f2 = 0
              · simp [e3, z]; rfl
              · simp [e3, z]
            · simp [e1, e2, e3]
      · rw [decide_eq_false c4]; simp
    · rw [decide_eq_false c3]; simp
  · rw [if_neg (by simpa using c0), decide_eq_false c0]; simp
theorem i_l1 (l2 : List ByteArray) (hl : l2.length ≤ 6) (d : Nat) : ∀ (k i : Nat) (P : List ByteArray), l2.length = i + d → P.length + d ≤ 20 → impl_AutoOK.l1 (k + d + 40) P l2 (l2.length : Int) (i : Int) = some (chk ok16 ByteArray.toList (keys P) (l2.drop i)) := by
  induction d with
  | zero =>
    intro k i P hi hP
    rw [show k + 0 + 40 = (k + 39) + 1 by omega, impl_AutoOK.l1, if_neg (by omega), List.drop_of_length_le (by omega)]; rfl
  | succ d ih =>
    intro k i P hi hP
    rw [show k + (d + 1) + 40 = (k + d + 40) + 1 by omega, impl_AutoOK.l1, if_pos (by omega), if_pos (by omega), if_pos (by omega), rdB (by omega), ww i (by omega), cont_ok P _ (by omega) _ (by omega), ih k (i + 1) _ (by omega) (by simp; omega), List.drop_eq_getElem_cons (i := i) (by omega)]
    have e : chk ok16 ByteArray.toList (keys P) (l2[i] :: l2.drop (i + 1)) = (ok16 l2[i] && (!(keys P).contains l2[i].toList && chk ok16 ByteArray.toList (keys (P ++ [l2[i]])) (l2.drop (i + 1)))) := by
      simp [chk, keys]
    rw [e, if_pos (show P.length < 8796093022208 by omega)]
    simp only [impl_isSix.f, Option.bind_some, ok16]
    by_cases c : (l2[i].size : Int) = 16
    · rw [if_pos (by simpa using c), decide_eq_true c]
      cases (keys P).contains l2[i].toList <;> simp
    · rw [if_neg (by simpa using c), decide_eq_false c]; rfl
theorem names_succ (l : List S39) (i : Nat) (h : i < l.length) : names (l.take (i + 1)) = names (l.take i) ++ [l[i].f0.toList] := by
  unfold names; rw [List.take_succ_eq_append_getElem h]; simp only [List.map_append, List.map_cons, List.map_nil]
theorem i_l0 (a0 : ByteArray) (l1 : List S39) (l2 : List ByteArray) (hl : l1.length ≤ 6 ∧ l2.length ≤ 6) (d : Nat) : ∀ (k i : Nat), l1.length = i + d → impl_AutoOK.l0 (k + d + 60) ((l1.take i).map S39.f0) l1 (l1.length : Int) (i : Int) a0 l1 l2 = some (chk okA (fun x => x.f0.toList) (names (l1.take i)) (l1.drop i) && chk ok16 ByteArray.toList (names l1) l2) := by
  induction d with
  | zero =>
    intro k i hi
    have e := i_l1 l2 hl.2 l2.length (k + 19 - l2.length) 0 (l1.map S39.f0) (by omega) (by simp; omega)
    rw [show k + 19 - l2.length + l2.length + 40 = k + 59 by omega] at e
    rw [show k + 0 + 60 = (k + 59) + 1 by omega, impl_AutoOK.l0, if_neg (by omega), List.drop_of_length_le (by omega), List.take_of_length_le (by omega)]
    refine Eq.trans e ?_
    have ek : keys (l1.map S39.f0) = names l1 := by simp [keys, names]
    rw [ek, List.drop_zero]; rfl
  | succ d ih =>
    intro k i hi
    have e : chk okA (fun x => x.f0.toList) (names (l1.take i)) (l1.drop i) = (okA l1[i] && (!(names (l1.take i)).contains l1[i].f0.toList && chk okA (fun x => x.f0.toList) (names (l1.take (i + 1))) (l1.drop (i + 1)))) := by
      rw [List.drop_eq_getElem_cons (i := i) (by omega), names_succ l1 i (by omega)]; rfl
    have ek : keys ((l1.take i).map S39.f0) = names (l1.take i) := by unfold keys names; rw [List.map_map]; rfl
    have et : (l1.take i).map S39.f0 ++ [l1[i].f0] = (l1.take (i + 1)).map S39.f0 := by rw [List.take_succ_eq_append_getElem (by omega), List.map_append]; rfl
    rw [show k + (d + 1) + 60 = (k + d + 60) + 1 by omega, impl_AutoOK.l0, if_pos (by omega), if_pos (by omega), if_pos (by omega), rd39 (by omega), ww i (by omega), addrOK _ _ (by omega), Option.bind_some, cont_ok _ _ (by simp; omega) _ (by simp; omega), ek, et, ih k (i + 1) (by omega), e, if_pos (show ((l1.take i).map S39.f0).length < 8796093022208 by simp; omega)]
    cases okA l1[i]
    · rfl
    · cases (names (l1.take i)).contains l1[i].f0.toList <;> simp
def autoB (a0 : ByteArray) (l1 : List S39) (l2 : List ByteArray) : Bool := decide ((a0.size : Int) = 6) && (decide (l1.length ≤ 6) && (decide (l2.length ≤ 6) && (chk okA (fun x => x.f0.toList) [] l1 && chk ok16 ByteArray.toList (names l1) l2)))
theorem auto_i (a0 : ByteArray) (l1 : List S39) (l2 : List ByteArray) (k : Nat) (hk : 200 < k) : impl_AutoOK.f k a0 l1 l2 = some (autoB a0 l1 l2) := by
  obtain ⟨k, rfl⟩ : ∃ m, k = m + 1 := ⟨k - 1, by omega⟩
  unfold impl_AutoOK.f impl_isLink.f autoB
  rw [Option.bind_some]
  simp only [impl_AutoOK.j0]
  by_cases c0 : (a0.size : Int) = 6
  · rw [if_pos (by simpa using c0), decide_eq_true c0]
    by_cases c1 : (l1.length : Int) > 6
    · rw [if_pos c1, decide_eq_false (p := l1.length ≤ 6) (by omega), if_pos trivial]; rfl
    · rw [if_neg c1, decide_eq_true (p := l1.length ≤ 6) (by omega)]
      by_cases c2 : (l2.length : Int) > 6
      · rw [decide_eq_true c2, if_pos rfl, decide_eq_false (p := l2.length ≤ 6) (by omega)]; rfl
      · rw [decide_eq_false c2, if_neg (by decide), decide_eq_true (p := l2.length ≤ 6) (by omega)]
        have e := i_l0 a0 l1 l2 ⟨by omega, by omega⟩ l1.length (k - l1.length - 60) 0 (by omega)
        rw [show k - l1.length - 60 + l1.length + 60 = k by omega] at e
        exact e
  · rw [if_neg (by simpa using c0), decide_eq_false c0, if_pos trivial]; rfl
def c3 (x : S39) : Bool := ((x.f1 == 1) == decide (1 ≤ x.f2 ∧ x.f2 ≤ 3)) && (decide (x.f1 = 1) || (decide (x.f2 = 0) && ((x.f1 == 3) == (x.f4 == 0))))
theorem s_j3 (k : Nat) (i : Nat) (hi : i ≤ 100) (b : Bool) (a0 : ByteArray) (l1 : List S39) (l2 : List ByteArray) (x : S39) : spec_AutoOK.j3 (k + 1) (i : Int) b a0 l1 l2 x.f0 x.f1 x.f2 x.f3 x.f4 = if (!b && c3 x) = true then spec_AutoOK.l1 k ((i + 1 : Nat) : Int) a0 l1 l2 else some false := by
  rw [spec_AutoOK.j3]
  cases b with
  | true => rfl
  | false =>
    rw [if_neg (by decide), inS, Option.bind_some, ww i (by omega)]
    unfold c3
    cases e1 : (x.f1 == 1) with
    | true =>
      have e1' : x.f1 = 1 := by simpa using e1
      cases decide (1 ≤ x.f2 ∧ x.f2 ≤ 3) <;> simp [e1']
    | false =>
      have e1' : ¬ x.f1 = 1 := by simpa using e1
      cases decide (1 ≤ x.f2 ∧ x.f2 ≤ 3) with
      | true => simp
      | false =>
        by_cases z : x.f2 = 0
        · cases (x.f1 == 3) <;> cases (x.f4 == 0) <;> simp [e1', z]
        · simp [e1', z]
theorem st_same (x : S39) (h3 : 1 ≤ x.f3) (h4 : 0 ≤ x.f4) : (decide (1 ≤ x.f1 ∧ x.f1 ≤ 3) && c3 x) = stA x := by
  unfold c3 stA
  by_cases e1 : x.f1 = 1
  · rw [if_pos e1]; simp [e1]
  · rw [if_neg e1]
    have b1 : (x.f1 == 1) = false := by simpa using e1
    rw [b1, decide_eq_false e1, Bool.false_or]
    by_cases e2 : x.f1 = 2
    · rw [if_pos e2]
      by_cases z : x.f2 = 0
      · by_cases y : x.f4 = 0
        · simp [e2, z, y]
        · have hp : x.f4 > 0 := by omega
          have hq : (x.f4 == 0) = false := by simpa using y
          rw [hq, decide_eq_true hp, decide_eq_true z]; simp [e2, z]
      · simp [z]
    · rw [if_neg e2]
      by_cases e3 : x.f1 = 3
      · rw [if_pos e3]
        by_cases z : x.f2 = 0
        · by_cases y : x.f4 = 0
          · simp [e3, z, y]
          · simp [e3, z, y]
        · simp [z]
      · rw [if_neg e3, decide_eq_false (p := 1 ≤ x.f1 ∧ x.f1 ≤ 3) (by omega)]; rfl
theorem s_l1 (a0 : ByteArray) (l1 : List S39) (l2 : List ByteArray) (hl : l1.length ≤ 6 ∧ l2.length ≤ 6) (d : Nat) : ∀ (k i : Nat), l1.length = i + d → spec_AutoOK.l1 (k + 2 * d + 20) (i : Int) a0 l1 l2 = some (chk (fun x => okA x && !(keys l2).contains x.f0.toList) (fun x => x.f0.toList) (names (l1.take i)) (l1.drop i)) := by
  induction d with
  | zero =>
    intro k i hi
    rw [show k + 2 * 0 + 20 = (k + 19) + 1 by omega, spec_AutoOK.l1, if_neg (by omega), List.drop_of_length_le (by omega)]; rfl
  | succ d ih =>
    intro k i hi
    have hi' : i < l1.length := by omega
    have e : chk (fun x => okA x && !(keys l2).contains x.f0.toList) (fun x => x.f0.toList) (names (l1.take i)) (l1.drop i) = ((okA l1[i] && !(keys l2).contains l1[i].f0.toList) && (!(names (l1.take i)).contains l1[i].f0.toList && chk (fun x => okA x && !(keys l2).contains x.f0.toList) (fun x => x.f0.toList) (names (l1.take (i + 1))) (l1.drop (i + 1)))) := by
      rw [List.drop_eq_getElem_cons (i := i) hi', names_succ l1 i hi']; rfl
    obtain ⟨r, f1, f2⟩ := findA l1 (by omega) i hi' (k + 2 * d + 20 + 1) (by omega)
    rw [show k + 2 * (d + 1) + 20 = (k + 2 * d + 20 + 1) + 1 by omega, spec_AutoOK.l1, if_pos (by omega), if_pos (by omega), rd39 hi', f1, Option.bind_some, text_ok l2 _ (by omega) _ (by omega), Option.bind_some, inS, inS, inS]
    simp only [Option.bind_some]
    rw [s_j3 _ i (by omega), s_j3 _ i (by omega), ih k (i + 1) (by omega), e, ← f2]
    generalize chk (fun x => okA x && !(keys l2).contains x.f0.toList) (fun x => x.f0.toList) (names (l1.take (i + 1))) (l1.drop (i + 1)) = nx
    generalize (keys l2).contains l1[i].f0.toList = ct
    generalize l1[i] = x
    unfold okA
    by_cases c0 : (x.f0.size : Int) = 16
    · rw [if_pos c0, decide_eq_true c0]
      by_cases cr : r = (i : Int)
      · rw [if_pos cr, decide_eq_true cr]
        cases ct with
        | true => simp
        | false =>
          rw [if_neg (by decide)]
          by_cases h3 : 1 ≤ x.f3 ∧ x.f3 ≤ 100000
          · rw [decide_eq_true h3]
            by_cases h4 : 0 ≤ x.f4 ∧ x.f4 ≤ x.f3
            · rw [decide_eq_true h4, ← st_same x h3.1 h4.1]
              cases decide (1 ≤ x.f1 ∧ x.f1 ≤ 3) <;> cases c3 x <;> simp
            · rw [decide_eq_false h4]
              cases decide (1 ≤ x.f1 ∧ x.f1 ≤ 3) <;> simp
          · rw [decide_eq_false h3]
            cases decide (1 ≤ x.f1 ∧ x.f1 ≤ 3) <;> simp
      · rw [if_neg cr, decide_eq_false cr]; simp
    · rw [if_neg c0, decide_eq_false c0]; simp
theorem s_l0 (a0 : ByteArray) (l1 : List S39) (l2 : List ByteArray) (hl : l1.length ≤ 6 ∧ l2.length ≤ 6) (d : Nat) : ∀ (k i : Nat), l2.length = i + d → spec_AutoOK.l0 (k + d + 60) (i : Int) a0 l1 l2 = some (chk ok16 ByteArray.toList (keys (l2.take i)) (l2.drop i) && chk (fun x => okA x && !(keys l2).contains x.f0.toList) (fun x => x.f0.toList) [] l1) := by
  induction d with
  | zero =>
    intro k i hi
    have e := s_l1 a0 l1 l2 hl l1.length (k + 39 - 2 * l1.length) 0 (by omega)
    rw [show k + 39 - 2 * l1.length + 2 * l1.length + 20 = k + 59 by omega, List.take_zero, List.drop_zero] at e
    rw [show k + 0 + 60 = (k + 59) + 1 by omega, spec_AutoOK.l0, if_neg (by omega), List.drop_of_length_le (by omega)]
    exact e
  | succ d ih =>
    intro k i hi
    have hi' : i < l2.length := by omega
    have e : chk ok16 ByteArray.toList (keys (l2.take i)) (l2.drop i) = (ok16 l2[i] && (!(keys (l2.take i)).contains l2[i].toList && chk ok16 ByteArray.toList (keys (l2.take (i + 1))) (l2.drop (i + 1)))) := by
      rw [List.drop_eq_getElem_cons (i := i) hi']
      have : keys (l2.take (i + 1)) = keys (l2.take i) ++ [l2[i].toList] := by unfold keys; rw [List.take_succ_eq_append_getElem hi']; simp only [List.map_append, List.map_cons, List.map_nil]
      rw [this]; rfl
    rw [show k + (d + 1) + 60 = (k + d + 60) + 1 by omega, spec_AutoOK.l0, if_pos (by omega), if_pos (by omega), rdB hi', ww i (by omega), Int.toNat_natCast, text_ok _ _ (by simp; omega) _ (by simp; omega), Option.bind_some, ih k (i + 1) (by omega), e, if_pos (show (i : Int) ≤ l2.length by omega)]
    unfold ok16
    by_cases c : (l2[i].size : Int) = 16
    · rw [if_pos c, decide_eq_true c]
      cases (keys (l2.take i)).contains l2[i].toList <;> simp
    · rw [if_neg c, decide_eq_false c]; rfl
theorem auto_s (a0 : ByteArray) (l1 : List S39) (l2 : List ByteArray) (k : Nat) (hk : 200 < k) : spec_AutoOK.f k a0 l1 l2 = some (autoB a0 l1 l2) := by
  obtain ⟨k, rfl⟩ : ∃ m, k = m + 1 := ⟨k - 1, by omega⟩
  unfold spec_AutoOK.f autoB
  simp only [spec_AutoOK.j0]
  by_cases c0 : (a0.size : Int) = 6
  · rw [if_pos c0, decide_eq_true c0]
    by_cases c1 : (l1.length : Int) > 6
    · rw [if_pos c1, decide_eq_false (p := l1.length ≤ 6) (by omega), if_pos trivial]; rfl
    · rw [if_neg c1, decide_eq_true (p := l1.length ≤ 6) (by omega)]
      by_cases c2 : (l2.length : Int) > 6
      · rw [decide_eq_true c2, if_pos rfl, decide_eq_false (p := l2.length ≤ 6) (by omega)]; rfl
      · rw [decide_eq_false c2, if_neg (by decide), decide_eq_true (p := l2.length ≤ 6) (by omega)]
        have e := s_l0 a0 l1 l2 ⟨by omega, by omega⟩ l2.length (k - l2.length - 60) 0 (by omega)
        rw [show k - l2.length - 60 + l2.length + 60 = k by omega, List.take_zero, List.drop_zero] at e
        have e2 := swap l1 l2
        have e3 : (keys ([] : List ByteArray)) = [] := rfl
        rw [e3, e2] at e
        exact e
  · rw [if_neg c0, decide_eq_false c0, if_pos trivial]; rfl
theorem FnExactAutoOK : fnExactAutoOK.Say := by
  intro a0 l1 l2 m0 ⟨m1, w1⟩ ⟨m2, w2⟩
  obtain ⟨K, hK⟩ : ∃ K : Nat, K = 2000000 := ⟨_, rfl⟩
  refine ⟨K, ?_⟩
  unfold maxLen at m0 m1 m2 w1 w2
  simp only [laws_FnExactAutoOK.f, laws_szAuto.f]
  rw [w64 (x := 1048576 - (a0.size : Int)) (by omega) (by omega)]
  by_cases c : 1048576 - (a0.size : Int) < 0
  · rw [if_pos c]; simp
  rw [if_neg c]
  obtain ⟨v, hv, hv2, hv3⟩ := szA l1 (1048576 - (a0.size : Int)) (by omega) (by omega) (by omega) (fun y hy => by have := (w1 y hy).1; omega) K (by omega)
  rw [hv, Option.bind_some]
  by_cases c1 : v < 0
  · rw [if_pos c1]; simp
  rw [if_neg c1]
  obtain ⟨u, hu, hu2⟩ := szS l2 v (by omega) (by omega) (by omega) (fun y hy => by have := w2 y hy; omega) K (by omega)
  rw [hu, Option.bind_some]
  by_cases c2 : u < 0
  · rw [if_pos c2]; simp
  rw [if_neg c2, Option.bind_some, if_neg c2]
  have T : laws_toAuto.f K a0 l1 l2 = some (a0, l1.map cv, l2) := by
    unfold laws_toAuto.f
    rw [toA_ok l1 (by omega) K (by omega), toS_ok l2 (by omega) K (by omega)]; rfl
  rw [T, Option.bind_some, auto_s _ _ _ K (by omega), Option.bind_some, Option.bind_some, auto_i _ _ _ K (by omega), Option.bind_some]
  simp only [bne_self_eq_false, Bool.false_eq_true, if_false, Option.bind_some]
  unfold laws_eqAuto.f
  simp only [if_true]
  rw [eqA_ok (l1.map cv) (by simp; omega) K (by simp; omega), eqS_ok l2 (by omega) K (by omega)]
  simp
end Go.Proofs.Ytnpbnmhbajiefaa.Pure
namespace Go.Proofs.Ytnpbnmhbajiefaa
/-- The row. -/
theorem fnExactAutoOK_holds : Rows.FnExactAutoOKSaid := fnExactAutoOK.row_of Pure.FnExactAutoOK
end Go.Proofs.Ytnpbnmhbajiefaa
