/- A prefix's text is read as its bits by the program and by the reference, written back it is the same text, and an address's bits are as many as its bytes have: the law's card, for every input that can be read as data; the five listed tables of Go's library read as their initialisers lay them. -/
import Derived.Test.YtnpbnmhbajiefaaDoorAid
import Derived.Test.YtnpbnmhbajiefaaDoorSay
namespace Go.Proofs.YtnpbnmhbajiefaaDoor.Pure
set_option linter.unusedSimpArgs false
set_option linter.unusedVariables false
open Go.RowKit Go.Proofs.YtnpbnmhbajiefaaDoor.PFnPrefixes Go.Proofs.YtnpbnmhbajiefaaDoorW.PrintWords Go.Proofs.YtnpbnmhbajiefaaDoorW.PrintLast Go.Proofs.YtnpbnmhbajiefaaDoorW.PrintMore Go.Proofs.YtnpbnmhbajiefaaDoor.Aid
theorem ww (i : Nat) (h : i < 4000000000000000000) : wrap64 ((i : Int) + 1) = ((i + 1 : Nat) : Int) := by rw [w64 (by omega) (by omega)]; simp
theorem set_mid {α : Type} (A R : List α) (z v : α) : (A ++ z :: R).set A.length v = A ++ v :: R := by
  simp [List.set_append]
theorem inR (a b c : Int) : impl_inRange.f a b c = some (decide (b ≤ a ∧ a ≤ c)) := by
  unfold impl_inRange.f
  by_cases h : a ≥ b
  · rw [if_pos h]; simp [show b ≤ a from h]
  · rw [if_neg h]; simp; omega
theorem inS (a b c : Int) : spec_l01In.f a b c = some (decide (b ≤ a ∧ a ≤ c)) := by
  unfold spec_l01In.f
  by_cases h : a ≥ b
  · rw [if_pos h]; simp [show b ≤ a from h]
  · rw [if_neg h]; simp; omega
def B (l : List UInt8) : ByteArray := ⟨l.toArray⟩
theorem B_data (l : List UInt8) : (B l).data.toList = l := by simp [B]
theorem B_size (l : List UInt8) : (B l).size = l.length := by simp [B, ByteArray.size]
theorem B_toList (l : List UInt8) : (B l).toList = l := by rw [Lib.toList_data, B_data]
theorem B_self (p : ByteArray) : p = B p.data.toList := by apply ByteArray.ext; simp [B]
theorem B_app (l m : List UInt8) : B l ++ B m = B (l ++ m) := by apply ByteArray.ext; simp [B]
theorem B_ext (l : List UInt8) (i j : Nat) : (B l).extract i j = B ((l.take j).drop i) := by
  apply ByteArray.ext
  simp [B, List.drop_take]
theorem B_ext0 (l : List UInt8) (j : Nat) : (B l).extract 0 j = B (l.take j) := by rw [B_ext, List.drop_zero]
theorem B_ext1 (l : List UInt8) (i : Nat) : (B l).extract i (B l).size = B (l.drop i) := by rw [B_ext, B_size, List.take_length]
theorem B_bt (l : List UInt8) (i : Nat) (h : i < l.length) : bt (B l) (i : Int) = ((l[i]).toNat : Int) := by
  unfold bt
  have h' : (i : Int).toNat < (B l).size := by rw [B_size]; simpa using h
  rw [dif_pos h']
  rfl
theorem B_nums (xs : List Int) : strOfNums xs = B (xs.map fun n => UInt8.ofNat n.toNat) := rfl
theorem rdOf_B (xs : List (List UInt8)) (i : Nat) (h : i < xs.length) : rdOf ByteArray.empty (xs.map B) (i : Int) = B (xs[i]) := by
  simp [rdOf, h]
theorem up {β : Type} {g : Nat → Option β} (hm : ∀ k, LeO (g k) (g (k + 1))) {k0 : Nat} {r : β} (h : g k0 = some r) : ∀ k, k0 ≤ k → g k = some r := by
  intro k hk
  obtain ⟨d, rfl⟩ : ∃ d, k = k0 + d := ⟨k - k0, by omega⟩
  clear hk
  induction d with
  | zero => exact h
  | succ d ih => exact hm _ _ ih
/-- A text parted at each of some byte. -/
def cutL (c : UInt8) : List UInt8 → List (List UInt8)
  | [] => [[]]
  | b :: l => if b = c then [] :: cutL c l else match cutL c l with
    | [] => [[b]]
    | x :: r => (b :: x) :: r
theorem cut_none (c : UInt8) : ∀ x : List UInt8, (∀ b ∈ x, b ≠ c) → cutL c x = [x]
  | [], _ => rfl
  | b :: l, h => by
    rw [cutL, if_neg (h b (by simp)), cut_none c l (fun d hd => h d (by simp [hd]))]
theorem cut_hit (c : UInt8) (r : List UInt8) : ∀ x : List UInt8, (∀ b ∈ x, b ≠ c) → cutL c (x ++ c :: r) = x :: cutL c r
  | [], _ => by simp [cutL]
  | b :: l, h => by
    rw [List.cons_append, cutL, if_neg (h b (by simp)), cut_hit c r l (fun d hd => h d (by simp [hd]))]
/-- Texts joined by some byte. -/
def jn (c : UInt8) : List (List UInt8) → List UInt8
  | [] => []
  | [x] => x
  | x :: y :: r => x ++ c :: jn c (y :: r)
theorem jn_cons (c : UInt8) (x : List UInt8) (r : List (List UInt8)) (h : r ≠ []) : jn c (x :: r) = x ++ c :: jn c r := by
  cases r with
  | nil => exact absurd rfl h
  | cons y r => rfl
theorem cut_jn (c : UInt8) : ∀ xs : List (List UInt8), xs ≠ [] → (∀ x ∈ xs, ∀ b ∈ x, b ≠ c) → cutL c (jn c xs) = xs
  | [], h, _ => absurd rfl h
  | [x], _, h => by rw [jn]; exact cut_none c x (h x (by simp))
  | x :: y :: r, _, h => by rw [jn, cut_hit c _ x (h x (by simp)), cut_jn c (y :: r) (by simp) (fun z hz => h z (by simp [hz]))]
theorem join_jn (c : UInt8) : ∀ xs : List (List UInt8), Lib.join xs [c] = jn c xs
  | [] => rfl
  | [x] => by rw [Lib.join_one]; rfl
  | x :: y :: r => by
    have h := join_jn c (y :: r)
    rw [Lib.join_cons] at h ⊢
    rw [jn, ← h]
    simp [Lib.joinTail]
theorem jn_mem (c : UInt8) : ∀ xs : List (List UInt8), ∀ b ∈ jn c xs, b = c ∨ ∃ x ∈ xs, b ∈ x
  | [], b, hb => by simp [jn] at hb
  | [x], b, hb => .inr ⟨x, by simp, hb⟩
  | x :: y :: r, b, hb => by
    rw [jn, List.mem_append, List.mem_cons] at hb
    rcases hb with hb | rfl | hb
    · exact .inr ⟨x, by simp, hb⟩
    · exact .inl rfl
    · rcases jn_mem c (y :: r) b hb with h | ⟨z, hz, hb⟩
      · exact .inl h
      · exact .inr ⟨z, by simp [hz], hb⟩
theorem jn_snoc (c : UInt8) (y : List UInt8) : ∀ xs : List (List UInt8), xs ≠ [] → jn c (xs ++ [y]) = jn c xs ++ c :: y
  | [], h => absurd rfl h
  | [x], _ => by simp [jn]
  | x :: z :: r, _ => by
    have h := jn_snoc c y (z :: r) (by simp)
    rw [List.cons_append] at h ⊢
    rw [List.cons_append, jn, h, jn]
    simp
theorem jn_len (c : UInt8) (m : Nat) : ∀ xs : List (List UInt8), (∀ x ∈ xs, x.length ≤ m) → (jn c xs).length ≤ (m + 1) * xs.length
  | [], _ => by simp [jn]
  | [x], h => by have := h x (by simp); simp [jn]; omega
  | x :: y :: r, h => by
    have h1 := jn_len c m (y :: r) (fun z hz => h z (by simp [hz]))
    have h2 := h x (by simp)
    rw [jn, List.length_append, List.length_cons]
    simp only [List.length_cons, Nat.mul_add] at h1 ⊢
    omega
theorem spec_cut (c : UInt8) (l : List UInt8) (hl : l.length ≤ 1000000) : ∀ (n i from_ : Nat) (acc : List ByteArray) (k : Nat), i + n = l.length → from_ ≤ i → (∀ j, from_ ≤ j → ∀ h : j < l.length, j < i → l[j] ≠ c) → n < k → acc.length ≤ i →
    spec_l00Cut.l0 k (B l) (c.toNat : Int) acc (from_ : Int) (i : Int) = some (acc ++ (cutL c (l.drop from_)).map B) := by
  intro n
  induction n with
  | zero =>
    intro i from_ acc k hi hf hc hk ha
    obtain ⟨k, rfl⟩ : ∃ m, k = m + 1 := ⟨k - 1, by omega⟩
    rw [spec_l00Cut.l0, if_neg (by rw [B_size]; omega), if_pos (by omega), if_pos (by rw [B_size]; omega), if_pos (by omega), Int.toNat_natCast, B_ext1]
    rw [cut_none c (l.drop from_) (fun b hb => ?_)]
    · rfl
    · obtain ⟨j, hj, rfl⟩ := List.mem_iff_getElem.1 hb
      rw [List.length_drop] at hj
      rw [List.getElem_drop]
      exact hc _ (by omega) (by omega) (by omega)
  | succ n ih =>
    intro i from_ acc k hi hf hc hk ha
    obtain ⟨k, rfl⟩ : ∃ m, k = m + 1 := ⟨k - 1, by omega⟩
    have hlt : i < l.length := by omega
    have hw : wrap64 ((i : Int) + 1) = ((i + 1 : Nat) : Int) := ww i (by omega)
    rw [spec_l00Cut.l0, if_pos (by rw [B_size]; omega), if_pos (by omega), B_bt l i hlt, hw]
    by_cases he : l[i] = c
    · rw [if_pos (by rw [he]), if_pos (by omega), if_pos (by omega), if_pos (by rw [B_size]; omega), if_pos (by omega), Int.toNat_natCast, Int.toNat_natCast, B_ext]
      rw [ih (i + 1) (i + 1) _ k (by omega) (Nat.le_refl _) (fun j h1 _ h2 => by omega) (by omega) (by simp; omega)]
      have hd : l.drop from_ = (l.take i).drop from_ ++ c :: l.drop (i + 1) := by
        have h1 : l = l.take i ++ c :: l.drop (i + 1) := by
          rw [← he, ← List.drop_eq_getElem_cons hlt, List.take_append_drop]
        conv => lhs; rw [h1]
        rw [List.drop_append_of_le_length (by rw [List.length_take]; omega)]
      rw [hd, cut_hit c _ _ (fun b hb => ?_)]
      · simp
      · obtain ⟨j, hj, rfl⟩ := List.mem_iff_getElem.1 hb
        rw [List.length_drop, List.length_take] at hj
        rw [List.getElem_drop, List.getElem_take]
        exact hc _ (by omega) (by omega) (by omega)
    · rw [if_neg (fun h => he (UInt8.toNat_inj.1 (by omega)))]
      exact ih (i + 1) from_ acc k (by omega) (by omega) (fun j h1 h h2 => by
        by_cases hj : j = i
        · subst hj; exact he
        · exact hc j h1 h (by omega)) (by omega) (by omega)
theorem spec_cut_f (c : UInt8) (l : List UInt8) (hl : l.length ≤ 1000000) (k : Nat) (hk : l.length < k) : spec_l00Cut.f k (B l) (c.toNat : Int) = some ((cutL c l).map B) := by
  have h := spec_cut c l hl l.length 0 0 [] k (by omega) (Nat.le_refl _) (fun j _ _ h => by omega) hk (by simp)
  simpa [spec_l00Cut.f] using h
theorem index_app (x y : List UInt8) (sub : List UInt8) (h0 : sub.isPrefixOf y = true) (h : ∀ j, j < x.length → Lib.occAt (x ++ y) sub j = false) : Lib.index (x ++ y) sub = (x.length : Int) := by
  refine Lib.index_first (by simp) ?_ h
  unfold Lib.occAt
  rw [List.drop_left]
  exact h0
theorem occ_one (l : List UInt8) (c : UInt8) (j : Nat) (hj : j < l.length) (h : l[j] ≠ c) : Lib.occAt l [c] j = false := by
  unfold Lib.occAt
  rw [List.drop_eq_getElem_cons hj]
  simp [List.isPrefixOf, beq_eq_false_iff_ne.2 (fun e : c = l[j] => h e.symm)]
theorem index_hit (c : UInt8) (x r : List UInt8) (h : ∀ b ∈ x, b ≠ c) : Lib.index (x ++ c :: r) [c] = (x.length : Int) :=
  index_app x (c :: r) [c] (by simp [List.isPrefixOf]) (fun j hj => occ_one _ c j (by simp; omega) (by
    rw [List.getElem_append_left hj]
    exact h _ (List.getElem_mem hj)))
theorem split_cut (c : UInt8) : ∀ (k : Nat) (l : List UInt8), l.count c = k → Lib.splitB (B [c]) 0 k (B l) = (cutL c l).map B := by
  intro k
  induction k with
  | zero =>
    intro l hl
    rw [Lib.splitB_zero, cut_none c l (fun b hb e => by subst e; exact absurd hl (by have := List.count_pos_iff.2 hb; omega))]
    rfl
  | succ k ih =>
    intro l hl
    have hm : c ∈ l := List.count_pos_iff.1 (by omega)
    obtain ⟨x, r, rfl, hx⟩ := List.eq_append_cons_of_mem hm
    have hx' : ∀ b ∈ x, b ≠ c := fun b hb e => hx (e ▸ hb)
    have hi : Lib.indexB (B (x ++ c :: r)) (B [c]) = (x.length : Int) := by
      show Lib.index (B (x ++ c :: r)).data.toList (B [c]).data.toList = _
      rw [B_data, B_data]
      exact index_hit c x r hx'
    rw [Lib.splitB_hit _ _ _ _ _ hi, cut_hit c r x hx', B_ext0, Nat.add_zero, B_ext1, List.take_left, List.map_cons]
    congr 1
    rw [List.count_append, List.count_cons_self, List.count_eq_zero_of_not_mem hx] at hl
    have e : (x ++ c :: r).drop (x.length + (B [c]).size) = r := by
      rw [B_size, List.drop_append, List.drop_of_length_le (by omega)]
      simp
    rw [e]
    exact ih r (by omega)
theorem split_f (c : UInt8) (l : List UInt8) (hl : l.length ≤ 1000000) : strings_Split.f (B l) (B [c]) = some ((cutL c l).map B) := by
  unfold strings_Split.f
  rw [if_pos ⟨by rw [B_size]; omega, by rw [B_size]; simp⟩]
  refine congrArg some (split_cut c _ l ?_)
  show _ = Lib.count (B l).data.toList (B [c]).data.toList
  rw [B_data, B_data, Lib.count_one]
/-- The digits of a number below 1000. -/
def dec3 (n : Nat) : List UInt8 := if n < 10 then [UInt8.ofNat (48 + n)] else if n < 100 then [UInt8.ofNat (48 + n / 10), UInt8.ofNat (48 + n % 10)] else [UInt8.ofNat (48 + n / 100), UInt8.ofNat (48 + n / 10 % 10), UInt8.ofNat (48 + n % 10)]
theorem dec_eq (n : Nat) (h : n < 1000) : Lib.decDigits n = dec3 n := by
  unfold dec3
  by_cases h1 : n < 10
  · rw [if_pos h1, Lib.decDigits, dif_pos h1]
  · rw [if_neg h1, Lib.decDigits, dif_neg h1]
    by_cases h2 : n < 100
    · rw [if_pos h2, Lib.decDigits, dif_pos (by omega)]
      rfl
    · rw [if_neg h2, Lib.decDigits, dif_neg (by omega), Lib.decDigits, dif_pos (by omega)]
      simp [Nat.div_div_eq_div_mul]
set_option maxRecDepth 100000 in
theorem dec_spec_fin : ∀ i : Fin 256, spec_l00Digits.f 6 (i.val : Int) = some (B (dec3 i.val)) := by decide +kernel
theorem dec_spec (n : Nat) (h : n < 256) (k : Nat) (hk : 6 ≤ k) : spec_l00Digits.f k (n : Int) = some (B (dec3 n)) :=
  up (fun k => spec_l00Digits.mono (n : Int) k) (dec_spec_fin ⟨n, h⟩) k hk
theorem dec_impl (n : Nat) (h : n < 256) : strconv_Itoa_24.f (n : Int) = some (B (dec3 n)) := by
  unfold strconv_Itoa_24.f
  rw [if_pos (by omega), Lib.itoa_nonneg, dec_eq n (by omega)]
  rfl
set_option maxRecDepth 100000 in
theorem num_spec_fin : ∀ i : Fin 256, spec_l00Number.f 12 (B (dec3 i.val)) = some ((i.val : Int), true) := by decide +kernel
theorem num_spec (n : Nat) (h : n < 256) (k : Nat) (hk : 12 ≤ k) : spec_l00Number.f k (B (dec3 n)) = some ((n : Int), true) :=
  up (fun k => spec_l00Number.mono (B (dec3 n)) k) (num_spec_fin ⟨n, h⟩) k hk
set_option maxRecDepth 100000 in
theorem num_impl_fin : ∀ i : Fin 256, impl_number.f 12 (B (dec3 i.val)) = some ((i.val : Int), true) := by decide +kernel
theorem num_impl (n : Nat) (h : n < 256) (k : Nat) (hk : 12 ≤ k) : impl_number.f k (B (dec3 n)) = some ((n : Int), true) :=
  up (fun k => impl_number.mono (B (dec3 n)) k) (num_impl_fin ⟨n, h⟩) k hk
theorem dec3_fin : ∀ i : Fin 256, (dec3 i.val).length ≤ 3 ∧ 1 ≤ (dec3 i.val).length ∧ ∀ b ∈ dec3 i.val, 48 ≤ b.toNat ∧ b.toNat ≤ 57 := by decide +kernel
theorem dec3_len (n : Nat) (h : n < 256) : (dec3 n).length ≤ 3 := (dec3_fin ⟨n, h⟩).1
theorem dec3_ne (n : Nat) (h : n < 256) (c : UInt8) (hc : c.toNat < 48 ∨ 57 < c.toNat) : ∀ b ∈ dec3 n, b ≠ c := fun b hb e => by
  have := (dec3_fin ⟨n, h⟩).2.2 b hb
  subst e
  omega
theorem hex_i_fin : ∀ i : Fin 16, impl_hexDigit.f 5 ((hexB i.val).toNat : Int) = some (i.val : Int) := by decide +kernel
theorem hex_i (d : Nat) (h : d < 16) (k : Nat) (hk : 5 ≤ k) : impl_hexDigit.f k ((hexB d).toNat : Int) = some (d : Int) := up (fun k => impl_hexDigit.mono _ k) (hex_i_fin ⟨d, h⟩) k hk
theorem hex_s_fin : ∀ i : Fin 16, spec_l01Digit.f 5 ((hexB i.val).toNat : Int) = some (i.val : Int) := by decide +kernel
theorem hex_s (d : Nat) (h : d < 16) (k : Nat) (hk : 5 ≤ k) : spec_l01Digit.f k ((hexB d).toNat : Int) = some (d : Int) := up (fun k => spec_l01Digit.mono _ k) (hex_s_fin ⟨d, h⟩) k hk
/-- The digits at base 16. -/
def hx (w : Nat) : List Nat := if w < 16 then [w] else if w < 256 then [w / 16, w % 16] else if w < 4096 then [w / 256, w / 16 % 16, w % 16] else [w / 4096, w / 256 % 16, w / 16 % 16, w % 16]
theorem hexL_hx (w : Nat) (h : w < 65536) : hexL w = (hx w).map hexB := by
  unfold hx
  by_cases h1 : w < 16
  · rw [if_pos h1, hexL_small h1]; rfl
  rw [if_neg h1, hexL_step h1]
  by_cases h2 : w < 256
  · rw [if_pos h2, hexL_small (by omega)]; rfl
  rw [if_neg h2, hexL_step (by omega)]
  by_cases h3 : w < 4096
  · rw [if_pos h3, hexL_small (by omega)]
    simp [Nat.div_div_eq_div_mul]
  rw [if_neg h3, hexL_step (by omega), hexL_small (by omega)]
  simp [Nat.div_div_eq_div_mul]
theorem hx_lt (w : Nat) (h : w < 65536) : ∀ d ∈ hx w, d < 16 := by
  unfold hx
  intro d hd
  split at hd
  · simp at hd; omega
  split at hd
  · simp at hd; omega
  split at hd
  · simp at hd; omega
  · simp at hd; omega
theorem hx_len (w : Nat) : 1 ≤ (hx w).length ∧ (hx w).length ≤ 4 := by
  unfold hx
  split
  · simp
  split
  · simp
  split
  · simp
  · simp
def hval (n : Nat) (ds : List Nat) : Nat := ds.foldl (fun a d => 16 * a + d) n
theorem hx_val (w : Nat) (h : w < 65536) : hval 0 (hx w) = w := by
  unfold hx
  split
  · simp [hval]
  split
  · simp [hval]; omega
  split
  · simp [hval]; omega
  · simp [hval]; omega
theorem hexB_fin : ∀ i : Fin 16, 48 ≤ (hexB i.val).toNat ∧ (hexB i.val).toNat ≤ 102 ∧ (hexB i.val).toNat ≠ 58 := by decide +kernel
theorem hexL_ne (w : Nat) (h : w < 65536) (c : UInt8) (hc : c.toNat < 48 ∨ c.toNat = 58) : ∀ b ∈ hexL w, b ≠ c := fun b hb e => by
  rw [hexL_hx w h] at hb
  obtain ⟨d, hd, rfl⟩ := List.mem_map.1 hb
  have := hexB_fin ⟨d, hx_lt w h d hd⟩
  subst e
  simp only at this
  omega
theorem hexL_length (w : Nat) (h : w < 65536) : 1 ≤ (hexL w).length ∧ (hexL w).length ≤ 4 := by rw [hexL_hx w h, List.length_map]; exact hx_len w
/-- A word's two bytes. -/
def wb (w : Nat) : List Int := [((w / 256 : Nat) : Int), ((w % 256 : Nat) : Int)]
theorem l1_impl (acc : List Int) (ds : List Nat) (hds : ∀ d ∈ ds, d < 16) (hl : ds.length ≤ 4) (xs : List ByteArray) (len j : Int) : ∀ (m i n : Nat) (k : Nat), i + m = ds.length → n < 16 ^ i → m + 6 < k → acc.length ≤ 1000 →
    ∃ k', k ≤ k' + m + 1 ∧ k' < k ∧ impl_readWords.l1 k acc (B (ds.map hexB)) (n : Int) (i : Int) xs len j = impl_readWords.l0 k' (acc ++ wb (hval n (ds.drop i))) xs len (wrap64 (j + 1)) := by
  intro m
  induction m with
  | zero =>
    intro i n k hi hn hk ha
    obtain ⟨k, rfl⟩ : ∃ q, k = q + 1 := ⟨k - 1, by omega⟩
    refine ⟨k, by omega, by omega, ?_⟩
    have hn2 : n < 65536 := Nat.lt_of_lt_of_le hn (Nat.pow_le_pow_right (by decide) (by omega : i ≤ 4))
    rw [impl_readWords.l1, if_neg (by rw [B_size, List.length_map]; omega)]
    unfold impl_word16.f
    rw [Option.bind_some, if_pos (by simp; omega), List.drop_of_length_le (by omega)]
    congr 2
    simp only [wb, hval, List.foldl_nil]
    rw [show ((n : Int) / 256) % 256 = ((n / 256 : Nat) : Int) by omega]
    rfl
  | succ m ih =>
    intro i n k hi hn hk ha
    obtain ⟨k, rfl⟩ : ∃ q, k = q + 1 := ⟨k - 1, by omega⟩
    have hlt : i < ds.length := by omega
    have hd := hds _ (List.getElem_mem hlt)
    have hn2 : n < 4096 := Nat.lt_of_lt_of_le hn (Nat.pow_le_pow_right (by decide) (by omega : i ≤ 3))
    obtain ⟨k', h1, h2, h3⟩ := ih (i + 1) (16 * n + ds[i]) k (by omega) (by rw [Nat.pow_succ]; omega) (by omega) ha
    refine ⟨k', by omega, by omega, ?_⟩
    rw [impl_readWords.l1, if_pos (by rw [B_size, List.length_map]; omega), if_pos (by omega), B_bt _ _ (by rw [List.length_map]; exact hlt), List.getElem_map, hex_i _ hd k (by omega), Option.bind_some, if_neg (by omega), ww i (by omega),
      w64 (x := 16 * (n : Int)) (by omega) (by omega), w64 (by omega) (by omega), show 16 * (n : Int) + (ds[i] : Int) = ((16 * n + ds[i] : Nat) : Int) by omega, h3]
    rw [List.drop_eq_getElem_cons hlt]
    rfl
theorem l1_spec (acc : List Int) (ds : List Nat) (hds : ∀ d ∈ ds, d < 16) (hl : ds.length ≤ 4) (xs : List ByteArray) (j : Int) : ∀ (m i n : Nat) (k : Nat), i + m = ds.length → n < 16 ^ i → m + 6 < k → acc.length ≤ 1000 →
    ∃ k', k ≤ k' + m + 1 ∧ k' < k ∧ spec_l01Words.l1 k acc xs j (B (ds.map hexB)) (n : Int) (i : Int) = spec_l01Words.l0 k' (acc ++ wb (hval n (ds.drop i))) xs (wrap64 (j + 1)) := by
  intro m
  induction m with
  | zero =>
    intro i n k hi hn hk ha
    obtain ⟨k, rfl⟩ : ∃ q, k = q + 1 := ⟨k - 1, by omega⟩
    refine ⟨k, by omega, by omega, ?_⟩
    have hn2 : n < 65536 := Nat.lt_of_lt_of_le hn (Nat.pow_le_pow_right (by decide) (by omega : i ≤ 4))
    rw [spec_l01Words.l1, if_neg (by rw [B_size, List.length_map]; omega), Option.bind_some, if_pos (by simp; omega), List.drop_of_length_le (by omega)]
    congr 2
    simp only [wb, hval, List.foldl_nil]
    rw [tdiv_nonneg_eq (by omega), tmod_nonneg_eq (by omega), w64 (by omega) (by omega), show ((n : Int) / 256) % 256 = ((n / 256 : Nat) : Int) by omega, show ((n : Int) % 256) % 256 = ((n % 256 : Nat) : Int) by omega]
  | succ m ih =>
    intro i n k hi hn hk ha
    obtain ⟨k, rfl⟩ : ∃ q, k = q + 1 := ⟨k - 1, by omega⟩
    have hlt : i < ds.length := by omega
    have hd := hds _ (List.getElem_mem hlt)
    have hn2 : n < 4096 := Nat.lt_of_lt_of_le hn (Nat.pow_le_pow_right (by decide) (by omega : i ≤ 3))
    obtain ⟨k', h1, h2, h3⟩ := ih (i + 1) (16 * n + ds[i]) k (by omega) (by rw [Nat.pow_succ]; omega) (by omega) ha
    refine ⟨k', by omega, by omega, ?_⟩
    rw [spec_l01Words.l1, if_pos (by rw [B_size, List.length_map]; omega), if_pos (by omega), B_bt _ _ (by rw [List.length_map]; exact hlt), List.getElem_map, hex_s _ hd k (by omega), Option.bind_some, if_neg (by omega), ww i (by omega),
      w64 (x := (n : Int) * 16) (by omega) (by omega), w64 (by omega) (by omega), show (n : Int) * 16 + (ds[i] : Int) = ((16 * n + ds[i] : Nat) : Int) by omega, h3]
    rw [List.drop_eq_getElem_cons hlt]
    rfl
theorem l0_impl (ws : List Nat) (hws : ∀ w ∈ ws, w < 65536) (hl : ws.length ≤ 8) : ∀ (m i : Nat) (acc : List Int) (k : Nat), i + m = ws.length → acc.length ≤ 2 * i → 10 * m + 10 < k →
    impl_readWords.l0 k acc ((ws.map hexL).map B) (ws.length : Int) (i : Int) = some (acc ++ ((ws.drop i).map wb).flatten, true) := by
  intro m
  induction m with
  | zero =>
    intro i acc k hi ha hk
    obtain ⟨k, rfl⟩ : ∃ q, k = q + 1 := ⟨k - 1, by omega⟩
    rw [impl_readWords.l0, if_neg (by omega), List.drop_of_length_le (by omega)]
    simp
  | succ m ih =>
    intro i acc k hi ha hk
    obtain ⟨k, rfl⟩ : ∃ q, k = q + 2 := ⟨k - 2, by omega⟩
    have hlt : i < ws.length := by omega
    have hw := hws _ (List.getElem_mem hlt)
    have hlen := hexL_length _ hw
    have er : rdOf ByteArray.empty ((ws.map hexL).map B) (i : Int) = B (hexL ws[i]) := by rw [rdOf_B _ _ (by simpa using hlt), List.getElem_map]
    obtain ⟨k', h1, h2, h3⟩ := l1_impl acc (hx ws[i]) (hx_lt _ hw) (hx_len _).2 ((ws.map hexL).map B) (ws.length : Int) (i : Int) (hx ws[i]).length 0 0 k (by omega) (by decide) (by have := (hx_len ws[i]).2; omega) (by omega)
    have hxl := (hx_len ws[i]).2
    rw [impl_readWords.l0, if_pos (by omega), if_pos (by omega), if_pos (by simp; omega), er, if_neg (by rw [B_size]; omega), decide_eq_false (by rw [B_size]; omega), impl_readWords.j1, if_neg (by decide), hexL_hx _ hw]
    rw [show ((0 : Nat) : Int) = 0 from rfl] at h3
    rw [h3, List.drop_zero, hx_val _ hw, ww i (by omega), ih (i + 1) (acc ++ wb ws[i]) k' (by omega) (by simp [wb]; omega) (by omega), List.drop_eq_getElem_cons hlt, List.map_cons, List.flatten_cons, List.append_assoc]
theorem l0_spec (ws : List Nat) (hws : ∀ w ∈ ws, w < 65536) (hl : ws.length ≤ 8) : ∀ (m i : Nat) (acc : List Int) (k : Nat), i + m = ws.length → acc.length = 2 * i → 10 * m + 10 < k →
    spec_l01Words.l0 k acc ((ws.map hexL).map B) (i : Int) = some (acc ++ ((ws.drop i).map wb).flatten, true) := by
  intro m
  induction m with
  | zero =>
    intro i acc k hi ha hk
    obtain ⟨k, rfl⟩ : ∃ q, k = q + 1 := ⟨k - 1, by omega⟩
    rw [spec_l01Words.l0, if_neg (by simp; omega), List.drop_of_length_le (by omega)]
    simp
    omega
  | succ m ih =>
    intro i acc k hi ha hk
    obtain ⟨k, rfl⟩ : ∃ q, k = q + 2 := ⟨k - 2, by omega⟩
    have hlt : i < ws.length := by omega
    have hw := hws _ (List.getElem_mem hlt)
    have hlen := hexL_length _ hw
    have er : rdOf ByteArray.empty ((ws.map hexL).map B) (i : Int) = B (hexL ws[i]) := by rw [rdOf_B _ _ (by simpa using hlt), List.getElem_map]
    obtain ⟨k', h1, h2, h3⟩ := l1_spec acc (hx ws[i]) (hx_lt _ hw) (hx_len _).2 ((ws.map hexL).map B) (i : Int) (hx ws[i]).length 0 0 k (by omega) (by decide) (by have := (hx_len ws[i]).2; omega) (by omega)
    have hxl := (hx_len ws[i]).2
    rw [spec_l01Words.l0, if_pos (by simp; omega), if_pos (by omega), er, if_neg (by rw [B_size]; omega), decide_eq_false (by rw [B_size]; omega), spec_l01Words.j1, if_neg (by decide), hexL_hx _ hw]
    rw [show ((0 : Nat) : Int) = 0 from rfl] at h3
    rw [h3, List.drop_zero, hx_val _ hw, ww i (by omega), ih (i + 1) (acc ++ wb ws[i]) k' (by omega) (by simp [wb]; omega) (by omega), List.drop_eq_getElem_cons hlt, List.map_cons, List.flatten_cons, List.append_assoc]
theorem hex_ne_nil (w : Nat) (h : w < 65536) : hexL w ≠ [] := fun e => by have := (hexL_length w h).1; rw [e] at this; simp at this
theorem jn_ne_nil (c : UInt8) (xs : List (List UInt8)) (h0 : xs ≠ []) (h : ∀ x ∈ xs, x ≠ []) : jn c xs ≠ [] := by
  match xs, h0 with
  | [x], _ => exact h x (by simp)
  | x :: y :: r, _ => simp [jn]
theorem words_len (ws : List Nat) (hws : ∀ w ∈ ws, w < 65536) : (jn 58 (ws.map hexL)).length ≤ 5 * ws.length := by
  have h := jn_len 58 4 (ws.map hexL) (fun x hx => by
    obtain ⟨w, hw, rfl⟩ := List.mem_map.1 hx
    exact (hexL_length w (hws w hw)).2)
  rwa [List.length_map] at h
theorem read_impl (ws : List Nat) (hws : ∀ w ∈ ws, w < 65536) (hl : ws.length ≤ 8) (k : Nat) (hk : 100 ≤ k) : impl_readWords.f k (B (jn 58 (ws.map hexL))) = some ((ws.map wb).flatten, true) := by
  unfold impl_readWords.f
  rw [Option.bind_some, B_toList]
  by_cases h0 : ws = []
  · subst h0; rfl
  · have hne : ws.map hexL ≠ [] := by simpa using h0
    rw [if_neg (jn_ne_nil 58 _ hne (fun x hx => by
      obtain ⟨w, hw, rfl⟩ := List.mem_map.1 hx
      exact hex_ne_nil w (hws w hw)))]
    have hs := split_f 58 (jn 58 (ws.map hexL)) (by have := words_len ws hws; omega)
    rw [show (⟨#[58]⟩ : ByteArray) = B [58] from rfl, hs, Option.bind_some, cut_jn 58 _ hne (fun x hx => by
      obtain ⟨w, hw, rfl⟩ := List.mem_map.1 hx
      exact hexL_ne w (hws w hw) 58 (.inr rfl))]
    have h := l0_impl ws hws hl ws.length 0 [] k (by omega) (by simp) (by omega)
    simpa using h
theorem read_spec (ws : List Nat) (hws : ∀ w ∈ ws, w < 65536) (hl : ws.length ≤ 8) (k : Nat) (hk : 100 ≤ k) : spec_l01Words.f k (B (jn 58 (ws.map hexL))) = some ((ws.map wb).flatten, true) := by
  unfold spec_l01Words.f
  rw [Option.bind_some, B_toList]
  by_cases h0 : ws = []
  · subst h0; rfl
  · have hne : ws.map hexL ≠ [] := by simpa using h0
    rw [if_neg (jn_ne_nil 58 _ hne (fun x hx => by
      obtain ⟨w, hw, rfl⟩ := List.mem_map.1 hx
      exact hex_ne_nil w (hws w hw)))]
    have hs := spec_cut_f 58 (jn 58 (ws.map hexL)) (by have := words_len ws hws; omega) k (by have := words_len ws hws; omega)
    rw [show ((58 : UInt8).toNat : Int) = 58 from rfl] at hs
    rw [hs, Option.bind_some, cut_jn 58 _ hne (fun x hx => by
      obtain ⟨w, hw, rfl⟩ := List.mem_map.1 hx
      exact hexL_ne w (hws w hw) 58 (.inr rfl))]
    have h := l0_spec ws hws hl ws.length 0 [] k (by omega) (by simp) (by omega)
    simpa using h
/-- The words of sixteen bytes. -/
def W8 (ad : List UInt8) : List Nat := (List.range 8).map fun i => (ad.getD (2 * i) 0).toNat * 256 + (ad.getD (2 * i + 1) 0).toNat
theorem W8_len (ad : List UInt8) : (W8 ad).length = 8 := by simp [W8]
theorem W8_lt (ad : List UInt8) : ∀ w ∈ W8 ad, w < 65536 := by
  intro w hw
  simp only [W8, List.mem_map, List.mem_range] at hw
  obtain ⟨i, _, rfl⟩ := hw
  have h1 := (ad.getD (2 * i) 0).toNat_lt
  have h2 := (ad.getD (2 * i + 1) 0).toNat_lt
  omega
theorem W8_at (ad : List UInt8) (i : Nat) (h : i < 8) : (W8 ad)[i]'(by rw [W8_len]; exact h) = (ad.getD (2 * i) 0).toNat * 256 + (ad.getD (2 * i + 1) 0).toNat := by simp [W8]
theorem B_bt' (l : List UInt8) (i : Nat) (h : i < l.length) : bt (B l) (i : Int) = ((l.getD i 0).toNat : Int) := by
  rw [B_bt l i h]; simp [h]
theorem word_spec (ad : List UInt8) (hl : ad.length = 16) (i : Nat) (h : i < 8) : spec_l01Word.f (B ad) (i : Int) = some (((W8 ad)[i]'(by rw [W8_len]; exact h) : Nat) : Int) := by
  have e1 : wrap64 (2 * (i : Int)) = ((2 * i : Nat) : Int) := by rw [w64 (by omega) (by omega)]; omega
  have e2 : wrap64 (((2 * i : Nat) : Int) + 1) = ((2 * i + 1 : Nat) : Int) := ww (2 * i) (by omega)
  unfold spec_l01Word.f
  rw [e1, e2, if_pos (by omega), if_pos (by rw [B_size]; omega), if_pos (by omega), if_pos (by rw [B_size]; omega), B_bt' _ _ (by omega), B_bt' _ _ (by omega), W8_at ad i h]
  have h1 := (ad.getD (2 * i) 0).toNat_lt
  have h2 := (ad.getD (2 * i + 1) 0).toNat_lt
  rw [w64 (x := ((ad.getD (2 * i) 0).toNat : Int)) (by omega) (by omega), w64 (x := ((ad.getD (2 * i) 0).toNat : Int) * 256) (by omega) (by omega), w64 (x := ((ad.getD (2 * i + 1) 0).toNat : Int)) (by omega) (by omega), w64 (by omega) (by omega)]
  congr 1
/-- How many words of 0 stand at the front. -/
def rl : List Bool → Nat
  | true :: r => rl r + 1
  | _ => 0
theorem rl_in : ∀ (z : List Bool) (j : Nat), j < rl z → z[j]? = some true
  | true :: r, 0, _ => rfl
  | true :: r, j + 1, h => by simp only [rl] at h; simpa using rl_in r j (by omega)
  | false :: r, j, h => by simp [rl] at h
  | [], j, h => by simp [rl] at h
theorem rl_end : ∀ (z : List Bool), z[rl z]? = none ∨ z[rl z]? = some false
  | true :: r => by simpa [rl] using rl_end r
  | false :: r => .inr rfl
  | [] => .inl rfl
theorem rl_le : ∀ z : List Bool, rl z ≤ z.length
  | true :: r => by simp only [rl, List.length_cons]; have := rl_le r; omega
  | false :: r => by simp [rl]
  | [] => by simp [rl]
def gS (z : List Bool) : Nat → Nat → Nat → Nat → Nat × Nat
  | 0, _, f, m => if m < 2 then (8, 0) else (f, m)
  | n + 1, i, f, m => if rl (z.drop i) > m then gS z n (i + 1) i (rl (z.drop i)) else gS z n (i + 1) f m
def gI (z : List Bool) : Nat → Nat → Nat → Nat → Nat × Nat
  | 0, _, b, m => (b, m)
  | n + 1, i, b, m => if i < z.length then (if rl (z.drop i) > m then gI z n (max (i + rl (z.drop i)) (i + 1)) i (rl (z.drop i)) else gI z n (max (i + rl (z.drop i)) (i + 1)) b m) else (b, m)
def gapOk (z : List Bool) : Bool :=
  let g := gS z 8 0 0 1
  let h := gI z 9 0 0 0
  if h.2 < 2 then decide (g = (8, 0)) else decide (g = h) && decide (h.1 + h.2 ≤ 8) && (List.range h.2).all fun j => z[h.1 + j]? == some true
theorem gap_all : ∀ b0 b1 b2 b3 b4 b5 b6 b7 : Bool, gapOk [b0, b1, b2, b3, b4, b5, b6, b7] = true := by decide +kernel
theorem gap_ok (z : List Bool) (h : z.length = 8) : gapOk z = true := by
  match z, h with
  | [b0, b1, b2, b3, b4, b5, b6, b7], _ => exact gap_all _ _ _ _ _ _ _ _
def zs (ws : List Nat) : List Bool := ws.map (· == 0)
theorem zs_len (ws : List Nat) : (zs ws).length = ws.length := by simp [zs]
theorem zs_drop (ws : List Nat) (i j : Nat) : ((zs ws).drop i)[j]? = ws[i + j]?.map (· == 0) := by simp [zs]
theorem gap_l1 (ad : List UInt8) (ws : List Nat) (hl : ws.length = 8) (hW : ∀ (i : Nat) (h : i < 8), spec_l01Word.f (B ad) (i : Int) = some ((ws[i]'(by omega) : Nat) : Int)) (f m i : Nat) (hi : i < 8) (hf : f ≤ 100) (hm : m ≤ 100) : ∀ (d j : Nat) (k : Nat), j + d = rl ((zs ws).drop i) → d + 2 < k →
    ∃ k', k ≤ k' + d + 1 ∧ spec_l01Gap.l1 k (B ad) (f : Int) (m : Int) (i : Int) (j : Int) = (if rl ((zs ws).drop i) > m then spec_l01Gap.l0 k' (B ad) (i : Int) (rl ((zs ws).drop i) : Int) ((i + 1 : Nat) : Int) else spec_l01Gap.l0 k' (B ad) (f : Int) (m : Int) ((i + 1 : Nat) : Int)) := by
  have hr : rl ((zs ws).drop i) ≤ 8 - i := by have := rl_le ((zs ws).drop i); rwa [List.length_drop, zs_len, hl] at this
  intro d
  induction d with
  | zero =>
    intro j k hj hk
    obtain ⟨k, rfl⟩ : ∃ q, k = q + 1 := ⟨k - 1, by omega⟩
    refine ⟨k, by omega, ?_⟩
    have e1 : wrap64 ((i : Int) + (j : Int)) = ((i + j : Nat) : Int) := by rw [w64 (by omega) (by omega)]; omega
    have e2 : wrap64 ((i : Int) + 1) = ((i + 1 : Nat) : Int) := ww i (by omega)
    have hx : (if (j : Int) > (m : Int) then spec_l01Gap.l0 k (B ad) (i : Int) (j : Int) (wrap64 ((i : Int) + 1)) else spec_l01Gap.l0 k (B ad) (f : Int) (m : Int) (wrap64 ((i : Int) + 1))) = (if rl ((zs ws).drop i) > m then spec_l01Gap.l0 k (B ad) (i : Int) (rl ((zs ws).drop i) : Int) ((i + 1 : Nat) : Int) else spec_l01Gap.l0 k (B ad) (f : Int) (m : Int) ((i + 1 : Nat) : Int)) := by
      rw [Nat.add_zero] at hj
      rw [e2, ← hj]
      by_cases h : j > m
      · rw [if_pos h, if_pos (by omega)]
      · rw [if_neg h, if_neg (by omega)]
    rw [spec_l01Gap.l1, e1]
    by_cases h8 : i + j < 8
    · have hws := hW (i + j) h8
      have he := rl_end ((zs ws).drop i)
      rw [← hj, Nat.add_zero, zs_drop, List.getElem?_eq_getElem (by rw [hl]; exact h8)] at he
      simp only [Option.map_some, reduceCtorEq, Option.some.injEq, false_or, beq_eq_false_iff_ne] at he
      generalize ws[i + j]'(by rw [hl]; exact h8) = wv at hws he
      rw [if_pos (by omega), hws, Option.bind_some, if_neg (by omega)]
      exact hx
    · rw [if_neg (by omega)]
      exact hx
  | succ d ih =>
    intro j k hj hk
    obtain ⟨k, rfl⟩ : ∃ q, k = q + 1 := ⟨k - 1, by omega⟩
    obtain ⟨k', h1, h2⟩ := ih (j + 1) k (by omega) (by omega)
    refine ⟨k', by omega, ?_⟩
    have h8 : i + j < 8 := by omega
    have h8' : ((i + j : Nat) : Int) < 8 := by omega
    have hj1 : j < 4000000000000000000 := by omega
    have e1 : wrap64 ((i : Int) + (j : Int)) = ((i + j : Nat) : Int) := by rw [w64 (by omega) (by omega)]; omega
    have hz := rl_in ((zs ws).drop i) j (by omega)
    rw [zs_drop, List.getElem?_eq_getElem (by rw [hl]; exact h8)] at hz
    simp only [Option.map_some, Option.some.injEq, beq_iff_eq] at hz
    have hws := hW (i + j) h8
    rw [hz] at hws
    clear hz hj hr ih hk
    rw [spec_l01Gap.l1, e1, if_pos h8', hws, Option.bind_some, if_pos (show ((0 : Nat) : Int) = 0 from rfl), ww j hj1]
    exact h2
theorem gap_l0 (ad : List UInt8) (ws : List Nat) (hl : ws.length = 8) (hW : ∀ (i : Nat) (h : i < 8), spec_l01Word.f (B ad) (i : Int) = some ((ws[i]'(by omega) : Nat) : Int)) : ∀ (n i f m : Nat) (k : Nat), i + n = 8 → f ≤ 100 → m ≤ 100 → 20 * n + 20 < k →
    spec_l01Gap.l0 k (B ad) (f : Int) (m : Int) (i : Int) = some (((gS (zs ws) n i f m).1 : Int), ((gS (zs ws) n i f m).2 : Int)) := by
  intro n
  induction n with
  | zero =>
    intro i f m k hi hf hm hk
    obtain ⟨k, rfl⟩ : ∃ q, k = q + 1 := ⟨k - 1, by omega⟩
    rw [spec_l01Gap.l0, if_neg (by omega), gS]
    by_cases h : m < 2
    · rw [if_pos (by omega), if_pos h]; rfl
    · rw [if_neg (by omega), if_neg h]
  | succ n ih =>
    intro i f m k hi hf hm hk
    obtain ⟨k, rfl⟩ : ∃ q, k = q + 1 := ⟨k - 1, by omega⟩
    have hr : rl ((zs ws).drop i) ≤ 8 - i := by have := rl_le ((zs ws).drop i); rwa [List.length_drop, zs_len, hl] at this
    obtain ⟨k', h1, h2⟩ := gap_l1 ad ws hl hW f m i (by omega) hf hm (rl ((zs ws).drop i)) 0 k (by omega) (by omega)
    rw [spec_l01Gap.l0, if_pos (by omega)]
    rw [show ((0 : Nat) : Int) = 0 from rfl] at h2
    rw [h2, gS]
    by_cases h : rl ((zs ws).drop i) > m
    · rw [if_pos h, if_pos h, ih (i + 1) i _ k' (by omega) (by omega) (by omega) (by omega)]
    · rw [if_neg h, if_neg h, ih (i + 1) f m k' (by omega) hf hm (by omega)]
theorem gap_spec (ad : List UInt8) (hl : ad.length = 16) (k : Nat) (hk : 200 ≤ k) : spec_l01Gap.f k (B ad) = some (((gS (zs (W8 ad)) 8 0 0 1).1 : Int), ((gS (zs (W8 ad)) 8 0 0 1).2 : Int)) :=
  gap_l0 ad (W8 ad) (W8_len ad) (fun i h => word_spec ad hl i h) 8 0 0 1 k (by omega) (by omega) (by omega) (by omega)
theorem mx_nat (a b : Nat) : mx (a : Int) (b : Int) = ((max a b : Nat) : Int) := by unfold mx; split <;> omega
theorem rd_nat (ws : List Nat) (i : Nat) (h : i < ws.length) : rd (ws.map fun w : Nat => (w : Int)) (i : Int) = (ws[i] : Int) := by simp [rd, h]
theorem run_l1 (ws : List Nat) (hw : ws.length ≤ 100) (b m i : Nat) (hi : i < ws.length) (hb : b ≤ 1000) (hm : m ≤ 1000) : ∀ (d j : Nat) (k : Nat), j + d = rl ((zs ws).drop i) → d + 2 < k →
    ∃ k', k ≤ k' + d + 1 ∧ impl_zeroRun.l1 k (ws.map fun w : Nat => (w : Int)) (b : Int) (m : Int) (i : Int) ((i + j : Nat) : Int) =
      (if rl ((zs ws).drop i) > m then impl_zeroRun.l0 k' (ws.map fun w : Nat => (w : Int)) (i : Int) (rl ((zs ws).drop i) : Int) ((max (i + rl ((zs ws).drop i)) (i + 1) : Nat) : Int) else impl_zeroRun.l0 k' (ws.map fun w : Nat => (w : Int)) (b : Int) (m : Int) ((max (i + rl ((zs ws).drop i)) (i + 1) : Nat) : Int)) := by
  have hr : rl ((zs ws).drop i) ≤ ws.length - i := by have := rl_le ((zs ws).drop i); rwa [List.length_drop, zs_len] at this
  intro d
  induction d with
  | zero =>
    intro j k hj hk
    obtain ⟨k, rfl⟩ : ∃ q, k = q + 1 := ⟨k - 1, by omega⟩
    refine ⟨k, by omega, ?_⟩
    have e1 : wrap64 (((i + j : Nat) : Int) - (i : Int)) = (j : Int) := by rw [w64 (by omega) (by omega)]; omega
    have e2 : wrap64 ((i : Int) + 1) = ((i + 1 : Nat) : Int) := ww i (by omega)
    have hx : (if wrap64 (((i + j : Nat) : Int) - (i : Int)) > (m : Int) then impl_zeroRun.l0 k (ws.map fun w : Nat => (w : Int)) (i : Int) (wrap64 (((i + j : Nat) : Int) - (i : Int))) (mx ((i + j : Nat) : Int) (wrap64 ((i : Int) + 1))) else impl_zeroRun.l0 k (ws.map fun w : Nat => (w : Int)) (b : Int) (m : Int) (mx ((i + j : Nat) : Int) (wrap64 ((i : Int) + 1)))) = (if rl ((zs ws).drop i) > m then impl_zeroRun.l0 k (ws.map fun w : Nat => (w : Int)) (i : Int) (rl ((zs ws).drop i) : Int) ((max (i + rl ((zs ws).drop i)) (i + 1) : Nat) : Int) else impl_zeroRun.l0 k (ws.map fun w : Nat => (w : Int)) (b : Int) (m : Int) ((max (i + rl ((zs ws).drop i)) (i + 1) : Nat) : Int)) := by
      rw [Nat.add_zero] at hj
      rw [e1, e2, mx_nat, ← hj]
      by_cases h : j > m
      · rw [if_pos h, if_pos (by omega)]
      · rw [if_neg h, if_neg (by omega)]
    rw [impl_zeroRun.l1]
    by_cases h8 : i + j < ws.length
    · rw [if_pos (by rw [List.length_map]; omega), if_pos (by omega)]
      have er := rd_nat ws (i + j) h8
      have he := rl_end ((zs ws).drop i)
      rw [← hj, Nat.add_zero, zs_drop, List.getElem?_eq_getElem h8] at he
      simp only [Option.map_some, reduceCtorEq, Option.some.injEq, false_or, beq_eq_false_iff_ne] at he
      rw [er, if_neg (by omega)]
      exact hx
    · rw [if_neg (by rw [List.length_map]; omega)]
      exact hx
  | succ d ih =>
    intro j k hj hk
    obtain ⟨k, rfl⟩ : ∃ q, k = q + 1 := ⟨k - 1, by omega⟩
    obtain ⟨k', h1, h2⟩ := ih (j + 1) k (by omega) (by omega)
    refine ⟨k', by omega, ?_⟩
    have hlt : i + j < ws.length := by omega
    have er := rd_nat ws (i + j) hlt
    have hz := rl_in ((zs ws).drop i) j (by omega)
    rw [zs_drop, List.getElem?_eq_getElem hlt] at hz
    simp only [Option.map_some, Option.some.injEq, beq_iff_eq] at hz
    rw [impl_zeroRun.l1, if_pos (by rw [List.length_map]; omega), if_pos (by omega), er, if_pos (by omega), ww (i + j) (by omega)]
    exact h2
theorem run_l0 (ws : List Nat) (hw : ws.length ≤ 8) : ∀ (n i b m : Nat) (k : Nat), ws.length < i + n → b ≤ 1000 → m ≤ 1000 → 20 * n + 20 < k →
    impl_zeroRun.l0 k (ws.map fun w : Nat => (w : Int)) (b : Int) (m : Int) (i : Int) = some (((gI (zs ws) n i b m).1 : Int), ((gI (zs ws) n i b m).2 : Int)) := by
  intro n
  induction n with
  | zero =>
    intro i b m k hi hb hm hk
    obtain ⟨k, rfl⟩ : ∃ q, k = q + 1 := ⟨k - 1, by omega⟩
    rw [impl_zeroRun.l0, if_neg (by rw [List.length_map]; omega), gI]
  | succ n ih =>
    intro i b m k hi hb hm hk
    obtain ⟨k, rfl⟩ : ∃ q, k = q + 1 := ⟨k - 1, by omega⟩
    by_cases hlt : i < ws.length
    · have hr : rl ((zs ws).drop i) ≤ ws.length - i := by have := rl_le ((zs ws).drop i); rwa [List.length_drop, zs_len] at this
      obtain ⟨k', h1, h2⟩ := run_l1 ws (by omega) b m i hlt hb hm (rl ((zs ws).drop i)) 0 k (by omega) (by omega)
      rw [Nat.add_zero] at h2
      rw [impl_zeroRun.l0, if_pos (by rw [List.length_map]; omega), h2]
      have eg : gI (zs ws) (n + 1) i b m = (if rl ((zs ws).drop i) > m then gI (zs ws) n (max (i + rl ((zs ws).drop i)) (i + 1)) i (rl ((zs ws).drop i)) else gI (zs ws) n (max (i + rl ((zs ws).drop i)) (i + 1)) b m) := by rw [gI, if_pos (by rw [zs_len]; exact hlt)]
      rw [eg]
      by_cases h : rl ((zs ws).drop i) > m
      · rw [if_pos h, if_pos h, ih _ i _ k' (by omega) (by omega) (by omega) (by omega)]
      · rw [if_neg h, if_neg h, ih _ b m k' (by omega) hb hm (by omega)]
    · rw [impl_zeroRun.l0, if_neg (by rw [List.length_map]; omega), gI, if_neg (by rw [zs_len]; exact hlt)]
theorem run_impl (ws : List Nat) (hw : ws.length = 8) (k : Nat) (hk : 300 ≤ k) : impl_zeroRun.f k (ws.map fun w : Nat => (w : Int)) = some (((gI (zs ws) 9 0 0 0).1 : Int), ((gI (zs ws) 9 0 0 0).2 : Int)) :=
  run_l0 ws (by omega) 9 0 0 0 k (by omega) (by omega) (by omega) (by omega)
/-- The gap of some words: where it begins, how long it is; 8 and 0 if there is none. -/
def gapOf (ws : List Nat) : Nat × Nat := gS (zs ws) 8 0 0 1
theorem gapOf_ok (ws : List Nat) (hl : ws.length = 8) : (gapOf ws = (8, 0) ∧ (gI (zs ws) 9 0 0 0).2 < 2) ∨ (2 ≤ (gapOf ws).2 ∧ gapOf ws = gI (zs ws) 9 0 0 0 ∧ (gapOf ws).1 + (gapOf ws).2 ≤ 8 ∧ ∀ j, j < (gapOf ws).2 → ws[(gapOf ws).1 + j]? = some 0) := by
  have h := gap_ok (zs ws) (by rw [zs_len]; exact hl)
  unfold gapOk at h
  simp only at h
  by_cases h2 : (gI (zs ws) 9 0 0 0).2 < 2
  · rw [if_pos h2] at h
    exact .inl ⟨of_decide_eq_true h, h2⟩
  · rw [if_neg h2] at h
    simp only [Bool.and_eq_true, decide_eq_true_eq, List.all_eq_true, List.mem_range, beq_iff_eq] at h
    obtain ⟨⟨h3, h4⟩, h5⟩ := h
    have e : gapOf ws = gI (zs ws) 9 0 0 0 := h3
    refine .inr ⟨by rw [e]; omega, e, by rw [e]; exact h4, fun j hj => ?_⟩
    rw [e] at hj ⊢
    have h6 := h5 j hj
    simp only [zs, List.getElem?_map, Option.map_eq_some_iff, beq_iff_eq] at h6
    obtain ⟨w, hw, rfl⟩ := h6
    exact hw
theorem hexText_ok (w : Nat) (h : w < 65536) : impl_hexText.f (w : Int) = some (B (hexL w)) := by
  unfold impl_hexText.f strconv_FormatInt_70.f
  rw [if_pos (by omega), Int.toNat_natCast]
  rfl
theorem B_map_data (xs : List (List UInt8)) : (xs.map B).map (·.data.toList) = xs := by
  rw [List.map_map]
  conv => rhs; rw [← List.map_id xs]
  exact List.map_congr_left (fun x _ => B_data x)
theorem join_f (c : UInt8) (xs : List (List UInt8)) (h1 : xs.length ≤ 100) (h2 : (jn c xs).length ≤ 100000) : strings_Join.f (xs.map B) (B [c]) = some (B (jn c xs)) := by
  unfold strings_Join.f
  rw [B_map_data, B_data, join_jn, if_pos ⟨by rw [List.length_map]; omega, by omega⟩]
  rfl
theorem joinWords_l0 (ws : List Nat) (hws : ∀ w ∈ ws, w < 65536) (hl : ws.length ≤ 8) : ∀ (m i : Nat) (k : Nat), i + m = ws.length → m < k →
    impl_joinWords.l0 k (((ws.take i).map hexL).map B ++ List.replicate m (⟨#[]⟩ : ByteArray)) (ws.map fun w : Nat => (w : Int)) (ws.length : Int) (i : Int) = some (B (jn 58 (ws.map hexL))) := by
  intro m
  induction m with
  | zero =>
    intro i k hi hk
    obtain ⟨k, rfl⟩ : ∃ q, k = q + 1 := ⟨k - 1, by omega⟩
    rw [impl_joinWords.l0, if_neg (by omega), List.take_of_length_le (by omega), List.replicate_zero, List.append_nil, show (⟨#[58]⟩ : ByteArray) = B [58] from rfl, join_f 58 _ (by simp; omega) (by have := words_len ws hws; omega), Option.bind_some]
  | succ m ih =>
    intro i k hi hk
    obtain ⟨k, rfl⟩ : ∃ q, k = q + 1 := ⟨k - 1, by omega⟩
    have hlt : i < ws.length := by omega
    have hlen : (((ws.take i).map hexL).map B).length = i := by simp; omega
    rw [impl_joinWords.l0, if_pos (by omega), if_pos (by omega), if_pos (by rw [List.length_map]; omega), rd_nat ws i hlt, hexText_ok _ (hws _ (List.getElem_mem hlt)), Option.bind_some,
      if_pos (by rw [List.length_append, hlen, List.length_replicate]; omega), ww i (by omega), List.replicate_succ]
    have hs : (((ws.take i).map hexL).map B ++ (⟨#[]⟩ : ByteArray) :: List.replicate m (⟨#[]⟩ : ByteArray)).set (i : Int).toNat (B (hexL ws[i])) = ((ws.take (i + 1)).map hexL).map B ++ List.replicate m (⟨#[]⟩ : ByteArray) := by
      rw [Int.toNat_natCast]
      have := set_mid (((ws.take i).map hexL).map B) (List.replicate m (⟨#[]⟩ : ByteArray)) (⟨#[]⟩ : ByteArray) (B (hexL ws[i]))
      rw [hlen] at this
      rw [this, List.take_add_one, List.getElem?_eq_getElem hlt]
      simp only [Option.toList_some, List.map_append, List.map_cons, List.map_nil, List.append_assoc, List.cons_append, List.nil_append]
    rw [hs]
    exact ih (i + 1) k (by omega) (by omega)
theorem joinWords_ok (ws : List Nat) (hws : ∀ w ∈ ws, w < 65536) (hl : ws.length ≤ 8) (k : Nat) (hk : 20 ≤ k) : impl_joinWords.f k (ws.map fun w : Nat => (w : Int)) = some (B (jn 58 (ws.map hexL))) := by
  unfold impl_joinWords.f
  rw [if_pos (by omega), if_pos (by rw [List.length_map, Int.toNat_natCast]; omega), List.length_map, Int.toNat_natCast]
  have h := joinWords_l0 ws hws hl ws.length 0 k (by omega) (by omega)
  simpa using h
/-- The text of an address of eight words. -/
def tx6 (ws : List Nat) : List UInt8 :=
  if (gapOf ws).2 < 2 then jn 58 (ws.map hexL) else jn 58 ((ws.take (gapOf ws).1).map hexL) ++ 58 :: 58 :: jn 58 ((ws.drop ((gapOf ws).1 + (gapOf ws).2)).map hexL)
theorem mem_take_lt {ws : List Nat} (h : ∀ w ∈ ws, w < 65536) (n : Nat) : ∀ w ∈ ws.take n, w < 65536 := fun w hw => h w (List.mem_of_mem_take hw)
theorem mem_drop_lt {ws : List Nat} (h : ∀ w ∈ ws, w < 65536) (n : Nat) : ∀ w ∈ ws.drop n, w < 65536 := fun w hw => h w (List.mem_of_mem_drop hw)
theorem take_len {ws : List Nat} (h : ∀ w ∈ ws, w < 65536) (n : Nat) : (jn 58 ((ws.take n).map hexL)).length ≤ 5 * ws.length := by
  have h1 := words_len (ws.take n) (mem_take_lt h n)
  have h2 : (ws.take n).length ≤ ws.length := by rw [List.length_take]; omega
  omega
theorem drop_len {ws : List Nat} (h : ∀ w ∈ ws, w < 65536) (n : Nat) : (jn 58 ((ws.drop n).map hexL)).length ≤ 5 * ws.length := by
  have h1 := words_len (ws.drop n) (mem_drop_lt h n)
  have h2 : (ws.drop n).length ≤ ws.length := by rw [List.length_drop]; omega
  omega
theorem tx6_len (ws : List Nat) (hws : ∀ w ∈ ws, w < 65536) (hl : ws.length = 8) : (tx6 ws).length ≤ 45 := by
  unfold tx6
  split
  · have := words_len ws hws; omega
  · rename_i hg
    rcases gapOf_ok ws hl with ⟨e, _⟩ | ⟨h1, _, h2, _⟩
    · rw [e] at hg; exact absurd (by decide) hg
    · have h3 := words_len (ws.take (gapOf ws).1) (mem_take_lt hws _)
      have h4 := words_len (ws.drop ((gapOf ws).1 + (gapOf ws).2)) (mem_drop_lt hws _)
      rw [List.length_take] at h3
      rw [List.length_drop] at h4
      rw [List.length_append, List.length_cons, List.length_cons]
      omega
theorem or_word (h l : Nat) (hh : h < 256) (hl : l < 256) : Go.bits .or .i64 ((h : Int) * 256) (l : Int) = ((h * 256 + l : Nat) : Int) := by
  have e : (h : Int) * 256 = ((h * 256 : Nat) : Int) := by omega
  rw [e]
  have h1 : h * 256 ||| l = h * 256 + l := by
    have := Nat.two_pow_add_eq_or_of_lt (b := l) (i := 8) (by omega) h
    rw [show h * 256 = 2 ^ 8 * h by omega]
    exact this.symm
  have h2 : Go.bits .or .i64 ((h * 256 : Nat) : Int) (l : Int) = ((h * 256 ||| l : Nat) : Int) := by
    have ofi : ∀ a : Nat, a < 2 ^ 64 → (BitVec.ofInt 64 (a : Int)).toNat = a := fun a ha => by rw [BitVec.ofInt_natCast, BitVec.toNat_ofNat]; exact Nat.mod_eq_of_lt ha
    show IntKind.i64.wrap ((BitVec.ofInt 64 ((h * 256 : Nat) : Int) ||| BitVec.ofInt 64 (l : Int)).toNat : Int) = _
    rw [BitVec.toNat_or, ofi _ (by omega), ofi _ (by omega), h1]
    exact wrap_small _ (by omega) (by omega)
  rw [h2, h1]
theorem nat_set_step (ws : List Nat) (i m : Nat) (hi : i + (m + 1) = ws.length) : (((ws.take i).map fun w : Nat => (w : Int)) ++ List.replicate (m + 1) 0).set (i : Int).toNat ((ws[i]'(by omega) : Nat) : Int) = ((ws.take (i + 1)).map fun w : Nat => (w : Int)) ++ List.replicate m 0 := by
  have hlen : ((ws.take i).map fun w : Nat => (w : Int)).length = i := by simp; omega
  rw [Int.toNat_natCast, List.replicate_succ]
  have := set_mid ((ws.take i).map fun w : Nat => (w : Int)) (List.replicate m 0) 0 ((ws[i]'(by omega) : Nat) : Int)
  rw [hlen] at this
  rw [this, List.take_add_one, List.getElem?_eq_getElem (by omega)]
  simp only [Option.toList_some, List.map_append, List.map_cons, List.map_nil, List.append_assoc, List.cons_append, List.nil_append]
theorem text_l1 (ad : List UInt8) (hl : ad.length = 16) (ws : List Nat) (hw8 : ws.length = 8) (hws : ∀ w ∈ ws, w < 65536) (hat : ∀ (i : Nat) (h : i < 8), ws[i]'(by omega) = (ad.getD (2 * i) 0).toNat * 256 + (ad.getD (2 * i + 1) 0).toNat) : ∀ (m i : Nat) (k : Nat), i + m = 8 → 400 + m < k →
    impl_AddrText.l1 k (B ad) (((ws.take i).map fun w : Nat => (w : Int)) ++ List.replicate m 0) 8 (i : Int) = some (B (tx6 ws), 0) := by
  intro m
  induction m with
  | zero =>
    intro i k hi hk
    obtain ⟨k, rfl⟩ : ∃ q, k = q + 1 := ⟨k - 1, by omega⟩
    rw [impl_AddrText.l1, if_neg (by omega), List.take_of_length_le (by omega), List.replicate_zero, List.append_nil, run_impl ws hw8 k (by omega), Option.bind_some]
    dsimp only
    rcases gapOf_ok ws hw8 with ⟨e, h2⟩ | ⟨h1, e, h2, _⟩
    · rw [if_pos (by omega), joinWords_ok ws hws (by omega) k (by omega), Option.bind_some]
      unfold tx6
      rw [e, if_pos (by decide)]
    · rw [← e, if_neg (by omega), if_pos (by omega), if_pos (by rw [List.length_map]; omega), Int.toNat_natCast, ← List.map_take, joinWords_ok _ (mem_take_lt hws _) (by rw [List.length_take]; omega) k (by omega), Option.bind_some,
        if_pos (by rw [B_size]; have := take_len hws (gapOf ws).1; omega), w64 (by omega) (by omega), if_pos (by omega), if_pos (by rw [List.length_map]; omega), show ((gapOf ws).1 : Int) + ((gapOf ws).2 : Int) = (((gapOf ws).1 + (gapOf ws).2 : Nat) : Int) by omega, Int.toNat_natCast, ← List.map_drop,
        joinWords_ok _ (mem_drop_lt hws _) (by rw [List.length_drop]; omega) k (by omega), Option.bind_some, show (⟨#[58, 58]⟩ : ByteArray) = B [58, 58] from rfl, B_app, if_pos (by rw [B_size, B_size, List.length_append]; have h3 := take_len hws (gapOf ws).1; have h4 := drop_len hws ((gapOf ws).1 + (gapOf ws).2); simp only [List.length_cons, List.length_nil]; omega), B_app]
      unfold tx6
      rw [if_neg (by omega)]
      simp
  | succ m ih =>
    intro i k hi hk
    obtain ⟨k, rfl⟩ : ∃ q, k = q + 1 := ⟨k - 1, by omega⟩
    have e1 : wrap64 (2 * (i : Int)) = ((2 * i : Nat) : Int) := by rw [w64 (by omega) (by omega)]; omega
    have e2 : wrap64 (((2 * i : Nat) : Int) + 1) = ((2 * i + 1 : Nat) : Int) := ww (2 * i) (by omega)
    have b1 := (ad.getD (2 * i) 0).toNat_lt
    have b2 := (ad.getD (2 * i + 1) 0).toNat_lt
    have hh := hat i (by omega)
    rw [impl_AddrText.l1, if_pos (by omega), e1, e2, if_pos (by omega), if_pos (by rw [B_size]; omega), if_pos (by omega), if_pos (by rw [B_size]; omega), if_pos (by omega), if_pos (by simp; omega), B_bt' _ _ (by omega), B_bt' _ _ (by omega),
      w64 (x := ((ad.getD (2 * i) 0).toNat : Int)) (by omega) (by omega), w64 (x := ((ad.getD (2 * i) 0).toNat : Int) * 256) (by omega) (by omega), w64 (x := ((ad.getD (2 * i + 1) 0).toNat : Int)) (by omega) (by omega), or_word _ _ b1 b2, ← hh, ww i (by omega), nat_set_step ws i m (by omega)]
    exact ih (i + 1) k (by omega) (by omega)
theorem tooLong_ok (p : ByteArray) (h : p.size ≤ 65536) (k : Nat) (hk : 3 ≤ k) : impl_tooLong.f k [p] = some false := by
  obtain ⟨k, rfl⟩ : ∃ q, k = q + 2 := ⟨k - 2, by omega⟩
  have e : rdOf ByteArray.empty [p] 0 = p := rfl
  unfold impl_tooLong.f
  rw [impl_tooLong.l0, if_pos (by simp), if_pos (by omega), if_pos (by simp), e, if_neg (by omega), w64 (by omega) (by omega), impl_tooLong.l0, if_neg (by simp)]
theorem isAddr_ok (p : ByteArray) (h : p.size = 4 ∨ p.size = 16) : impl_isAddress.f p = some true := by
  unfold impl_isAddress.f
  by_cases h4 : (p.size : Int) = 4
  · rw [if_pos h4]
  · rw [if_neg h4]
    have : (p.size : Int) = 16 := by omega
    simp [this]
/-- The text of an address of four bytes. -/
def tx4 (ad : List UInt8) : List UInt8 := jn 46 (ad.map fun b => dec3 b.toNat)
theorem text4_l0 (ad : List UInt8) (hl : ad.length = 4) : ∀ (m i : Nat) (k : Nat), i + m = 4 → m < k →
    impl_AddrText.l0 k (B ad) (((ad.take i).map fun b => dec3 b.toNat).map B ++ List.replicate m (⟨#[]⟩ : ByteArray)) 4 (i : Int) = some (B (tx4 ad), 0) := by
  intro m
  induction m with
  | zero =>
    intro i k hi hk
    obtain ⟨k, rfl⟩ : ∃ q, k = q + 1 := ⟨k - 1, by omega⟩
    rw [impl_AddrText.l0, if_neg (by omega), List.take_of_length_le (by omega), List.replicate_zero, List.append_nil, show (⟨#[46]⟩ : ByteArray) = B [46] from rfl, join_f 46 _ (by simp; omega) (by
      have := jn_len 46 3 (ad.map fun b => dec3 b.toNat) (fun x hx => by
        obtain ⟨b, _, rfl⟩ := List.mem_map.1 hx
        exact dec3_len _ b.toNat_lt)
      rw [List.length_map] at this
      omega), Option.bind_some]
    rfl
  | succ m ih =>
    intro i k hi hk
    obtain ⟨k, rfl⟩ : ∃ q, k = q + 1 := ⟨k - 1, by omega⟩
    have hlt : i < ad.length := by omega
    have b1 := (ad[i]).toNat_lt
    have hlen : (((ad.take i).map fun b => dec3 b.toNat).map B).length = i := by simp; omega
    rw [impl_AddrText.l0, if_pos (by omega), if_pos (by omega), if_pos (by rw [B_size]; omega), B_bt _ _ hlt, w64 (by omega) (by omega), dec_impl _ b1, Option.bind_some,
      if_pos (by rw [List.length_append, hlen, List.length_replicate]; omega), ww i (by omega), List.replicate_succ]
    have hs : (((ad.take i).map fun b => dec3 b.toNat).map B ++ (⟨#[]⟩ : ByteArray) :: List.replicate m (⟨#[]⟩ : ByteArray)).set (i : Int).toNat (B (dec3 ad[i].toNat)) = ((ad.take (i + 1)).map fun b => dec3 b.toNat).map B ++ List.replicate m (⟨#[]⟩ : ByteArray) := by
      rw [Int.toNat_natCast]
      have := set_mid (((ad.take i).map fun b => dec3 b.toNat).map B) (List.replicate m (⟨#[]⟩ : ByteArray)) (⟨#[]⟩ : ByteArray) (B (dec3 ad[i].toNat))
      rw [hlen] at this
      rw [this, List.take_add_one, List.getElem?_eq_getElem hlt]
      simp only [Option.toList_some, List.map_append, List.map_cons, List.map_nil, List.append_assoc, List.cons_append, List.nil_append]
    rw [hs]
    exact ih (i + 1) k (by omega) (by omega)
/-- The text of an address. -/
def tx (ad : List UInt8) : List UInt8 := if ad.length = 4 then tx4 ad else tx6 (W8 ad)
theorem text_impl (ad : List UInt8) (hl : ad.length = 4 ∨ ad.length = 16) (k : Nat) (hk : 500 ≤ k) : impl_AddrText.f k (B ad) = some (B (tx ad), 0) := by
  unfold impl_AddrText.f
  rw [tooLong_ok _ (by rw [B_size]; omega) k (by omega), Option.bind_some, if_neg (by decide), isAddr_ok _ (by rw [B_size]; exact hl), Option.bind_some, if_pos rfl]
  rcases hl with hl | hl
  · rw [if_pos (by rw [B_size]; omega), if_pos (by decide), Option.bind_some]
    have h := text4_l0 ad hl 4 0 k (by omega) (by omega)
    unfold tx
    rw [if_pos hl]
    simpa using h
  · rw [if_neg (by rw [B_size]; omega), if_pos (by decide), Option.bind_some]
    have h := text_l1 ad hl (W8 ad) (W8_len ad) (W8_lt ad) (fun i h => W8_at ad i h) 8 0 k (by omega) (by omega)
    unfold tx
    rw [if_neg (by omega)]
    simpa using h
theorem hex_f (w : Nat) (h : w < 65536) (k : Nat) : spec_l01Hex.f k (w : Int) = some (B (hexL w)) := by
  unfold spec_l01Hex.f
  rw [if_pos (by omega), Int.toNat_natCast]
  rfl
theorem take_jn (ws : List Nat) (i : Nat) (h : i < ws.length) (h0 : 0 < i) : jn 58 ((ws.take (i + 1)).map hexL) = jn 58 ((ws.take i).map hexL) ++ 58 :: hexL ws[i] := by
  rw [List.take_add_one, List.getElem?_eq_getElem h, Option.toList_some, List.map_append, List.map_cons, List.map_nil]
  refine jn_snoc 58 _ _ ?_
  have : ((ws.take i).map hexL).length ≠ 0 := by rw [List.length_map, List.length_take]; omega
  exact fun e => this (by rw [e]; rfl)
theorem take_jn0 (ws : List Nat) (h : 0 < ws.length) : jn 58 ((ws.take 1).map hexL) = hexL ws[0] := by
  match ws, h with
  | w :: r, _ => rfl
theorem stext_a (ad : List UInt8) (ws : List Nat) (hl : ws.length = 8) (hws : ∀ w ∈ ws, w < 65536) (hW : ∀ (i : Nat) (h : i < 8), spec_l01Word.f (B ad) (i : Int) = some ((ws[i]'(by omega) : Nat) : Int)) (f n : Nat) (hf : f ≤ 8) (hn : n ≤ 8) : ∀ (m i : Nat) (k : Nat), i + m = f → 2 * m + 10 < k →
    ∃ k', k ≤ k' + 2 * m ∧ spec_l01Text.l0 k (B ad) (f : Int) (n : Int) (B (jn 58 ((ws.take i).map hexL))) (i : Int) = spec_l01Text.l0 k' (B ad) (f : Int) (n : Int) (B (jn 58 ((ws.take f).map hexL))) (f : Int) := by
  intro m
  induction m with
  | zero =>
    intro i k hi hk
    rw [Nat.add_zero] at hi
    subst hi
    exact ⟨k, by omega, rfl⟩
  | succ m ih =>
    intro i k hi hk
    obtain ⟨k, rfl⟩ : ∃ q, k = q + 2 := ⟨k - 2, by omega⟩
    have hlt : i < ws.length := by omega
    have hw := hws _ (List.getElem_mem hlt)
    have hlen := take_len hws i
    have hhl := (hexL_length _ hw).2
    obtain ⟨k', h1, h2⟩ := ih (i + 1) k (by omega) (by omega)
    refine ⟨k', by omega, ?_⟩
    rw [← h2, spec_l01Text.l0, if_pos (by omega), if_neg (by omega)]
    by_cases h0 : 0 < i
    · have hne : ((i : Int) != wrap64 ((f : Int) + (n : Int))) = true := by rw [w64 (by omega) (by omega)]; exact bne_iff_ne.2 (by omega)
      rw [if_pos (by omega), hne, spec_l01Text.j1, if_pos rfl, if_pos (by rw [B_size]; omega), hW i (by omega), Option.bind_some, hex_f _ hw, Option.bind_some, show (⟨#[58]⟩ : ByteArray) = B [58] from rfl, B_app, if_pos (by rw [B_size, B_size, List.length_append]; simp only [List.length_cons, List.length_nil]; omega), B_app, ww i (by omega), take_jn ws i hlt h0, List.append_assoc]
      rfl
    · obtain rfl : i = 0 := by omega
      rw [if_neg (by omega), spec_l01Text.j1, if_neg (by decide), hW 0 (by omega), Option.bind_some, hex_f _ hw, Option.bind_some, if_pos (by rw [B_size, B_size]; omega), B_app, ww 0 (by omega), take_jn0 ws (by omega)]
      rfl
theorem stext_b (ad : List UInt8) (ws : List Nat) (hl : ws.length = 8) (hws : ∀ w ∈ ws, w < 65536) (hW : ∀ (i : Nat) (h : i < 8), spec_l01Word.f (B ad) (i : Int) = some ((ws[i]'(by omega) : Nat) : Int)) (f n : Nat) (hn : 2 ≤ n) (hfn : f + n ≤ 8) (pre : List UInt8) (hp : pre.length ≤ 100) : ∀ (m i : Nat) (k : Nat), i + m = 8 → f + n ≤ i → 2 * m + 10 < k →
    spec_l01Text.l0 k (B ad) (f : Int) (n : Int) (B (pre ++ jn 58 (((ws.drop (f + n)).take (i - (f + n))).map hexL))) (i : Int) = some (B (pre ++ jn 58 ((ws.drop (f + n)).map hexL))) := by
  intro m
  induction m with
  | zero =>
    intro i k hi hi2 hk
    obtain ⟨k, rfl⟩ : ∃ q, k = q + 1 := ⟨k - 1, by omega⟩
    rw [spec_l01Text.l0, if_neg (by omega), List.take_of_length_le (by rw [List.length_drop]; omega)]
  | succ m ih =>
    intro i k hi hi2 hk
    obtain ⟨k, rfl⟩ : ∃ q, k = q + 2 := ⟨k - 2, by omega⟩
    have hlt : i < ws.length := by omega
    have hw := hws _ (List.getElem_mem hlt)
    have hlen := take_len (mem_drop_lt hws (f + n)) (i - (f + n))
    rw [List.length_drop] at hlen
    have hhl := (hexL_length _ hw).2
    have hlt2 : i - (f + n) < (ws.drop (f + n)).length := by rw [List.length_drop]; omega
    have hge : (ws.drop (f + n))[i - (f + n)] = ws[i] := by rw [List.getElem_drop]; congr 1; omega
    rw [← ih (i + 1) k (by omega) (by omega) (by omega), spec_l01Text.l0, if_pos (by omega), if_neg (by omega), if_pos (by omega), w64 (x := (f : Int) + (n : Int)) (by omega) (by omega)]
    by_cases h0 : f + n < i
    · have hne : ((i : Int) != (f : Int) + (n : Int)) = true := bne_iff_ne.2 (by omega)
      rw [hne, spec_l01Text.j1, if_pos rfl, if_pos (by rw [B_size, List.length_append]; omega), hW i (by omega), Option.bind_some, hex_f _ hw, Option.bind_some, show (⟨#[58]⟩ : ByteArray) = B [58] from rfl, B_app, if_pos (by rw [B_size, B_size, List.length_append, List.length_append]; simp only [List.length_cons, List.length_nil]; omega), B_app, ww i (by omega), show i + 1 - (f + n) = i - (f + n) + 1 by omega, take_jn _ _ hlt2 (by omega), hge, List.append_assoc, List.append_assoc]
      rfl
    · have hi3 : i = f + n := by omega
      have hne : ((i : Int) != (f : Int) + (n : Int)) = false := bne_eq_false_iff_eq.2 (by omega)
      have hz : i - (f + n) = 0 := by omega
      have hlt3 : 0 < (ws.drop (f + n)).length := by rw [List.length_drop]; omega
      have hge0 : (ws.drop (f + n))[0] = ws[i] := by rw [List.getElem_drop]; congr 1; omega
      rw [hne, spec_l01Text.j1, if_neg (by decide), hW i (by omega), Option.bind_some, hex_f _ hw, Option.bind_some, if_pos (by rw [B_size, B_size, List.length_append]; omega), B_app, ww i (by omega), show i + 1 - (f + n) = 1 by omega, take_jn0 _ hlt3, hge0, hz, List.take_zero, List.map_nil, List.append_assoc]
      rfl
theorem stext6 (ad : List UInt8) (ws : List Nat) (hl : ws.length = 8) (hws : ∀ w ∈ ws, w < 65536) (hW : ∀ (i : Nat) (h : i < 8), spec_l01Word.f (B ad) (i : Int) = some ((ws[i]'(by omega) : Nat) : Int)) (k : Nat) (hk : 100 ≤ k) :
    spec_l01Text.l0 k (B ad) ((gapOf ws).1 : Int) ((gapOf ws).2 : Int) (B []) 0 = some (B (tx6 ws)) := by
  rcases gapOf_ok ws hl with ⟨e, h2⟩ | ⟨h1, e, h2, _⟩
  · obtain ⟨k', h3, h4⟩ := stext_a ad ws hl hws hW 8 0 (by omega) (by omega) 8 0 k (by omega) (by omega)
    rw [List.take_zero, List.map_nil, show ((0 : Nat) : Int) = 0 from rfl] at h4
    obtain ⟨k', rfl⟩ : ∃ q, k' = q + 1 := ⟨k' - 1, by omega⟩
    rw [e]
    show spec_l01Text.l0 k (B ad) ((8 : Nat) : Int) 0 (B (jn 58 [])) 0 = _
    rw [h4, spec_l01Text.l0, if_neg (by omega), List.take_of_length_le (by omega)]
    unfold tx6
    rw [e, if_pos (by decide)]
  · obtain ⟨k', h3, h4⟩ := stext_a ad ws hl hws hW (gapOf ws).1 (gapOf ws).2 (by omega) (by omega) (gapOf ws).1 0 k (by omega) (by omega)
    rw [List.take_zero, List.map_nil, show ((0 : Nat) : Int) = 0 from rfl] at h4
    obtain ⟨k', rfl⟩ : ∃ q, k' = q + 1 := ⟨k' - 1, by omega⟩
    show spec_l01Text.l0 k (B ad) ((gapOf ws).1 : Int) ((gapOf ws).2 : Int) (B (jn 58 [])) 0 = _
    have hlen := take_len hws (gapOf ws).1
    have h5 := stext_b ad ws hl hws hW (gapOf ws).1 (gapOf ws).2 h1 h2 (jn 58 ((ws.take (gapOf ws).1).map hexL) ++ [58, 58]) (by rw [List.length_append]; simp only [List.length_cons, List.length_nil]; omega) (8 - ((gapOf ws).1 + (gapOf ws).2)) ((gapOf ws).1 + (gapOf ws).2) k' (by omega) (by omega) (by omega)
    rw [Nat.sub_self, List.take_zero, List.map_nil, jn, List.append_nil] at h5
    have ew : wrap64 ((wrap64 (((gapOf ws).1 : Int) + (wrap64 (((gapOf ws).2 : Int) - 1)))) + 1) = (((gapOf ws).1 + (gapOf ws).2 : Nat) : Int) := by
      rw [w64 (x := ((gapOf ws).2 : Int) - 1) (by omega) (by omega), w64 (x := ((gapOf ws).1 : Int) + (((gapOf ws).2 : Int) - 1)) (by omega) (by omega), w64 (by omega) (by omega)]
      omega
    rw [h4, spec_l01Text.l0, if_pos (by omega), if_pos rfl, if_pos (by rw [B_size]; omega), show (⟨#[58, 58]⟩ : ByteArray) = B [58, 58] from rfl, B_app, ew, h5]
    unfold tx6
    rw [if_neg (by omega)]
    simp
theorem text_spec (ad : List UInt8) (hl : ad.length = 4 ∨ ad.length = 16) (k : Nat) (hk : 500 ≤ k) : spec_l01Text.f k (B ad) = some (B (tx ad)) := by
  unfold spec_l01Text.f
  rcases hl with hl | hl
  · match ad, hl with
    | [a, b, c, d], _ =>
      have h1 := a.toNat_lt
      have h2 := b.toNat_lt
      have h3 := c.toNat_lt
      have h4 := d.toNat_lt
      have l1 := dec3_len _ h1
      have l2 := dec3_len _ h2
      have l3 := dec3_len _ h3
      have l4 := dec3_len _ h4
      have e0 : bt (B [a, b, c, d]) 0 = (a.toNat : Int) := B_bt [a, b, c, d] 0 (by simp)
      have e1 : bt (B [a, b, c, d]) 1 = (b.toNat : Int) := B_bt [a, b, c, d] 1 (by simp)
      have e2 : bt (B [a, b, c, d]) 2 = (c.toNat : Int) := B_bt [a, b, c, d] 2 (by simp)
      have e3 : bt (B [a, b, c, d]) 3 = (d.toNat : Int) := B_bt [a, b, c, d] 3 (by simp)
      have es : ((B [a, b, c, d]).size : Int) = 4 := by rw [B_size]; rfl
      rw [es, if_pos rfl, if_pos (by decide), e0, e1, e2, e3, w64 (x := (a.toNat : Int)) (by omega) (by omega), w64 (x := (b.toNat : Int)) (by omega) (by omega), w64 (x := (c.toNat : Int)) (by omega) (by omega), w64 (x := (d.toNat : Int)) (by omega) (by omega),
        dec_spec _ h1 k (by omega), Option.bind_some, if_pos (by rw [B_size]; omega), if_pos (by decide), dec_spec _ h2 k (by omega), Option.bind_some, show (⟨#[46]⟩ : ByteArray) = B [46] from rfl, B_app, B_size, B_size, if_pos (by rw [List.length_append]; simp only [List.length_cons, List.length_nil]; omega), B_app, B_size,
        if_pos (by rw [List.length_append, List.length_append]; simp only [List.length_cons, List.length_nil]; omega), if_pos (by decide), dec_spec _ h3 k (by omega), Option.bind_some, B_app, B_size, B_size, if_pos (by simp only [List.length_append, List.length_cons, List.length_nil]; omega), B_app, B_size, if_pos (by simp only [List.length_append, List.length_cons, List.length_nil]; omega), if_pos (by decide), dec_spec _ h4 k (by omega), Option.bind_some,
        B_app, B_size, B_size, if_pos (by simp only [List.length_append, List.length_cons, List.length_nil]; omega), B_app]
      simp [tx, tx4, jn]
  · rw [if_neg (by rw [B_size]; omega), gap_spec ad hl k (by omega), Option.bind_some]
    have h := stext6 ad (W8 ad) (W8_len ad) (W8_lt ad) (fun i h => word_spec ad hl i h) k (by omega)
    unfold tx
    rw [if_neg (by omega)]
    exact h
theorem ofNat_b (b : UInt8) : UInt8.ofNat ((b.toNat : Int)).toNat = b := by simp
theorem nums_bytes (ad : List UInt8) : strOfNums (ad.map fun b => (b.toNat : Int)) = B ad := by
  rw [B_nums, List.map_map]
  congr 1
  conv => rhs; rw [← List.map_id ad]
  exact List.map_congr_left (fun b _ => ofNat_b b)
theorem wb_all (ad : List UInt8) (hl : ad.length = 16) : ((W8 ad).map wb).flatten = ad.map fun b => (b.toNat : Int) := by
  match ad, hl with
  | [a0, a1, a2, a3, a4, a5, a6, a7, a8, a9, a10, a11, a12, a13, a14, a15], _ =>
    have h : ∀ a b : UInt8, wb (a.toNat * 256 + b.toNat) = [(a.toNat : Int), (b.toNat : Int)] := fun a b => by
      have h1 := a.toNat_lt
      have h2 := b.toNat_lt
      unfold wb
      rw [show (a.toNat * 256 + b.toNat) / 256 = a.toNat by omega, show (a.toNat * 256 + b.toNat) % 256 = b.toNat by omega]
    show (([a0.toNat * 256 + a1.toNat, a2.toNat * 256 + a3.toNat, a4.toNat * 256 + a5.toNat, a6.toNat * 256 + a7.toNat, a8.toNat * 256 + a9.toNat, a10.toNat * 256 + a11.toNat, a12.toNat * 256 + a13.toNat, a14.toNat * 256 + a15.toNat] : List Nat).map wb).flatten = _
    simp only [List.map_cons, List.map_nil, h, List.flatten_cons, List.flatten_nil, List.cons_append, List.nil_append]
/-! v4 -/
theorem four_i_l0 (ad : List UInt8) (hl : ad.length = 4) : ∀ (m i : Nat) (k : Nat), i + m = 4 → 20 + m < k →
    impl_readFour.l0 k (((ad.take i).map fun b => (b.toNat : Int)) ++ List.replicate m 0) ((ad.map fun b => dec3 b.toNat).map B) 4 (i : Int) = some (B ad, true) := by
  intro m
  induction m with
  | zero =>
    intro i k hi hk
    obtain ⟨k, rfl⟩ : ∃ q, k = q + 1 := ⟨k - 1, by omega⟩
    rw [impl_readFour.l0, if_neg (by omega), List.take_of_length_le (by omega), List.replicate_zero, List.append_nil, nums_bytes]
  | succ m ih =>
    intro i k hi hk
    obtain ⟨k, rfl⟩ : ∃ q, k = q + 1 := ⟨k - 1, by omega⟩
    have hlt : i < ad.length := by omega
    have b1 := (ad[i]).toNat_lt
    have hlen : ((ad.take i).map fun b => (b.toNat : Int)).length = i := by simp; omega
    have er : rdOf ByteArray.empty ((ad.map fun b => dec3 b.toNat).map B) (i : Int) = B (dec3 ad[i].toNat) := by rw [rdOf_B _ _ (by simpa using hlt), List.getElem_map]
    rw [impl_readFour.l0, if_pos (by omega), if_pos (by omega), if_pos (by simp; omega), er, num_impl _ b1 k (by omega), Option.bind_some, if_pos rfl, inR, Option.bind_some, if_pos (decide_eq_true (by omega)), if_pos (by rw [List.length_append, hlen, List.length_replicate]; omega), ww i (by omega), List.replicate_succ, show ((ad[i].toNat : Int)) % 256 = (ad[i].toNat : Int) by omega]
    have hs : (((ad.take i).map fun b : UInt8 => (b.toNat : Int)) ++ 0 :: List.replicate m 0).set (i : Int).toNat (ad[i].toNat : Int) = ((ad.take (i + 1)).map fun b : UInt8 => (b.toNat : Int)) ++ List.replicate m 0 := by
      rw [Int.toNat_natCast]
      have := set_mid ((ad.take i).map fun b => (b.toNat : Int)) (List.replicate m 0) 0 (ad[i].toNat : Int)
      rw [hlen] at this
      rw [this, List.take_add_one, List.getElem?_eq_getElem hlt]
      simp only [Option.toList_some, List.map_append, List.map_cons, List.map_nil, List.append_assoc, List.cons_append, List.nil_append]
    rw [hs]
    exact ih (i + 1) k (by omega) (by omega)
theorem cut_tx4 (ad : List UInt8) (hl : ad.length = 4) : cutL 46 (tx4 ad) = ad.map fun b : UInt8 => dec3 b.toNat := by
  refine cut_jn 46 _ (fun e => ?_) (fun x hx => ?_)
  · have := congrArg List.length e; simp [hl] at this
  · obtain ⟨b, _, rfl⟩ := List.mem_map.1 hx
    exact dec3_ne _ b.toNat_lt 46 (.inl (by decide))
theorem tx4_len (ad : List UInt8) (hl : ad.length = 4) : (tx4 ad).length ≤ 16 := by
  have := jn_len 46 3 (ad.map fun b : UInt8 => dec3 b.toNat) (fun x hx => by
    obtain ⟨b, _, rfl⟩ := List.mem_map.1 hx
    exact dec3_len _ b.toNat_lt)
  rw [List.length_map] at this
  unfold tx4
  omega
theorem four_impl (ad : List UInt8) (hl : ad.length = 4) (k : Nat) (hk : 50 ≤ k) : impl_readFour.f k (B (tx4 ad)) = some (B ad, true) := by
  unfold impl_readFour.f
  rw [show (⟨#[46]⟩ : ByteArray) = B [46] from rfl, split_f 46 _ (by have := tx4_len ad hl; omega), Option.bind_some, cut_tx4 ad hl, if_pos (by simp [hl]), if_pos (by decide)]
  have h := four_i_l0 ad hl 4 0 k (by omega) (by omega)
  have e : ((((ad.map fun b => dec3 b.toNat).map B).length : Nat) : Int) = 4 := by simp [hl]
  rw [e]
  simpa using h
theorem four_s_l0 (ad : List UInt8) (hl : ad.length = 4) : ∀ (m i : Nat) (k : Nat), i + m = 4 → 20 + m < k →
    spec_l01Four.l0 k ((ad.take i).map fun b => (b.toNat : Int)) ((ad.map fun b => dec3 b.toNat).map B) (i : Int) = some (B ad, true) := by
  intro m
  induction m with
  | zero =>
    intro i k hi hk
    obtain ⟨k, rfl⟩ : ∃ q, k = q + 1 := ⟨k - 1, by omega⟩
    rw [spec_l01Four.l0, if_neg (by simp; omega), List.take_of_length_le (by omega), nums_bytes]
    simp [hl]
  | succ m ih =>
    intro i k hi hk
    obtain ⟨k, rfl⟩ : ∃ q, k = q + 1 := ⟨k - 1, by omega⟩
    have hlt : i < ad.length := by omega
    have b1 := (ad[i]).toNat_lt
    have er : rdOf ByteArray.empty ((ad.map fun b => dec3 b.toNat).map B) (i : Int) = B (dec3 ad[i].toNat) := by rw [rdOf_B _ _ (by simpa using hlt), List.getElem_map]
    rw [spec_l01Four.l0, if_pos (by simp; omega), if_pos (by omega), er, num_spec _ b1 k (by omega), Option.bind_some, if_pos rfl, inS, Option.bind_some, if_pos (decide_eq_true (by omega)), if_pos (by simp; omega), ww i (by omega), show ((ad[i].toNat : Int)) % 256 = (ad[i].toNat : Int) by omega, ← ih (i + 1) k (by omega) (by omega), List.take_add_one, List.getElem?_eq_getElem hlt]
    simp only [Option.toList_some, List.map_append, List.map_cons, List.map_nil]
theorem four_spec (ad : List UInt8) (hl : ad.length = 4) (k : Nat) (hk : 50 ≤ k) : spec_l01Four.f k (B (tx4 ad)) = some (B ad, true) := by
  unfold spec_l01Four.f
  have hs := spec_cut_f 46 (tx4 ad) (by have := tx4_len ad hl; omega) k (by have := tx4_len ad hl; omega)
  rw [show ((46 : UInt8).toNat : Int) = 46 from rfl] at hs
  rw [hs, Option.bind_some, cut_tx4 ad hl]
  have h := four_s_l0 ad hl 4 0 k (by omega) (by omega)
  simpa using h
/-! v6: no dot, a colon -/
theorem words_mem (ws : List Nat) (hws : ∀ w ∈ ws, w < 65536) (c : UInt8) (hc : c.toNat < 48) : ∀ b ∈ jn 58 (ws.map hexL), b ≠ c := fun b hb e => by
  rcases jn_mem 58 _ b hb with rfl | ⟨x, hx, hb⟩
  · subst e; exact absurd hc (by decide)
  · obtain ⟨w, hw, rfl⟩ := List.mem_map.1 hx
    exact hexL_ne w (hws w hw) c (.inl hc) b hb e
theorem tx6_mem (ws : List Nat) (hws : ∀ w ∈ ws, w < 65536) (c : UInt8) (hc : c.toNat < 48) : ∀ b ∈ tx6 ws, b ≠ c := by
  unfold tx6
  intro b hb
  have h58 : (58 : UInt8) ≠ c := fun e => by subst e; exact absurd hc (by decide)
  split at hb
  · exact words_mem ws hws c hc b hb
  · rw [List.mem_append, List.mem_cons, List.mem_cons] at hb
    rcases hb with hb | rfl | rfl | hb
    · exact words_mem _ (mem_take_lt hws _) c hc b hb
    · exact h58
    · exact h58
    · exact words_mem _ (mem_drop_lt hws _) c hc b hb
theorem four6_impl (ws : List Nat) (hl : ws.length = 8) (hws : ∀ w ∈ ws, w < 65536) (k : Nat) : impl_readFour.f k (B (tx6 ws)) = some (B [], false) := by
  unfold impl_readFour.f
  rw [show (⟨#[46]⟩ : ByteArray) = B [46] from rfl, split_f 46 _ (by have := tx6_len ws hws hl; omega), Option.bind_some, cut_none 46 _ (tx6_mem ws hws 46 (by decide)), if_neg (by simp)]
  rfl
theorem num_total_l0 (p : List UInt8) (hp : p.length ≤ 60) (s : Int) (hs : s = 1 ∨ s = -1) : ∀ (m i : Nat) (n : Int) (k : Nat), i + m = p.length → m < k → ∃ r, spec_l00Number.l0 k (B p) s n (i : Int) = some r := by
  intro m
  induction m with
  | zero =>
    intro i n k hi hk
    obtain ⟨k, rfl⟩ : ∃ q, k = q + 1 := ⟨k - 1, by omega⟩
    rw [spec_l00Number.l0, if_neg (by rw [B_size]; omega)]
    exact ⟨_, rfl⟩
  | succ m ih =>
    intro i n k hi hk
    obtain ⟨k, rfl⟩ : ∃ q, k = q + 1 := ⟨k - 1, by omega⟩
    rw [spec_l00Number.l0, if_pos (by rw [B_size]; omega), if_pos (by omega)]
    repeat' split
    all_goals first | exact ⟨_, rfl⟩ | (rw [ww i (by omega)]; exact ih (i + 1) _ k (by omega) (by omega))
theorem num_total (p : List UInt8) (hp : p.length ≤ 60) (k : Nat) (hk : 100 ≤ k) : ∃ r, spec_l00Number.f k (B p) = some r := by
  have hj2 : ∀ (q : List UInt8) (s : Int) (b : Bool) (k : Nat), q.length ≤ 60 → (s = 1 ∨ s = -1) → 80 < k → ∃ r, spec_l00Number.j2 k (B q) s b = some r := fun q s b k hq hs hk => by
    obtain ⟨k, rfl⟩ : ∃ q, k = q + 1 := ⟨k - 1, by omega⟩
    rw [spec_l00Number.j2]
    split
    · exact ⟨_, rfl⟩
    · exact num_total_l0 q hq s hs q.length 0 0 k (by omega) (by omega)
  have hj1 : ∀ (q : List UInt8) (s : Int) (k : Nat), q.length ≤ 60 → (s = 1 ∨ s = -1) → 82 < k → ∃ r, spec_l00Number.j1 k (B q) s = some r := fun q s k hq hs hk => by
    obtain ⟨k, rfl⟩ : ∃ q, k = q + 1 := ⟨k - 1, by omega⟩
    rw [spec_l00Number.j1]
    split
    · exact hj2 q s _ k hq hs (by omega)
    · rename_i h0
      split
      · exact hj2 q s _ k hq hs (by omega)
      · rw [if_pos (by omega)]
        split
        · split
          · exact hj2 q s _ k hq hs (by omega)
          · exact hj2 q s _ k hq hs (by omega)
        · exact hj2 q s _ k hq hs (by omega)
  have hj0 : ∀ (b : Bool), (b = true → 1 ≤ p.length) → ∃ r, spec_l00Number.j0 k (B p) 1 b = some r := fun b hb => by
    obtain ⟨k, rfl⟩ : ∃ q, k = q + 1 := ⟨k - 1, by omega⟩
    rw [spec_l00Number.j0]
    cases b with
    | true =>
      rw [if_pos rfl, if_pos (by have := hb rfl; rw [B_size]; omega), B_ext1]
      exact hj1 _ _ k (by rw [List.length_drop]; omega) (.inr rfl) (by omega)
    | false =>
      rw [if_neg (by decide)]
      exact hj1 _ _ k hp (.inl rfl) (by omega)
  unfold spec_l00Number.f
  rw [B_size]
  by_cases h : (p.length : Int) > 0
  · rw [if_pos h, if_pos h]
    exact hj0 _ (fun _ => by omega)
  · rw [if_neg h]
    exact hj0 _ (fun e => by cases e)
theorem four6_spec (ws : List Nat) (hl : ws.length = 8) (hws : ∀ w ∈ ws, w < 65536) (k : Nat) (hk : 200 ≤ k) : ∃ q, spec_l01Four.f k (B (tx6 ws)) = some (q, false) := by
  have hlen := tx6_len ws hws hl
  unfold spec_l01Four.f
  have hs := spec_cut_f 46 (tx6 ws) (by omega) k (by omega)
  rw [show ((46 : UInt8).toNat : Int) = 46 from rfl] at hs
  rw [hs, Option.bind_some, cut_none 46 _ (tx6_mem ws hws 46 (by decide))]
  obtain ⟨k, rfl⟩ : ∃ q, k = q + 2 := ⟨k - 2, by omega⟩
  have er : rdOf ByteArray.empty ([tx6 ws].map B) 0 = B (tx6 ws) := rfl
  obtain ⟨⟨n, b⟩, hn⟩ := num_total (tx6 ws) (by omega) (k + 1) (by omega)
  rw [spec_l01Four.l0, if_pos (by simp), if_pos (by omega), er, hn, Option.bind_some]
  cases b with
  | false => exact ⟨_, if_neg (show ¬ (false = true) by decide)⟩
  | true =>
    rw [if_pos rfl, inS, Option.bind_some]
    split
    · rw [if_pos (by simp), w64 (by omega) (by omega), spec_l01Four.l0, if_neg (by simp)]
      exact ⟨_, rfl⟩
    · exact ⟨_, rfl⟩
/-! two colons -/
def dd : List UInt8 → Bool
  | [] => true
  | [b] => b != 58
  | b :: c :: r => !(b == 58 && c == 58) && dd (c :: r)
theorem dd_plain : ∀ x : List UInt8, (∀ b ∈ x, b ≠ 58) → dd x = true
  | [], _ => rfl
  | [b], h => by simpa [dd] using h b (by simp)
  | b :: c :: r, h => by
    have h1 := h b (by simp)
    rw [dd, dd_plain (c :: r) (fun d hd => h d (by simp [hd]))]
    simp [h1]
theorem dd_join (c : UInt8) (t : List UInt8) (hc : c ≠ 58) (ht : dd (c :: t) = true) : ∀ x : List UInt8, x ≠ [] → (∀ b ∈ x, b ≠ 58) → dd (x ++ 58 :: c :: t) = true
  | [], h, _ => absurd rfl h
  | [b], _, h => by
    have h1 := h b (by simp)
    show dd (b :: 58 :: c :: t) = true
    rw [dd, dd, ht]
    simp [h1, hc]
  | b :: e :: r, _, h => by
    have h1 := h b (by simp)
    have h2 := dd_join c t hc ht (e :: r) (by simp) (fun d hd => h d (by simp [hd]))
    rw [List.cons_append] at h2
    rw [List.cons_append, List.cons_append, dd, h2]
    simp [h1]
theorem dd_jn : ∀ xs : List (List UInt8), (∀ x ∈ xs, x ≠ [] ∧ ∀ b ∈ x, b ≠ 58) → dd (jn 58 xs) = true ∧ (xs ≠ [] → ∃ c t, jn 58 xs = c :: t ∧ c ≠ 58)
  | [], _ => ⟨rfl, fun h => absurd rfl h⟩
  | [x], h => by
    obtain ⟨h1, h2⟩ := h x (by simp)
    refine ⟨dd_plain x h2, fun _ => ?_⟩
    match x, h1 with
    | c :: t, _ => exact ⟨c, t, rfl, h2 c (by simp)⟩
  | x :: y :: r, h => by
    obtain ⟨h1, h2⟩ := h x (by simp)
    obtain ⟨h3, h4⟩ := dd_jn (y :: r) (fun z hz => h z (by simp [hz]))
    obtain ⟨c, t, e, hc⟩ := h4 (by simp)
    rw [jn, e]
    rw [e] at h3
    refine ⟨dd_join c t hc h3 x h1 h2, fun _ => ?_⟩
    match x, h1 with
    | d :: u, _ => exact ⟨d, u ++ 58 :: c :: t, rfl, h2 d (by simp)⟩
theorem dd_words (ws : List Nat) (hws : ∀ w ∈ ws, w < 65536) : dd (jn 58 (ws.map hexL)) = true :=
  (dd_jn _ (fun x hx => by
    obtain ⟨w, hw, rfl⟩ := List.mem_map.1 hx
    exact ⟨hex_ne_nil w (hws w hw), hexL_ne w (hws w hw) 58 (.inr rfl)⟩)).1
/-- No two colons at a place. -/
def no2 (s : List UInt8) (j : Nat) : Prop := ¬ (s[j]? = some 58 ∧ s[j + 1]? = some 58)
theorem dd_no2 : ∀ (x y : List UInt8), dd x = true → ∀ j, j < x.length → no2 (x ++ y) j
  | [], y, _, j, hj => by simp at hj
  | [b], y, h, j, hj => by
    obtain rfl : j = 0 := by simpa using hj
    simp only [dd, bne_iff_ne] at h
    rintro ⟨h1, _⟩
    simp at h1
    exact h h1
  | b :: c :: r, y, h, 0, _ => by
    rw [dd, Bool.and_eq_true] at h
    rintro ⟨h1, h2⟩
    simp at h1 h2
    simp [h1, h2] at h
  | b :: c :: r, y, h, j + 1, hj => by
    rw [dd, Bool.and_eq_true] at h
    have := dd_no2 (c :: r) y h.2 j (by simpa using hj)
    unfold no2 at this ⊢
    rw [List.cons_append, List.getElem?_cons_succ, List.getElem?_cons_succ]
    exact this
theorem occ_no2 (s : List UInt8) (j : Nat) (h : no2 s j) : Lib.occAt s [58, 58] j = false := by
  unfold Lib.occAt
  apply Bool.eq_false_iff.2
  intro hp
  refine h ?_
  rw [List.isPrefixOf_iff_prefix] at hp
  obtain ⟨t, ht⟩ := hp
  have h0 := congrArg (fun l => l[0]?) ht
  have h1 := congrArg (fun l => l[1]?) ht
  simp only [List.getElem?_drop] at h0 h1
  exact ⟨by simpa using h0.symm, by simpa using h1.symm⟩
theorem cut2_hit (X Y : List UInt8) (h : dd X = true) : Lib.cut (X ++ 58 :: 58 :: Y) [58, 58] = (X, Y, true) := by
  have hi : Lib.index (X ++ 58 :: 58 :: Y) [58, 58] = (X.length : Int) :=
    index_app X (58 :: 58 :: Y) [58, 58] (by simp [List.isPrefixOf]) (fun j hj => occ_no2 _ j (dd_no2 X _ h j hj))
  unfold Lib.cut
  rw [hi, if_pos (by omega), Int.toNat_natCast, List.take_left, List.drop_append, List.drop_of_length_le (by omega)]
  simp
theorem cut2_miss (X : List UInt8) (h : dd X = true) : Lib.cut X [58, 58] = (X, [], false) := by
  have hi : Lib.index X [58, 58] = -1 := Lib.index_none (fun j hj => occ_no2 _ j (by
    by_cases hlt : j < X.length
    · have := dd_no2 X [] h j hlt; rwa [List.append_nil] at this
    · rintro ⟨h1, _⟩; rw [List.getElem?_eq_none (by omega)] at h1; cases h1))
  unfold Lib.cut
  rw [hi, if_neg (by omega)]
theorem cutf (l s : List UInt8) (h : l.length ≤ 1000) : strings_Cut.f (B l) (B s) = some (B (Lib.cut l s).1, B (Lib.cut l s).2.1, (Lib.cut l s).2.2) := by
  unfold strings_Cut.f
  rw [if_pos (by rw [B_size]; omega), B_data, B_data]
  rfl
theorem wb_zero : ∀ n : Nat, ((List.replicate n 0).map wb).flatten = List.replicate (2 * n) (0 : Int)
  | 0 => rfl
  | n + 1 => by
    rw [List.replicate_succ, List.map_cons, List.flatten_cons, wb_zero n, show 2 * (n + 1) = 2 * n + 1 + 1 by omega, List.replicate_succ, List.replicate_succ]
    rfl
theorem wb_len (ws : List Nat) : ((ws.map wb).flatten).length = 2 * ws.length := by
  induction ws with
  | nil => rfl
  | cons w r ih => rw [List.map_cons, List.flatten_cons, List.length_append, ih, List.length_cons]; simp [wb]; omega
theorem gap_split (ws : List Nat) (hl : ws.length = 8) (f n : Nat) (hfn : f + n ≤ 8) (hz : ∀ j, j < n → ws[f + j]? = some 0) : ws = ws.take f ++ (List.replicate n 0 ++ ws.drop (f + n)) := by
  apply List.ext_getElem?
  intro i
  by_cases h1 : i < f
  · rw [List.getElem?_append_left (by rw [List.length_take]; omega), List.getElem?_take, if_pos h1]
  · have ht : (ws.take f).length = f := by rw [List.length_take]; omega
    rw [List.getElem?_append_right (by omega), ht]
    by_cases h2 : i - f < n
    · rw [List.getElem?_append_left (by rw [List.length_replicate]; exact h2), List.getElem?_replicate, if_pos h2]
      have := hz (i - f) h2
      rwa [show f + (i - f) = i by omega] at this
    · rw [List.getElem?_append_right (by rw [List.length_replicate]; omega), List.length_replicate, List.getElem?_drop]
      congr 1
      omega
theorem six_bytes (ws : List Nat) (hl : ws.length = 8) (f n : Nat) (hfn : f + n ≤ 8) (hz : ∀ j, j < n → ws[f + j]? = some 0) : (ws.map wb).flatten = ((ws.take f).map wb).flatten ++ (List.replicate (2 * n) 0 ++ ((ws.drop (f + n)).map wb).flatten) := by
  conv => lhs; rw [gap_split ws hl f n hfn hz]
  rw [List.map_append, List.flatten_append, List.map_append, List.flatten_append, wb_zero]
theorem six_impl (ws : List Nat) (hl : ws.length = 8) (hws : ∀ w ∈ ws, w < 65536) (k : Nat) (hk : 200 ≤ k) : impl_readSix.f k (B (tx6 ws)) = some (strOfNums ((ws.map wb).flatten), true) := by
  have hlen := tx6_len ws hws hl
  unfold impl_readSix.f
  rw [show (⟨#[58, 58]⟩ : ByteArray) = B [58, 58] from rfl, cutf _ _ (by omega), Option.bind_some]
  dsimp only
  rcases gapOf_ok ws hl with ⟨e, h2⟩ | ⟨h1, e, h2, hz⟩
  · have et : tx6 ws = jn 58 (ws.map hexL) := by unfold tx6; rw [e, if_pos (by decide)]
    rw [et, cut2_miss _ (dd_words ws hws)]
    dsimp only
    rw [read_impl ws hws (by omega) k (by omega), Option.bind_some, if_pos rfl, if_neg (by decide), wb_len]
    simp [hl]
  · have et : tx6 ws = jn 58 ((ws.take (gapOf ws).1).map hexL) ++ 58 :: 58 :: jn 58 ((ws.drop ((gapOf ws).1 + (gapOf ws).2)).map hexL) := by unfold tx6; rw [if_neg (by omega)]
    have l1 : (ws.take (gapOf ws).1).length = (gapOf ws).1 := by rw [List.length_take]; omega
    have l2 : (ws.drop ((gapOf ws).1 + (gapOf ws).2)).length = 8 - ((gapOf ws).1 + (gapOf ws).2) := by rw [List.length_drop, hl]
    have w1 := wb_len (ws.take (gapOf ws).1)
    have w2 := wb_len (ws.drop ((gapOf ws).1 + (gapOf ws).2))
    rw [et, cut2_hit _ _ (dd_words _ (mem_take_lt hws _))]
    dsimp only
    rw [read_impl _ (mem_take_lt hws _) (by omega) k (by omega), Option.bind_some, if_pos rfl, if_pos rfl, read_impl _ (mem_drop_lt hws _) (by omega) k (by omega), Option.bind_some, if_pos rfl]
    dsimp only
    rw [if_neg (by rw [w64 (by omega) (by omega)]; omega), if_pos (by decide), Option.bind_some, if_pos (by rw [w64 (by omega) (by omega)]; omega), if_pos (by rw [w64 (by omega) (by omega), List.length_replicate]; omega), if_pos (by omega)]
    unfold sixRow
    rw [six_bytes ws hl (gapOf ws).1 (gapOf ws).2 h2 hz, w1, w2, l1, l2, show 16 - 2 * (gapOf ws).1 - 2 * (8 - ((gapOf ws).1 + (gapOf ws).2)) = 2 * (gapOf ws).2 by omega, List.append_assoc]
theorem sx_loop (s : List UInt8) (hs : s.length ≤ 100) : ∀ (m i : Nat) (k : Nat), i + m < s.length → (∀ j, i ≤ j → j < i + m → no2 s j) → 2 * m + 2 < k →
    ∃ k', k ≤ k' + 2 * m ∧ spec_l01Sixteen.l0 k (B s) (i : Int) = spec_l01Sixteen.l0 k' (B s) ((i + m : Nat) : Int) := by
  intro m
  induction m with
  | zero => intro i k _ _ _; exact ⟨k, by omega, rfl⟩
  | succ m ih =>
    intro i k hi hn hk
    obtain ⟨k, rfl⟩ : ∃ q, k = q + 2 := ⟨k - 2, by omega⟩
    have hlt : i < s.length := by omega
    have hlt1 : i + 1 < s.length := by omega
    have hno := hn i (Nat.le_refl _) (by omega)
    have e1 : ((i + 1 : Nat) : Int) < ((B s).size : Int) := by rw [B_size]; omega
    have e2 : (i : Int) < ((B s).size : Int) := by rw [B_size]; omega
    have e3 : (0 : Int) ≤ ((i + 1 : Nat) : Int) := by omega
    have e4 : (0 : Int) ≤ (i : Int) := by omega
    obtain ⟨k', h1, h2⟩ := ih (i + 1) k (by omega) (fun j h1 h2 => hn j (by omega) (by omega)) (by omega)
    refine ⟨k', by omega, ?_⟩
    rw [show ((i + (m + 1) : Nat) : Int) = ((i + 1 + m : Nat) : Int) by omega, ← h2, spec_l01Sixteen.l0, ww i (by omega), if_pos e1, if_pos e4, if_pos e2, B_bt s i hlt, B_bt s (i + 1) hlt1]
    by_cases h58 : s[i] = 58
    · have h3 : s[i + 1] ≠ 58 := fun e => hno ⟨by rw [List.getElem?_eq_getElem hlt, h58], by rw [List.getElem?_eq_getElem hlt1, e]⟩
      have h4 : ((s[i + 1].toNat : Int) != 58) = true := bne_iff_ne.2 (fun e => h3 (UInt8.toNat_inj.1 (by show s[i + 1].toNat = 58; omega)))
      rw [if_pos (by rw [h58]; rfl), if_pos e3, h4, spec_l01Sixteen.j1, if_pos rfl, ww i (by omega)]
    · have h3 : ¬ ((s[i].toNat : Int) = 58) := fun e => h58 (UInt8.toNat_inj.1 (by show s[i].toNat = 58; omega))
      rw [if_neg h3, spec_l01Sixteen.j1, if_pos rfl, ww i (by omega)]
theorem tx6_pos (ws : List Nat) (hl : ws.length = 8) (hws : ∀ w ∈ ws, w < 65536) : 1 ≤ (tx6 ws).length := by
  unfold tx6
  split
  · have h : jn 58 (ws.map hexL) ≠ [] := jn_ne_nil 58 _ (fun e => by have := congrArg List.length e; simp [hl] at this) (fun x hx => by
      obtain ⟨w, hw, rfl⟩ := List.mem_map.1 hx
      exact hex_ne_nil w (hws w hw))
    exact List.length_pos_iff.2 h
  · rw [List.length_append, List.length_cons]
    omega
theorem nums_app (a b : List Int) : strOfNums a ++ strOfNums b = strOfNums (a ++ b) := by rw [B_nums, B_nums, B_nums, B_app, List.map_append]
theorem nums_size (a : List Int) : (strOfNums a).size = a.length := by rw [B_nums, B_size, List.length_map]
theorem wadd (a b : Nat) (h : a + b ≤ 100000) : wrap64 ((a : Int) + (b : Int)) = ((a + b : Nat) : Int) := by rw [w64 (by omega) (by omega)]; omega
theorem wsub16 (a b n : Nat) (h : a + b + n = 16) : wrap64 ((wrap64 (16 - (a : Int))) - (b : Int)) = (n : Int) := by
  rw [w64 (x := 16 - (a : Int)) (by omega) (by omega), w64 (by omega) (by omega)]
  omega
theorem sixteen_spec (ws : List Nat) (hl : ws.length = 8) (hws : ∀ w ∈ ws, w < 65536) (k : Nat) (hk : 400 ≤ k) : spec_l01Sixteen.f k (B (tx6 ws)) = some (strOfNums ((ws.map wb).flatten), true) := by
  have hlen := tx6_len ws hws hl
  have hpos := tx6_pos ws hl hws
  unfold spec_l01Sixteen.f
  rcases gapOf_ok ws hl with ⟨e, h2⟩ | ⟨h1, e, h2, hz⟩
  · have et : tx6 ws = jn 58 (ws.map hexL) := by unfold tx6; rw [e, if_pos (by decide)]
    obtain ⟨k', h3, h4⟩ := sx_loop (tx6 ws) (by omega) ((tx6 ws).length - 1) 0 k (by omega) (fun j _ hj => by
      have := dd_no2 (tx6 ws) [] (by rw [et]; exact dd_words ws hws) j (by omega)
      rwa [List.append_nil] at this) (by omega)
    obtain ⟨k', rfl⟩ : ∃ q, k' = q + 1 := ⟨k' - 1, by omega⟩
    rw [show ((0 : Nat) : Int) = 0 from rfl] at h4
    rw [h4, Nat.zero_add, spec_l01Sixteen.l0, ww _ (by omega), if_neg (by rw [B_size]; omega), et, read_spec ws hws (by omega) k' (by omega), Option.bind_some, if_pos rfl, wb_len]
    simp [hl]
  · have et : tx6 ws = jn 58 ((ws.take (gapOf ws).1).map hexL) ++ 58 :: 58 :: jn 58 ((ws.drop ((gapOf ws).1 + (gapOf ws).2)).map hexL) := by unfold tx6; rw [if_neg (by omega)]
    have l1 : (ws.take (gapOf ws).1).length = (gapOf ws).1 := by rw [List.length_take]; omega
    have l2 : (ws.drop ((gapOf ws).1 + (gapOf ws).2)).length = 8 - ((gapOf ws).1 + (gapOf ws).2) := by rw [List.length_drop, hl]
    have w1 := wb_len (ws.take (gapOf ws).1)
    have w2 := wb_len (ws.drop ((gapOf ws).1 + (gapOf ws).2))
    rw [l1] at w1
    rw [l2] at w2
    have six := six_bytes ws hl (gapOf ws).1 (gapOf ws).2 h2 hz
    have hX := dd_words (ws.take (gapOf ws).1) (mem_take_lt hws _)
    have r1 := read_spec (ws.take (gapOf ws).1) (mem_take_lt hws _) (by omega)
    have r2 := read_spec (ws.drop ((gapOf ws).1 + (gapOf ws).2)) (mem_drop_lt hws _) (by omega)
    generalize hXe : jn 58 ((ws.take (gapOf ws).1).map hexL) = X at *
    generalize hYe : jn 58 ((ws.drop ((gapOf ws).1 + (gapOf ws).2)).map hexL) = Y at *
    generalize ((ws.take (gapOf ws).1).map wb).flatten = P1 at *
    generalize ((ws.drop ((gapOf ws).1 + (gapOf ws).2)).map wb).flatten = P2 at *
    rw [et, List.length_append, List.length_cons, List.length_cons] at hlen
    obtain ⟨k', h3, h4⟩ := sx_loop (tx6 ws) (by rw [et, List.length_append, List.length_cons, List.length_cons]; omega) X.length 0 k (by rw [et, List.length_append, List.length_cons, List.length_cons]; omega) (fun j _ hj => by
      rw [et]
      exact dd_no2 X _ hX j (by omega)) (by omega)
    obtain ⟨k', rfl⟩ : ∃ q, k' = q + 2 := ⟨k' - 2, by omega⟩
    rw [show ((0 : Nat) : Int) = 0 from rfl, Nat.zero_add] at h4
    rw [h4, et]
    have b1 : bt (B (X ++ 58 :: 58 :: Y)) (X.length : Int) = 58 := by rw [B_bt _ _ (by simp)]; simp
    have b2 : bt (B (X ++ 58 :: 58 :: Y)) ((X.length + 1 : Nat) : Int) = 58 := by rw [B_bt _ _ (by simp)]; simp
    have sz : (B (X ++ 58 :: 58 :: Y)).size = X.length + (Y.length + 2) := by rw [B_size, List.length_append, List.length_cons, List.length_cons]
    have ex1 : (B (X ++ 58 :: 58 :: Y)).extract 0 X.length = B X := by rw [B_ext0, List.take_left]
    have ex2 : (B (X ++ 58 :: 58 :: Y)).extract (X.length + 2) (B (X ++ 58 :: 58 :: Y)).size = B Y := by
      rw [B_ext1, List.drop_append, List.drop_of_length_le (by omega)]
      simp
    have q1 : X.length + 2 ≤ 100000 := by omega
    have q2 : P1.length + P2.length + 2 * (gapOf ws).2 = 16 := by omega
    have q3 : P1.length + P2.length ≤ 100000 := by omega
    have q4 : X.length < 4000000000000000000 := by omega
    have f8 : ¬ (((P1.length + P2.length : Nat) : Int) > 14) := by omega
    have f1 : ((X.length + 1 : Nat) : Int) < ((B (X ++ 58 :: 58 :: Y)).size : Int) := by rw [sz]; omega
    have f2 : (X.length : Int) < ((B (X ++ 58 :: 58 :: Y)).size : Int) := by rw [sz]; omega
    have f4 : (0 : Int) ≤ ((X.length + 1 : Nat) : Int) := by omega
    have f5 : (X.length : Int) ≤ ((B (X ++ 58 :: 58 :: Y)).size : Int) := by rw [sz]; omega
    have f6 : (0 : Int) ≤ ((X.length + 2 : Nat) : Int) := by omega
    have f7 : ((X.length + 2 : Nat) : Int) ≤ ((B (X ++ 58 :: 58 :: Y)).size : Int) := by rw [sz]; omega
    have f9 : (0 : Int) ≤ ((2 * (gapOf ws).2 : Nat) : Int) := by omega
    have f10 : 2 * (gapOf ws).2 ≤ 281474976710656 := by omega
    have f11 : (strOfNums P1).size + (strOfNums (List.replicate (2 * (gapOf ws).2) 0)).size ≤ 9223372036854775807 := by rw [nums_size, nums_size, List.length_replicate]; omega
    have f12 : (strOfNums (P1 ++ List.replicate (2 * (gapOf ws).2) 0)).size + (strOfNums P2).size ≤ 9223372036854775807 := by rw [nums_size, nums_size, List.length_append, List.length_replicate]; omega
    have r1' := r1 k' (by omega)
    have r2' := r2 k' (by omega)
    have ww2 := wadd X.length 2 q1
    have wd := wsub16 P1.length P2.length (2 * (gapOf ws).2) q2
    have WP := wadd P1.length P2.length q3
    have W1 := ww X.length q4
    rw [spec_l01Sixteen.l0, W1, if_pos f1, if_pos (Int.natCast_nonneg _), if_pos f2, if_pos b1, if_pos f4, b2, show ((58 : Int) != 58) = false from rfl, spec_l01Sixteen.j1, if_neg (by decide), if_pos (Int.natCast_nonneg _), if_pos f5, Int.toNat_natCast, ex1, r1', Option.bind_some,
      show (X.length : Int) + 2 = (X.length : Int) + ((2 : Nat) : Int) from rfl, ww2, if_pos f6, if_pos f7, Int.toNat_natCast, ex2, r2', Option.bind_some, if_pos rfl, if_pos rfl, wd, WP, if_neg f8, if_pos f9, Int.toNat_natCast, if_pos f10, Option.bind_some,
      if_pos f11, nums_app, nums_app, if_pos f12, six, List.append_assoc]
theorem tx_len (ad : List UInt8) (hl : ad.length = 4 ∨ ad.length = 16) : (tx ad).length ≤ 45 := by
  unfold tx
  rcases hl with hl | hl
  · rw [if_pos hl]; have := tx4_len ad hl; omega
  · rw [if_neg (by omega)]; exact tx6_len _ (W8_lt ad) (W8_len ad)
theorem addr_impl (ad : List UInt8) (hl : ad.length = 4 ∨ ad.length = 16) (k : Nat) (hk : 500 ≤ k) : impl_ReadAddr.f k (B (tx ad)) = some (B ad, 0) := by
  have hlen := tx_len ad hl
  unfold impl_ReadAddr.f
  rw [tooLong_ok _ (by rw [B_size]; omega) k (by omega), Option.bind_some, if_neg (by decide), if_neg (by rw [B_size]; omega)]
  unfold tx
  rcases hl with hl | hl
  · rw [if_pos hl, four_impl ad hl k (by omega), Option.bind_some, if_pos rfl]
  · rw [if_neg (by omega), four6_impl _ (W8_len ad) (W8_lt ad) k, Option.bind_some, if_neg (by decide), six_impl _ (W8_len ad) (W8_lt ad) k (by omega), Option.bind_some, if_pos rfl, wb_all ad hl, nums_bytes]
theorem addr_spec (ad : List UInt8) (hl : ad.length = 4 ∨ ad.length = 16) (k : Nat) (hk : 500 ≤ k) : spec_l01Read.f k (B (tx ad)) = some (B ad, true) := by
  unfold spec_l01Read.f tx
  rcases hl with hl | hl
  · rw [if_pos hl, four_spec ad hl k (by omega), Option.bind_some, if_pos rfl]
  · obtain ⟨q, hq⟩ := four6_spec _ (W8_len ad) (W8_lt ad) k (by omega)
    rw [if_neg (by omega), hq, Option.bind_some, if_neg (show ¬ (false = true) by decide), sixteen_spec _ (W8_len ad) (W8_lt ad) k (by omega), Option.bind_some, wb_all ad hl, nums_bytes]
/-- A byte's last m bits, the highest ahead. -/
def tb (b : Nat) : Nat → List Int
  | 0 => []
  | m + 1 => ((48 + b / 2 ^ m % 2 : Nat) : Int) :: tb b m
theorem tb_len (b : Nat) : ∀ m, (tb b m).length = m
  | 0 => rfl
  | m + 1 => by rw [tb, List.length_cons, tb_len b m]
def bitsI (ad : List UInt8) : List Int := (ad.map fun b => tb b.toNat 8).flatten
theorem bitsI_app (a b : List UInt8) : bitsI (a ++ b) = bitsI a ++ bitsI b := by unfold bitsI; rw [List.map_append, List.flatten_append]
theorem bitsI_cons (a : UInt8) (b : List UInt8) : bitsI (a :: b) = tb a.toNat 8 ++ bitsI b := rfl
theorem bitsI_len : ∀ ad : List UInt8, (bitsI ad).length = 8 * ad.length
  | [] => rfl
  | a :: r => by rw [bitsI_cons, List.length_append, tb_len, bitsI_len r, List.length_cons]; omega
def BL (ad : List UInt8) : List UInt8 := (bitsI ad).map fun n => UInt8.ofNat n.toNat
theorem BL_nums (ad : List UInt8) : strOfNums (bitsI ad) = B (BL ad) := rfl
theorem BL_len (ad : List UInt8) : (BL ad).length = 8 * ad.length := by unfold BL; rw [List.length_map, bitsI_len]
theorem BL_app (a b : List UInt8) : BL (a ++ b) = BL a ++ BL b := by unfold BL; rw [bitsI_app, List.map_append]
theorem BL_zero : ∀ n : Nat, BL (List.replicate n 0) = List.replicate (8 * n) 48
  | 0 => rfl
  | n + 1 => by
    rw [List.replicate_succ, show (0 : UInt8) :: List.replicate n 0 = [0] ++ List.replicate n 0 from rfl, BL_app, BL_zero n, show 8 * (n + 1) = 8 + 8 * n by omega, ← List.replicate_append_replicate]
    rfl
set_option maxRecDepth 100000 in
theorem bit_fin : ∀ b : Fin 256, ∀ r : Fin 8, (48 + (Go.bits .and .u8 (shr .u8 (b.val : Int) (r.val : Int)) 1)) % 256 = ((48 + b.val / 2 ^ r.val % 2 : Nat) : Int) := by decide +kernel
theorem bits_s_l1 (ad : List UInt8) (hl : ad.length ≤ 16) (i : Nat) (hi : i < ad.length) : ∀ (m : Nat) (acc : List Int) (k : Nat), m ≤ 8 → m + 1 < k → acc.length + m ≤ 1000 →
    ∃ k', k ≤ k' + m + 1 ∧ spec_l02AddrBits.l1 k (B ad) acc (i : Int) ((m : Int) - 1) = spec_l02AddrBits.l0 k' (B ad) (acc ++ tb (ad[i]).toNat m) ((i + 1 : Nat) : Int) := by
  intro m
  induction m with
  | zero =>
    intro acc k hm hk ha
    obtain ⟨k, rfl⟩ : ∃ q, k = q + 1 := ⟨k - 1, by omega⟩
    refine ⟨k, by omega, ?_⟩
    rw [spec_l02AddrBits.l1, if_neg (by omega), ww i (by omega), tb, List.append_nil]
  | succ m ih =>
    intro acc k hm hk ha
    obtain ⟨k, rfl⟩ : ∃ q, k = q + 1 := ⟨k - 1, by omega⟩
    obtain ⟨k', h1, h2⟩ := ih (acc ++ [((48 + (ad[i]).toNat / 2 ^ m % 2 : Nat) : Int)]) k (by omega) (by omega) (by rw [List.length_append]; simp only [List.length_singleton]; omega)
    refine ⟨k', by omega, ?_⟩
    have b1 := (ad[i]).toNat_lt
    have hb := bit_fin ⟨(ad[i]).toNat, b1⟩ ⟨m, by omega⟩
    simp only at hb
    have e0 : ((m + 1 : Nat) : Int) - 1 = (m : Int) := by omega
    have g1 : (m : Int) ≥ 0 := by omega
    have g2 : (i : Int) < ((B ad).size : Int) := by rw [B_size]; omega
    have g3 : acc.length < 140737488355328 := by omega
    have e1 : IntKind.u64.wrap (m : Int) = (m : Int) := by rw [IntKind.wrap_u64]; omega
    have e2 : wrap64 ((m : Int) - 1) = (m : Int) - 1 := w64 (by omega) (by omega)
    rw [e0, spec_l02AddrBits.l1, if_pos g1, if_pos (Int.natCast_nonneg _), if_pos g2, e1, if_pos g1, if_pos g3, B_bt ad i hi, hb, e2, h2, tb, List.append_assoc]
    rfl
theorem bits_s_l0 (ad : List UInt8) (hl : ad.length ≤ 16) : ∀ (m i : Nat) (k : Nat), i + m = ad.length → 12 * m + 12 < k → spec_l02AddrBits.l0 k (B ad) (bitsI (ad.take i)) (i : Int) = some (B (BL ad)) := by
  intro m
  induction m with
  | zero =>
    intro i k hi hk
    obtain ⟨k, rfl⟩ : ∃ q, k = q + 1 := ⟨k - 1, by omega⟩
    rw [spec_l02AddrBits.l0, if_neg (by rw [B_size]; omega), List.take_of_length_le (by omega), BL_nums]
  | succ m ih =>
    intro i k hi hk
    obtain ⟨k, rfl⟩ : ∃ q, k = q + 1 := ⟨k - 1, by omega⟩
    have hlt : i < ad.length := by omega
    obtain ⟨k', h1, h2⟩ := bits_s_l1 ad hl i hlt 8 (bitsI (ad.take i)) k (by omega) (by omega) (by rw [bitsI_len, List.length_take]; omega)
    rw [spec_l02AddrBits.l0, if_pos (by rw [B_size]; omega), show (7 : Int) = ((8 : Nat) : Int) - 1 from rfl, h2, ← ih (i + 1) k' (by omega) (by omega), List.take_add_one, List.getElem?_eq_getElem hlt, Option.toList_some, bitsI_app]
    rfl
theorem bits_spec (ad : List UInt8) (hl : ad.length ≤ 16) (k : Nat) (hk : 300 ≤ k) : spec_l02AddrBits.f k (B ad) = some (B (BL ad)) := bits_s_l0 ad hl ad.length 0 k (by omega) (by omega)
theorem bits_i_l1 (ad : List UInt8) (hl : ad.length ≤ 16) (i : Nat) (hi : i < ad.length) : ∀ (m : Nat) (acc : List Int) (k : Nat), m ≤ 8 → m + 1 < k → acc.length + m ≤ 1000 →
    ∃ k', k ≤ k' + m + 1 ∧ impl_addrBits.l1 k (B ad) acc (i : Int) ((m : Int) - 1) = impl_addrBits.l0 k' (B ad) (acc ++ tb (ad[i]).toNat m) ((i + 1 : Nat) : Int) := by
  intro m
  induction m with
  | zero =>
    intro acc k hm hk ha
    obtain ⟨k, rfl⟩ : ∃ q, k = q + 1 := ⟨k - 1, by omega⟩
    refine ⟨k, by omega, ?_⟩
    rw [impl_addrBits.l1, if_neg (by omega), ww i (by omega), tb, List.append_nil]
  | succ m ih =>
    intro acc k hm hk ha
    obtain ⟨k, rfl⟩ : ∃ q, k = q + 1 := ⟨k - 1, by omega⟩
    obtain ⟨k', h1, h2⟩ := ih (acc ++ [((48 + (ad[i]).toNat / 2 ^ m % 2 : Nat) : Int)]) k (by omega) (by omega) (by rw [List.length_append]; simp only [List.length_singleton]; omega)
    refine ⟨k', by omega, ?_⟩
    have b1 := (ad[i]).toNat_lt
    have hb := bit_fin ⟨(ad[i]).toNat, b1⟩ ⟨m, by omega⟩
    simp only at hb
    have e0 : ((m + 1 : Nat) : Int) - 1 = (m : Int) := by omega
    have g1 : (m : Int) ≥ 0 := by omega
    have g2 : (i : Int) < ((B ad).size : Int) := by rw [B_size]; omega
    have g3 : acc.length < 140737488355328 := by omega
    have e2 : wrap64 ((m : Int) - 1) = (m : Int) - 1 := w64 (by omega) (by omega)
    rw [e0, impl_addrBits.l1, if_pos g1, if_pos (Int.natCast_nonneg _), if_pos g2, if_pos g1, if_pos g3, B_bt ad i hi, hb, e2, h2, tb, List.append_assoc]
    rfl
theorem bits_i_l0 (ad : List UInt8) (hl : ad.length ≤ 16) : ∀ (m i : Nat) (k : Nat), i + m = ad.length → 12 * m + 12 < k → impl_addrBits.l0 k (B ad) (bitsI (ad.take i)) (i : Int) = some (B (BL ad)) := by
  intro m
  induction m with
  | zero =>
    intro i k hi hk
    obtain ⟨k, rfl⟩ : ∃ q, k = q + 1 := ⟨k - 1, by omega⟩
    rw [impl_addrBits.l0, if_neg (by rw [B_size]; omega), List.take_of_length_le (by omega), BL_nums]
  | succ m ih =>
    intro i k hi hk
    obtain ⟨k, rfl⟩ : ∃ q, k = q + 1 := ⟨k - 1, by omega⟩
    have hlt : i < ad.length := by omega
    obtain ⟨k', h1, h2⟩ := bits_i_l1 ad hl i hlt 8 (bitsI (ad.take i)) k (by omega) (by omega) (by rw [bitsI_len, List.length_take]; omega)
    rw [impl_addrBits.l0, if_pos (by rw [B_size]; omega), show (7 : Int) = ((8 : Nat) : Int) - 1 from rfl, h2, ← ih (i + 1) k' (by omega) (by omega), List.take_add_one, List.getElem?_eq_getElem hlt, Option.toList_some, bitsI_app]
    rfl
theorem bits_impl (ad : List UInt8) (hl : ad.length ≤ 16) (k : Nat) (hk : 300 ≤ k) : impl_addrBits.f k (B ad) = some (B (BL ad)) := by
  unfold impl_addrBits.f
  rw [if_pos (by rw [B_size]; omega)]
  exact bits_i_l0 ad hl ad.length 0 k (by omega) (by omega)
/-- An address of which only the first m bytes are not 0. -/
structure Cutd (ad : List UInt8) (m : Nat) : Prop where
  len : ad.length = 4 ∨ ad.length = 16
  le : m ≤ ad.length
  eq : ad = ad.take m ++ List.replicate (ad.length - m) 0
theorem Cutd.bits {ad : List UInt8} {m : Nat} (h : Cutd ad m) : BL ad = BL (ad.take m) ++ List.replicate (8 * (ad.length - m)) 48 := by
  conv => lhs; rw [h.eq]
  rw [BL_app, BL_zero]
theorem Cutd.take {ad : List UInt8} {m : Nat} (h : Cutd ad m) : (BL ad).take (8 * m) = BL (ad.take m) := by
  rw [h.bits, List.take_append, List.take_of_length_le (by rw [BL_len, List.length_take]; omega), BL_len, List.length_take, show 8 * m - 8 * min m ad.length = 0 by have := h.le; omega, List.take_zero, List.append_nil]
theorem Cutd.drop {ad : List UInt8} {m : Nat} (h : Cutd ad m) : (BL ad).drop (8 * m) = List.replicate (8 * (ad.length - m)) 48 := by
  rw [h.bits, List.drop_append, List.drop_of_length_le (by rw [BL_len, List.length_take]; omega), BL_len, List.length_take, show 8 * m - 8 * min m ad.length = 0 by have := h.le; omega, List.drop_zero, List.nil_append]
theorem tx_mem (ad : List UInt8) (hl : ad.length = 4 ∨ ad.length = 16) : ∀ b ∈ tx ad, b ≠ 47 := by
  unfold tx
  rcases hl with hl | hl
  · rw [if_pos hl]
    intro b hb
    rcases jn_mem 46 _ b hb with rfl | ⟨x, hx, hb⟩
    · decide
    · obtain ⟨c, _, rfl⟩ := List.mem_map.1 hx
      exact dec3_ne _ c.toNat_lt 47 (.inl (by decide)) b hb
  · rw [if_neg (by omega)]
    exact tx6_mem _ (W8_lt ad) 47 (by decide)
theorem cut1_hit (X Y : List UInt8) (h : ∀ b ∈ X, b ≠ 47) : Lib.cut (X ++ 47 :: Y) [47] = (X, Y, true) := by
  unfold Lib.cut
  rw [index_hit 47 X Y h, if_pos (by omega), Int.toNat_natCast, List.take_left, List.drop_append, List.drop_of_length_le (by omega)]
  simp
/-- A prefix's text. -/
def ptx (ad : List UInt8) (m : Nat) : List UInt8 := tx ad ++ 47 :: dec3 (8 * m)
theorem ptx_len {ad : List UInt8} {m : Nat} (h : Cutd ad m) : (ptx ad m).length ≤ 49 := by
  have h1 := tx_len ad h.len
  have h2 := dec3_len (8 * m) (by have := h.le; have := h.len; omega)
  unfold ptx
  rw [List.length_append, List.length_cons]
  omega
/-- An address's version. -/
def ver (ad : List UInt8) : Int := if ad.length = 4 then 4 else 6
theorem none_one (n : Nat) : Lib.contains (List.replicate n 48) [49] = false := by
  unfold Lib.contains
  rw [Lib.index_none (fun j hj => ?_)]
  · rfl
  · by_cases hlt : j < (List.replicate n (48 : UInt8)).length
    · exact occ_one _ 49 j hlt (by rw [List.getElem_replicate]; decide)
    · unfold Lib.occAt
      rw [List.drop_of_length_le (by omega)]
      rfl
theorem pbits_impl {ad : List UInt8} {m : Nat} (h : Cutd ad m) (k : Nat) (hk : 600 ≤ k) : impl_PrefixBits.f k (B (ptx ad m)) = some (B (BL (ad.take m)), ver ad, 0) := by
  have hlen := ptx_len h
  have hle := h.le
  have hl := h.len
  unfold impl_PrefixBits.f
  rw [tooLong_ok _ (by rw [B_size]; omega) k (by omega), Option.bind_some, if_neg (by decide), if_neg (by rw [B_size]; omega), show (⟨#[47]⟩ : ByteArray) = B [47] from rfl, cutf _ _ (by omega), Option.bind_some]
  unfold ptx
  rw [cut1_hit _ _ (tx_mem ad hl)]
  dsimp only
  obtain ⟨k, rfl⟩ : ∃ q, k = q + 1 := ⟨k - 1, by omega⟩
  rw [addr_impl ad hl (k + 1) (by omega), Option.bind_some, num_impl (8 * m) (by omega) (k + 1) (by omega), Option.bind_some, if_pos rfl, if_pos rfl, if_pos rfl, inR, Option.bind_some]
  dsimp only
  have e1 : wrap64 (8 * ((B ad).size : Int)) = ((8 * ad.length : Nat) : Int) := by rw [B_size, w64 (by omega) (by omega)]; omega
  have e2 : (!decide ((0 : Int) ≤ ((8 * m : Nat) : Int) ∧ ((8 * m : Nat) : Int) ≤ ((8 * ad.length : Nat) : Int))) = false := by rw [decide_eq_true (by omega)]; rfl
  have e3 : ((8 * m : Nat) : Int) ≤ ((B (BL ad)).size : Int) := by rw [B_size, BL_len]; omega
  rw [e1, e2, impl_PrefixBits.j0, if_neg (by decide), bits_impl ad (by omega) k (by omega), Option.bind_some, if_pos (Int.natCast_nonneg _), if_pos e3, Int.toNat_natCast, B_ext1, h.drop, B_ext0, h.take]
  unfold strings_Contains.f
  rw [if_pos (by rw [B_size, List.length_replicate]; omega), B_data, show ((⟨#[49]⟩ : ByteArray)).data.toList = [49] from rfl, none_one, Option.bind_some, if_neg (by decide)]
  unfold impl_versionOf.f ver
  rw [B_size]
  by_cases h4 : ad.length = 4
  · rw [if_pos (by omega), if_pos h4]; rfl
  · rw [if_neg (by omega), if_neg h4]; rfl
theorem pre_l1 {ad : List UInt8} {m : Nat} (h : Cutd ad m) : ∀ (d i : Nat) (k : Nat), i + d = 8 * ad.length → 8 * m ≤ i → d < k →
    spec_l02Prefix.l1 k (B ad) ((8 * m : Nat) : Int) (B (BL ad)) (i : Int) = some (B (BL (ad.take m)), ver ad, true) := by
  intro d
  have hle := h.le
  have hl := h.len
  induction d with
  | zero =>
    intro i k hi hm hk
    obtain ⟨k, rfl⟩ : ∃ q, k = q + 1 := ⟨k - 1, by omega⟩
    have e3 : ((8 * m : Nat) : Int) ≤ ((B (BL ad)).size : Int) := by rw [B_size, BL_len]; omega
    unfold ver
    rw [spec_l02Prefix.l1, if_neg (by rw [B_size, BL_len]; omega)]
    by_cases h4 : ad.length = 4
    · rw [if_pos (by rw [B_size]; omega), if_pos h4, if_pos (Int.natCast_nonneg _), if_pos e3, Int.toNat_natCast, B_ext0, h.take]
    · rw [if_neg (by rw [B_size]; omega), if_neg h4, if_pos (Int.natCast_nonneg _), if_pos e3, Int.toNat_natCast, B_ext0, h.take]
  | succ d ih =>
    intro i k hi hm hk
    obtain ⟨k, rfl⟩ : ∃ q, k = q + 1 := ⟨k - 1, by omega⟩
    have hlt : i < (BL ad).length := by rw [BL_len]; omega
    have hb : (BL ad)[i] = 48 := by
      have e : (BL ad)[i]? = some 48 := by
        rw [show i = 8 * m + (i - 8 * m) by omega, ← List.getElem?_drop, h.drop, List.getElem?_replicate, if_pos (by omega)]
      rw [List.getElem?_eq_getElem hlt] at e
      exact Option.some.inj e
    rw [spec_l02Prefix.l1, if_pos (by rw [B_size]; omega), if_pos (by omega), B_bt _ i hlt, hb, if_neg (by decide), ww i (by omega)]
    exact ih (i + 1) k (by omega) (by omega) (by omega)
theorem pre_l0 (s : List UInt8) (hs : s.length ≤ 100) : ∀ (d i : Nat) (k : Nat), i + d < s.length → (∀ j, i ≤ j → j < i + d → s[j]? ≠ some 47) → d + 1 < k →
    ∃ k', k ≤ k' + d ∧ spec_l02Prefix.l0 k (B s) (i : Int) = spec_l02Prefix.l0 k' (B s) ((i + d : Nat) : Int) := by
  intro d
  induction d with
  | zero => intro i k _ _ _; exact ⟨k, by omega, rfl⟩
  | succ d ih =>
    intro i k hi hn hk
    obtain ⟨k, rfl⟩ : ∃ q, k = q + 1 := ⟨k - 1, by omega⟩
    have hlt : i < s.length := by omega
    have hno := hn i (Nat.le_refl _) (by omega)
    rw [List.getElem?_eq_getElem hlt] at hno
    obtain ⟨k', h1, h2⟩ := ih (i + 1) k (by omega) (fun j h1 h2 => hn j (by omega) (by omega)) (by omega)
    refine ⟨k', by omega, ?_⟩
    have h3 : ¬ ((s[i].toNat : Int) = 47) := fun e => hno (congrArg some (UInt8.toNat_inj.1 (by show s[i].toNat = 47; omega)))
    rw [show ((i + (d + 1) : Nat) : Int) = ((i + 1 + d : Nat) : Int) by omega, ← h2, spec_l02Prefix.l0, if_pos (by rw [B_size]; omega), if_pos (by omega), B_bt s i hlt, if_neg h3, ww i (by omega)]
theorem pbits_spec {ad : List UInt8} {m : Nat} (h : Cutd ad m) (k : Nat) (hk : 800 ≤ k) : spec_PrefixBits.f k (B (ptx ad m)) = some (B (BL (ad.take m)), ver ad, 0) := by
  have hlen := ptx_len h
  have hle := h.le
  have hl := h.len
  have ht := tx_len ad hl
  have hdl := dec3_len (8 * m) (by omega)
  have hpl : (ptx ad m).length = (tx ad).length + ((dec3 (8 * m)).length + 1) := by unfold ptx; rw [List.length_append, List.length_cons]
  have hkey : spec_l02Prefix.f k (B (ptx ad m)) = some (B (BL (ad.take m)), ver ad, true) := by
    unfold spec_l02Prefix.f
    obtain ⟨k', h1, h2⟩ := pre_l0 (ptx ad m) (by omega) (tx ad).length 0 k (by omega) (fun j _ hj => by
      unfold ptx
      rw [List.getElem?_append_left (by omega), List.getElem?_eq_getElem (by omega)]
      exact fun e => tx_mem ad hl _ (List.getElem_mem (by omega)) (Option.some.inj e)) (by omega)
    rw [show ((0 : Nat) : Int) = 0 from rfl, Nat.zero_add] at h2
    obtain ⟨k', rfl⟩ : ∃ q, k' = q + 2 := ⟨k' - 2, by omega⟩
    have b1 : bt (B (ptx ad m)) ((tx ad).length : Int) = 47 := by
      rw [B_bt _ _ (by omega)]
      unfold ptx
      simp
    have ex1 : (B (ptx ad m)).extract 0 (tx ad).length = B (tx ad) := by rw [B_ext0]; unfold ptx; rw [List.take_left]
    have ex2 : (B (ptx ad m)).extract ((tx ad).length + 1) (B (ptx ad m)).size = B (dec3 (8 * m)) := by
      rw [B_ext1]
      unfold ptx
      rw [List.drop_append, List.drop_of_length_le (by omega)]
      simp
    have f1 : ((tx ad).length : Int) < ((B (ptx ad m)).size : Int) := by rw [B_size]; omega
    have f2 : ((tx ad).length : Int) ≤ ((B (ptx ad m)).size : Int) := by rw [B_size]; omega
    have f3 : (((tx ad).length + 1 : Nat) : Int) ≤ ((B (ptx ad m)).size : Int) := by rw [B_size]; omega
    have e2 : (!decide ((0 : Int) ≤ ((8 * m : Nat) : Int) ∧ ((8 * m : Nat) : Int) ≤ ((8 * ad.length : Nat) : Int))) = false := by rw [decide_eq_true (by omega)]; rfl
    have r1 := addr_spec ad hl (k' + 1) (by omega)
    have r2 := num_spec (8 * m) (by omega) (k' + 1) (by omega)
    have r3 := bits_spec ad (by omega) k' (by omega)
    have r4 := pre_l1 h (8 * ad.length - 8 * m) (8 * m) k' (by omega) (Nat.le_refl _) (by omega)
    have e1 : wrap64 (8 * ((B ad).size : Int)) = ((8 * ad.length : Nat) : Int) := by rw [B_size, w64 (by omega) (by omega)]; omega
    have W1 := ww (tx ad).length (by omega)
    rw [h2, spec_l02Prefix.l0, if_pos f1, if_pos (Int.natCast_nonneg _), if_pos b1, if_pos f2, Int.toNat_natCast, ex1, r1, Option.bind_some, W1, if_pos (Int.natCast_nonneg _), if_pos f3, Int.toNat_natCast, ex2, r2, Option.bind_some, if_pos rfl, if_pos rfl, inS, Option.bind_some, e1, e2, spec_l02Prefix.j1, if_neg (by decide), r3, Option.bind_some, r4]
  unfold spec_PrefixBits.f
  rw [if_neg (by rw [B_size]; omega), if_neg (by rw [B_size]; omega), hkey, Option.bind_some, if_pos rfl]
theorem addrbits_impl (ad : List UInt8) (hl : ad.length = 4 ∨ ad.length = 16) (k : Nat) (hk : 400 ≤ k) : impl_AddrBits.f k (B ad) = some (B (BL ad), 0) := by
  unfold impl_AddrBits.f
  rw [tooLong_ok _ (by rw [B_size]; omega) k (by omega), Option.bind_some, if_neg (by decide), isAddr_ok _ (by rw [B_size]; exact hl), Option.bind_some, if_pos rfl, bits_impl ad (by omega) k (by omega), Option.bind_some]
theorem addrbits_spec (ad : List UInt8) (hl : ad.length = 4 ∨ ad.length = 16) (k : Nat) (hk : 400 ≤ k) : spec_AddrBits.f k (B ad) = some (B (BL ad), 0) := by
  unfold spec_AddrBits.f
  rcases hl with hl | hl
  · rw [if_pos (by rw [B_size]; omega), bits_spec ad (by omega) k (by omega), Option.bind_some]
  · rw [if_neg (by rw [B_size]; omega), if_pos (by rw [B_size]; omega), bits_spec ad (by omega) k (by omega), Option.bind_some]
theorem bitsI_mem (ad : List UInt8) : ∀ n ∈ bitsI ad, n = 48 ∨ n = 49 := by
  have ht : ∀ (b m : Nat), ∀ n ∈ tb b m, n = 48 ∨ n = 49 := by
    intro b m
    induction m with
    | zero => intro n hn; simp [tb] at hn
    | succ m ih =>
      intro n hn
      rw [tb, List.mem_cons] at hn
      rcases hn with rfl | hn
      · have := Nat.mod_two_eq_zero_or_one (b / 2 ^ m)
        rcases this with h | h <;> rw [h]
        · exact .inl rfl
        · exact .inr rfl
      · exact ih n hn
  intro n hn
  obtain ⟨l, hl, hn⟩ := List.mem_flatten.1 hn
  obtain ⟨b, _, rfl⟩ := List.mem_map.1 hl
  exact ht _ _ n hn
theorem BL_mem (ad : List UInt8) : ∀ b ∈ BL ad, b = 48 ∨ b = 49 := by
  intro b hb
  obtain ⟨n, hn, rfl⟩ := List.mem_map.1 hb
  rcases bitsI_mem ad n hn with rfl | rfl
  · exact .inl rfl
  · exact .inr rfl
theorem ok_l0 (s : List UInt8) (hs : s.length ≤ 128) (hb : ∀ b ∈ s, b = 48 ∨ b = 49) : ∀ (d i : Nat) (k : Nat), i + d = s.length → d < k → impl_bitsOK.l0 k (B s) (i : Int) = some true := by
  intro d
  induction d with
  | zero =>
    intro i k hi hk
    obtain ⟨k, rfl⟩ : ∃ q, k = q + 1 := ⟨k - 1, by omega⟩
    rw [impl_bitsOK.l0, if_neg (by rw [B_size]; omega)]
  | succ d ih =>
    intro i k hi hk
    obtain ⟨k, rfl⟩ : ∃ q, k = q + 1 := ⟨k - 1, by omega⟩
    have hlt : i < s.length := by omega
    rw [impl_bitsOK.l0, if_pos (by rw [B_size]; omega), if_pos (by omega), B_bt s i hlt, ww i (by omega)]
    rcases hb _ (List.getElem_mem hlt) with e | e
    · rw [if_pos (by rw [e]; rfl)]; exact ih (i + 1) k (by omega) (by omega)
    · rw [if_neg (by rw [e]; decide), if_pos (by rw [e]; rfl)]; exact ih (i + 1) k (by omega) (by omega)
theorem bitsOK_ok (s : List UInt8) (hs : s.length ≤ 128) (hb : ∀ b ∈ s, b = 48 ∨ b = 49) (k : Nat) (hk : 200 ≤ k) : impl_bitsOK.f k (B s) = some true := by
  unfold impl_bitsOK.f
  rw [if_neg (by rw [B_size]; omega)]
  exact ok_l0 s hs hb s.length 0 k (by omega) (by omega)
/-- The bit r (from above) of a byte's place in a row of bits. -/
theorem tb_at (b : Nat) : ∀ (m r : Nat), r < m → (tb b m)[r]? = some ((48 + b / 2 ^ (m - 1 - r) % 2 : Nat) : Int)
  | m + 1, 0, _ => by rw [tb, List.getElem?_cons_zero, Nat.add_sub_cancel, Nat.sub_zero]
  | m + 1, r + 1, h => by
    rw [tb, List.getElem?_cons_succ, tb_at b m r (by omega), show m + 1 - 1 - (r + 1) = m - 1 - r by omega]
theorem bitsI_at : ∀ (ad : List UInt8) (q r : Nat) (h : q < ad.length), r < 8 → (bitsI ad)[8 * q + r]? = some ((48 + (ad[q]).toNat / 2 ^ (7 - r) % 2 : Nat) : Int)
  | a :: l, 0, r, _, hr => by
    rw [bitsI_cons, Nat.mul_zero, Nat.zero_add, List.getElem?_append_left (by rw [tb_len]; exact hr), tb_at _ 8 r hr]
    rfl
  | a :: l, q + 1, r, h, hr => by
    rw [bitsI_cons, List.getElem?_append_right (by rw [tb_len]; omega), tb_len, show 8 * (q + 1) + r - 8 = 8 * q + r by omega, bitsI_at l q r (by simpa using h) hr]
    rfl
theorem BL_bt (ad : List UInt8) (q r : Nat) (h : q < ad.length) (hr : r < 8) : bt (B (BL ad)) ((8 * q + r : Nat) : Int) = ((48 + (ad[q]).toNat / 2 ^ (7 - r) % 2 : Nat) : Int) := by
  have hlt : 8 * q + r < (BL ad).length := by rw [BL_len]; omega
  rw [B_bt _ _ hlt]
  have e := bitsI_at ad q r h hr
  have e2 : (BL ad)[8 * q + r]? = some (UInt8.ofNat ((48 + (ad[q]).toNat / 2 ^ (7 - r) % 2 : Nat) : Int).toNat) := by
    unfold BL
    rw [List.getElem?_map, e]
    rfl
  rw [List.getElem?_eq_getElem hlt] at e2
  rw [Option.some.inj e2, Int.toNat_natCast]
  rcases Nat.mod_two_eq_zero_or_one ((ad[q]).toNat / 2 ^ (7 - r)) with h | h <;> (rw [h]; try rfl)
/-- A byte's r highest bits, the others 0. -/
def hib (b r : Nat) : Nat := b / 2 ^ (8 - r) * 2 ^ (8 - r)
theorem set_fin : ∀ b : Fin 256, ∀ r : Fin 8, (b.val / 2 ^ (7 - r.val) % 2 = 1 → Go.bits .or .u8 (hib b.val r.val : Int) (shr .u8 128 (r.val : Int)) = (hib b.val (r.val + 1) : Int)) ∧ (b.val / 2 ^ (7 - r.val) % 2 = 0 → hib b.val r.val = hib b.val (r.val + 1)) := by decide +kernel
theorem hib_full (b : Nat) (h : b < 256) : hib b 8 = b := by simp [hib]
theorem hib_zero (b : Nat) (h : b < 256) : hib b 0 = 0 := by unfold hib; rw [Nat.div_eq_of_lt (by omega), Nat.zero_mul]
theorem rd_mid (A R : List Int) (z : Int) : rd (A ++ z :: R) (A.length : Int) = z := by simp [rd]
theorem w8 (n : Nat) (h : n ≤ 1000) : wrap64 (8 * (n : Int)) = ((8 * n : Nat) : Int) := by rw [w64 (by omega) (by omega)]; omega
theorem wq (q r : Nat) (hr : r < 8) (hq : q ≤ 16) : wrap64 (Int.tdiv ((8 * q + r : Nat) : Int) 8) = (q : Int) := by rw [tdiv_nonneg_eq (by omega), w64 (by omega) (by omega)]; omega
theorem wr (q r : Nat) (hr : r < 8) : Int.tmod ((8 * q + r : Nat) : Int) 8 = (r : Int) := by rw [tmod_nonneg_eq (by omega)]; omega
theorem ptext_l0 {ad : List UInt8} {m : Nat} (h : Cutd ad m) (v : Int) : ∀ (d q r : Nat) (k : Nat), q ≤ m → r < 8 → 8 * q + r + d = 8 * m → d + 800 < k →
    impl_PrefixText.l0 k (B (BL (ad.take m))) (((ad.take q).map fun b => (b.toNat : Int)) ++ (if q < ad.length then (hib (ad.getD q 0).toNat r : Int) :: List.replicate (ad.length - q - 1) 0 else [])) ((8 * q + r : Nat) : Int) = some (B (ptx ad m), 0) := by
  have hle := h.le
  have hl := h.len
  intro d
  induction d with
  | zero =>
    intro q r k hq hr hd hk
    obtain ⟨k, rfl⟩ : ∃ x, k = x + 1 := ⟨k - 1, by omega⟩
    have e : q = m ∧ r = 0 := by omega
    obtain ⟨rfl, rfl⟩ := e
    have hs : ((B (BL (ad.take q))).size : Int) = ((8 * q : Nat) : Int) := by rw [B_size, BL_len, List.length_take]; congr 1; omega
    have hx : (((ad.take q).map fun b : UInt8 => (b.toNat : Int)) ++ (if q < ad.length then (hib (ad.getD q 0).toNat 0 : Int) :: List.replicate (ad.length - q - 1) 0 else [])) = ad.map fun b : UInt8 => (b.toNat : Int) := by
      conv => rhs; rw [h.eq]
      rw [List.map_append, List.map_replicate]
      congr 1
      split
      · rw [hib_zero _ (UInt8.toNat_lt _), show ad.length - q = (ad.length - q - 1) + 1 by omega, List.replicate_succ]
        simp
      · rw [show ad.length - q = 0 by omega]; rfl
    have htl := tx_len ad hl
    have hdl := dec3_len (8 * q) (by omega)
    rw [impl_PrefixText.l0, if_neg (by rw [hs]; omega), hx, nums_bytes, text_impl ad hl k (by omega), Option.bind_some]
    dsimp only
    rw [if_pos (by rw [B_size]; omega), hs, dec_impl (8 * q) (by omega), Option.bind_some, show (⟨#[47]⟩ : ByteArray) = B [47] from rfl, B_app, if_pos (by rw [B_size, B_size, List.length_append]; simp only [List.length_cons, List.length_nil]; omega), B_app]
    unfold ptx
    simp
  | succ d ih =>
    intro q r k hq hr hd hk
    obtain ⟨k, rfl⟩ : ∃ x, k = x + 1 := ⟨k - 1, by omega⟩
    have hqm : q < m := by omega
    have hql : q < ad.length := by omega
    have hqt : q < (ad.take m).length := by rw [List.length_take]; omega
    have hg : ad.getD q 0 = ad[q] := by simp [hql]
    have hgt : (ad.take m)[q] = ad[q] := by rw [List.getElem_take]
    have b1 := (ad[q]).toNat_lt
    have hlen : ((ad.take q).map fun b : UInt8 => (b.toNat : Int)).length = q := by simp; omega
    have hs : ((8 * q + r : Nat) : Int) < ((B (BL (ad.take m))).size : Int) := by rw [B_size, BL_len, List.length_take]; omega
    have hll : (q : Int) < ((((ad.take q).map fun b : UInt8 => (b.toNat : Int)) ++ (hib (ad[q]).toNat r : Int) :: List.replicate (ad.length - q - 1) 0).length : Int) := by
      rw [List.length_append, hlen, List.length_cons]; omega
    have hnext : impl_PrefixText.l0 k (B (BL (ad.take m))) (((ad.take q).map fun b : UInt8 => (b.toNat : Int)) ++ (hib (ad[q]).toNat (r + 1) : Int) :: List.replicate (ad.length - q - 1) 0) ((8 * q + r + 1 : Nat) : Int) = some (B (ptx ad m), 0) := by
      by_cases h7 : r + 1 < 8
      · have := ih q (r + 1) k hq h7 (by omega) (by omega)
        rw [if_pos hql, hg] at this
        exact this
      · obtain rfl : r = 7 := by omega
        have := ih (q + 1) 0 k (by omega) (by omega) (by omega) (by omega)
        rw [List.take_add_one, List.getElem?_eq_getElem hql, Option.toList_some, List.map_append, List.append_assoc] at this
        rw [show 8 * q + 7 + 1 = 8 * (q + 1) + 0 by omega, hib_full _ b1, ← this]
        congr 2
        simp only [List.map_cons, List.map_nil, List.cons_append, List.nil_append]
        congr 1
        split
        · rw [hib_zero _ (UInt8.toNat_lt _), show ad.length - q - 1 = (ad.length - (q + 1) - 1) + 1 by omega, List.replicate_succ]
          rfl
        · rw [show ad.length - q - 1 = 0 by omega]; rfl
    have hrd := rd_mid ((ad.take q).map fun b : UInt8 => (b.toNat : Int)) (List.replicate (ad.length - q - 1) 0) (hib (ad[q]).toNat r : Int)
    rw [hlen] at hrd
    have hset := set_mid ((ad.take q).map fun b : UInt8 => (b.toNat : Int)) (List.replicate (ad.length - q - 1) 0) (hib (ad[q]).toNat r : Int) (hib (ad[q]).toNat (r + 1) : Int)
    rw [hlen] at hset
    have hq16 : q ≤ 16 := by omega
    have hw4 : 8 * q + r < 4000000000000000000 := by omega
    have w1 := wq q r hr hq16
    have w2 := wr q r hr
    have w3 := ww (8 * q + r) hw4
    have hbit := BL_bt (ad.take m) q r hqt hr
    rw [hgt] at hbit
    obtain ⟨s1, s0⟩ := set_fin ⟨(ad[q]).toNat, b1⟩ ⟨r, hr⟩
    simp only at s1 s0
    rw [if_pos hql, hg, impl_PrefixText.l0, if_pos hs, if_pos (Int.natCast_nonneg _), hbit, w1, w2, w3]
    rcases Nat.mod_two_eq_zero_or_one ((ad[q]).toNat / 2 ^ (7 - r)) with e | e
    · rw [e, if_neg (by decide), s0 e]
      exact hnext
    · rw [e, if_pos (by decide), if_pos (Int.natCast_nonneg _), if_pos hll, if_pos (Int.natCast_nonneg _), hrd, s1 e, Int.toNat_natCast, hset]
      exact hnext
theorem ptext_impl {ad : List UInt8} {m : Nat} (h : Cutd ad m) (k : Nat) (hk : 1200 ≤ k) : impl_PrefixText.f k (ver ad) (B (BL (ad.take m))) = some (B (ptx ad m), 0) := by
  have hle := h.le
  have hl := h.len
  have hbl : (BL (ad.take m)).length = 8 * m := by rw [BL_len, List.length_take]; congr 1; omega
  obtain ⟨k, rfl⟩ : ∃ q, k = q + 2 := ⟨k - 2, by omega⟩
  unfold impl_PrefixText.f
  rw [tooLong_ok _ (by rw [B_size]; omega) _ (by omega), Option.bind_some, if_neg (by decide), bitsOK_ok _ (by omega) (BL_mem _) _ (by omega)]
  simp only [Option.bind_some, if_true]
  have key : impl_PrefixText.l0 k (B (BL (ad.take m))) (List.replicate ad.length 0) 0 = some (B (ptx ad m), 0) := by
    have := ptext_l0 h 0 (8 * m) 0 0 k (by omega) (by omega) (by omega) (by omega)
    rw [if_pos (by omega), hib_zero _ (UInt8.toNat_lt _), List.take_zero, List.map_nil, List.nil_append] at this
    rw [show List.replicate ad.length (0 : Int) = 0 :: List.replicate (ad.length - 0 - 1) 0 by rw [← List.replicate_succ]; congr 1; omega]
    exact this
  unfold ver
  rcases hl with hl | hl
  · rw [show (if ad.length = 4 then (4 : Int) else 6) = 4 from if_pos hl, if_pos rfl, show (decide (((B (BL (ad.take m))).size : Int) > 32)) = false from decide_eq_false (by rw [B_size]; omega), impl_PrefixText.j0, if_neg (by decide), if_pos (by decide), if_neg (by decide), impl_PrefixText.j1, ← hl]
    exact key
  · rw [show (if ad.length = 4 then (4 : Int) else 6) = 6 from if_neg (by omega), if_neg (by decide), if_pos rfl, impl_PrefixText.j0, if_neg (by decide), if_pos (by decide), if_pos rfl, if_pos (by decide), impl_PrefixText.j1, ← hl]
    exact key
/-- A source of choices that stands right: its bytes, its place (at most b), its seed. -/
structure Sr (c : List Int) (a s b : Int) : Prop where
  bytes : ∀ x ∈ c, 0 ≤ x ∧ x ≤ 255
  len : (c.length : Int) ≤ 140737488355328
  a0 : 0 ≤ a
  ab : a ≤ b
  bb : b ≤ 1000000000000000
  s0 : 0 ≤ s
  s1 : s < 2147483648
theorem Sr.mono {c : List Int} {a s b b' : Int} (h : Sr c a s b) (h1 : b ≤ b') (h2 : b' ≤ 1000000000000000) : Sr c a s b' := ⟨h.bytes, h.len, h.a0, Int.le_trans h.ab h1, h2, h.s0, h.s1⟩
theorem mod_b {x n : Int} (hx : 0 ≤ x) (hn : 0 < n) : 0 ≤ Int.tmod x n ∧ Int.tmod x n < n := by
  rw [tmod_nonneg_eq hx]; exact ⟨Int.emod_nonneg _ (by omega), Int.emod_lt_of_pos _ hn⟩
theorem byte_ok {c : List Int} {a s b : Int} (h : Sr c a s b) (hb : b ≤ 900000000000000) : ∃ v s', spec_l00Src_byte.f c a s = some (v, a + 1, s') ∧ 0 ≤ v ∧ v ≤ 255 ∧ Sr c (a + 1) s' (b + 1) := by
  obtain ⟨h1, h2, h3, h4, h5, h6, h7⟩ := h
  unfold spec_l00Src_byte.f
  rw [w64 (x := a + 1) (by omega) (by omega)]
  by_cases q : a + 1 ≤ (c.length : Int)
  · rw [if_pos q, w64 (x := a + 1 - 1) (by omega) (by omega), if_pos (by omega), if_pos (by omega)]
    have r := rd_byte h1 (a + 1 - 1)
    generalize rd c (a + 1 - 1) = v at r ⊢
    rw [w64 (x := v) (by omega) (by omega), w64 (x := s * 31) (by omega) (by omega), w64 (x := s * 31 + v) (by omega) (by omega), w64 (x := s * 31 + v + 7) (by omega) (by omega)]
    have m := mod_b (x := s * 31 + v + 7) (n := 2147483648) (by omega) (by omega)
    exact ⟨v, _, rfl, r.1, r.2, ⟨h1, h2, by omega, by omega, by omega, m.1, m.2⟩⟩
  · rw [if_neg q]
    by_cases q2 : a + 1 > 3000
    · rw [if_pos q2]
      exact ⟨0, s, rfl, by omega, by omega, ⟨h1, h2, by omega, by omega, by omega, h6, h7⟩⟩
    · rw [if_neg q2, w64 (x := s * 1103515245) (by omega) (by omega), w64 (x := s * 1103515245 + 12345) (by omega) (by omega)]
      have m := mod_b (x := s * 1103515245 + 12345) (n := 2147483648) (by omega) (by omega)
      generalize Int.tmod (s * 1103515245 + 12345) 2147483648 = s' at m ⊢
      have e : 0 ≤ Int.tdiv s' 65536 ∧ Int.tdiv s' 65536 ≤ 32767 := by rw [tdiv_nonneg_eq m.1]; omega
      rw [w64 (x := Int.tdiv s' 65536) (by omega) (by omega)]
      have m2 := mod_b (x := Int.tdiv s' 65536) (n := 256) e.1 (by omega)
      exact ⟨_, s', rfl, m2.1, by omega, ⟨h1, h2, by omega, by omega, by omega, m.1, m.2⟩⟩
theorem next_ok {c : List Int} {a s b : Int} (h : Sr c a s b) (hb : b ≤ 800000000000000) (n : Int) (hn : 1 ≤ n) (hn2 : n ≤ 10000000) : ∃ v a' s', spec_l00Src_next.f c a s n = some (v, a', s') ∧ 0 ≤ v ∧ v < n ∧ Sr c a' s' (b + 3) := by
  unfold spec_l00Src_next.f
  by_cases q : n ≤ 1
  · rw [if_pos q]; exact ⟨0, a, s, rfl, by omega, by omega, h.mono (by omega) (by omega)⟩
  rw [if_neg q]
  by_cases q2 : n ≤ 256
  · obtain ⟨v, s', e, v0, v1, h'⟩ := byte_ok h (by omega)
    rw [if_pos q2, e]
    simp only [Option.bind_some]
    rw [if_neg (by omega)]
    have m := mod_b (x := v) (n := n) v0 (by omega)
    exact ⟨_, _, _, rfl, m.1, m.2, h'.mono (by omega) (by omega)⟩
  · obtain ⟨v, s1, e1, v0, v1, h1⟩ := byte_ok h (by omega)
    obtain ⟨u, s2, e2, u0, u1, h2⟩ := byte_ok h1 (by omega)
    obtain ⟨t, s3, e3, t0, t1, h3⟩ := byte_ok h2 (by omega)
    rw [if_neg q2, e1]
    simp only [Option.bind_some]
    rw [e2]
    simp only [Option.bind_some]
    rw [e3]
    simp only [Option.bind_some]
    rw [if_neg (by omega), w64 (x := v * 65536) (by omega) (by omega), w64 (x := u * 256) (by omega) (by omega), w64 (x := v * 65536 + u * 256) (by omega) (by omega), w64 (x := v * 65536 + u * 256 + t) (by omega) (by omega)]
    have m := mod_b (x := v * 65536 + u * 256 + t) (n := n) (by omega) (by omega)
    exact ⟨_, _, _, rfl, m.1, m.2, h3.mono (by omega) (by omega)⟩
theorem source_ok {l : List Int} (hl : ∀ x ∈ l, 0 ≤ x ∧ x ≤ 255) (h2 : (l.length : Int) ≤ 140737488355328) : spec_l00Source.f l = some (l, 0, (l.length : Int) % 1000) ∧ Sr l 0 ((l.length : Int) % 1000) 0 :=
  ⟨rfl, ⟨hl, h2, by omega, by omega, by omega, by omega, by omega⟩⟩
theorem chance_ok {c : List Int} {a s b : Int} (h : Sr c a s b) (hb : b ≤ 800000000000000) (n : Int) (hn : 1 ≤ n) (hn2 : n ≤ 10000000) : ∃ v a' s', spec_l00Src_chance.f c a s n = some (v, a', s') ∧ Sr c a' s' (b + 3) := by
  obtain ⟨v, a', s', e, v0, v1, h'⟩ := next_ok h hb n hn hn2
  unfold spec_l00Src_chance.f
  rw [e]
  exact ⟨_, a', s', rfl, h'⟩
theorem addr4_ok {c : List Int} {a s b : Int} (h : Sr c a s b) (hb : b ≤ 700000000000000) : ∃ p a' s', spec_l00Src_addr4.f c a s = some (p, a', s') ∧ p.size = 4 ∧ Sr c a' s' (b + 9) := by
  obtain ⟨v1, a1, s1, e1, l1, u1, h1⟩ := next_ok h (by omega) 3 (by omega) (by omega)
  obtain ⟨v2, a2, s2, e2, l2, u2, h2⟩ := next_ok h1 (by omega) 2 (by omega) (by omega)
  obtain ⟨v3, a3, s3, e3, l3, u3, h3⟩ := next_ok h2 (by omega) 4 (by omega) (by omega)
  unfold spec_l00Src_addr4.f
  rw [e1, Option.bind_some]
  dsimp only
  rw [e2, Option.bind_some]
  dsimp only
  rw [e3, Option.bind_some]
  exact ⟨_, a3, s3, rfl, by rw [strOfNums_size]; rfl, h3.mono (by omega) (by omega)⟩
theorem addr6_l0 {c : List Int} (m : Nat) : ∀ (xs : List Int) (a s b : Int) (k : Nat), Sr c a s b → b + 6 * m ≤ 700000000000000 → xs.length = 16 → m < k → ∃ p a' s', spec_l00Src_addr6.l0 k xs (m : Int) c a s = some (p, a', s') ∧ p.size = 16 ∧ Sr c a' s' (b + 6 * m) := by
  induction m with
  | zero =>
    intro xs a s b k h hb hx hk
    obtain ⟨k, rfl⟩ : ∃ m, k = m + 1 := ⟨k - 1, by omega⟩
    rw [spec_l00Src_addr6.l0, if_neg (by omega)]
    exact ⟨_, a, s, rfl, by rw [strOfNums_size, hx], h.mono (by omega) (by have := h.bb; omega)⟩
  | succ m ih =>
    intro xs a s b k h hb hx hk
    have hb0 := Int.le_trans h.a0 h.ab
    obtain ⟨k, rfl⟩ : ∃ m, k = m + 1 := ⟨k - 1, by omega⟩
    obtain ⟨v1, a1, s1, e1, l1, u1, h1⟩ := next_ok h (by omega) 16 (by omega) (by omega)
    obtain ⟨v2, a2, s2, e2, l2, u2, h2⟩ := next_ok h1 (by omega) 256 (by omega) (by omega)
    rw [spec_l00Src_addr6.l0, if_pos (by omega), e1, Option.bind_some]
    dsimp only
    rw [e2, Option.bind_some]
    dsimp only
    rw [if_pos l1, if_pos (by rw [hx]; omega), w64 (x := ((m + 1 : Nat) : Int) - 1) (by omega) (by omega), show ((m + 1 : Nat) : Int) - 1 = (m : Int) by omega]
    obtain ⟨p, a', s', ep, hp, h'⟩ := ih (xs.set v1.toNat (v2 % 256)) a2 s2 (b + 3 + 3) k h2 (by omega) (by rw [List.length_set, hx]) (by omega)
    exact ⟨p, a', s', ep, hp, h'.mono (by omega) (by omega)⟩
theorem addr6_ok {c : List Int} {a s b : Int} (h : Sr c a s b) (hb : b ≤ 600000000000000) (k : Nat) (hk : 10 < k) : ∃ p a' s', spec_l00Src_addr6.f k c a s = some (p, a', s') ∧ p.size = 16 ∧ Sr c a' s' (b + 100) := by
  obtain ⟨v1, a1, s1, e1, l1, u1, h1⟩ := next_ok h (by omega) 2 (by omega) (by omega)
  obtain ⟨v2, a2, s2, e2, l2, u2, h2⟩ := next_ok h1 (by omega) 4 (by omega) (by omega)
  unfold spec_l00Src_addr6.f
  rw [if_pos (by omega), Option.bind_some, if_pos (by rw [List.length_replicate]; omega), e1, Option.bind_some]
  dsimp only
  rw [if_pos (by rw [List.length_replicate]; omega), e2, Option.bind_some]
  dsimp only
  obtain ⟨m, rfl⟩ : ∃ m : Nat, v2 = (m : Int) := ⟨v2.toNat, by omega⟩
  obtain ⟨p, a', s', ep, hp, h'⟩ := addr6_l0 m (((List.replicate 16 0).set (0 : Int).toNat 32).set (1 : Int).toNat (v1 % 256)) a2 s2 (b + 3 + 3) k h2 (by omega) (by rw [List.length_set, List.length_set, List.length_replicate]) (by omega)
  exact ⟨p, a', s', ep, hp, h'.mono (by omega) (by omega)⟩
set_option maxRecDepth 100000 in
theorem mask_fin : ∀ b : Fin 256, ∀ r : Fin 8, Go.bits .andNot .u8 ((b.val % 2 ^ (8 - r.val) : Nat) : Int) (shr .u8 128 (r.val : Int)) = ((b.val % 2 ^ (7 - r.val) : Nat) : Int) := by decide +kernel
/-- What is left of a row of bytes when the bits from 8 m on are taken away. -/
def cutTo (ad : List UInt8) (m : Nat) : List UInt8 := ad.take m ++ List.replicate (ad.length - m) 0
theorem cutTo_ok (ad : List UInt8) (hl : ad.length = 4 ∨ ad.length = 16) (m : Nat) (hm : m ≤ ad.length) : Cutd (cutTo ad m) m := by
  have e : (cutTo ad m).length = ad.length := by unfold cutTo; rw [List.length_append, List.length_take, List.length_replicate]; omega
  refine ⟨by rw [e]; exact hl, by rw [e]; exact hm, ?_⟩
  rw [e]
  unfold cutTo
  rw [List.take_append, List.take_take, Nat.min_self, List.length_take, List.take_replicate, show min (m - min m ad.length) (ad.length - m) = 0 by omega, List.replicate_zero, List.append_nil]
theorem wu (r : Nat) (hr : r < 8) : IntKind.u64.wrap (r : Int) = (r : Int) := by rw [IntKind.wrap_u64]; omega
theorem mask_l0 (ad : List UInt8) (hl : ad.length = 4 ∨ ad.length = 16) (m : Nat) (hm : m ≤ ad.length) (c : List Int) (a s : Int) : ∀ (d q r : Nat) (k : Nat), m ≤ q → q ≤ ad.length → r < 8 → 8 * q + r + d = 8 * ad.length → d + 600 < k →
    spec_l00Src_prefix.l0 k (B ad) ((8 * m : Nat) : Int) (((ad.take m).map fun b => (b.toNat : Int)) ++ (List.replicate (q - m) 0 ++ (if q < ad.length then (((ad.getD q 0).toNat % 2 ^ (8 - r) : Nat) : Int) :: ((ad.drop (q + 1)).map fun b => (b.toNat : Int)) else []))) ((8 * q + r : Nat) : Int) c a s = some (B (ptx (cutTo ad m) m), a, s) := by
  intro d
  induction d with
  | zero =>
    intro q r k hq hql hr hd hk
    obtain ⟨k, rfl⟩ : ∃ x, k = x + 1 := ⟨k - 1, by omega⟩
    have e : q = ad.length ∧ r = 0 := by omega
    obtain ⟨rfl, rfl⟩ := e
    have hc := cutTo_ok ad hl m hm
    have htl := tx_len (cutTo ad m) hc.len
    have hdl := dec3_len (8 * m) (by omega)
    have hx : (((ad.take m).map fun b : UInt8 => (b.toNat : Int)) ++ (List.replicate (ad.length - m) 0 ++ (if ad.length < ad.length then (((ad.getD ad.length 0).toNat % 2 ^ (8 - 0) : Nat) : Int) :: ((ad.drop (ad.length + 1)).map fun b : UInt8 => (b.toNat : Int)) else []))) = (cutTo ad m).map fun b : UInt8 => (b.toNat : Int) := by
      unfold cutTo
      rw [if_neg (by omega), List.append_nil, List.map_append, List.map_replicate]
      rfl
    have w : wrap64 (8 * ((B ad).size : Int)) = ((8 * ad.length : Nat) : Int) := by rw [B_size, w64 (by omega) (by omega)]; omega
    rw [hx, spec_l00Src_prefix.l0, w, if_neg (by omega), nums_bytes, text_spec _ hc.len k (by omega), Option.bind_some, if_pos (by rw [B_size]; omega), dec_spec (8 * m) (by omega) k (by omega), Option.bind_some, show (⟨#[47]⟩ : ByteArray) = B [47] from rfl, B_app, if_pos (by rw [B_size, B_size, List.length_append]; simp only [List.length_cons, List.length_nil]; omega), B_app]
    unfold ptx
    simp
  | succ d ih =>
    intro q r k hq hql hr hd hk
    obtain ⟨k, rfl⟩ : ∃ x, k = x + 1 := ⟨k - 1, by omega⟩
    have hlt : q < ad.length := by omega
    have hg : ad.getD q 0 = ad[q] := by simp [hlt]
    have b1 := (ad[q]).toNat_lt
    have hlen : (((ad.take m).map fun b : UInt8 => (b.toNat : Int)) ++ List.replicate (q - m) 0).length = q := by rw [List.length_append, List.length_map, List.length_take, List.length_replicate]; omega
    have hq16 : q ≤ 16 := by omega
    have hw4 : 8 * q + r < 4000000000000000000 := by omega
    have hs : ((8 * q + r : Nat) : Int) < ((8 * ad.length : Nat) : Int) := by omega
    have hll : (q : Int) < (((((ad.take m).map fun b : UInt8 => (b.toNat : Int)) ++ List.replicate (q - m) 0) ++ (((ad[q]).toNat % 2 ^ (8 - r) : Nat) : Int) :: ((ad.drop (q + 1)).map fun b : UInt8 => (b.toNat : Int))).length : Int) := by
      rw [List.length_append, hlen, List.length_cons]; omega
    have hnext : spec_l00Src_prefix.l0 k (B ad) ((8 * m : Nat) : Int) ((((ad.take m).map fun b : UInt8 => (b.toNat : Int)) ++ List.replicate (q - m) 0) ++ (((ad[q]).toNat % 2 ^ (7 - r) : Nat) : Int) :: ((ad.drop (q + 1)).map fun b : UInt8 => (b.toNat : Int))) ((8 * q + r + 1 : Nat) : Int) c a s = some (B (ptx (cutTo ad m) m), a, s) := by
      by_cases h7 : r + 1 < 8
      · have := ih q (r + 1) k hq hql h7 (by omega) (by omega)
        rw [if_pos hlt, hg, ← List.append_assoc, show 8 - (r + 1) = 7 - r by omega] at this
        exact this
      · obtain rfl : r = 7 := by omega
        have := ih (q + 1) 0 k (by omega) (by omega) (by omega) (by omega) (by omega)
        rw [show 8 * q + 7 + 1 = 8 * (q + 1) + 0 by omega, ← this]
        congr 1
        rw [List.append_assoc]
        congr 1
        rw [show q + 1 - m = (q - m) + 1 by omega, List.replicate_succ', List.append_assoc]
        congr 1
        rw [show 7 - 7 = 0 from rfl, Nat.pow_zero, Nat.mod_one, List.singleton_append]
        congr 1
        by_cases h8 : q + 1 < ad.length
        · have h9 := (ad[q + 1]).toNat_lt
          rw [if_pos h8, List.drop_eq_getElem_cons h8, List.map_cons, show ad.getD (q + 1) 0 = ad[q + 1] by simp [h8], Nat.sub_zero, Nat.mod_eq_of_lt h9]
        · rw [if_neg h8, List.drop_of_length_le (by omega)]
          rfl
    have hm2 := mask_fin ⟨(ad[q]).toNat, b1⟩ ⟨r, hr⟩
    simp only at hm2
    have hrd := rd_mid (((ad.take m).map fun b : UInt8 => (b.toNat : Int)) ++ List.replicate (q - m) 0) ((ad.drop (q + 1)).map fun b : UInt8 => (b.toNat : Int)) (((ad[q]).toNat % 2 ^ (8 - r) : Nat) : Int)
    rw [hlen] at hrd
    have hset := set_mid (((ad.take m).map fun b : UInt8 => (b.toNat : Int)) ++ List.replicate (q - m) 0) ((ad.drop (q + 1)).map fun b : UInt8 => (b.toNat : Int)) (((ad[q]).toNat % 2 ^ (8 - r) : Nat) : Int) (((ad[q]).toNat % 2 ^ (7 - r) : Nat) : Int)
    rw [hlen] at hset
    have w : wrap64 (8 * ((B ad).size : Int)) = ((8 * ad.length : Nat) : Int) := by rw [B_size]; exact w8 ad.length (by omega)
    have w1 := wq q r hr hq16
    have w2 := wr q r hr
    have w3 := ww (8 * q + r) hw4
    have w4 := wu r hr
    rw [if_pos hlt, hg, ← List.append_assoc, spec_l00Src_prefix.l0, w, if_pos hs, w1, w2, w3, w4, if_pos (Int.natCast_nonneg _), if_pos hll, if_pos (Int.natCast_nonneg _), hrd, hm2, Int.toNat_natCast, hset]
    exact hnext
theorem addr_draw {c : List Int} {a s b : Int} (h : Sr c a s b) (hb : b ≤ 500000000000000) (k : Nat) (hk : 10 < k) : ∃ ad a' s', spec_l00Src_addr.f k c a s = some (B ad, a', s') ∧ (ad.length = 4 ∨ ad.length = 16) ∧ Sr c a' s' (b + 200) := by
  obtain ⟨v, a1, s1, e1, h1⟩ := chance_ok h (by omega) 2 (by omega) (by omega)
  unfold spec_l00Src_addr.f
  rw [e1, Option.bind_some]
  dsimp only
  cases v with
  | true =>
    obtain ⟨p, a', s', ep, hp, h2⟩ := addr4_ok h1 (by omega)
    rw [if_pos rfl, ep, Option.bind_some]
    refine ⟨p.data.toList, a', s', by rw [← B_self], .inl ?_, h2.mono (by omega) (by omega)⟩
    rw [← B_size, ← B_self]; exact hp
  | false =>
    obtain ⟨p, a', s', ep, hp, h2⟩ := addr6_ok h1 (by omega) k hk
    rw [if_neg (by decide), ep, Option.bind_some]
    refine ⟨p.data.toList, a', s', by rw [← B_self], .inr ?_, h2.mono (by omega) (by omega)⟩
    rw [← B_size, ← B_self]; exact hp
theorem bytesOf_B (ad : List UInt8) : bytesOf (B ad) = ad.map fun b => (b.toNat : Int) := by unfold bytesOf; rw [B_data]
theorem prefix_draw {c : List Int} {a s b : Int} (h : Sr c a s b) (hb : b ≤ 400000000000000) (k : Nat) (hk : 1000 ≤ k) : ∃ ad m a' s', spec_l00Src_prefix.f k c a s = some (B (ptx ad m), a', s') ∧ Cutd ad m := by
  obtain ⟨ad, a1, s1, e1, hl, h1⟩ := addr_draw h (by omega) k (by omega)
  obtain ⟨v, a2, s2, e2, l2, u2, h2⟩ := next_ok h1 (by omega) 5 (by omega) (by omega)
  have hw : wrap64 (8 * ((B ad).size : Int)) = ((8 * ad.length : Nat) : Int) := by rw [B_size]; exact w8 ad.length (by omega)
  have hm : ∃ m : Nat, m ≤ ad.length ∧ rd ([0, 8, 16, 24, ((8 * ad.length : Nat) : Int)] : List Int) v = ((8 * m : Nat) : Int) := by
    obtain ⟨j, rfl⟩ : ∃ j : Nat, v = j := ⟨v.toNat, by omega⟩
    have hj : j = 0 ∨ j = 1 ∨ j = 2 ∨ j = 3 ∨ j = 4 := by omega
    rcases hj with rfl | rfl | rfl | rfl | rfl
    · exact ⟨0, by omega, rfl⟩
    · exact ⟨1, by omega, rfl⟩
    · exact ⟨2, by omega, rfl⟩
    · exact ⟨3, by omega, rfl⟩
    · exact ⟨ad.length, by omega, rfl⟩
  obtain ⟨m, hml, hmr⟩ := hm
  refine ⟨cutTo ad m, m, a2, s2, ?_, cutTo_ok ad hl m hml⟩
  have hlast := mask_l0 ad hl m hml c a2 s2 (8 * ad.length - 8 * m) m 0 k (Nat.le_refl _) hml (by omega) (by omega) (by omega)
  have hx : (((ad.take m).map fun b : UInt8 => (b.toNat : Int)) ++ (List.replicate (m - m) 0 ++ (if m < ad.length then (((ad.getD m 0).toNat % 2 ^ (8 - 0) : Nat) : Int) :: ((ad.drop (m + 1)).map fun b : UInt8 => (b.toNat : Int)) else []))) = ad.map fun b : UInt8 => (b.toNat : Int) := by
    rw [Nat.sub_self, List.replicate_zero, List.nil_append]
    conv => rhs; rw [← List.take_append_drop m ad, List.map_append]
    congr 1
    by_cases h8 : m < ad.length
    · have h9 := (ad[m]).toNat_lt
      rw [if_pos h8, List.drop_eq_getElem_cons h8, List.map_cons, show ad.getD m 0 = ad[m] by simp [h8], Nat.sub_zero, Nat.mod_eq_of_lt h9]
    · rw [if_neg h8, List.drop_of_length_le (by omega)]
      rfl
  rw [hx, Nat.add_zero] at hlast
  unfold spec_l00Src_prefix.f
  rw [e1, Option.bind_some]
  dsimp only
  rw [Option.bind_some, e2, Option.bind_some]
  dsimp only
  rw [hw, if_pos l2, if_pos (by simp; omega)]
  unfold utf8_RuneCountInString.f
  rw [if_pos (by rw [B_size]; omega), Option.bind_some, hmr, bytesOf_B]
  exact hlast
theorem FnPrefixes : fnPrefixes.Say := by
  intro l0 g0
  have hb := bs g0.2
  refine ⟨3000, ?_⟩
  unfold laws_FnPrefixes.f
  by_cases hlong : (l0.length : Int) > 1048576
  · rw [if_pos hlong]
  rw [if_neg hlong]
  obtain ⟨e0, h0⟩ := source_ok hb (by omega)
  obtain ⟨ad, m, a1, s1, e1, hc⟩ := prefix_draw h0 (by omega) 3000 (by omega)
  obtain ⟨ad2, a2, s2, e2, hl2, h2⟩ := addr_draw h0 (by omega) 3000 (by omega)
  have p1 : spec_PrefixOf.f 3000 l0 = some (B (ptx ad m)) := by
    unfold spec_PrefixOf.f
    rw [e0, Option.bind_some]
    dsimp only
    rw [e1, Option.bind_some]
  have p2 : spec_AddrOf.f 3000 l0 = some (B ad2) := by
    unfold spec_AddrOf.f
    rw [e0, Option.bind_some]
    dsimp only
    rw [e2, Option.bind_some]
  rw [p1, Option.bind_some, pbits_impl hc 3000 (by omega), Option.bind_some, pbits_spec hc 3000 (by omega), Option.bind_some]
  dsimp only
  rw [ptext_impl hc 3000 (by omega), Option.bind_some, p2, Option.bind_some, addrbits_impl ad2 hl2 3000 (by omega), Option.bind_some, addrbits_spec ad2 hl2 3000 (by omega), Option.bind_some]
  dsimp only
  have w : wrap64 (8 * ((B ad2).size : Int)) = ((8 * ad2.length : Nat) : Int) := by rw [B_size]; exact w8 ad2.length (by omega)
  rw [if_pos rfl, if_pos rfl, if_pos rfl, if_pos rfl, if_pos rfl, if_pos rfl, if_pos rfl, w, B_size, BL_len]
  simp
end Go.Proofs.YtnpbnmhbajiefaaDoor.Pure
namespace Go.Proofs.YtnpbnmhbajiefaaDoor
/-- The tied card. -/
theorem fnPrefixes_holds : Rows.FnPrefixesCardSaid := fnPrefixes.card_of Pure.FnPrefixes
#print axioms fnPrefixes_holds
end Go.Proofs.YtnpbnmhbajiefaaDoor
