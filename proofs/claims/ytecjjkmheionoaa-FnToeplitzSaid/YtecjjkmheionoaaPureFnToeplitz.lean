/- The statement FnToeplitz holds: the hash of what two byte strings differ in is what their hashes differ in, and under a key of two bytes that come again both ways of a flow have one hash. -/
import Derived.Laws.BitsAllLaws
import Derived.Test.YtecjjkmheionoaaAid
import Derived.Test.YtecjjkmheionoaaSayFnToeplitz
namespace Go.Proofs.Ytecjjkmheionoaa.Pure
set_option linter.unusedSimpArgs false
set_option linter.unusedVariables false
open Go.RowKit Go.Proofs.Ytecjjkmheionoaa.PFnToeplitz Go.Proofs.YtecjjkmheionoaaW.PrintWords Go.Proofs.YtecjjkmheionoaaW.PrintLast Go.Proofs.YtecjjkmheionoaaW.PrintMore Go.Proofs.Ytecjjkmheionoaa.Aid
/-- The number that m bits make, the first the highest. -/
def num (f : Nat → Nat) : Nat → Nat
  | 0 => 0
  | m + 1 => 2 * num f m + f m
theorem num_lt {f : Nat → Nat} (hf : ∀ u, f u < 2) : ∀ m, num f m < 2 ^ m
  | 0 => by simp [num]
  | m + 1 => by
    have h1 := num_lt hf m
    have h2 := hf m
    rw [num, Nat.pow_succ]; omega
theorem num_congr {f g : Nat → Nat} : ∀ m, (∀ u, u < m → f u = g u) → num f m = num g m
  | 0, _ => rfl
  | m + 1, h => by rw [num, num, num_congr m (fun u hu => h u (by omega)), h m (by omega)]
theorem num_add (f : Nat → Nat) (a : Nat) : ∀ b, num f (a + b) = num f a * 2 ^ b + num (fun u => f (a + u)) b
  | 0 => by simp [num]
  | b + 1 => by
    rw [← Nat.add_assoc, num, num_add f a b, num, Nat.pow_succ]
    rw [Nat.mul_add, ← Nat.mul_assoc, Nat.mul_comm 2 (num f a), Nat.mul_assoc, Nat.mul_comm 2 (2 ^ b)]
    omega
theorem num_div {f : Nat → Nat} (hf : ∀ u, f u < 2) (m j : Nat) : num f (m + j) / 2 ^ j = num f m := by
  rw [num_add]
  have := num_lt (f := fun u => f (m + u)) (fun u => hf _) j
  rw [Nat.mul_comm, Nat.mul_add_div (Nat.two_pow_pos j), Nat.div_eq_of_lt this, Nat.add_zero]
theorem num_mod {f : Nat → Nat} (hf : ∀ u, f u < 2) (a b : Nat) : num f (a + b) % 2 ^ b = num (fun u => f (a + u)) b := by
  rw [num_add, Nat.mul_comm, Nat.mul_add_mod]
  exact Nat.mod_eq_of_lt (num_lt (fun u => hf _) b)
/-- Byte j of a row, none: 0; its bits, and 32 of them from one on. -/
def kb (l : List Int) (j : Nat) : Nat := (rd l (j : Int)).toNat
def bit (l : List Int) (t : Nat) : Nat := kb l (t / 8) / 2 ^ (7 - t % 8) % 2
def win (l : List Int) (t : Nat) : Nat := num (fun u => bit l (t + u)) 32
theorem bit_lt (l : List Int) (t : Nat) : bit l t < 2 := Nat.mod_lt _ (by decide)
theorem win_lt (l : List Int) (t : Nat) : win l t < 4294967296 := num_lt (fun u => bit_lt l (t + u)) 32
theorem rd_kb {l : List Int} (hl : ∀ x ∈ l, 0 ≤ x ∧ x ≤ 255) (j : Nat) : rd l (j : Int) = ((kb l j : Nat) : Int) ∧ kb l j < 256 := by
  have := rd_byte hl (j : Int)
  unfold kb
  omega
theorem byte_num (l : List Int) (hl : ∀ x ∈ l, 0 ≤ x ∧ x ≤ 255) (j : Nat) : num (fun u => bit l (8 * j + u)) 8 = kb l j := by
  have h := (rd_kb hl j).2
  have e : ∀ u, u < 8 → bit l (8 * j + u) = kb l j / 2 ^ (7 - u) % 2 := by
    intro u hu
    unfold bit
    rw [show (8 * j + u) / 8 = j by omega, show (8 * j + u) % 8 = u by omega]
  rw [num_congr 8 (fun u hu => e u hu)]
  generalize kb l j = v at h
  simp only [num]
  omega
theorem num40 (l : List Int) (hl : ∀ x ∈ l, 0 ≤ x ∧ x ≤ 255) (j : Nat) : num (fun u => bit l (8 * j + u)) 40 = kb l j * 4294967296 + kb l (j + 1) * 16777216 + kb l (j + 2) * 65536 + kb l (j + 3) * 256 + kb l (j + 4) := by
  have a := byte_num l hl
  have s : ∀ q, num (fun u => bit l (8 * j + (8 * q + u))) 8 = kb l (j + q) := by
    intro q
    rw [← a (j + q)]
    exact num_congr 8 (fun u _ => by rw [show 8 * (j + q) + u = 8 * j + (8 * q + u) by omega])
  have h1 := num_add (fun u => bit l (8 * j + u)) 8 8
  have h2 := num_add (fun u => bit l (8 * j + u)) 16 8
  have h3 := num_add (fun u => bit l (8 * j + u)) 24 8
  have h4 := num_add (fun u => bit l (8 * j + u)) 32 8
  have s1 := s 1
  have s2 := s 2
  have s3 := s 3
  have s4 := s 4
  simp only [Nat.reduceMul] at s1 s2 s3 s4
  simp only [Nat.reduceAdd] at h1 h2 h3 h4
  rw [a j, s1] at h1
  rw [h1, s2] at h2
  rw [h2, s3] at h3
  rw [h3, s4] at h4
  rw [h4]
  omega
theorem win_shift (l : List Int) (j k : Nat) (hk : k ≤ 8) : num (fun u => bit l (8 * j + u)) 40 / 2 ^ (8 - k) % 4294967296 = win l (8 * j + k) := by
  have h1 := num_div (f := fun u => bit l (8 * j + u)) (fun u => bit_lt _ _) (k + 32) (8 - k)
  rw [show k + 32 + (8 - k) = 40 by omega] at h1
  rw [h1, show (4294967296 : Nat) = 2 ^ 32 from rfl, num_mod (fun u => bit_lt _ _) k 32]
  exact num_congr 32 (fun u _ => by rw [Nat.add_assoc])
/-- The hash behind m bits of the data. -/
def hs (key data : List Int) : Nat → Nat
  | 0 => 0
  | m + 1 => if bit data m = 1 then hs key data m ^^^ win key m else hs key data m
theorem hs_lt (key data : List Int) : ∀ m, hs key data m < 4294967296
  | 0 => by simp [hs]
  | m + 1 => by
    rw [hs]
    split
    · exact Nat.xor_lt_two_pow (n := 32) (hs_lt key data m) (win_lt key m)
    · exact hs_lt key data m
theorem xor_i64 (a b : Nat) (ha : a < 4294967296) (hb : b < 4294967296) : Go.bits .xor .i64 (a : Int) (b : Int) = ((a ^^^ b : Nat) : Int) := by
  have hx : a ^^^ b < 2 ^ 32 := Nat.xor_lt_two_pow (by omega) (by omega)
  show IntKind.i64.wrap ((BitVec.ofInt 64 (a : Int) ^^^ BitVec.ofInt 64 (b : Int)).toNat : Int) = _
  rw [BitVec.toNat_xor, ofInt_u64 a (by omega), ofInt_u64 b (by omega), IntKind.wrap_i64]
  omega
theorem and1_i64 (a : Nat) (ha : a < 4294967296) : Go.bits .and .i64 (a : Int) 1 = ((a % 2 : Nat) : Int) := by
  have e : a &&& 1 = a % 2 := nat_mask1 a
  show IntKind.i64.wrap ((BitVec.ofInt 64 (a : Int) &&& BitVec.ofInt 64 ((1 : Nat) : Int)).toNat : Int) = _
  rw [BitVec.toNat_and, ofInt_u64 a (by omega), ofInt_u64 1 (by omega), IntKind.wrap_i64, e]
  omega
theorem wu64 {x : Int} (h0 : 0 ≤ x) (h1 : x < 18446744073709551616) : IntKind.u64.wrap x = x := by
  have e : IntKind.u64.wrap x = x % 18446744073709551616 := by simp [IntKind.wrap, IntKind.bits, IntKind.signed]
  rw [e]; omega
theorem inR1 (a b c : Int) : impl_inRange.f a b c = some (decide (b ≤ a ∧ a ≤ c)) := by
  unfold impl_inRange.f
  by_cases h : a ≥ b
  · rw [if_pos h]; simp [show b ≤ a from h]
  · rw [if_neg h]; simp; omega
theorem tdn (t : Nat) : Int.tdiv (t : Int) 8 = ((t / 8 : Nat) : Int) := by rw [tdiv_nonneg_eq (by omega)]; omega
theorem tmn (t : Nat) : Int.tmod (t : Int) 8 = ((t % 8 : Nat) : Int) := by rw [tmod_nonneg_eq (by omega)]; omega
theorem ww (i : Nat) (h : i < 4000000000000000000) : wrap64 ((i : Int) + 1) = ((i + 1 : Nat) : Int) := by rw [w64 (by omega) (by omega)]; simp
theorem shr_nat (k : IntKind) (hk : 8 ≤ k.bits) (b s : Nat) (hs : s ≤ 7) : shr k (b : Int) ((s : Nat) : Int) = ((b / 2 ^ s : Nat) : Int) := by
  unfold shr
  rw [Int.toNat_natCast, Nat.min_eq_left (by omega)]
  simp
theorem sh7 (t : Nat) : IntKind.u64.wrap (wrap64 (7 - ((t % 8 : Nat) : Int))) = ((7 - t % 8 : Nat) : Int) := by
  rw [w64 (by omega) (by omega), wu64 (by omega) (by omega)]; omega
theorem bit_i64 {l : List Int} (hl : ∀ x ∈ l, 0 ≤ x ∧ x ≤ 255) (t : Nat) : Go.bits .and .i64 (shr .i64 (wrap64 (rd l ((t / 8 : Nat) : Int))) (IntKind.u64.wrap (wrap64 (7 - ((t % 8 : Nat) : Int))))) 1 = ((bit l t : Nat) : Int) := by
  obtain ⟨e, h⟩ := rd_kb hl (t / 8)
  rw [e, sh7, w64 (by omega) (by omega), shr_nat .i64 (by decide) _ _ (by omega), and1_i64 _ (Nat.lt_of_le_of_lt (Nat.div_le_self _ _) (by omega))]
  rfl
theorem bit_u8 {l : List Int} (hl : ∀ x ∈ l, 0 ≤ x ∧ x ≤ 255) (t : Nat) : Go.bits .and .u8 (shr .u8 (rd l ((t / 8 : Nat) : Int)) (IntKind.u64.wrap (wrap64 (7 - ((t % 8 : Nat) : Int))))) 1 = ((bit l t : Nat) : Int) := by
  obtain ⟨e, h⟩ := rd_kb hl (t / 8)
  have h2 : kb l (t / 8) / 2 ^ (7 - t % 8) < 256 := Nat.lt_of_le_of_lt (Nat.div_le_self _ _) (by omega)
  have := u8_and_nat (kb l (t / 8) / 2 ^ (7 - t % 8)) 1 h2 (by omega)
  rw [nat_mask1] at this
  rw [e, sh7, shr_nat .u8 (by decide) _ _ (by omega)]
  exact this
theorem win_l0 {l : List Int} (hl : ∀ x ∈ l, 0 ≤ x ∧ x ≤ 255) (hn : l.length ≤ 80) (t : Nat) (ht : (t + 31) / 8 < l.length) (d : Nat) : ∀ (u k : Nat), u + d = 32 → d < k → spec_l13Window.l0 k l (t : Int) ((num (fun u => bit l (t + u)) u : Nat) : Int) ((t + u : Nat) : Int) = some ((win l t : Nat) : Int) := by
  induction d with
  | zero =>
    intro u k hu hk
    obtain ⟨k, rfl⟩ : ∃ m, k = m + 1 := ⟨k - 1, by omega⟩
    obtain rfl : u = 32 := by omega
    rw [spec_l13Window.l0, w64 (x := (t : Int) + 32) (by omega) (by omega), if_neg (by omega)]
    rfl
  | succ d ih =>
    intro u k hu hk
    obtain ⟨k, rfl⟩ : ∃ m, k = m + 1 := ⟨k - 1, by omega⟩
    have h1 := num_lt (f := fun u => bit l (t + u)) (fun u => bit_lt _ _) u
    have h2 := bit_lt l (t + u)
    have h3 : 2 ^ u ≤ 2 ^ 32 := Nat.pow_le_pow_right (by decide) (by omega)
    rw [spec_l13Window.l0, w64 (x := (t : Int) + 32) (by omega) (by omega), if_pos (by omega), tdn, tmn, w64 (x := (((t + u) / 8 : Nat) : Int)) (by omega) (by omega), if_pos (by omega), if_pos (by omega), bit_i64 hl, sh7, if_pos (by omega), ww (t + u) (by omega)]
    rw [w64 (x := ((num (fun u => bit l (t + u)) u : Nat) : Int) * 2) (by omega) (by omega), w64 (by omega) (by omega)]
    have := ih (u + 1) k (by omega) (by omega)
    rw [num] at this
    rw [show ((num (fun u => bit l (t + u)) u : Nat) : Int) * 2 + ((bit l (t + u) : Nat) : Int) = ((2 * num (fun u => bit l (t + u)) u + bit l (t + u) : Nat) : Int) by omega]
    exact this
theorem win_ok {l : List Int} (hl : ∀ x ∈ l, 0 ≤ x ∧ x ≤ 255) (hn : l.length ≤ 80) (t : Nat) (ht : (t + 31) / 8 < l.length) (k : Nat) (hk : 32 < k) : spec_l13Window.f k l (t : Int) = some ((win l t : Nat) : Int) := by
  have := win_l0 hl hn t ht 32 0 k (by omega) hk
  exact this
theorem toep_s_l0 {key data : List Int} (hk : ∀ x ∈ key, 0 ≤ x ∧ x ≤ 255) (hd : ∀ x ∈ data, 0 ≤ x ∧ x ≤ 255) (h1 : data.length ≤ 64) (h2 : data.length + 4 ≤ key.length) (h3 : key.length ≤ 80) (d : Nat) : ∀ (m k : Nat), m + d = 8 * data.length → d + 40 < k → spec_Toeplitz.l0 k key data ((hs key data m : Nat) : Int) (m : Int) = some (((hs key data (8 * data.length) : Nat) : Int), 0) := by
  induction d with
  | zero =>
    intro m k hm hk'
    obtain ⟨k, rfl⟩ : ∃ m, k = m + 1 := ⟨k - 1, by omega⟩
    obtain rfl : m = 8 * data.length := by omega
    rw [spec_Toeplitz.l0, w64 (x := 8 * (data.length : Int)) (by omega) (by omega), if_neg (by omega)]
  | succ d ih =>
    intro m k hm hk'
    obtain ⟨k, rfl⟩ : ∃ m, k = m + 1 := ⟨k - 1, by omega⟩
    have := ih (m + 1) k (by omega) (by omega)
    rw [hs] at this
    rw [spec_Toeplitz.l0, w64 (x := 8 * (data.length : Int)) (by omega) (by omega), if_pos (by omega), tdn, tmn, w64 (x := ((m / 8 : Nat) : Int)) (by omega) (by omega), if_pos (by omega), if_pos (by omega), bit_u8 hd, sh7, if_pos (by omega), ww m (by omega), win_ok hk h3 m (by omega) k (by omega), Option.bind_some]
    by_cases q : bit data m = 1
    · rw [if_pos q] at this
      rw [if_pos (by omega), xor_i64 _ _ (hs_lt key data m) (win_lt key m)]
      exact this
    · rw [if_neg q] at this
      rw [if_neg (by omega)]
      exact this
theorem toep_s {key data : List Int} (hk : ∀ x ∈ key, 0 ≤ x ∧ x ≤ 255) (hd : ∀ x ∈ data, 0 ≤ x ∧ x ≤ 255) (h1 : data.length ≤ 64) (h2 : data.length + 4 ≤ key.length) (h3 : key.length ≤ 80) (k : Nat) (hf : 600 < k) : spec_Toeplitz.f k key data = some (((hs key data (8 * data.length) : Nat) : Int), 0) := by
  obtain ⟨k, rfl⟩ : ∃ m, k = m + 2 := ⟨k - 2, by omega⟩
  unfold spec_Toeplitz.f
  rw [if_neg (by omega), decide_eq_false (by omega), spec_Toeplitz.j0, if_neg (by decide), if_neg (by omega), w64 (x := (data.length : Int) + 4) (by omega) (by omega), if_neg (by omega), decide_eq_false (by omega), spec_Toeplitz.j1, if_neg (by decide)]
  exact toep_s_l0 hk hd h1 h2 h3 (8 * data.length) 0 k (by omega) (by omega)
theorem test_bit {data : List Int} (hd : ∀ x ∈ data, 0 ≤ x ∧ x ≤ 255) (i u : Nat) (hu : u < 8) : (Go.bits .and .u8 (rd data (i : Int)) (shr .u8 128 (u : Int)) = 0) ↔ bit data (8 * i + u) = 0 := by
  obtain ⟨e, h⟩ := rd_kb hd i
  have hp : (128 : Nat) / 2 ^ u = 2 ^ (7 - u) := by
    have h7 : (128 : Nat) = 2 ^ (7 - u) * 2 ^ u := by rw [← Nat.pow_add, show 7 - u + u = 7 by omega]
    rw [h7, Nat.mul_div_cancel _ (Nat.two_pow_pos u)]
  have hl : 2 ^ (7 - u) < 256 := Nat.lt_of_le_of_lt (Nat.pow_le_pow_right (by decide) (show 7 - u ≤ 7 by omega)) (by decide)
  have hs := shr_nat .u8 (by decide) 128 u (by omega)
  rw [hp] at hs
  have he := u8_and_nat (kb data i) (2 ^ (7 - u)) h hl
  have hb : bit data (8 * i + u) = kb data i / 2 ^ (7 - u) % 2 := by
    unfold bit
    rw [show (8 * i + u) / 8 = i by omega, show (8 * i + u) % 8 = u by omega]
  have hpos := Nat.two_pow_pos (7 - u)
  rw [e, show (128 : Int) = ((128 : Nat) : Int) from rfl, hs, he, nat_bit, hb]
  generalize kb data i / 2 ^ (7 - u) % 2 = q
  generalize 2 ^ (7 - u) = p at hpos
  constructor
  · intro h
    have : q * p = 0 := by omega
    rcases Nat.mul_eq_zero.1 this with h | h
    · exact h
    · omega
  · intro h
    rw [h]; simp
theorem toep_i_l1 {key data : List Int} (hk : ∀ x ∈ key, 0 ≤ x ∧ x ≤ 255) (hd : ∀ x ∈ data, 0 ≤ x ∧ x ≤ 255) (i : Nat) (K : Nat) (e : Nat) : ∀ u : Nat, u + e = 8 →
    impl_Toeplitz.l1 (K + e + 1) key ((hs key data (8 * i + u) : Nat) : Int) (rd data (i : Int)) ((num (fun u => bit key (8 * i + u)) 40 : Nat) : Int) data (data.length : Int) (i : Int) (u : Int) = impl_Toeplitz.l0 K key ((hs key data (8 * i + 8) : Nat) : Int) data (data.length : Int) (wrap64 ((i : Int) + 1)) := by
  induction e with
  | zero =>
    intro u hu
    obtain rfl : u = 8 := by omega
    rw [impl_Toeplitz.l1, if_neg (by omega)]
  | succ e ih =>
    intro u hu
    have := ih (u + 1) (by omega)
    rw [← Nat.add_assoc (8 * i) u 1, hs] at this
    have hb := bit_lt data (8 * i + u)
    rw [show K + (e + 1) + 1 = (K + e + 1) + 1 by omega, impl_Toeplitz.l1, if_pos (by omega), if_pos (by omega), ww u (by omega)]
    by_cases q : bit data (8 * i + u) = 0
    · rw [if_neg (by omega)] at this
      rw [if_pos ((test_bit hd i u (by omega)).2 q)]
      exact this
    · rw [if_pos (by omega)] at this
      rw [if_neg (fun h => q ((test_bit hd i u (by omega)).1 h)), w64 (x := 8 - (u : Int)) (by omega) (by omega), if_pos (by omega)]
      have hw : (shr .u64 ((num (fun u => bit key (8 * i + u)) 40 : Nat) : Int) (8 - (u : Int))) % 4294967296 = ((win key (8 * i + u) : Nat) : Int) := by
        rw [← win_shift key i u (by omega)]
        unfold shr
        rw [show (8 - (u : Int)).toNat = 8 - u by omega, Nat.min_eq_left (by show 8 - u ≤ 64; omega)]
        simp
      rw [hw, u32_xor_nat _ _ (hs_lt key data _) (win_lt key _)]
      exact this
theorem wadd1 (i : Nat) (h : i < 1000) : wrap64 ((i : Int) + 1) = ((i + 1 : Nat) : Int) := by rw [w64 (x := (i : Int) + 1) (by omega) (by omega)]; omega
theorem wadd2 (i : Nat) (h : i < 1000) : wrap64 ((i : Int) + 2) = ((i + 2 : Nat) : Int) := by rw [w64 (x := (i : Int) + 2) (by omega) (by omega)]; omega
theorem wadd3 (i : Nat) (h : i < 1000) : wrap64 ((i : Int) + 3) = ((i + 3 : Nat) : Int) := by rw [w64 (x := (i : Int) + 3) (by omega) (by omega)]; omega
theorem wadd4 (i : Nat) (h : i < 1000) : wrap64 ((i : Int) + 4) = ((i + 4 : Nat) : Int) := by rw [w64 (x := (i : Int) + 4) (by omega) (by omega)]; omega
theorem toep_i_l0 {key data : List Int} (hk : ∀ x ∈ key, 0 ≤ x ∧ x ≤ 255) (hd : ∀ x ∈ data, 0 ≤ x ∧ x ≤ 255) (h1 : data.length ≤ 64) (h2 : data.length + 4 ≤ key.length) (h3 : key.length ≤ 80) (K : Nat) (d : Nat) : ∀ i : Nat, i + d = data.length → impl_Toeplitz.l0 (K + 11 * d + 1) key ((hs key data (8 * i) : Nat) : Int) data (data.length : Int) (i : Int) = some (((hs key data (8 * data.length) : Nat) : Int), 0) := by
  induction d with
  | zero =>
    intro i hi
    obtain rfl : i = data.length := by omega
    have := hs_lt key data (8 * data.length)
    rw [impl_Toeplitz.l0, if_neg (by omega), w64 (x := ((hs key data (8 * data.length) : Nat) : Int)) (by omega) (by omega)]
  | succ d ih =>
    intro i hi
    have := ih (i + 1) (by omega)
    have b0 := (rd_kb hk i).2
    have b1 := (rd_kb hk (i + 1)).2
    have b2 := (rd_kb hk (i + 2)).2
    have b3 := (rd_kb hk (i + 3)).2
    have b4 := (rd_kb hk (i + 4)).2
    have n40 := num40 key hk i
    have m : ∀ (b c : Nat), b < 256 → c ≤ 4294967296 → IntKind.u64.wrap (IntKind.u64.wrap (b : Int) * (c : Int)) = ((b * c : Nat) : Int) := by
      intro b c hb hc
      have : b * c ≤ 256 * 4294967296 := Nat.mul_le_mul (by omega) hc
      rw [wu64 (x := (b : Int)) (by omega) (by omega), ← Int.natCast_mul, wu64 (by omega) (by omega)]
    have m0 := m (kb key i) 4294967296 b0 (by omega)
    have m1 := m (kb key (i + 1)) 16777216 b1 (by omega)
    have m2 := m (kb key (i + 2)) 65536 b2 (by omega)
    have m3 := m (kb key (i + 3)) 256 b3 (by omega)
    have o1 : Go.bits .or .u64 ((kb key i * 4294967296 : Nat) : Int) ((kb key (i + 1) * 16777216 : Nat) : Int) = ((kb key i * 4294967296 + kb key (i + 1) * 16777216 : Nat) : Int) := by
      rw [u64_or_nat _ _ (by omega) (by omega), nat_join 32 _ _ (by omega) (by omega)]
    have o2 : Go.bits .or .u64 ((kb key i * 4294967296 + kb key (i + 1) * 16777216 : Nat) : Int) ((kb key (i + 2) * 65536 : Nat) : Int) = ((kb key i * 4294967296 + kb key (i + 1) * 16777216 + kb key (i + 2) * 65536 : Nat) : Int) := by
      rw [u64_or_nat _ _ (by omega) (by omega), nat_join 24 _ _ (by omega) (by omega)]
    have o3 : Go.bits .or .u64 ((kb key i * 4294967296 + kb key (i + 1) * 16777216 + kb key (i + 2) * 65536 : Nat) : Int) ((kb key (i + 3) * 256 : Nat) : Int) = ((kb key i * 4294967296 + kb key (i + 1) * 16777216 + kb key (i + 2) * 65536 + kb key (i + 3) * 256 : Nat) : Int) := by
      rw [u64_or_nat _ _ (by omega) (by omega), nat_join 16 _ _ (by omega) (by omega)]
    have l1 := toep_i_l1 hk hd i (K + 11 * d + 1) 8 0 (by omega)
    rw [show K + 11 * (d + 1) + 1 = ((K + 11 * d + 1 + 8 + 1) + 1) + 1 by omega, impl_Toeplitz.l0, if_pos (by omega), if_pos (by omega), if_pos (by omega), if_pos (by omega), wadd1 i (by omega), if_pos (by omega), if_pos (by omega), wadd2 i (by omega), if_pos (by omega), if_pos (by omega), wadd3 i (by omega), if_pos (by omega), if_pos (by omega), wadd4 i (by omega), (rd_kb hk i).1, (rd_kb hk (i + 1)).1, (rd_kb hk (i + 2)).1, (rd_kb hk (i + 3)).1]
    rw [show (4294967296 : Int) = ((4294967296 : Nat) : Int) from rfl, show (16777216 : Int) = ((16777216 : Nat) : Int) from rfl, show (65536 : Int) = ((65536 : Nat) : Int) from rfl, show (256 : Int) = ((256 : Nat) : Int) from rfl, m0, m1, m2, m3, o1, o2, o3]
    by_cases q : i + 4 < key.length
    · have o4 : Go.bits .or .u64 ((kb key i * 4294967296 + kb key (i + 1) * 16777216 + kb key (i + 2) * 65536 + kb key (i + 3) * 256 : Nat) : Int) (IntKind.u64.wrap (rd key ((i + 4 : Nat) : Int))) = ((num (fun u => bit key (8 * i + u)) 40 : Nat) : Int) := by
        rw [(rd_kb hk (i + 4)).1, wu64 (by omega) (by omega), u64_or_nat _ _ (by omega) (by omega), nat_join 8 _ _ (by omega) (by omega), n40]
      rw [if_pos (by omega), if_pos (by omega), o4, impl_Toeplitz.j3]
      rw [show ((0 : Nat) : Int) = 0 from rfl, Nat.add_zero (8 * i), wadd1 i (by omega)] at l1
      rw [l1]
      exact this
    · have z : kb key (i + 4) = 0 := by
        unfold kb rd
        rw [Int.toNat_natCast, List.getD_eq_getElem?_getD, List.getElem?_eq_none (by omega)]; rfl
      rw [z, Nat.add_zero] at n40
      rw [if_neg (by omega), ← n40, impl_Toeplitz.j3]
      rw [show ((0 : Nat) : Int) = 0 from rfl, Nat.add_zero (8 * i), wadd1 i (by omega)] at l1
      rw [l1]
      exact this
theorem toep_i {key data : List Int} (hk : ∀ x ∈ key, 0 ≤ x ∧ x ≤ 255) (hd : ∀ x ∈ data, 0 ≤ x ∧ x ≤ 255) (h1 : data.length ≤ 64) (h2 : data.length + 4 ≤ key.length) (h3 : key.length ≤ 80) (k : Nat) (hf : 800 < k) : impl_Toeplitz.f k key data = some (((hs key data (8 * data.length) : Nat) : Int), 0) := by
  obtain ⟨k, rfl⟩ : ∃ m, k = m + 2 := ⟨k - 2, by omega⟩
  have e : decide ((data.length : Int) + 4 ≤ (key.length : Int) ∧ (key.length : Int) ≤ 80) = true := decide_eq_true (by omega)
  unfold impl_Toeplitz.f
  rw [if_neg (by omega), decide_eq_false (by omega), impl_Toeplitz.j0, if_neg (by decide), if_neg (by omega), w64 (x := (data.length : Int) + 4) (by omega) (by omega), inR1, e, Option.bind_some, impl_Toeplitz.j1, if_neg (by decide)]
  have := toep_i_l0 hk hd h1 h2 h3 (k - 11 * data.length - 1) data.length 0 (by omega)
  rw [show k - 11 * data.length - 1 + 11 * data.length + 1 = k by omega] at this
  exact this
/-- A source of choices that stands right: its bytes, its place (at most b), its seed. -/
structure Sr (c : List Int) (a s b : Int) : Prop where
  bytes : ∀ x ∈ c, 0 ≤ x ∧ x ≤ 255
  len : (c.length : Int) ≤ 140737488355328
  a0 : 0 ≤ a
  ab : a ≤ b
  bb : b ≤ 1000000000000000
  s0 : 0 ≤ s
  s1 : s < 2147483648
theorem Sr.mono {c : List Int} {a s b b' : Int} (h : Sr c a s b) (h1 : b ≤ b') (h2 : b' ≤ 1000000000000000) : Sr c a s b' := ⟨h.bytes, h.len, h.a0, Int.le_trans h.ab h1, h2, h.s0, h.s1⟩
theorem mod_b {x n : Int} (hx : 0 ≤ x) (hn : 0 < n) : 0 ≤ Int.tmod x n ∧ Int.tmod x n < n := by
  rw [tmod_nonneg_eq hx]; exact ⟨Int.emod_nonneg _ (by omega), Int.emod_lt_of_pos _ hn⟩
theorem byte_ok {c : List Int} {a s b : Int} (h : Sr c a s b) (hb : b ≤ 900000000000000) : ∃ v s', spec_l00Src_byte.f c a s = some (v, a + 1, s') ∧ 0 ≤ v ∧ v ≤ 255 ∧ Sr c (a + 1) s' (b + 1) := by
  obtain ⟨h1, h2, h3, h4, h5, h6, h7⟩ := h
  unfold spec_l00Src_byte.f
  rw [w64 (x := a + 1) (by omega) (by omega)]
  by_cases q : a + 1 ≤ (c.length : Int)
  · rw [if_pos q, w64 (x := a + 1 - 1) (by omega) (by omega), if_pos (by omega), if_pos (by omega)]
    have r := rd_byte h1 (a + 1 - 1)
    generalize rd c (a + 1 - 1) = v at r ⊢
    rw [w64 (x := v) (by omega) (by omega), w64 (x := s * 31) (by omega) (by omega), w64 (x := s * 31 + v) (by omega) (by omega), w64 (x := s * 31 + v + 7) (by omega) (by omega)]
    have m := mod_b (x := s * 31 + v + 7) (n := 2147483648) (by omega) (by omega)
    exact ⟨v, _, rfl, r.1, r.2, ⟨h1, h2, by omega, by omega, by omega, m.1, m.2⟩⟩
  · rw [if_neg q]
    by_cases q2 : a + 1 > 3000
    · rw [if_pos q2]
      exact ⟨0, s, rfl, by omega, by omega, ⟨h1, h2, by omega, by omega, by omega, h6, h7⟩⟩
    · rw [if_neg q2, w64 (x := s * 1103515245) (by omega) (by omega), w64 (x := s * 1103515245 + 12345) (by omega) (by omega)]
      have m := mod_b (x := s * 1103515245 + 12345) (n := 2147483648) (by omega) (by omega)
      generalize Int.tmod (s * 1103515245 + 12345) 2147483648 = s' at m ⊢
      have e : 0 ≤ Int.tdiv s' 65536 ∧ Int.tdiv s' 65536 ≤ 32767 := by rw [tdiv_nonneg_eq m.1]; omega
      rw [w64 (x := Int.tdiv s' 65536) (by omega) (by omega)]
      have m2 := mod_b (x := Int.tdiv s' 65536) (n := 256) e.1 (by omega)
      exact ⟨_, s', rfl, m2.1, by omega, ⟨h1, h2, by omega, by omega, by omega, m.1, m.2⟩⟩
theorem next_ok {c : List Int} {a s b : Int} (h : Sr c a s b) (hb : b ≤ 800000000000000) (n : Int) (hn : 1 ≤ n) (hn2 : n ≤ 10000000) : ∃ v a' s', spec_l00Src_next.f c a s n = some (v, a', s') ∧ 0 ≤ v ∧ v < n ∧ Sr c a' s' (b + 3) := by
  unfold spec_l00Src_next.f
  by_cases q : n ≤ 1
  · rw [if_pos q]; exact ⟨0, a, s, rfl, by omega, by omega, h.mono (by omega) (by omega)⟩
  rw [if_neg q]
  by_cases q2 : n ≤ 256
  · obtain ⟨v, s', e, v0, v1, h'⟩ := byte_ok h (by omega)
    rw [if_pos q2, e]
    simp only [Option.bind_some]
    rw [if_neg (by omega)]
    have m := mod_b (x := v) (n := n) v0 (by omega)
    exact ⟨_, _, _, rfl, m.1, m.2, h'.mono (by omega) (by omega)⟩
  · obtain ⟨v, s1, e1, v0, v1, h1⟩ := byte_ok h (by omega)
    obtain ⟨u, s2, e2, u0, u1, h2⟩ := byte_ok h1 (by omega)
    obtain ⟨t, s3, e3, t0, t1, h3⟩ := byte_ok h2 (by omega)
    rw [if_neg q2, e1]
    simp only [Option.bind_some]
    rw [e2]
    simp only [Option.bind_some]
    rw [e3]
    simp only [Option.bind_some]
    rw [if_neg (by omega), w64 (x := v * 65536) (by omega) (by omega), w64 (x := u * 256) (by omega) (by omega), w64 (x := v * 65536 + u * 256) (by omega) (by omega), w64 (x := v * 65536 + u * 256 + t) (by omega) (by omega)]
    have m := mod_b (x := v * 65536 + u * 256 + t) (n := n) (by omega) (by omega)
    exact ⟨_, _, _, rfl, m.1, m.2, h3.mono (by omega) (by omega)⟩
theorem source_ok {l : List Int} (hl : ∀ x ∈ l, 0 ≤ x ∧ x ≤ 255) (h2 : (l.length : Int) ≤ 140737488355328) : spec_l00Source.f l = some (l, 0, (l.length : Int) % 1000) ∧ Sr l 0 ((l.length : Int) % 1000) 0 :=
  ⟨rfl, ⟨hl, h2, by omega, by omega, by omega, by omega, by omega⟩⟩
theorem blob_l0 {c : List Int} (n : Nat) (hn : n ≤ 100) (d : Nat) : ∀ (i : Nat) (xs : List Int) (a s b : Int) (k : Nat), Sr c a s b → b + 3 * d ≤ 700000000000000 → n = i + d → xs.length = i → (∀ x ∈ xs, 0 ≤ x ∧ x ≤ 255) → d < k →
    ∃ ys a' s', spec_l00Src_blob.l0 k (n : Int) xs (i : Int) c a s = some (ys, a', s') ∧ ys.length = n ∧ ∀ x ∈ ys, 0 ≤ x ∧ x ≤ 255 := by
  induction d with
  | zero =>
    intro i xs a s b k h hb hi hx hA hk
    obtain ⟨k, rfl⟩ : ∃ m, k = m + 1 := ⟨k - 1, by omega⟩
    rw [spec_l00Src_blob.l0, if_neg (by omega)]
    exact ⟨xs, a, s, rfl, by omega, hA⟩
  | succ d ih =>
    intro i xs a s b k h hb hi hx hA hk
    obtain ⟨k, rfl⟩ : ∃ m, k = m + 1 := ⟨k - 1, by omega⟩
    obtain ⟨v, a1, s1, e1, l1, u1, h1⟩ := next_ok h (by omega) 256 (by omega) (by omega)
    rw [spec_l00Src_blob.l0, if_pos (by omega), e1, Option.bind_some]
    dsimp only
    rw [if_pos (by omega), ww i (by omega)]
    exact ih (i + 1) (xs ++ [v % 256]) a1 s1 (b + 3) k h1 (by omega) (by omega) (by simp; omega) (by
      intro x hx'; rw [List.mem_append, List.mem_singleton] at hx'
      rcases hx' with hx' | rfl
      · exact hA x hx'
      · omega) (by omega)
theorem blob_ok (l : List Int) (hl : ∀ x ∈ l, 0 ≤ x ∧ x ≤ 255) (h2 : (l.length : Int) ≤ 140737488355328) (n : Nat) (hn : n ≤ 100) (k : Nat) (hk : 200 < k) : ∃ ys, spec_BlobOf.f k l (n : Int) = some ys ∧ ys.length = n ∧ ∀ x ∈ ys, 0 ≤ x ∧ x ≤ 255 := by
  obtain ⟨e, hs⟩ := source_ok hl h2
  unfold spec_BlobOf.f
  rw [e, Option.bind_some]
  dsimp only
  unfold spec_l00Src_blob.f
  obtain ⟨ys, a', s', ey, h3, h4⟩ := blob_l0 n hn n 0 [] _ _ 0 k hs (by omega) (by omega) rfl (by simp) (by omega)
  rw [show ((0 : Nat) : Int) = 0 from rfl] at ey
  rw [ey, Option.bind_some]
  exact ⟨ys, rfl, h3, h4⟩
theorem kb_map (F : Nat → Nat) (n j : Nat) (hj : j < n) : kb ((List.range n).map (fun q => ((F q : Nat) : Int))) j = F j := by
  unfold kb rd
  rw [Int.toNat_natCast, List.getD_eq_getElem?_getD, List.getElem?_map, List.getElem?_range hj]
  simp
theorem bit_xor (x y s : Nat) : (x ^^^ y) / 2 ^ s % 2 = (x / 2 ^ s % 2 + y / 2 ^ s % 2) % 2 := by
  rw [← Nat.toNat_testBit, ← Nat.toNat_testBit, ← Nat.toNat_testBit, Nat.testBit_xor]
  cases x.testBit s <;> cases y.testBit s <;> rfl
theorem hs_lin (key a b z : List Int) (n : Nat) (hz : ∀ j, j < n → kb z j = kb a j ^^^ kb b j) : ∀ m, m ≤ 8 * n → hs key z m = hs key a m ^^^ hs key b m
  | 0, _ => by simp [hs]
  | m + 1, hm => by
    have e : bit z m = (bit a m + bit b m) % 2 := by
      unfold bit
      rw [hz (m / 8) (by omega), bit_xor]
    have ih := hs_lin key a b z n hz m (by omega)
    have ha := bit_lt a m
    have hb := bit_lt b m
    rw [hs, hs, hs, ih, e]
    by_cases qa : bit a m = 1
    · by_cases qb : bit b m = 1
      · rw [if_neg (by omega), if_pos qa, if_pos qb]
        have : hs key a m ^^^ win key m ^^^ (hs key b m ^^^ win key m) = (hs key a m ^^^ hs key b m) ^^^ (win key m ^^^ win key m) := by ac_rfl
        rw [this, Nat.xor_self, Nat.xor_zero]
      · rw [if_pos (by omega), if_pos qa, if_neg qb]; ac_rfl
    · by_cases qb : bit b m = 1
      · rw [if_pos (by omega), if_neg qa, if_pos qb]; ac_rfl
      · rw [if_neg (by omega), if_neg qa, if_neg qb]
/-- The hash of some data that begin at a bit o. -/
def hso (key : List Int) (o : Nat) (data : List Int) : Nat → Nat
  | 0 => 0
  | m + 1 => if bit data m = 1 then hso key o data m ^^^ win key (o + m) else hso key o data m
theorem hso_hs (key data : List Int) : ∀ m, hs key data m = hso key 0 data m
  | 0 => rfl
  | m + 1 => by rw [hs, hso, hso_hs key data m, Nat.zero_add]
theorem kb_left (x y : List Int) (j : Nat) (hj : j < x.length) : kb (x ++ y) j = kb x j := by
  unfold kb rd
  rw [Int.toNat_natCast, List.getD_eq_getElem?_getD, List.getD_eq_getElem?_getD, List.getElem?_append_left hj]
theorem kb_right (x y : List Int) (j : Nat) : kb (x ++ y) (x.length + j) = kb y j := by
  unfold kb rd
  rw [Int.toNat_natCast, Int.toNat_natCast, List.getD_eq_getElem?_getD, List.getD_eq_getElem?_getD, List.getElem?_append_right (by omega), Nat.add_sub_cancel_left]
theorem hso_left (key : List Int) (o : Nat) (x y : List Int) : ∀ m, m ≤ 8 * x.length → hso key o (x ++ y) m = hso key o x m
  | 0, _ => rfl
  | m + 1, hm => by
    have e : bit (x ++ y) m = bit x m := by unfold bit; rw [kb_left x y (m / 8) (by omega)]
    rw [hso, hso, e, hso_left key o x y m (by omega)]
theorem hso_app (key : List Int) (o : Nat) (x y : List Int) : ∀ m, hso key o (x ++ y) (8 * x.length + m) = hso key o x (8 * x.length) ^^^ hso key (o + 8 * x.length) y m
  | 0 => by rw [Nat.add_zero, hso_left key o x y _ (Nat.le_refl _), hso, Nat.xor_zero]
  | m + 1 => by
    have e : bit (x ++ y) (8 * x.length + m) = bit y m := by
      unfold bit
      rw [show (8 * x.length + m) / 8 = x.length + m / 8 by omega, show (8 * x.length + m) % 8 = m % 8 by omega, kb_right]
    rw [← Nat.add_assoc, hso, hso, e, hso_app key o x y m, Nat.add_assoc o]
    split
    · rw [Nat.xor_assoc]
    · rfl
theorem win_per {key : List Int} (hp : ∀ j, j + 2 < 40 → kb key (j + 2) = kb key j) (t : Nat) (ht : t + 48 ≤ 320) : win key (t + 16) = win key t := by
  refine num_congr 32 (fun u hu => ?_)
  unfold bit
  rw [show (t + 16 + u) / 8 = (t + u) / 8 + 2 by omega, show (t + 16 + u) % 8 = (t + u) % 8 by omega, hp _ (by omega)]
theorem hso_per {key : List Int} (hp : ∀ j, j + 2 < 40 → kb key (j + 2) = kb key j) (o : Nat) (y : List Int) : ∀ m, o + m + 47 ≤ 320 → hso key (o + 16) y m = hso key o y m
  | 0, _ => rfl
  | m + 1, h => by rw [hso, hso, hso_per hp o y m (by omega), show o + 16 + m = o + m + 16 by omega, win_per hp _ (by omega)]
theorem hso_zero {key : List Int} (hp : ∀ j, j + 2 < 40 → kb key (j + 2) = kb key j) (y : List Int) (m : Nat) : ∀ c, 16 * c + m ≤ 288 → hso key (16 * c) y m = hso key 0 y m
  | 0, _ => rfl
  | c + 1, h => by rw [show 16 * (c + 1) = 16 * c + 16 by omega, hso_per hp _ y m (by omega), hso_zero hp y m c (by omega)]
theorem swap_hash {key : List Int} (hp : ∀ j, j + 2 < 40 → kb key (j + 2) = kb key j) (p q a b : List Int) (n : Nat) (hn : n ≤ 8) (h1 : p.length = 2 * n) (h2 : q.length = 2 * n) (h3 : a.length = 2) (h4 : b.length = 2) :
    hs key (p ++ q ++ a ++ b) (8 * (p ++ q ++ a ++ b).length) = hs key (q ++ p ++ b ++ a) (8 * (q ++ p ++ b ++ a).length) := by
  have main : ∀ (x y u v : List Int), x.length = 2 * n → y.length = 2 * n → u.length = 2 → v.length = 2 → hs key (x ++ y ++ u ++ v) (8 * (x ++ y ++ u ++ v).length) = hso key 0 x (16 * n) ^^^ hso key 0 y (16 * n) ^^^ hso key 0 u 16 ^^^ hso key 0 v 16 := by
    intro x y u v hx hy hu hv
    have l1 : (x ++ y).length = 4 * n := by rw [List.length_append]; omega
    have l2 : (x ++ y ++ u).length = 4 * n + 2 := by rw [List.length_append, l1, hu]
    have l3 : (x ++ y ++ u ++ v).length = 4 * n + 2 + 2 := by rw [List.length_append, l2, hv]
    have e1 := hso_app key 0 (x ++ y ++ u) v 16
    have e2 := hso_app key 0 (x ++ y) u 16
    have e3 := hso_app key 0 x y (16 * n)
    rw [l2, Nat.zero_add] at e1
    rw [l1, Nat.zero_add] at e2
    rw [hx, Nat.zero_add] at e3
    have z1 := hso_zero hp v 16 (2 * n + 1) (by omega)
    have z2 := hso_zero hp u 16 (2 * n) (by omega)
    have z3 := hso_zero hp y (16 * n) n (by omega)
    rw [hso_hs, l3, show 8 * (4 * n + 2 + 2) = 8 * (4 * n + 2) + 16 by omega, e1, show 8 * (4 * n + 2) = 8 * (4 * n) + 16 by omega, e2, show 8 * (4 * n) = 8 * (2 * n) + 16 * n by omega, e3]
    rw [show 8 * (2 * n) = 16 * n by omega, show 16 * n + 16 * n + 16 = 16 * (2 * n + 1) by omega, show 16 * n + 16 * n = 16 * (2 * n) by omega, z1, z2, z3]
  rw [main p q a b h1 h2 h3 h4, main q p b a h2 h1 h4 h3]
  ac_rfl
theorem chance_ok {c : List Int} {a s b : Int} (h : Sr c a s b) (hb : b ≤ 800000000000000) (n : Int) (hn : 1 ≤ n) (hn2 : n ≤ 10000000) : ∃ v a' s', spec_l00Src_chance.f c a s n = some (v, a', s') ∧ Sr c a' s' (b + 3) := by
  obtain ⟨v, a', s', e, v0, v1, h'⟩ := next_ok h hb n hn hn2
  unfold spec_l00Src_chance.f
  rw [e]
  exact ⟨_, a', s', rfl, h'⟩
theorem bytes_b (p : ByteArray) : ∀ x ∈ bytesOf p, 0 ≤ x ∧ x ≤ 255 := by
  intro x hx
  unfold bytesOf at hx
  obtain ⟨b, _, rfl⟩ := List.mem_map.1 hx
  have := b.toNat_lt
  omega
theorem bytes_app (p q : ByteArray) : bytesOf (p ++ q) = bytesOf p ++ bytesOf q := by
  unfold bytesOf
  rw [ByteArray.data_append, Array.toList_append, List.map_append]
theorem addr4_ok {c : List Int} {a s b : Int} (h : Sr c a s b) (hb : b ≤ 700000000000000) : ∃ p a' s', spec_l00Src_addr4.f c a s = some (p, a', s') ∧ p.size = 4 ∧ Sr c a' s' (b + 9) := by
  obtain ⟨v1, a1, s1, e1, l1, u1, h1⟩ := next_ok h (by omega) 3 (by omega) (by omega)
  obtain ⟨v2, a2, s2, e2, l2, u2, h2⟩ := next_ok h1 (by omega) 2 (by omega) (by omega)
  obtain ⟨v3, a3, s3, e3, l3, u3, h3⟩ := next_ok h2 (by omega) 4 (by omega) (by omega)
  unfold spec_l00Src_addr4.f
  rw [e1, Option.bind_some]
  dsimp only
  rw [e2, Option.bind_some]
  dsimp only
  rw [e3, Option.bind_some]
  exact ⟨_, a3, s3, rfl, by rw [strOfNums_size]; rfl, h3.mono (by omega) (by omega)⟩
theorem addr6_l0 {c : List Int} (m : Nat) : ∀ (xs : List Int) (a s b : Int) (k : Nat), Sr c a s b → b + 6 * m ≤ 700000000000000 → xs.length = 16 → m < k → ∃ p a' s', spec_l00Src_addr6.l0 k xs (m : Int) c a s = some (p, a', s') ∧ p.size = 16 ∧ Sr c a' s' (b + 6 * m) := by
  induction m with
  | zero =>
    intro xs a s b k h hb hx hk
    obtain ⟨k, rfl⟩ : ∃ m, k = m + 1 := ⟨k - 1, by omega⟩
    rw [spec_l00Src_addr6.l0, if_neg (by omega)]
    exact ⟨_, a, s, rfl, by rw [strOfNums_size, hx], h.mono (by omega) (by have := h.bb; omega)⟩
  | succ m ih =>
    intro xs a s b k h hb hx hk
    have hb0 := Int.le_trans h.a0 h.ab
    obtain ⟨k, rfl⟩ : ∃ m, k = m + 1 := ⟨k - 1, by omega⟩
    obtain ⟨v1, a1, s1, e1, l1, u1, h1⟩ := next_ok h (by omega) 16 (by omega) (by omega)
    obtain ⟨v2, a2, s2, e2, l2, u2, h2⟩ := next_ok h1 (by omega) 256 (by omega) (by omega)
    rw [spec_l00Src_addr6.l0, if_pos (by omega), e1, Option.bind_some]
    dsimp only
    rw [e2, Option.bind_some]
    dsimp only
    rw [if_pos l1, if_pos (by rw [hx]; omega), w64 (x := ((m + 1 : Nat) : Int) - 1) (by omega) (by omega), show ((m + 1 : Nat) : Int) - 1 = (m : Int) by omega]
    obtain ⟨p, a', s', ep, hp, h'⟩ := ih (xs.set v1.toNat (v2 % 256)) a2 s2 (b + 3 + 3) k h2 (by omega) (by rw [List.length_set, hx]) (by omega)
    exact ⟨p, a', s', ep, hp, h'.mono (by omega) (by omega)⟩
theorem addr6_ok {c : List Int} {a s b : Int} (h : Sr c a s b) (hb : b ≤ 600000000000000) (k : Nat) (hk : 10 < k) : ∃ p a' s', spec_l00Src_addr6.f k c a s = some (p, a', s') ∧ p.size = 16 ∧ Sr c a' s' (b + 100) := by
  obtain ⟨v1, a1, s1, e1, l1, u1, h1⟩ := next_ok h (by omega) 2 (by omega) (by omega)
  obtain ⟨v2, a2, s2, e2, l2, u2, h2⟩ := next_ok h1 (by omega) 4 (by omega) (by omega)
  unfold spec_l00Src_addr6.f
  rw [if_pos (by omega), Option.bind_some, if_pos (by rw [List.length_replicate]; omega), e1, Option.bind_some]
  dsimp only
  rw [if_pos (by rw [List.length_replicate]; omega), e2, Option.bind_some]
  dsimp only
  obtain ⟨m, rfl⟩ : ∃ m : Nat, v2 = (m : Int) := ⟨v2.toNat, by omega⟩
  obtain ⟨p, a', s', ep, hp, h'⟩ := addr6_l0 m (((List.replicate 16 0).set (0 : Int).toNat 32).set (1 : Int).toNat (v1 % 256)) a2 s2 (b + 3 + 3) k h2 (by omega) (by rw [List.length_set, List.length_set, List.length_replicate]) (by omega)
  exact ⟨p, a', s', ep, hp, h'.mono (by omega) (by omega)⟩
theorem ends_ok (l : List Int) (hl : ∀ x ∈ l, 0 ≤ x ∧ x ≤ 255) (h2 : (l.length : Int) ≤ 140737488355328) (k : Nat) (hk : 10 < k) : ∃ p q n, spec_EndsOf.f k l = some (p, q) ∧ p.size = 2 * n ∧ q.size = 2 * n ∧ (n = 2 ∨ n = 8) := by
  obtain ⟨e, hs⟩ := source_ok hl h2
  unfold spec_EndsOf.f
  rw [e, Option.bind_some]
  dsimp only
  obtain ⟨v, a1, s1, e1, h1⟩ := chance_ok hs (by omega) 2 (by omega) (by omega)
  unfold spec_l00Src_ends.f
  rw [e1, Option.bind_some]
  dsimp only
  by_cases q : v = true
  · obtain ⟨p1, a2, s2, e2, z2, h2⟩ := addr4_ok h1 (by omega)
    obtain ⟨p2, a3, s3, e3, z3, h3⟩ := addr4_ok h2 (by omega)
    rw [if_pos q, e2, Option.bind_some]
    dsimp only
    rw [e3, Option.bind_some, Option.bind_some]
    exact ⟨p1, p2, 2, rfl, by omega, by omega, Or.inl rfl⟩
  · obtain ⟨p1, a2, s2, e2, z2, h2⟩ := addr6_ok h1 (by omega) k hk
    obtain ⟨p2, a3, s3, e3, z3, h3⟩ := addr6_ok h2 (by omega) k hk
    rw [if_neg q, e2, Option.bind_some]
    dsimp only
    rw [e3, Option.bind_some, Option.bind_some]
    exact ⟨p1, p2, 8, rfl, by omega, by omega, Or.inr rfl⟩
def w16 (a : Int) : List Int := [(a / 256) % 256, a % 256]
theorem flow_ok (p q : ByteArray) (n : Nat) (hn : n = 2 ∨ n = 8) (hp : p.size = 2 * n) (hq : q.size = 2 * n) (a b : Int) (ha : 0 ≤ a ∧ a ≤ 65535) (hb : 0 ≤ b ∧ b ≤ 65535) (k : Nat) (hk : 10 < k) : impl_FlowKey.f k p q a b = some (bytesOf p ++ bytesOf q ++ w16 a ++ w16 b, 0) := by
  obtain ⟨k, rfl⟩ : ∃ m, k = m + 3 := ⟨k - 3, by omega⟩
  have t : impl_tooLong.f (k + 3) [p, q] = some false := by
    unfold impl_tooLong.f
    have z0 : (rdOf ByteArray.empty [p, q] 0) = p := rfl
    have z1 : (rdOf ByteArray.empty [p, q] 1) = q := rfl
    rw [impl_tooLong.l0, if_pos (by simp), if_pos (by omega), if_pos (by simp), z0, if_neg (by omega), show wrap64 (0 + 1) = 1 by rw [w64 (by omega) (by omega)]; rfl]
    rw [impl_tooLong.l0, if_pos (by simp), if_pos (by omega), if_pos (by simp), z1, if_neg (by omega), show wrap64 (1 + 1) = 2 by rw [w64 (by omega) (by omega)]; rfl]
    rw [impl_tooLong.l0, if_neg (by simp)]
  have o : impl_oneVersion.f p q = some true := by
    unfold impl_oneVersion.f impl_isAddress.f
    by_cases h : (p.size : Int) = 4
    · rw [if_pos h, Option.bind_some, if_pos rfl, hp, hq]; simp
    · have h3 : ((p.size : Int) == 16) = true := by simp; omega
      rw [if_neg h, Option.bind_some, h3, if_pos rfl, hp, hq]; simp
  have lp := bytesOf_length p
  have lq := bytesOf_length q
  unfold impl_FlowKey.f
  rw [t, Option.bind_some, if_neg (by decide), o, Option.bind_some, if_pos rfl, inR1, decide_eq_true ha, Option.bind_some, if_pos rfl, inR1, decide_eq_true hb, Option.bind_some, impl_FlowKey.j0, if_neg (by decide), if_pos (by omega)]
  simp only [impl_SteerQueue.f, impl_word16.f, Option.bind_some]
  rw [bytes_app, if_pos (by simp; omega), if_pos (by simp; omega)]
  rfl
theorem kb_set (l : List Int) (i j : Nat) (v : Int) (hi : i < l.length) : kb (l.set i v) j = if i = j then v.toNat else kb l j := by
  unfold kb rd
  rw [Int.toNat_natCast, List.getD_eq_getElem?_getD, List.getD_eq_getElem?_getD, List.getElem?_set]
  by_cases h : i = j
  · subst h; simp [hi]
  · simp [h]
theorem key_l1 (l1 : List Int) (K d : Nat) : ∀ (i : Nat) (x : List Int), i + d = 40 → 2 ≤ i → x.length = 40 → (∀ y ∈ x, 0 ≤ y ∧ y ≤ 255) → (∀ j, j + 2 < i → kb x (j + 2) = kb x j) →
    ∃ x', laws_FnToeplitz.l1 (K + d + 1) l1 x (i : Int) = laws_FnToeplitz.l1 (K + 1) l1 x' 40 ∧ x'.length = 40 ∧ (∀ y ∈ x', 0 ≤ y ∧ y ≤ 255) ∧ ∀ j, j + 2 < 40 → kb x' (j + 2) = kb x' j := by
  induction d with
  | zero =>
    intro i x hi h2 hx hb hp
    obtain rfl : i = 40 := by omega
    exact ⟨x, rfl, hx, hb, hp⟩
  | succ d ih =>
    intro i x hi h2 hx hb hp
    have rb := rd_byte hb ((i - 2 : Nat) : Int)
    obtain ⟨x', e, r⟩ := ih (i + 1) (x.set i (rd x ((i - 2 : Nat) : Int))) (by omega) (by omega) (by rw [List.length_set, hx]) (by
      intro y hy
      rcases List.mem_or_eq_of_mem_set hy with h | rfl
      · exact hb y h
      · exact rb) (by
      intro j hj
      rw [kb_set x i _ _ (by omega), kb_set x i _ _ (by omega), if_neg (show ¬ i = j by omega)]
      by_cases q : i = j + 2
      · rw [if_pos q]
        show (rd x ((i - 2 : Nat) : Int)).toNat = kb x j
        rw [show i - 2 = j by omega]; rfl
      · rw [if_neg q]; exact hp j (by omega))
    refine ⟨x', ?_, r⟩
    rw [← e, show K + (d + 1) + 1 = (K + d + 1) + 1 by omega, laws_FnToeplitz.l1, if_pos (by omega), w64 (x := (i : Int) - 2) (by omega) (by omega), show (i : Int) - 2 = ((i - 2 : Nat) : Int) by omega, if_pos (by omega), if_pos (by omega), if_pos (by omega), if_pos (by omega), Int.toNat_natCast, ww i (by omega)]
theorem xor_l0 (l1 key a b : List Int) (ha : ∀ x ∈ a, 0 ≤ x ∧ x ≤ 255) (hb : ∀ x ∈ b, 0 ≤ x ∧ x ≤ 255) (la : a.length = 36) (lb : b.length = 36) (K d : Nat) : ∀ i : Nat, i + d = 36 →
    laws_FnToeplitz.l0 (K + d + 1) l1 key a b ((List.range i).map (fun q => ((kb a q ^^^ kb b q : Nat) : Int))) (i : Int) = laws_FnToeplitz.l0 (K + 1) l1 key a b ((List.range 36).map (fun q => ((kb a q ^^^ kb b q : Nat) : Int))) 36 := by
  induction d with
  | zero =>
    intro i hi
    obtain rfl : i = 36 := by omega
    rfl
  | succ d ih =>
    intro i hi
    have := ih (i + 1) (by omega)
    have x8 := u8_xor_nat (kb a i) (kb b i) (rd_kb ha i).2 (rd_kb hb i).2
    rw [List.range_succ, List.map_append] at this
    rw [show K + (d + 1) + 1 = (K + d + 1) + 1 by omega, laws_FnToeplitz.l0, if_pos (by omega), if_pos (by omega), if_pos (by omega), if_pos (by omega), if_pos (by simp; omega), (rd_kb ha i).1, (rd_kb hb i).1, x8, ww i (by omega)]
    exact this
theorem at_5000 (l : List Int) (hl : ∀ x ∈ l, 0 ≤ x ∧ x ≤ 255) (i : Int) (hi : 0 ≤ i) (hi2 : i ≤ 100000) : ∃ r, laws_at.f l i 5000 = some r ∧ 0 ≤ r ∧ r < 5000 := choice l hl i 5000 hi hi2 (by omega) (by omega)
theorem FnToeplitz : fnToeplitz.Say := by
  intro l0 l1 ⟨m0, w0⟩ ⟨m1, w1⟩
  unfold maxLen at m0 m1
  refine ⟨5000, ?_⟩
  simp only [laws_FnToeplitz.f]
  by_cases c0 : (l0.length : Int) > 1048576
  · rw [if_pos c0]; simp only [laws_FnToeplitz.j0, if_true]
  rw [if_neg c0]
  by_cases c1 : (l1.length : Int) > 1048576
  · rw [decide_eq_true c1]; simp only [laws_FnToeplitz.j0, if_true]
  rw [decide_eq_false c1, laws_FnToeplitz.j0, if_neg (by decide)]
  have b1 := bs w1
  obtain ⟨key, ek, lk, hk⟩ := blob_ok l0 (bs w0) (by omega) 40 (by omega) 4999 (by omega)
  obtain ⟨a, ea, la, ha⟩ := blob_ok l1 b1 (by omega) 36 (by omega) 4999 (by omega)
  obtain ⟨b, eb, lb, hb⟩ := blob_ok (7 :: l1) (by
    intro x hx
    rcases List.mem_cons.1 hx with rfl | h
    · omega
    · exact b1 x h) (by simp; omega) 36 (by omega) 4999 (by omega)
  rw [show ((40 : Nat) : Int) = 40 from rfl] at ek
  rw [show ((36 : Nat) : Int) = 36 from rfl] at ea eb
  rw [ek, Option.bind_some, ea, Option.bind_some, Option.bind_some, if_pos (by simp; omega)]
  rw [List.singleton_append, eb, Option.bind_some]
  have x0 := xor_l0 l1 key a b ha hb la lb 4961 36 0 (by omega)
  rw [show 4961 + 36 + 1 = 4998 + 0 from rfl, Nat.add_zero 4998] at x0
  have x0' : laws_FnToeplitz.l0 4999 l1 key a b [] 0 = laws_FnToeplitz.l0 4963 l1 key a b ((List.range 36).map (fun q => ((kb a q ^^^ kb b q : Nat) : Int))) 36 := xor_l0 l1 key a b ha hb la lb 4962 36 0 (by omega)
  clear x0
  rw [x0']
  obtain ⟨z, hz⟩ : ∃ z, z = (List.range 36).map (fun q => ((kb a q ^^^ kb b q : Nat) : Int)) := ⟨_, rfl⟩
  have lz : z.length = 36 := by rw [hz]; simp
  have kz : ∀ j, j < 36 → kb z j = kb a j ^^^ kb b j := by intro j hj; rw [hz]; exact kb_map (fun q => kb a q ^^^ kb b q) 36 j hj
  have bz : ∀ x ∈ z, 0 ≤ x ∧ x ≤ 255 := by
    intro x hx
    rw [hz] at hx
    obtain ⟨q, _, rfl⟩ := List.mem_map.1 hx
    have := Nat.xor_lt_two_pow (n := 8) (rd_kb ha q).2 (rd_kb hb q).2
    omega
  rw [← hz]
  clear hz
  have la' : 8 * a.length = 288 := by omega
  have lb' : 8 * b.length = 288 := by omega
  have lz' : 8 * z.length = 288 := by omega
  have ta := toep_i hk ha (by omega) (by omega) (by omega) 4962 (by omega)
  have tb := toep_i hk hb (by omega) (by omega) (by omega) 4962 (by omega)
  have tz := toep_i hk bz (by omega) (by omega) (by omega) 4962 (by omega)
  have ts := toep_s hk ha (by omega) (by omega) (by omega) 4962 (by omega)
  rw [la'] at ta ts
  rw [lb'] at tb
  rw [lz', hs_lin key a b z 36 kz 288 (by omega)] at tz
  rw [laws_FnToeplitz.l0, if_neg (by omega), ta, Option.bind_some, tb, Option.bind_some, tz, Option.bind_some, ts, Option.bind_some]
  dsimp only
  rw [if_pos rfl, if_pos rfl, if_pos rfl, if_pos rfl, xor_i64 _ _ (hs_lt key a 288) (hs_lt key b 288), bne_self_eq_false, laws_FnToeplitz.j2, if_neg (by decide)]
  obtain ⟨x', e1, lx, bx, px⟩ := key_l1 l1 4922 38 2 key (by omega) (by omega) lk hk (by intro j hj; omega)
  have e1' : laws_FnToeplitz.l1 4961 l1 key 2 = laws_FnToeplitz.l1 4923 l1 x' 40 := e1
  rw [e1', laws_FnToeplitz.l1, if_neg (by omega)]
  obtain ⟨p, q, n, eE, hp, hq, hn⟩ := ends_ok l1 b1 (by omega) 4922 (by omega)
  obtain ⟨u, eu, u0, u1⟩ := at_5000 l1 b1 0 (by omega) (by omega)
  obtain ⟨v, ev, v0, v1⟩ := at_5000 l1 b1 1 (by omega) (by omega)
  have f1 := flow_ok p q n hn hp hq u v (by omega) (by omega) 4922 (by omega)
  have f2 := flow_ok q p n hn hq hp v u (by omega) (by omega) 4922 (by omega)
  have lp := bytesOf_length p
  have lq := bytesOf_length q
  have wb : ∀ c : Int, ∀ x ∈ w16 c, 0 ≤ x ∧ x ≤ 255 := by
    intro c x hx
    simp only [w16, List.mem_cons, List.not_mem_nil, or_false] at hx
    rcases hx with rfl | rfl <;> omega
  have cat : ∀ (r s : ByteArray) (c d : Int), ∀ x ∈ bytesOf r ++ bytesOf s ++ w16 c ++ w16 d, 0 ≤ x ∧ x ≤ 255 := by
    intro r s c d x hx
    simp only [List.mem_append] at hx
    rcases hx with ((h | h) | h) | h
    · exact bytes_b r x h
    · exact bytes_b s x h
    · exact wb c x h
    · exact wb d x h
  have k1 : (bytesOf p ++ bytesOf q ++ w16 u ++ w16 v).length = 4 * n + 4 := by simp only [List.length_append, w16, List.length_cons, List.length_nil]; omega
  have k2 : (bytesOf q ++ bytesOf p ++ w16 v ++ w16 u).length = 4 * n + 4 := by simp only [List.length_append, w16, List.length_cons, List.length_nil]; omega
  have t1 := toep_i bx (cat p q u v) (by omega) (by omega) (by omega) 4922 (by omega)
  have t2 := toep_i bx (cat q p v u) (by omega) (by omega) (by omega) 4922 (by omega)
  have sw := swap_hash px (bytesOf p) (bytesOf q) (w16 u) (w16 v) n (by omega) (by omega) (by omega) rfl rfl
  rw [eE, Option.bind_some]
  dsimp only
  rw [eu, Option.bind_some, ev, Option.bind_some, f1, Option.bind_some, Option.bind_some, Option.bind_some, f2, Option.bind_some]
  dsimp only
  rw [t1, Option.bind_some, t2, Option.bind_some]
  dsimp only
  rw [if_pos rfl, if_pos rfl, if_pos rfl, if_pos rfl, sw]
  simp
end Go.Proofs.Ytecjjkmheionoaa.Pure
namespace Go.Proofs.Ytecjjkmheionoaa
/-- The row. -/
theorem fnToeplitz_holds : Rows.FnToeplitzSaid := fnToeplitz.row_of Pure.FnToeplitz
end Go.Proofs.Ytecjjkmheionoaa
