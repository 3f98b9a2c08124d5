/- FnSources: the plain law: the two ways to choose a source tell the same. -/
import Derived.Test.YtnpbnmhbajiefaaAid
import Derived.Test.YtnpbnmhbajiefaaSayFnSources
namespace Go.Proofs.Ytnpbnmhbajiefaa.Pure
set_option linter.unusedSimpArgs false
set_option linter.unusedVariables false
open Go.RowKit Go.Proofs.Ytnpbnmhbajiefaa.PFnSources Go.Proofs.YtnpbnmhbajiefaaW.PrintWords Go.Proofs.YtnpbnmhbajiefaaW.PrintLast Go.Proofs.YtnpbnmhbajiefaaW.PrintMore Go.Proofs.Ytnpbnmhbajiefaa.Aid
theorem inR (a b c : Int) : impl_inRange.f a b c = some (decide (b ≤ a ∧ a ≤ c)) := by
  unfold impl_inRange.f
  by_cases h : a ≥ b
  · rw [if_pos h]; simp [show b ≤ a from h]
  · rw [if_neg h]; simp; omega
theorem inS (a b c : Int) : spec_l01In.f a b c = some (decide (b ≤ a ∧ a ≤ c)) := by
  unfold spec_l01In.f
  by_cases h : a ≥ b
  · rw [if_pos h]; simp [show b ≤ a from h]
  · rw [if_neg h]; simp; omega
theorem ww (i : Nat) (h : i < 4000000000000000000) : wrap64 ((i : Int) + 1) = ((i + 1 : Nat) : Int) := by rw [w64 (by omega) (by omega)]; simp
theorem set_mid {α : Type} (A R : List α) (z v : α) : (A ++ z :: R).set A.length v = A ++ v :: R := by
  simp [List.set_append]
/-- A source of choices that stands right: its bytes, its place (at most b), its seed. -/
structure Sr (c : List Int) (a s b : Int) : Prop where
  bytes : ∀ x ∈ c, 0 ≤ x ∧ x ≤ 255
  len : (c.length : Int) ≤ 140737488355328
  a0 : 0 ≤ a
  ab : a ≤ b
  bb : b ≤ 1000000000000000
  s0 : 0 ≤ s
  s1 : s < 2147483648
theorem Sr.mono {c : List Int} {a s b b' : Int} (h : Sr c a s b) (h1 : b ≤ b') (h2 : b' ≤ 1000000000000000) : Sr c a s b' := ⟨h.bytes, h.len, h.a0, Int.le_trans h.ab h1, h2, h.s0, h.s1⟩
theorem mod_b {x n : Int} (hx : 0 ≤ x) (hn : 0 < n) : 0 ≤ Int.tmod x n ∧ Int.tmod x n < n := by
  rw [tmod_nonneg_eq hx]; exact ⟨Int.emod_nonneg _ (by omega), Int.emod_lt_of_pos _ hn⟩
theorem byte_ok {c : List Int} {a s b : Int} (h : Sr c a s b) (hb : b ≤ 900000000000000) : ∃ v s', spec_l00Src_byte.f c a s = some (v, a + 1, s') ∧ 0 ≤ v ∧ v ≤ 255 ∧ Sr c (a + 1) s' (b + 1) := by
  obtain ⟨h1, h2, h3, h4, h5, h6, h7⟩ := h
  unfold spec_l00Src_byte.f
  rw [w64 (x := a + 1) (by omega) (by omega)]
  by_cases q : a + 1 ≤ (c.length : Int)
  · rw [if_pos q, w64 (x := a + 1 - 1) (by omega) (by omega), if_pos (by omega), if_pos (by omega)]
    have r := rd_byte h1 (a + 1 - 1)
    generalize rd c (a + 1 - 1) = v at r ⊢
    rw [w64 (x := v) (by omega) (by omega), w64 (x := s * 31) (by omega) (by omega), w64 (x := s * 31 + v) (by omega) (by omega), w64 (x := s * 31 + v + 7) (by omega) (by omega)]
    have m := mod_b (x := s * 31 + v + 7) (n := 2147483648) (by omega) (by omega)
    exact ⟨v, _, rfl, r.1, r.2, ⟨h1, h2, by omega, by omega, by omega, m.1, m.2⟩⟩
  · rw [if_neg q]
    by_cases q2 : a + 1 > 3000
    · rw [if_pos q2]
      exact ⟨0, s, rfl, by omega, by omega, ⟨h1, h2, by omega, by omega, by omega, h6, h7⟩⟩
    · rw [if_neg q2, w64 (x := s * 1103515245) (by omega) (by omega), w64 (x := s * 1103515245 + 12345) (by omega) (by omega)]
      have m := mod_b (x := s * 1103515245 + 12345) (n := 2147483648) (by omega) (by omega)
      generalize Int.tmod (s * 1103515245 + 12345) 2147483648 = s' at m ⊢
      have e : 0 ≤ Int.tdiv s' 65536 ∧ Int.tdiv s' 65536 ≤ 32767 := by rw [tdiv_nonneg_eq m.1]; omega
      rw [w64 (x := Int.tdiv s' 65536) (by omega) (by omega)]
      have m2 := mod_b (x := Int.tdiv s' 65536) (n := 256) e.1 (by omega)
      exact ⟨_, s', rfl, m2.1, by omega, ⟨h1, h2, by omega, by omega, by omega, m.1, m.2⟩⟩
theorem next_ok {c : List Int} {a s b : Int} (h : Sr c a s b) (hb : b ≤ 800000000000000) (n : Int) (hn : 1 ≤ n) (hn2 : n ≤ 10000000) : ∃ v a' s', spec_l00Src_next.f c a s n = some (v, a', s') ∧ 0 ≤ v ∧ v < n ∧ Sr c a' s' (b + 3) := by
  unfold spec_l00Src_next.f
  by_cases q : n ≤ 1
  · rw [if_pos q]; exact ⟨0, a, s, rfl, by omega, by omega, h.mono (by omega) (by omega)⟩
  rw [if_neg q]
  by_cases q2 : n ≤ 256
  · obtain ⟨v, s', e, v0, v1, h'⟩ := byte_ok h (by omega)
    rw [if_pos q2, e]
    simp only [Option.bind_some]
    rw [if_neg (by omega)]
    have m := mod_b (x := v) (n := n) v0 (by omega)
    exact ⟨_, _, _, rfl, m.1, m.2, h'.mono (by omega) (by omega)⟩
  · obtain ⟨v, s1, e1, v0, v1, h1⟩ := byte_ok h (by omega)
    obtain ⟨u, s2, e2, u0, u1, h2⟩ := byte_ok h1 (by omega)
    obtain ⟨t, s3, e3, t0, t1, h3⟩ := byte_ok h2 (by omega)
    rw [if_neg q2, e1]
    simp only [Option.bind_some]
    rw [e2]
    simp only [Option.bind_some]
    rw [e3]
    simp only [Option.bind_some]
    rw [if_neg (by omega), w64 (x := v * 65536) (by omega) (by omega), w64 (x := u * 256) (by omega) (by omega), w64 (x := v * 65536 + u * 256) (by omega) (by omega), w64 (x := v * 65536 + u * 256 + t) (by omega) (by omega)]
    have m := mod_b (x := v * 65536 + u * 256 + t) (n := n) (by omega) (by omega)
    exact ⟨_, _, _, rfl, m.1, m.2, h3.mono (by omega) (by omega)⟩
theorem source_ok {l : List Int} (hl : ∀ x ∈ l, 0 ≤ x ∧ x ≤ 255) (h2 : (l.length : Int) ≤ 140737488355328) : spec_l00Source.f l = some (l, 0, (l.length : Int) % 1000) ∧ Sr l 0 ((l.length : Int) % 1000) 0 :=
  ⟨rfl, ⟨hl, h2, by omega, by omega, by omega, by omega, by omega⟩⟩
/-! the draws: the link address and the acts -/
theorem link_ok {l : List Int} (hl : ∀ x ∈ l, 0 ≤ x ∧ x ≤ 255) (h2 : (l.length : Int) ≤ 1048576) : ∃ link, spec_LinkOf.f l = some link ∧ link.size = 6 := by
  obtain ⟨e0, h0⟩ := source_ok hl (by omega)
  obtain ⟨v1, a1, s1, e1, l1, u1, h1⟩ := next_ok h0 (by omega) 3 (by omega) (by omega)
  obtain ⟨v2, a2, s2, e2, l2, u2, h2'⟩ := next_ok h1 (by omega) 256 (by omega) (by omega)
  unfold spec_LinkOf.f
  rw [e0, Option.bind_some]
  unfold spec_l00Src_link.f
  dsimp only
  rw [e1, Option.bind_some]
  dsimp only
  rw [e2, Option.bind_some, Option.bind_some]
  exact ⟨_, rfl, by rw [nums_size]; rfl⟩
theorem pre_ok {c : List Int} {a s b : Int} (h : Sr c a s b) (hb : b ≤ 600000000000000) : ∃ p a' s', spec_l00Src_prefix64.f c a s = some (p, a', s') ∧ p.size = 16 ∧ Sr c a' s' (b + 6) := by
  obtain ⟨v1, a1, s1, e1, l1, u1, h1⟩ := next_ok h (by omega) 3 (by omega) (by omega)
  obtain ⟨v2, a2, s2, e2, l2, u2, h2⟩ := next_ok h1 (by omega) 3 (by omega) (by omega)
  unfold spec_l00Src_prefix64.f
  rw [e1, Option.bind_some]
  dsimp only
  rw [e2, Option.bind_some]
  dsimp only
  rw [Option.bind_some, if_pos (by rw [nums_size]; simp), if_pos (by omega), Option.bind_some, if_pos (by rw [ByteArray.size_append, nums_size, nums_size]; simp; decide)]
  refine ⟨_, a2, s2, rfl, ?_, h2.mono (by omega) (by omega)⟩
  rw [ByteArray.size_append, ByteArray.size_append, nums_size, nums_size]; rfl
theorem pick_ok {c : List Int} {a s b : Int} (h : Sr c a s b) (hb : b ≤ 600000000000000) (x y z : ByteArray) : ∃ p a' s', spec_l00Src_pick.f c a s [x, y, z] = some (p, a', s') ∧ Sr c a' s' (b + 3) := by
  obtain ⟨v1, a1, s1, e1, l1, u1, h1⟩ := next_ok h (by omega) 3 (by omega) (by omega)
  have e1' : spec_l00Src_next.f c a s ((([x, y, z] : List ByteArray).length : Nat) : Int) = some (v1, a1, s1) := e1
  unfold spec_l00Src_pick.f
  rw [if_neg (by simp), e1', Option.bind_some]
  dsimp only
  rw [if_pos l1, if_pos (by simpa using u1)]
  exact ⟨_, a1, s1, rfl, h1⟩
theorem rd5 (v : Int) (hv : 0 ≤ v ∧ v < 1000000) (x1 x2 x3 x4 : Int) (h : (0 ≤ x1 ∧ x1 < 1000000) ∧ (0 ≤ x2 ∧ x2 < 1000000) ∧ (0 ≤ x3 ∧ x3 < 1000000) ∧ (0 ≤ x4 ∧ x4 < 1000000)) (j : Int) : 0 ≤ rd [v, x1, x2, x3, x4] j ∧ rd [v, x1, x2, x3, x4] j < 1000000 := by
  unfold rd
  rcases hj : j.toNat with _ | _ | _ | _ | _ | n <;> simp <;> omega
theorem act_ok {c : List Int} {a s b : Int} (link : ByteArray) (hl : link.size = 6) (h : Sr c a s b) (hb : b ≤ 600000000000) (k : Nat) (hk : 1 ≤ k) :
    ∃ x1 x2 x3 x4 x5 x6 a' s', spec_l00Src_autoAct.f k c a s link = some (x1, x2, x3, x4, x5, x6, a', s') ∧ Sr c a' s' (b + 40) := by
  obtain ⟨v, a1, s1, e1, l1, u1, h1⟩ := next_ok h (by omega) 8 (by omega) (by omega)
  obtain ⟨k, rfl⟩ : ∃ m, k = m + 1 := ⟨k - 1, by omega⟩
  have key : ∀ q : Bool, ∃ x1 x2 x3 x4 x5 x6 a' s', spec_l00Src_autoAct.j0 (k + 1) link v q c a1 s1 = some (x1, x2, x3, x4, x5, x6, a', s') ∧ Sr c a' s' (b + 40) := by
    intro q
    simp only [spec_l00Src_autoAct.j0]
    cases q with
    | true =>
      rw [if_pos rfl]
      obtain ⟨v2, a2, s2, e2, l2, u2, h2⟩ := next_ok h1 (by omega) 10 (by omega) (by omega)
      obtain ⟨v3, a3, s3, e3, l3, u3, h3⟩ := next_ok h2 (by omega) 5 (by omega) (by omega)
      obtain ⟨p, a4, s4, e4, hp, h4⟩ := pre_ok h3 (by omega)
      have r5 := rd5 v2 (by omega) 0 100 8000 100000 (by omega) v3
      obtain ⟨v5, a5, s5, e5, l5, u5, h5⟩ := next_ok h4 (by omega) (rd [v2, 0, 100, 8000, 100000] v3 + 1) (by omega) (by omega)
      rw [e2, Option.bind_some]
      dsimp only
      rw [Option.bind_some, e3, Option.bind_some]
      dsimp only
      rw [if_pos l3, if_pos (by simpa using u3), e4, Option.bind_some]
      dsimp only
      rw [w64 (by omega) (by omega), e5, Option.bind_some]
      exact ⟨_, _, _, _, _, _, _, _, rfl, h5.mono (by omega) (by omega)⟩
    | false =>
      rw [if_neg (by decide)]
      by_cases c3 : v = 3
      · rw [if_pos c3]
        obtain ⟨p, a2, s2, e2, hp, h2⟩ := pre_ok h1 (by omega)
        obtain ⟨q, a3, s3, e3, hq, h3⟩ := pre_ok h2 (by omega)
        obtain ⟨r, a4, s4, e4, h4⟩ := pick_ok h3 (by omega) (loc link) (eui p link) (eui q link)
        rw [(local_f link hl).1, Option.bind_some, e2, Option.bind_some]
        dsimp only
        rw [(eui_f p link hp hl).1, Option.bind_some, e3, Option.bind_some]
        dsimp only
        rw [(eui_f q link hq hl).1, Option.bind_some, e4, Option.bind_some]
        exact ⟨_, _, _, _, _, _, _, _, rfl, h4.mono (by omega) (by omega)⟩
      · rw [if_neg c3]
        by_cases c4 : v = 4
        · rw [if_pos c4]
          obtain ⟨p, a2, s2, e2, hp, h2⟩ := pre_ok h1 (by omega)
          rw [e2, Option.bind_some]
          dsimp only
          rw [(eui_f p link hp hl).1, Option.bind_some]
          exact ⟨_, _, _, _, _, _, _, _, rfl, h2.mono (by omega) (by omega)⟩
        · rw [if_neg c4]
          obtain ⟨v2, a2, s2, e2, l2, u2, h2⟩ := next_ok h1 (by omega) 20 (by omega) (by omega)
          obtain ⟨v3, a3, s3, e3, l3, u3, h3⟩ := next_ok h2 (by omega) 5 (by omega) (by omega)
          rw [e2, Option.bind_some]
          dsimp only
          rw [Option.bind_some, e3, Option.bind_some]
          dsimp only
          rw [if_pos l3, if_pos (by simpa using u3)]
          exact ⟨_, _, _, _, _, _, _, _, rfl, h3.mono (by omega) (by omega)⟩
  unfold spec_l00Src_autoAct.f
  rw [e1, Option.bind_some]
  dsimp only
  by_cases q0 : v = 0
  · rw [if_pos q0]; exact key _
  · rw [if_neg q0]
    by_cases q1 : v = 1
    · rw [if_pos q1]; exact key _
    · rw [if_neg q1]; exact key _
theorem acts_l0 {c : List Int} (link : ByteArray) (hl : link.size = 6) (d : Nat) : ∀ (k : Nat) (x : List S58) (n a s b : Int), x.length + d = 60 → d + 5 < k → n ≤ 1000 → Sr c a s b → b + 40 * d ≤ 500000000000 →
    ∃ r a' s', spec_l00Src_autoActs.l0 k link x n c a s = some (r, a', s') ∧ r.length ≤ 60 := by
  induction d with
  | zero =>
    intro k x n a s b hx hk hn h hb
    obtain ⟨k, rfl⟩ : ∃ m, k = m + 1 := ⟨k - 1, by omega⟩
    simp only [spec_l00Src_autoActs.l0]
    by_cases q : n > 0
    · rw [if_pos q, if_neg (by omega)]; exact ⟨_, _, _, rfl, by omega⟩
    · rw [if_neg q]; exact ⟨_, _, _, rfl, by omega⟩
  | succ d ih =>
    intro k x n a s b hx hk hn h hb
    obtain ⟨k, rfl⟩ : ∃ m, k = m + 1 := ⟨k - 1, by omega⟩
    simp only [spec_l00Src_autoActs.l0]
    by_cases q : n > 0
    · obtain ⟨x1, x2, x3, x4, x5, x6, a', s', e, h'⟩ := act_ok link hl h (by omega) k (by omega)
      rw [if_pos q, if_pos (by omega), e, Option.bind_some]
      dsimp only
      rw [if_pos (by omega), w64 (by omega) (by omega)]
      exact ih k _ (n - 1) a' s' (b + 40) (by rw [List.length_append]; simp; omega) (by omega) (by omega) h' (by omega)
    · rw [if_neg q]; exact ⟨_, _, _, rfl, by omega⟩
theorem acts_ok {l : List Int} (hl : ∀ x ∈ l, 0 ≤ x ∧ x ≤ 255) (h2 : (l.length : Int) ≤ 1048576) (link : ByteArray) (hk : link.size = 6) (k : Nat) (hk2 : 100 ≤ k) : ∃ r, spec_AutoActsOf.f k l link = some r ∧ r.length ≤ 60 := by
  obtain ⟨e0, h0⟩ := source_ok hl (by omega)
  unfold spec_AutoActsOf.f
  rw [e0, Option.bind_some]
  dsimp only
  unfold spec_l00Src_autoActs.f spec_l00Src_size.f
  have hq : (0 : Int) ≤ (l.length : Int) / 12 := by omega
  rw [w64 (x := (l.length : Int) / 12) (by omega) (by omega), w64 (x := 1 + (l.length : Int) / 12) (by omega) (by omega), Option.bind_some]
  dsimp only
  have hm : 1 ≤ mn (1 + (l.length : Int) / 12) 20 ∧ mn (1 + (l.length : Int) / 12) 20 ≤ 20 := by unfold mn; split <;> omega
  generalize mn (1 + (l.length : Int) / 12) 20 = m at hm ⊢
  rw [w64 (by omega) (by omega)]
  obtain ⟨v1, a1, s1, e1, l1, u1, h1⟩ := next_ok h0 (by omega) (m + 3) (by omega) (by omega)
  rw [e1, Option.bind_some]
  dsimp only
  obtain ⟨r, a', s', e, hr⟩ := acts_l0 (c := l) link hk 60 k [] v1 a1 s1 _ (by simp) (by omega) (by omega) h1 (by omega)
  rw [e]
  exact ⟨r, rfl, hr⟩
theorem rd39 {l : List S39} {i : Nat} (h : i < l.length) : rd_T39 l (i : Int) = l[i] := by simp [rd_T39, List.getD_eq_getElem?_getD, h]
theorem rdB {l : List ByteArray} {i : Nat} (h : i < l.length) : rdOf ByteArray.empty l (i : Int) = l[i] := by simp [rdOf, List.getD_eq_getElem?_getD, h]
/-! what both tell -/
def keys (l : List ByteArray) : List (List UInt8) := l.map ByteArray.toList
def names (l : List S39) : List (List UInt8) := l.map (fun x => x.f0.toList)
def chk {α : Type} (ok : α → Bool) (key : α → List UInt8) : List (List UInt8) → List α → Bool
  | _, [] => true
  | pre, x :: r => ok x && (!pre.contains (key x) && chk ok key (pre ++ [key x]) r)
theorem chk_iff {α : Type} (ok : α → Bool) (key : α → List UInt8) (L : List α) : ∀ pre, chk ok key pre L = true ↔ (∀ x ∈ L, ok x = true) ∧ (∀ x ∈ L, key x ∉ pre) ∧ (L.map key).Nodup := by
  induction L with
  | nil => intro pre; simp [chk]
  | cons x r ih =>
    intro pre
    have e : chk ok key pre (x :: r) = (ok x && (!pre.contains (key x) && chk ok key (pre ++ [key x]) r)) := rfl
    rw [e, Bool.and_eq_true, Bool.and_eq_true, ih, Bool.not_eq_true', List.map_cons, List.nodup_cons]
    constructor
    · rintro ⟨h1, h2, h3, h4, h5⟩
      refine ⟨?_, ?_, ?_, h5⟩
      · intro y hy
        rcases List.mem_cons.1 hy with rfl | hy
        · exact h1
        · exact h3 y hy
      · intro y hy hp
        rcases List.mem_cons.1 hy with rfl | hy
        · rw [List.contains_iff_mem.2 hp] at h2; cases h2
        · exact h4 y hy (List.mem_append_left _ hp)
      · intro hx
        obtain ⟨y, hy, e2⟩ := List.mem_map.1 hx
        exact h4 y hy (by rw [e2]; simp)
    · rintro ⟨h1, h2, h3, h5⟩
      refine ⟨h1 x (by simp), ?_, fun y hy => h1 y (by simp [hy]), ?_, h5⟩
      · rw [← Bool.not_eq_true]
        intro hc
        exact h2 x (by simp) (List.contains_iff_mem.1 hc)
      · intro y hy hp
        rcases List.mem_append.1 hp with hp | hp
        · exact h2 y (by simp [hy]) hp
        · simp only [List.mem_singleton] at hp
          exact h3 (List.mem_map.2 ⟨y, hy, hp⟩)
def ok16 (x : ByteArray) : Bool := decide ((x.size : Int) = 16)
def stA (x : S39) : Bool := if x.f1 = 1 then decide (1 ≤ x.f2 ∧ x.f2 ≤ 3) else if x.f1 = 2 then (decide (x.f2 = 0) && decide (x.f4 > 0)) else if x.f1 = 3 then (decide (x.f2 = 0) && decide (x.f4 = 0)) else false
def okA (x : S39) : Bool := decide ((x.f0.size : Int) = 16) && (decide (1 ≤ x.f3 ∧ x.f3 ≤ 100000) && (decide (0 ≤ x.f4 ∧ x.f4 ≤ x.f3) && stA x))
theorem swap (l1 : List S39) (l2 : List ByteArray) : (chk ok16 ByteArray.toList [] l2 && chk (fun x => okA x && !(keys l2).contains x.f0.toList) (fun x => x.f0.toList) [] l1) = (chk okA (fun x => x.f0.toList) [] l1 && chk ok16 ByteArray.toList (names l1) l2) := by
  rw [Bool.eq_iff_iff, Bool.and_eq_true, Bool.and_eq_true, chk_iff, chk_iff, chk_iff, chk_iff]
  constructor
  · rintro ⟨⟨a1, _, a3⟩, b1, _, b3⟩
    refine ⟨⟨fun x hx => (Bool.and_eq_true _ _ ▸ b1 x hx : _ ∧ _).1, by simp, b3⟩, a1, fun x hx hm => ?_, a3⟩
    obtain ⟨y, hy, e⟩ := List.mem_map.1 hm
    have := (Bool.and_eq_true _ _ ▸ b1 y hy : _ ∧ _).2
    rw [Bool.not_eq_true'] at this
    have hc : (keys l2).contains y.f0.toList = true := List.contains_iff_mem.2 (List.mem_map.2 ⟨x, hx, e.symm⟩)
    rw [hc] at this; cases this
  · rintro ⟨⟨a1, _, a3⟩, b1, b2, b3⟩
    refine ⟨⟨b1, by simp, b3⟩, fun x hx => ?_, by simp, a3⟩
    rw [Bool.and_eq_true, a1 x hx, Bool.not_eq_true', ← Bool.not_eq_true]
    refine ⟨rfl, fun hc => ?_⟩
    obtain ⟨y, hy, e⟩ := List.mem_map.1 (List.contains_iff_mem.1 hc)
    exact b2 y hy (by rw [e]; exact List.mem_map.2 ⟨x, hx, rfl⟩)
theorem text_l0 (P : List ByteArray) (a : ByteArray) (hl : P.length ≤ 2000000) (d : Nat) : ∀ (k i : Nat), P.length = i + d → d < k → spec_l14Text.l0 k P a (i : Int) = some ((keys (P.drop i)).contains a.toList) := by
  induction d with
  | zero =>
    intro k i hi hk
    obtain ⟨k, rfl⟩ : ∃ m, k = m + 1 := ⟨k - 1, by omega⟩
    rw [spec_l14Text.l0, if_neg (by omega), List.drop_of_length_le (by omega)]; rfl
  | succ d ih =>
    intro k i hi hk
    obtain ⟨k, rfl⟩ : ∃ m, k = m + 1 := ⟨k - 1, by omega⟩
    rw [spec_l14Text.l0, if_pos (by omega), if_pos (by omega), rdB (by omega), ww i (by omega), ih k (i + 1) (by omega) (by omega), List.drop_eq_getElem_cons (i := i) (by omega)]
    have e : (keys (P[i] :: P.drop (i + 1))).contains a.toList = (a.toList == P[i].toList || (keys (P.drop (i + 1))).contains a.toList) := List.contains_cons ..
    rw [e]
    by_cases h : P[i].toList = a.toList
    · rw [if_pos h, h]; simp
    · rw [if_neg h]
      have e2 : (a.toList == P[i].toList) = false := by simp; exact fun h' => h h'.symm
      rw [e2, Bool.false_or]
theorem text_ok (P : List ByteArray) (a : ByteArray) (hl : P.length ≤ 2000000) (k : Nat) (hk : P.length < k) : spec_l14Text.f k P a = some ((keys P).contains a.toList) := by
  have := text_l0 P a hl P.length k 0 (by omega) hk
  simpa [spec_l14Text.f] using this
theorem ixs_l0 (P : List ByteArray) (a : ByteArray) (hl : P.length ≤ 2000000) (d : Nat) : ∀ (k i : Nat), P.length = i + d → d < k → ∃ r, slices_Index_string_string.l0 k P a (P.length : Int) (i : Int) = some r ∧ decide (r ≥ 0) = (keys (P.drop i)).contains a.toList := by
  induction d with
  | zero =>
    intro k i hi hk
    obtain ⟨k, rfl⟩ : ∃ m, k = m + 1 := ⟨k - 1, by omega⟩
    refine ⟨-1, by rw [slices_Index_string_string.l0, if_neg (by omega)], ?_⟩
    rw [List.drop_of_length_le (by omega)]; rfl
  | succ d ih =>
    intro k i hi hk
    obtain ⟨k, rfl⟩ : ∃ m, k = m + 1 := ⟨k - 1, by omega⟩
    rw [slices_Index_string_string.l0, if_pos (by omega), if_pos (by omega), if_pos (by omega), rdB (by omega), ww i (by omega), List.drop_eq_getElem_cons (i := i) (by omega)]
    have e : (keys (P[i] :: P.drop (i + 1))).contains a.toList = (a.toList == P[i].toList || (keys (P.drop (i + 1))).contains a.toList) := List.contains_cons ..
    rw [e]
    by_cases h : a.toList = P[i].toList
    · refine ⟨i, by rw [if_pos h], ?_⟩
      rw [← h, decide_eq_true (by omega)]; simp
    · obtain ⟨r, h1, h2⟩ := ih k (i + 1) (by omega) (by omega)
      refine ⟨r, by rw [if_neg h]; exact h1, ?_⟩
      have e2 : (a.toList == P[i].toList) = false := by simp; exact h
      rw [e2, Bool.false_or, h2]
theorem cont_ok (P : List ByteArray) (a : ByteArray) (hl : P.length ≤ 2000000) (k : Nat) (hk : P.length < k) : slices_Contains_string_string.f k P a = some ((keys P).contains a.toList) := by
  obtain ⟨r, h1, h2⟩ := ixs_l0 P a hl P.length k 0 (by omega) hk
  unfold slices_Contains_string_string.f slices_Index_string_string.f
  have h1' : slices_Index_string_string.l0 k P a (P.length : Int) 0 = some r := h1
  rw [h1', Option.bind_some, h2, List.drop_zero]
theorem findA_l0 (l : List S39) (a : ByteArray) (hl : l.length ≤ 2000000) (d : Nat) : ∀ (k i : Nat), l.length = i + d → d < k → ∃ r, spec_l14Find.l0 k l a (i : Int) = some r ∧ ∀ j : Nat, i ≤ j → ∀ hj : j < l.length, l[j].f0.toList = a.toList → decide (r = (j : Int)) = !(names ((l.take j).drop i)).contains a.toList := by
  induction d with
  | zero =>
    intro k i hi hk
    obtain ⟨k, rfl⟩ : ∃ m, k = m + 1 := ⟨k - 1, by omega⟩
    exact ⟨-1, by rw [spec_l14Find.l0, if_neg (by omega)], fun j h1 h2 _ => by omega⟩
  | succ d ih =>
    intro k i hi hk
    obtain ⟨k, rfl⟩ : ∃ m, k = m + 1 := ⟨k - 1, by omega⟩
    rw [spec_l14Find.l0, if_pos (by omega), if_pos (by omega), rd39 (by omega), ww i (by omega)]
    have st : ∀ j, i < j → j < l.length → (names ((l.take j).drop i)).contains a.toList = (a.toList == l[i].f0.toList || (names ((l.take j).drop (i + 1))).contains a.toList) := by
      intro j h1 h2
      rw [List.drop_eq_getElem_cons (i := i) (by simp; omega), List.getElem_take]
      exact List.contains_cons ..
    by_cases h : l[i].f0.toList = a.toList
    · refine ⟨i, by rw [if_pos h], fun j h1 hj hja => ?_⟩
      by_cases hij : i = j
      · subst hij
        rw [decide_eq_true rfl, List.drop_of_length_le (by simp; omega)]; rfl
      · rw [decide_eq_false (by omega), st j (by omega) hj, h]; simp
    · obtain ⟨r, h1, h2⟩ := ih k (i + 1) (by omega) (by omega)
      refine ⟨r, by rw [if_neg h]; exact h1, fun j h3 hj hja => ?_⟩
      have hij : i ≠ j := by rintro rfl; exact h hja
      rw [h2 j (by omega) hj hja, st j (by omega) hj]
      have e2 : (a.toList == l[i].f0.toList) = false := by simp; exact fun h' => h h'.symm
      rw [e2, Bool.false_or]
theorem findA (l : List S39) (hl : l.length ≤ 2000000) (i : Nat) (hi : i < l.length) (k : Nat) (hk : l.length < k) : ∃ r, spec_l14Find.f k l l[i].f0 = some r ∧ decide (r = (i : Int)) = !(names (l.take i)).contains l[i].f0.toList := by
  obtain ⟨r, h1, h2⟩ := findA_l0 l l[i].f0 hl l.length k 0 (by omega) hk
  refine ⟨r, h1, ?_⟩
  rw [h2 i (by omega) hi rfl, List.drop_zero]
theorem addrOK (x : S39) (k : Nat) (hk : 0 < k) : impl_autoAddrOK.f k x.f0 x.f1 x.f2 x.f3 x.f4 = some (okA x) := by
  obtain ⟨k, rfl⟩ : ∃ m, k = m + 1 := ⟨k - 1, by omega⟩
  unfold impl_autoAddrOK.f impl_isSix.f okA stA
  rw [inR, inR, Option.bind_some, Option.bind_some, Option.bind_some]
  simp only [impl_autoAddrOK.j0, inR, Option.bind_some]
  by_cases c0 : (x.f0.size : Int) = 16
  · rw [if_pos (by simpa using c0), decide_eq_true c0]
    by_cases c3 : 1 ≤ x.f3 ∧ x.f3 ≤ 100000
    · rw [decide_eq_true c3, if_pos rfl]
      by_cases c4 : 0 ≤ x.f4 ∧ x.f4 ≤ x.f3
      · rw [decide_eq_true c4]
        by_cases e1 : x.f1 = 1
        · simp [e1]
        · by_cases e2 : x.f1 = 2
          · by_cases z : x.f2 = 0 <;> simp [e2, z]
          · by_cases e3 : x.f1 = 3
            · by_cases z : x.f2 = 0
              · simp [e3, z]; rfl
              · simp [e3, z]
            · simp [e1, e2, e3]
      · rw [decide_eq_false c4]; simp
    · rw [decide_eq_false c3]; simp
  · rw [if_neg (by simpa using c0), decide_eq_false c0]; simp
theorem i_l1 (l2 : List ByteArray) (hl : l2.length ≤ 6) (d : Nat) : ∀ (k i : Nat) (P : List ByteArray), l2.length = i + d → P.length + d ≤ 20 → impl_AutoOK.l1 (k + d + 40) P l2 (l2.length : Int) (i : Int) = some (chk ok16 ByteArray.toList (keys P) (l2.drop i)) := by
  induction d with
  | zero =>
    intro k i P hi hP
    rw [show k + 0 + 40 = (k + 39) + 1 by omega, impl_AutoOK.l1, if_neg (by omega), List.drop_of_length_le (by omega)]; rfl
  | succ d ih =>
    intro k i P hi hP
    rw [show k + (d + 1) + 40 = (k + d + 40) + 1 by omega, impl_AutoOK.l1, if_pos (by omega), if_pos (by omega), if_pos (by omega), rdB (by omega), ww i (by omega), cont_ok P _ (by omega) _ (by omega), ih k (i + 1) _ (by omega) (by simp; omega), List.drop_eq_getElem_cons (i := i) (by omega)]
    have e : chk ok16 ByteArray.toList (keys P) (l2[i] :: l2.drop (i + 1)) = (ok16 l2[i] && (!(keys P).contains l2[i].toList && chk ok16 ByteArray.toList (keys (P ++ [l2[i]])) (l2.drop (i + 1)))) := by
      simp [chk, keys]
    rw [e, if_pos (show P.length < 8796093022208 by omega)]
    simp only [impl_isSix.f, Option.bind_some, ok16]
    by_cases c : (l2[i].size : Int) = 16
    · rw [if_pos (by simpa using c), decide_eq_true c]
      cases (keys P).contains l2[i].toList <;> simp
    · rw [if_neg (by simpa using c), decide_eq_false c]; rfl
theorem names_succ (l : List S39) (i : Nat) (h : i < l.length) : names (l.take (i + 1)) = names (l.take i) ++ [l[i].f0.toList] := by
  unfold names; rw [List.take_succ_eq_append_getElem h]; simp only [List.map_append, List.map_cons, List.map_nil]
theorem i_l0 (a0 : ByteArray) (l1 : List S39) (l2 : List ByteArray) (hl : l1.length ≤ 6 ∧ l2.length ≤ 6) (d : Nat) : ∀ (k i : Nat), l1.length = i + d → impl_AutoOK.l0 (k + d + 60) ((l1.take i).map S39.f0) l1 (l1.length : Int) (i : Int) a0 l1 l2 = some (chk okA (fun x => x.f0.toList) (names (l1.take i)) (l1.drop i) && chk ok16 ByteArray.toList (names l1) l2) := by
  induction d with
  | zero =>
    intro k i hi
    have e := i_l1 l2 hl.2 l2.length (k + 19 - l2.length) 0 (l1.map S39.f0) (by omega) (by simp; omega)
    rw [show k + 19 - l2.length + l2.length + 40 = k + 59 by omega] at e
    rw [show k + 0 + 60 = (k + 59) + 1 by omega, impl_AutoOK.l0, if_neg (by omega), List.drop_of_length_le (by omega), List.take_of_length_le (by omega)]
    refine Eq.trans e ?_
    have ek : keys (l1.map S39.f0) = names l1 := by simp [keys, names]
    rw [ek, List.drop_zero]; rfl
  | succ d ih =>
    intro k i hi
    have e : chk okA (fun x => x.f0.toList) (names (l1.take i)) (l1.drop i) = (okA l1[i] && (!(names (l1.take i)).contains l1[i].f0.toList && chk okA (fun x => x.f0.toList) (names (l1.take (i + 1))) (l1.drop (i + 1)))) := by
      rw [List.drop_eq_getElem_cons (i := i) (by omega), names_succ l1 i (by omega)]; rfl
    have ek : keys ((l1.take i).map S39.f0) = names (l1.take i) := by unfold keys names; rw [List.map_map]; rfl
    have et : (l1.take i).map S39.f0 ++ [l1[i].f0] = (l1.take (i + 1)).map S39.f0 := by rw [List.take_succ_eq_append_getElem (by omega), List.map_append]; rfl
    rw [show k + (d + 1) + 60 = (k + d + 60) + 1 by omega, impl_AutoOK.l0, if_pos (by omega), if_pos (by omega), if_pos (by omega), rd39 (by omega), ww i (by omega), addrOK _ _ (by omega), Option.bind_some, cont_ok _ _ (by simp; omega) _ (by simp; omega), ek, et, ih k (i + 1) (by omega), e, if_pos (show ((l1.take i).map S39.f0).length < 8796093022208 by simp; omega)]
    cases okA l1[i]
    · rfl
    · cases (names (l1.take i)).contains l1[i].f0.toList <;> simp
def autoB (a0 : ByteArray) (l1 : List S39) (l2 : List ByteArray) : Bool := decide ((a0.size : Int) = 6) && (decide (l1.length ≤ 6) && (decide (l2.length ≤ 6) && (chk okA (fun x => x.f0.toList) [] l1 && chk ok16 ByteArray.toList (names l1) l2)))
theorem auto_i (a0 : ByteArray) (l1 : List S39) (l2 : List ByteArray) (k : Nat) (hk : 200 < k) : impl_AutoOK.f k a0 l1 l2 = some (autoB a0 l1 l2) := by
  obtain ⟨k, rfl⟩ : ∃ m, k = m + 1 := ⟨k - 1, by omega⟩
  unfold impl_AutoOK.f impl_isLink.f autoB
  rw [Option.bind_some]
  simp only [impl_AutoOK.j0]
  by_cases c0 : (a0.size : Int) = 6
  · rw [if_pos (by simpa using c0), decide_eq_true c0]
    by_cases c1 : (l1.length : Int) > 6
    · rw [if_pos c1, decide_eq_false (p := l1.length ≤ 6) (by omega), if_pos trivial]; rfl
    · rw [if_neg c1, decide_eq_true (p := l1.length ≤ 6) (by omega)]
      by_cases c2 : (l2.length : Int) > 6
      · rw [decide_eq_true c2, if_pos rfl, decide_eq_false (p := l2.length ≤ 6) (by omega)]; rfl
      · rw [decide_eq_false c2, if_neg (by decide), decide_eq_true (p := l2.length ≤ 6) (by omega)]
        have e := i_l0 a0 l1 l2 ⟨by omega, by omega⟩ l1.length (k - l1.length - 60) 0 (by omega)
        rw [show k - l1.length - 60 + l1.length + 60 = k by omega] at e
        exact e
  · rw [if_neg (by simpa using c0), decide_eq_false c0, if_pos trivial]; rfl
def c3 (x : S39) : Bool := ((x.f1 == 1) == decide (1 ≤ x.f2 ∧ x.f2 ≤ 3)) && (decide (x.f1 = 1) || (decide (x.f2 = 0) && ((x.f1 == 3) == (x.f4 == 0))))
theorem s_j3 (k : Nat) (i : Nat) (hi : i ≤ 100) (b : Bool) (a0 : ByteArray) (l1 : List S39) (l2 : List ByteArray) (x : S39) : spec_AutoOK.j3 (k + 1) (i : Int) b a0 l1 l2 x.f0 x.f1 x.f2 x.f3 x.f4 = if (!b && c3 x) = true then spec_AutoOK.l1 k ((i + 1 : Nat) : Int) a0 l1 l2 else some false := by
  rw [spec_AutoOK.j3]
  cases b with
  | true => rfl
  | false =>
    rw [if_neg (by decide), inS, Option.bind_some, ww i (by omega)]
    unfold c3
    cases e1 : (x.f1 == 1) with
    | true =>
      have e1' : x.f1 = 1 := by simpa using e1
      cases decide (1 ≤ x.f2 ∧ x.f2 ≤ 3) <;> simp [e1']
    | false =>
      have e1' : ¬ x.f1 = 1 := by simpa using e1
      cases decide (1 ≤ x.f2 ∧ x.f2 ≤ 3) with
      | true => simp
      | false =>
        by_cases z : x.f2 = 0
        · cases (x.f1 == 3) <;> cases (x.f4 == 0) <;> simp [e1', z]
        · simp [e1', z]
theorem st_same (x : S39) (h3 : 1 ≤ x.f3) (h4 : 0 ≤ x.f4) : (decide (1 ≤ x.f1 ∧ x.f1 ≤ 3) && c3 x) = stA x := by
  unfold c3 stA
  by_cases e1 : x.f1 = 1
  · rw [if_pos e1]; simp [e1]
  · rw [if_neg e1]
    have b1 : (x.f1 == 1) = false := by simpa using e1
    rw [b1, decide_eq_false e1, Bool.false_or]
    by_cases e2 : x.f1 = 2
    · rw [if_pos e2]
      by_cases z : x.f2 = 0
      · by_cases y : x.f4 = 0
        · simp [e2, z, y]
        · have hp : x.f4 > 0 := by omega
          have hq : (x.f4 == 0) = false := by simpa using y
          rw [hq, decide_eq_true hp, decide_eq_true z]; simp [e2, z]
      · simp [z]
    · rw [if_neg e2]
      by_cases e3 : x.f1 = 3
      · rw [if_pos e3]
        by_cases z : x.f2 = 0
        · by_cases y : x.f4 = 0
          · simp [e3, z, y]
          · simp [e3, z, y]
        · simp [z]
      · rw [if_neg e3, decide_eq_false (p := 1 ≤ x.f1 ∧ x.f1 ≤ 3) (by omega)]; rfl
theorem s_l1 (a0 : ByteArray) (l1 : List S39) (l2 : List ByteArray) (hl : l1.length ≤ 6 ∧ l2.length ≤ 6) (d : Nat) : ∀ (k i : Nat), l1.length = i + d → spec_AutoOK.l1 (k + 2 * d + 20) (i : Int) a0 l1 l2 = some (chk (fun x => okA x && !(keys l2).contains x.f0.toList) (fun x => x.f0.toList) (names (l1.take i)) (l1.drop i)) := by
  induction d with
  | zero =>
    intro k i hi
    rw [show k + 2 * 0 + 20 = (k + 19) + 1 by omega, spec_AutoOK.l1, if_neg (by omega), List.drop_of_length_le (by omega)]; rfl
  | succ d ih =>
    intro k i hi
    have hi' : i < l1.length := by omega
    have e : chk (fun x => okA x && !(keys l2).contains x.f0.toList) (fun x => x.f0.toList) (names (l1.take i)) (l1.drop i) = ((okA l1[i] && !(keys l2).contains l1[i].f0.toList) && (!(names (l1.take i)).contains l1[i].f0.toList && chk (fun x => okA x && !(keys l2).contains x.f0.toList) (fun x => x.f0.toList) (names (l1.take (i + 1))) (l1.drop (i + 1)))) := by
      rw [List.drop_eq_getElem_cons (i := i) hi', names_succ l1 i hi']; rfl
    obtain ⟨r, f1, f2⟩ := findA l1 (by omega) i hi' (k + 2 * d + 20 + 1) (by omega)
    rw [show k + 2 * (d + 1) + 20 = (k + 2 * d + 20 + 1) + 1 by omega, spec_AutoOK.l1, if_pos (by omega), if_pos (by omega), rd39 hi', f1, Option.bind_some, text_ok l2 _ (by omega) _ (by omega), Option.bind_some, inS, inS, inS]
    simp only [Option.bind_some]
    rw [s_j3 _ i (by omega), s_j3 _ i (by omega), ih k (i + 1) (by omega), e, ← f2]
    generalize chk (fun x => okA x && !(keys l2).contains x.f0.toList) (fun x => x.f0.toList) (names (l1.take (i + 1))) (l1.drop (i + 1)) = nx
    generalize (keys l2).contains l1[i].f0.toList = ct
    generalize l1[i] = x
    unfold okA
    by_cases c0 : (x.f0.size : Int) = 16
    · rw [if_pos c0, decide_eq_true c0]
      by_cases cr : r = (i : Int)
      · rw [if_pos cr, decide_eq_true cr]
        cases ct with
        | true => simp
        | false =>
          rw [if_neg (by decide)]
          by_cases h3 : 1 ≤ x.f3 ∧ x.f3 ≤ 100000
          · rw [decide_eq_true h3]
            by_cases h4 : 0 ≤ x.f4 ∧ x.f4 ≤ x.f3
            · rw [decide_eq_true h4, ← st_same x h3.1 h4.1]
              cases decide (1 ≤ x.f1 ∧ x.f1 ≤ 3) <;> cases c3 x <;> simp
            · rw [decide_eq_false h4]
              cases decide (1 ≤ x.f1 ∧ x.f1 ≤ 3) <;> simp
          · rw [decide_eq_false h3]
            cases decide (1 ≤ x.f1 ∧ x.f1 ≤ 3) <;> simp
      · rw [if_neg cr, decide_eq_false cr]; simp
    · rw [if_neg c0, decide_eq_false c0]; simp
theorem s_l0 (a0 : ByteArray) (l1 : List S39) (l2 : List ByteArray) (hl : l1.length ≤ 6 ∧ l2.length ≤ 6) (d : Nat) : ∀ (k i : Nat), l2.length = i + d → spec_AutoOK.l0 (k + d + 60) (i : Int) a0 l1 l2 = some (chk ok16 ByteArray.toList (keys (l2.take i)) (l2.drop i) && chk (fun x => okA x && !(keys l2).contains x.f0.toList) (fun x => x.f0.toList) [] l1) := by
  induction d with
  | zero =>
    intro k i hi
    have e := s_l1 a0 l1 l2 hl l1.length (k + 39 - 2 * l1.length) 0 (by omega)
    rw [show k + 39 - 2 * l1.length + 2 * l1.length + 20 = k + 59 by omega, List.take_zero, List.drop_zero] at e
    rw [show k + 0 + 60 = (k + 59) + 1 by omega, spec_AutoOK.l0, if_neg (by omega), List.drop_of_length_le (by omega)]
    exact e
  | succ d ih =>
    intro k i hi
    have hi' : i < l2.length := by omega
    have e : chk ok16 ByteArray.toList (keys (l2.take i)) (l2.drop i) = (ok16 l2[i] && (!(keys (l2.take i)).contains l2[i].toList && chk ok16 ByteArray.toList (keys (l2.take (i + 1))) (l2.drop (i + 1)))) := by
      rw [List.drop_eq_getElem_cons (i := i) hi']
      have : keys (l2.take (i + 1)) = keys (l2.take i) ++ [l2[i].toList] := by unfold keys; rw [List.take_succ_eq_append_getElem hi']; simp only [List.map_append, List.map_cons, List.map_nil]
      rw [this]; rfl
    rw [show k + (d + 1) + 60 = (k + d + 60) + 1 by omega, spec_AutoOK.l0, if_pos (by omega), if_pos (by omega), rdB hi', ww i (by omega), Int.toNat_natCast, text_ok _ _ (by simp; omega) _ (by simp; omega), Option.bind_some, ih k (i + 1) (by omega), e, if_pos (show (i : Int) ≤ l2.length by omega)]
    unfold ok16
    by_cases c : (l2[i].size : Int) = 16
    · rw [if_pos c, decide_eq_true c]
      cases (keys (l2.take i)).contains l2[i].toList <;> simp
    · rw [if_neg c, decide_eq_false c]; rfl
theorem auto_s (a0 : ByteArray) (l1 : List S39) (l2 : List ByteArray) (k : Nat) (hk : 200 < k) : spec_AutoOK.f k a0 l1 l2 = some (autoB a0 l1 l2) := by
  obtain ⟨k, rfl⟩ : ∃ m, k = m + 1 := ⟨k - 1, by omega⟩
  unfold spec_AutoOK.f autoB
  simp only [spec_AutoOK.j0]
  by_cases c0 : (a0.size : Int) = 6
  · rw [if_pos c0, decide_eq_true c0]
    by_cases c1 : (l1.length : Int) > 6
    · rw [if_pos c1, decide_eq_false (p := l1.length ≤ 6) (by omega), if_pos trivial]; rfl
    · rw [if_neg c1, decide_eq_true (p := l1.length ≤ 6) (by omega)]
      by_cases c2 : (l2.length : Int) > 6
      · rw [decide_eq_true c2, if_pos rfl, decide_eq_false (p := l2.length ≤ 6) (by omega)]; rfl
      · rw [decide_eq_false c2, if_neg (by decide), decide_eq_true (p := l2.length ≤ 6) (by omega)]
        have e := s_l0 a0 l1 l2 ⟨by omega, by omega⟩ l2.length (k - l2.length - 60) 0 (by omega)
        rw [show k - l2.length - 60 + l2.length + 60 = k by omega, List.take_zero, List.drop_zero] at e
        have e2 := swap l1 l2
        have e3 : (keys ([] : List ByteArray)) = [] := rfl
        rw [e3, e2] at e
        exact e
  · rw [if_neg c0, decide_eq_false c0, if_pos trivial]; rfl
/-! a right state is told right -/
theorem okA_of {y : S39} (h : Eok y) : okA y = true := by
  unfold okA stA
  have e0 : (y.f0.size : Int) = 16 := by rw [h.sz]; rfl
  rw [decide_eq_true e0, decide_eq_true h.va, decide_eq_true h.pr]
  rcases (show y.f1 = 1 ∨ y.f1 = 2 ∨ y.f1 = 3 by have := h.st; omega) with q | q | q
  · rw [if_pos q, decide_eq_true (h.l1 q)]; rfl
  · rw [if_neg (by omega), if_pos q, decide_eq_true (h.l0 (by omega)), decide_eq_true (h.p2 q)]; rfl
  · rw [if_neg (by omega), if_neg (by omega), if_pos q, decide_eq_true (h.l0 (by omega)), decide_eq_true (h.p3 q)]; rfl
theorem autoB_of {link : ByteArray} {l1 : List S39} {l2 : List ByteArray} (h : PFnSources.Good link l1 l2) : autoB link l1 l2 = true := by
  unfold autoB
  have h1 : chk okA (fun x => x.f0.toList) [] l1 = true := (chk_iff _ _ _ _).2 ⟨fun x hx => okA_of (h.el x hx), by simp, h.nd⟩
  have h2 : chk ok16 ByteArray.toList (names l1) l2 = true := by
    refine (chk_iff _ _ _ _).2 ⟨fun x hx => ?_, fun x hx hm => ?_, h.bd⟩
    · unfold ok16
      rw [h.b16 x hx]; rfl
    · obtain ⟨y, hy, e⟩ := List.mem_map.1 hm
      exact h.nb y hy (List.mem_map.2 ⟨x, hx, e.symm⟩)
  rw [h1, h2, decide_eq_true (show (link.size : Int) = 6 by rw [h.ln]; rfl), decide_eq_true h.n1, decide_eq_true h.n2]
  rfl
/-! the bits of an address, and what two have in common -/
theorem up {α : Type} {f : Nat → Option α} (hm : ∀ k, LeO (f k) (f (k + 1))) {r : α} {m : Nat} (h : f m = some r) : ∀ k, m ≤ k → f k = some r := by
  intro k hk
  obtain ⟨d, rfl⟩ := Nat.exists_eq_add_of_le hk
  induction d with
  | zero => exact h
  | succ d ih => exact hm _ _ (ih (by omega))
theorem u64w {x : Int} (h0 : 0 ≤ x) (h1 : x ≤ 7) : IntKind.u64.wrap x = x := by
  rcases (show x = 0 ∨ x = 1 ∨ x = 2 ∨ x = 3 ∨ x = 4 ∨ x = 5 ∨ x = 6 ∨ x = 7 by omega) with rfl | rfl | rfl | rfl | rfl | rfl | rfl | rfl <;> decide
theorem bits_same : ∀ k, (∀ x0 x3 x4, spec_l02AddrBits.l0 k x0 x3 x4 = impl_addrBits.l0 k x0 x3 x4) ∧ (∀ x0 x3 x4 x5, -1 ≤ x5 → x5 ≤ 7 → spec_l02AddrBits.l1 k x0 x3 x4 x5 = impl_addrBits.l1 k x0 x3 x4 x5)
  | 0 => ⟨fun _ _ _ => by simp only [spec_l02AddrBits.l0, impl_addrBits.l0], fun _ _ _ _ _ _ => by simp only [spec_l02AddrBits.l1, impl_addrBits.l1]⟩
  | k + 1 => by
    obtain ⟨ih0, ih1⟩ := bits_same k
    refine ⟨fun x0 x3 x4 => ?_, fun x0 x3 x4 x5 hlo hhi => ?_⟩
    · simp only [spec_l02AddrBits.l0, impl_addrBits.l0]
      rw [ih1 _ _ _ _ (by omega) (by omega)]
    · simp only [spec_l02AddrBits.l1, impl_addrBits.l1]
      by_cases q : x5 ≥ 0
      · rw [if_pos q, if_pos q, u64w q hhi, w64 (by omega) (by omega), ih1 _ _ _ _ (by omega) (by omega)]
      · rw [if_neg q, if_neg q, ih0]
theorem bits_l1 (x0 : ByteArray) (hs : x0.size ≤ 100000) (i : Nat) (hi : i < x0.size) (m : Nat) (hm : m ≤ 8) : ∀ (k : Nat) (x3 : List Int), x3.length + m ≤ 1000000 →
    ∃ ys : List Int, ys.length = x3.length + m ∧ impl_addrBits.l1 (k + m + 1) x0 x3 (i : Int) ((m : Int) - 1) = impl_addrBits.l0 k x0 ys ((i + 1 : Nat) : Int) := by
  induction m with
  | zero =>
    intro k x3 hx
    refine ⟨x3, rfl, ?_⟩
    rw [show k + 0 + 1 = k + 1 by omega]
    simp only [impl_addrBits.l1]
    rw [if_neg (by omega), ww i (by omega)]
  | succ m ih =>
    intro k x3 hx
    rw [show k + (m + 1) + 1 = (k + m + 1) + 1 by omega]
    simp only [impl_addrBits.l1]
    rw [if_pos (by omega), if_pos (by omega), if_pos (by omega), if_pos (by omega), if_pos (by omega), w64 (x := ((m + 1 : Nat) : Int) - 1 - 1) (by omega) (by omega), show ((m + 1 : Nat) : Int) - 1 - 1 = (m : Int) - 1 by omega]
    obtain ⟨ys, h1, h2⟩ := ih (by omega) k (x3 ++ [(48 + (Go.bits .and .u8 (shr .u8 (bt x0 i) (((m + 1 : Nat) : Int) - 1)) 1)) % 256]) (by rw [List.length_append]; simp; omega)
    exact ⟨ys, by rw [h1, List.length_append]; simp; omega, h2⟩
theorem bits_l0 (x0 : ByteArray) (hs : x0.size ≤ 100000) (d : Nat) : ∀ (i : Nat) (k : Nat) (x3 : List Int), x0.size = i + d → x3.length ≤ 8 * i → 10 * d < k →
    ∃ r, impl_addrBits.l0 k x0 x3 (i : Int) = some r ∧ r.size ≤ 8 * x0.size := by
  induction d with
  | zero =>
    intro i k x3 hi hx hk
    obtain ⟨k, rfl⟩ : ∃ m, k = m + 1 := ⟨k - 1, by omega⟩
    simp only [impl_addrBits.l0]
    rw [if_neg (by omega)]
    exact ⟨_, rfl, by rw [nums_size]; omega⟩
  | succ d ih =>
    intro i k x3 hi hx hk
    obtain ⟨k, rfl⟩ : ∃ m, k = m + 10 := ⟨k - 10, by omega⟩
    simp only [impl_addrBits.l0]
    rw [if_pos (by omega)]
    obtain ⟨ys, h1, h2⟩ := bits_l1 x0 hs i (by omega) 8 (by omega) k x3 (by omega)
    have h2' : impl_addrBits.l1 (k + 9) x0 x3 (i : Int) 7 = impl_addrBits.l0 k x0 ys ((i + 1 : Nat) : Int) := h2
    rw [h2']
    exact ih (i + 1) k ys (by omega) (by omega) (by omega)
def nb (a : ByteArray) : ByteArray := (impl_addrBits.f 400 a).getD ⟨#[]⟩
theorem nb_ok (a : ByteArray) (h : a.size = 16) : (nb a).size ≤ 128 ∧ ∀ k, 400 ≤ k → impl_addrBits.f k a = some (nb a) ∧ spec_l02AddrBits.f k a = some (nb a) := by
  obtain ⟨r, h1, h2⟩ := bits_l0 a (by omega) a.size 0 400 [] (by omega) (by simp) (by omega)
  have e : impl_addrBits.f 400 a = some r := by
    unfold impl_addrBits.f
    rw [if_pos (by omega)]; exact h1
  have en : nb a = r := by unfold nb; rw [e]; rfl
  rw [en]
  refine ⟨by omega, fun k hk => ?_⟩
  have e2 := up (impl_addrBits.mono a) e k hk
  refine ⟨e2, ?_⟩
  unfold impl_addrBits.f at e2
  rw [if_pos (by omega)] at e2
  unfold spec_l02AddrBits.f
  rw [(bits_same k).1]; exact e2
theorem com_l0 (a b : ByteArray) (ha : a.size ≤ 100000) (hb : b.size ≤ 100000) (d : Nat) : ∀ (i k : Nat), a.size = i + d → d < k →
    ∃ n : Nat, impl_common.l0 k a b (i : Int) = some (n : Int) ∧ spec_l02Common.l0 k a b (i : Int) = some (a.extract 0 n) ∧ n ≤ a.size := by
  induction d with
  | zero =>
    intro i k hi hk
    obtain ⟨k, rfl⟩ : ∃ m, k = m + 1 := ⟨k - 1, by omega⟩
    simp only [impl_common.l0, spec_l02Common.l0]
    rw [if_neg (by omega), if_neg (by omega), if_pos (by omega), if_pos (by omega), Int.toNat_natCast]
    exact ⟨i, rfl, rfl, by omega⟩
  | succ d ih =>
    intro i k hi hk
    obtain ⟨k, rfl⟩ : ∃ m, k = m + 1 := ⟨k - 1, by omega⟩
    simp only [impl_common.l0, spec_l02Common.l0]
    rw [if_pos (show (i : Int) < a.size by omega), if_pos (show (i : Int) < a.size by omega), if_pos (show (0 : Int) ≤ i by omega), if_pos (show (i : Int) ≤ a.size by omega), Int.toNat_natCast]
    by_cases q : (i : Int) < b.size
    · rw [if_pos q, if_pos q]
      by_cases e : bt a i = bt b i
      · rw [if_pos e, if_pos e, ww i (by omega), if_pos (by omega)]
        exact ih (i + 1) k (by omega) (by omega)
      · rw [if_neg e, if_neg e, if_pos (by omega)]
        exact ⟨i, rfl, rfl, by omega⟩
    · rw [if_neg q, if_neg q]
      exact ⟨i, rfl, rfl, by omega⟩
def cm (a b : ByteArray) : Int := (spec_l14Common.f 400 a b).getD 0
theorem cm_ok (a b : ByteArray) (ha : a.size = 16) (hb : b.size = 16) (k : Nat) (hk : 400 ≤ k) :
    impl_common.f k (nb a) (nb b) = some (cm a b) ∧ spec_l14Common.f k a b = some (cm a b) := by
  obtain ⟨sa, na⟩ := nb_ok a ha
  obtain ⟨sb, nbb⟩ := nb_ok b hb
  have key : ∀ k, 400 ≤ k → ∃ n : Nat, impl_common.f k (nb a) (nb b) = some (n : Int) ∧ spec_l14Common.f k a b = some (n : Int) := by
    intro k hk
    obtain ⟨n, h1, h2, h3⟩ := com_l0 (nb a) (nb b) (by omega) (by omega) (nb a).size 0 k (by omega) (by omega)
    refine ⟨n, h1, ?_⟩
    unfold spec_l14Common.f spec_l02Common.f
    rw [(na k hk).2, Option.bind_some, (nbb k hk).2, Option.bind_some]
    have h2' : spec_l02Common.l0 k (nb a) (nb b) 0 = some ((nb a).extract 0 n) := h2
    rw [h2', Option.bind_some]
    have : ((nb a).extract 0 n).size = n := by simp; omega
    rw [this]
  obtain ⟨n, h1, h2⟩ := key 400 (by omega)
  have e : cm a b = n := by unfold cm; rw [h2]; rfl
  rw [e]
  have h3 := up (impl_common.mono (nb a) (nb b)) h1 k hk
  obtain ⟨n', h1', h2'⟩ := key k hk
  rw [h1'] at h3
  refine ⟨by rw [h1']; exact h3, by rw [h2']; exact h3⟩
/-! which address stands for the rest of the world: both tell the same -/
structure Sel (x1 : ByteArray) (A : List S39) (i : Nat) (b : Int) (x6 : ByteArray) (x7 x8 : Int) : Prop where
  no : b < 0 → b = -1 ∧ x7 = 0 ∧ ∀ j, (h : j < A.length) → j < i → (A[j]).f1 = 1
  yes : 0 ≤ b → ∃ j, ∃ h : j < A.length, b = (j : Int) ∧ x6 = (A[j]).f0 ∧ x7 = (A[j]).f1 ∧ (A[j]).f1 ≠ 1 ∧ x8 = cm (A[j]).f0 x1
def Told (A : List S39) (s : ByteArray) (c : Int) : Prop := (c = 5 ∧ s = ⟨#[]⟩ ∧ ∀ j, (h : j < A.length) → (A[j]).f1 = 1) ∨ (c = 0 ∧ ∃ j, ∃ h : j < A.length, s = (A[j]).f0 ∧ (A[j]).f1 ≠ 1)
theorem sel_l0 (link : ByteArray) (A : List S39) (l2 : List ByteArray) (x1 : ByteArray) (hx : x1.size = 16) (hA : ∀ y ∈ A, Eok y) (hn : A.length ≤ 6) (d : Nat) : ∀ (i k k' : Nat) (b : Int) (x6 : ByteArray) (x7 x8 : Int), A.length = i + d → d + 500 < k → d + 500 < k' → Sel x1 A i b x6 x7 x8 →
    ∃ s c, impl_SourceFor.l0 k x1 x6 x7 x8 A (A.length : Int) (i : Int) = some (s, c) ∧ spec_SourceFor.l0 k' x1 b (i : Int) link A l2 = some (s, c) ∧ Told A s c := by
  induction d with
  | zero =>
    intro i k k' b x6 x7 x8 hi hk hk' hs
    obtain ⟨k, rfl⟩ : ∃ m, k = m + 1 := ⟨k - 1, by omega⟩
    obtain ⟨k', rfl⟩ : ∃ m, k' = m + 1 := ⟨k' - 1, by omega⟩
    simp only [impl_SourceFor.l0, spec_SourceFor.l0]
    have hno : ¬ ((i : Int) < A.length) := by omega
    rw [if_neg hno, if_neg hno]
    by_cases q : b < 0
    · obtain ⟨rfl, rfl, h3⟩ := hs.no q
      rw [if_pos rfl, if_pos q]
      exact ⟨_, _, rfl, rfl, Or.inl ⟨rfl, rfl, fun j hj => h3 j hj (by omega)⟩⟩
    · obtain ⟨j, hj, rfl, rfl, rfl, h5, h6⟩ := hs.yes (by omega)
      have hst := (hA _ (List.getElem_mem hj)).st
      rw [if_neg (show ¬ ((A[j]).f1 = 0) by omega), if_neg q, if_pos (show (0 : Int) ≤ j by omega), if_pos (show (j : Int) < A.length by omega), rd39 hj]
      exact ⟨_, _, rfl, rfl, Or.inr ⟨rfl, j, hj, rfl, h5⟩⟩
  | succ d ih =>
    intro i k k' b x6 x7 x8 hi hk hk' hs
    obtain ⟨k, rfl⟩ : ∃ m, k = m + 1 := ⟨k - 1, by omega⟩
    obtain ⟨k', rfl⟩ : ∃ m, k' = m + 1 := ⟨k' - 1, by omega⟩
    have hi' : i < A.length := by omega
    have hE := hA _ (List.getElem_mem hi')
    obtain ⟨c1, c2⟩ := cm_ok (A[i]).f0 x1 hE.sz hx k (by omega)
    obtain ⟨c1', c2'⟩ := cm_ok (A[i]).f0 x1 hE.sz hx k' (by omega)
    simp only [impl_SourceFor.l0, spec_SourceFor.l0]
    rw [if_pos (show (i : Int) < A.length by omega), if_pos (show (0 : Int) ≤ i by omega), if_pos (show (i : Int) < A.length by omega), rd39 hi', ((nb_ok _ hE.sz).2 k (by omega)).1, Option.bind_some, ((nb_ok _ hx).2 k (by omega)).1, Option.bind_some, c1, Option.bind_some, ww i (by omega)]
    rw [if_pos (show (i : Int) < A.length by omega), if_pos (show (0 : Int) ≤ i by omega)]
    have take : ∀ (h1 : (A[i]).f1 ≠ 1), Sel x1 A (i + 1) (i : Int) (A[i]).f0 (A[i]).f1 (cm (A[i]).f0 x1) := fun h1 =>
      ⟨fun h => by omega, fun _ => ⟨i, hi', rfl, rfl, rfl, h1, rfl⟩⟩
    have leave : (0 ≤ b ∨ (A[i]).f1 = 1) → Sel x1 A (i + 1) b x6 x7 x8 := fun hq =>
      ⟨fun h => by
        obtain ⟨h1, h2, h3⟩ := hs.no h
        refine ⟨h1, h2, fun j hj hj2 => ?_⟩
        rcases Nat.lt_or_ge j i with hl | hl
        · exact h3 j hj hl
        · obtain rfl : j = i := by omega
          rcases hq with hq | hq
          · omega
          · exact hq, hs.yes⟩
    by_cases q1 : (A[i]).f1 = 1
    · rw [if_pos q1, if_pos q1]
      exact ih (i + 1) k k' b x6 x7 x8 (by omega) (by omega) (by omega) (leave (Or.inr q1))
    rw [if_neg q1, if_neg q1]
    by_cases q : b < 0
    · obtain ⟨rfl, rfl, h3⟩ := hs.no q
      rw [if_pos rfl, if_neg (show ¬ ((-1 : Int) ≥ 0) by omega)]
      exact ih (i + 1) k k' i _ _ _ (by omega) (by omega) (by omega) (take q1)
    · obtain ⟨j, hj, rfl, rfl, rfl, h5, rfl⟩ := hs.yes (by omega)
      have hst := (hA _ (List.getElem_mem hj))
      rw [if_neg (show ¬ ((A[j]).f1 = 0) by have := hst.st; omega), if_pos (show (j : Int) ≥ 0 by omega), if_pos (show (0 : Int) ≤ j by omega), if_pos (show (j : Int) < A.length by omega), rd39 hj]
      by_cases q2 : (A[i]).f1 > (A[j]).f1
      · rw [if_pos q2, if_pos q2]
        exact ih (i + 1) k k' _ _ _ _ (by omega) (by omega) (by omega) (leave (Or.inl (by omega)))
      rw [if_neg q2, if_neg q2]
      by_cases q3 : (A[i]).f1 = (A[j]).f1
      · rw [if_pos q3, if_pos q3, c2', Option.bind_some, (cm_ok (A[j]).f0 x1 hst.sz hx k' (by omega)).2, Option.bind_some]
        by_cases q4 : cm (A[i]).f0 x1 ≤ cm (A[j]).f0 x1
        · rw [if_pos q4, if_pos q4]
          exact ih (i + 1) k k' _ _ _ _ (by omega) (by omega) (by omega) (leave (Or.inl (by omega)))
        · rw [if_neg q4, if_neg q4]
          exact ih (i + 1) k k' i _ _ _ (by omega) (by omega) (by omega) (take q1)
      · rw [if_neg q3, if_neg q3]
        exact ih (i + 1) k k' i _ _ _ (by omega) (by omega) (by omega) (take q1)
theorem long_l0 (l : List ByteArray) (hl : l.length ≤ 100) (hs : ∀ y ∈ l, y.size ≤ 65536) (d : Nat) : ∀ (i k : Nat), l.length = i + d → d < k → impl_tooLong.l0 k l (l.length : Int) (i : Int) = some false := by
  induction d with
  | zero =>
    intro i k hi hk
    obtain ⟨k, rfl⟩ : ∃ m, k = m + 1 := ⟨k - 1, by omega⟩
    simp only [impl_tooLong.l0]
    rw [if_neg (by omega)]
  | succ d ih =>
    intro i k hi hk
    obtain ⟨k, rfl⟩ : ∃ m, k = m + 1 := ⟨k - 1, by omega⟩
    have hi' : i < l.length := by omega
    have := hs _ (List.getElem_mem hi')
    simp only [impl_tooLong.l0]
    rw [if_pos (by omega), if_pos (by omega), if_pos (by omega), rdB hi', if_neg (by omega), ww i (by omega)]
    exact ih (i + 1) k (by omega) (by omega)
theorem long_no (l : List ByteArray) (hl : l.length ≤ 100) (hs : ∀ y ∈ l, y.size ≤ 65536) (k : Nat) (hk : l.length < k) : impl_tooLong.f k l = some false := long_l0 l hl hs l.length 0 k (by omega) hk
theorem sel_ok {link : ByteArray} {A : List S39} {l2 : List ByteArray} (h : PFnSources.Good link A l2) (x1 : ByteArray) (hx : x1.size = 16) (k : Nat) (hk : 1000 ≤ k) :
    ∃ s c, impl_SourceFor.f k link A l2 x1 = some (s, c) ∧ spec_SourceFor.f k link A l2 x1 = some (s, c) ∧ Told A s c := by
  obtain ⟨k, rfl⟩ : ∃ m, k = m + 1 := ⟨k - 1, by omega⟩
  obtain ⟨s, c, h1, h2, h3⟩ := sel_l0 link A l2 x1 hx h.el h.n1 A.length 0 k k (-1) ⟨#[]⟩ 0 0 (by omega) (by have := h.n1; omega) (by have := h.n1; omega) ⟨fun _ => ⟨rfl, rfl, fun j _ hj => by omega⟩, fun hh => by omega⟩
  refine ⟨s, c, ?_, ?_, h3⟩
  · unfold impl_SourceFor.f impl_isSix.f
    rw [long_no [x1] (by simp) (by simp; omega) _ (by simp; omega), Option.bind_some, if_neg (by decide), auto_i _ _ _ _ (by omega), autoB_of h, Option.bind_some, if_pos rfl, Option.bind_some]
    simp only [impl_SourceFor.j0]
    have e : ((x1.size : Int) == 16) = true := by rw [hx]; rfl
    rw [e, if_neg (by decide)]
    exact h1
  · unfold spec_SourceFor.f
    rw [auto_s _ _ _ _ (by omega), autoB_of h, Option.bind_some, if_pos rfl]
    simp only [spec_SourceFor.j0]
    have e : ((x1.size : Int) != 16) = false := by rw [hx]; rfl
    rw [e, if_neg (by decide)]
    exact h2
/-! the address of a network and a link, the group's link address, and the law -/
theorem nums_app (xs ys : List Int) : strOfNums (xs ++ ys) = strOfNums xs ++ strOfNums ys := by
  apply ByteArray.ext
  simp [strOfNums]
theorem nums_of (p : ByteArray) : strOfNums (bytesOf p) = p := by
  apply ByteArray.ext
  unfold strOfNums bytesOf
  rw [List.map_map]
  have : ((fun n : Int => UInt8.ofNat n.toNat) ∘ fun b : UInt8 => (b.toNat : Int)) = id := by funext b; simp
  rw [this, List.map_id]
def EU (p link : ByteArray) : ByteArray := p ++ strOfNums ([Go.bits .xor .u8 (bt link 0) 2, bt link 1, bt link 2, 255, 254] ++ bytesOf (link.extract 3 link.size))
theorem EU_ok (a link : ByteArray) (ha : 8 ≤ a.size) (hl : link.size = 6) : impl_euiAddr.f a link = some (EU (a.extract 0 8) link) := by
  unfold impl_euiAddr.f EU
  rw [if_pos ha, if_pos (by omega), if_pos (by omega), List.append_assoc, nums_app, nums_of]
theorem EU_size (p link : ByteArray) (hp : p.size = 8) (hl : link.size = 6) : (EU p link).size = 16 := by
  unfold EU
  rw [ByteArray.size_append, nums_size, List.length_append, bytesOf_length, hp, ByteArray.size_extract, hl]
  rfl
theorem EU_head (p link : ByteArray) (hp : p.size = 8) : (EU p link).extract 0 8 = p := ByteArray.extract_append_eq_left hp.symm
theorem group_ok (x : ByteArray) (hx : x.size = 16) (k : Nat) (hk : 10 ≤ k) : impl_GroupLink.f k ((⟨#[255, 2]⟩ : ByteArray) ++ x.extract 2 x.size) = some ((⟨#[51, 51]⟩ : ByteArray) ++ x.extract 12 x.size, 0) := by
  obtain ⟨k, rfl⟩ : ∃ m, k = m + 1 := ⟨k - 1, by omega⟩
  have e2 : (x.extract 2 x.size).size = 14 := by rw [ByteArray.size_extract, hx]; rfl
  obtain ⟨y, hy⟩ : ∃ y, y = x.extract 2 x.size := ⟨_, rfl⟩
  have es : ((⟨#[255, 2]⟩ : ByteArray) ++ x.extract 2 x.size).size = 16 := by rw [ByteArray.size_append, e2]; rfl
  have eb : bt ((⟨#[255, 2]⟩ : ByteArray) ++ x.extract 2 x.size) 0 = 255 := by
    unfold bt
    rw [dif_pos (by rw [es]; decide)]
    have := ByteArray.getElem_append_left (a := (⟨#[255, 2]⟩ : ByteArray)) (b := x.extract 2 x.size) (i := 0) (h := by rw [es]; decide) (by decide)
    simp only [Int.toNat_zero]
    rw [this]; rfl
  have ee : ((⟨#[255, 2]⟩ : ByteArray) ++ x.extract 2 x.size).extract 12 16 = x.extract 12 x.size := by
    have h1 : ((⟨#[255, 2]⟩ : ByteArray)).size = 2 := rfl
    have := ByteArray.extract_append_size_add' (a := (⟨#[255, 2]⟩ : ByteArray)) (b := x.extract 2 x.size) (i := 10) (j := 14) (k := 2) rfl
    refine this.trans ?_
    rw [ByteArray.extract_extract, hx]
    rfl
  generalize (⟨#[255, 2]⟩ : ByteArray) ++ x.extract 2 x.size = g at es eb ee ⊢
  unfold impl_GroupLink.f impl_isSix.f
  rw [long_no [g] (by simp) (by simp; omega) _ (by simp; omega), Option.bind_some, if_neg (by decide), Option.bind_some]
  have e1 : ((g.size : Int) == 16) = true := by rw [es]; rfl
  rw [e1, if_pos rfl, if_pos (by omega), eb]
  simp only [impl_GroupLink.j0]
  rw [if_pos (by decide), if_pos (by omega), if_pos (by rw [es, ee, ByteArray.size_extract, hx]; decide), es, ee]
theorem rdz {l : List S39} {i : Nat} (h : i < l.length) : rd_T39 l (i : Int) = l[i] := rd39 h
theorem last_l0 (s : ByteArray) (c : Int) (link : ByteArray) (A : List S39) (l2 : List ByteArray) (hG : PFnSources.Good link A l2) (hT : Told A s c) (d : Nat) : ∀ (i k : Nat), A.length = i + d → 2 * d + 1 < k → laws_FnSources.l0 k s c (i : Int) link A l2 = some true := by
  induction d with
  | zero =>
    intro i k hi hk
    obtain ⟨k, rfl⟩ : ∃ m, k = m + 1 := ⟨k - 1, by omega⟩
    simp only [laws_FnSources.l0]
    rw [if_neg (by omega)]
  | succ d ih =>
    intro i k hi hk
    obtain ⟨k, rfl⟩ : ∃ m, k = m + 2 := ⟨k - 2, by omega⟩
    have hi' : i < A.length := by omega
    have hE := hG.el _ (List.getElem_mem hi')
    have hn := hG.n1
    simp only [laws_FnSources.l0]
    rw [if_pos (show (i : Int) < A.length by omega), if_pos (show (0 : Int) ≤ i by omega), rd39 hi']
    have go : ∀ q : Bool, q = false → ((A[i]).f0.toList = s.toList → (A[i]).f1 ≠ 1) → laws_FnSources.j5 (k + 1) s c (i : Int) q link A l2 (A[i]).f0 (A[i]).f1 (A[i]).f2 (A[i]).f3 (A[i]).f4 = some true := by
      intro q hq hne
      subst hq
      simp only [laws_FnSources.j5]
      rw [if_neg (by decide), ww i (by omega), ih (i + 1) k (by omega) (by omega)]
      by_cases e : (A[i]).f0.toList = s.toList
      · rw [if_pos e, if_neg (hne e)]
      · rw [if_neg e]
    rcases hT with ⟨rfl, rfl, h1⟩ | ⟨rfl, j, hj, rfl, h1⟩
    · rw [if_neg (by decide)]
      refine go _ (by rw [h1 i hi']; rfl) fun e => ?_
      rw [ByteArray.toList_eq, ByteArray.toList_eq] at e
      have h0 := congrArg List.length e
      rw [data_length, hE.sz] at h0
      exact absurd h0 (by decide)
    · rw [if_pos rfl]
      refine go _ rfl fun e => ?_
      have hnd := hG.nd
      have : i = j := by
        have e1 : (nm A)[i]? = (nm A)[j]? := by simp [nm, hi', hj, e]
        exact List.getElem?_inj (by simpa [nm] using hi') hnd |>.1 e1
      subst this
      exact h1
theorem j2_ok (x : ByteArray) (hx : x.size = 16) (link : ByteArray) (A : List S39) (l2 : List ByteArray) (hG : PFnSources.Good link A l2) (k : Nat) (hk : 2000 ≤ k) : laws_FnSources.j2 k x link A l2 = some true := by
  obtain ⟨k, rfl⟩ : ∃ m, k = m + 2 := ⟨k - 2, by omega⟩
  obtain ⟨s, c, h1, h2, h3⟩ := sel_ok hG x hx (k + 1) (by omega)
  simp only [laws_FnSources.j2]
  rw [h1, Option.bind_some, h2, Option.bind_some, if_pos (by omega), if_pos (by rw [ByteArray.size_extract, hx]; decide), group_ok x hx (k + 1) (by omega), Option.bind_some]
  simp only [if_true]
  rw [if_pos (by omega), if_pos (by rw [ByteArray.size_extract, hx]; decide)]
  simp only [laws_FnSources.j3, bne_self_eq_false, Bool.false_eq_true, if_false]
  exact last_l0 s c link A l2 hG h3 A.length 0 k (by omega) (by have := hG.n1; omega)
theorem j1_ok {l1 : List Int} (hl : ∀ x ∈ l1, 0 ≤ x ∧ x ≤ 255) (x : ByteArray) (hx : x.size = 16) (link : ByteArray) (A : List S39) (l2 : List ByteArray) (hG : PFnSources.Good link A l2) (k : Nat) (hk : 2001 ≤ k) : laws_FnSources.j1 k l1 x false link A l2 = some true := by
  obtain ⟨k, rfl⟩ : ∃ m, k = m + 1 := ⟨k - 1, by omega⟩
  have at_ok : ∀ (i n : Int) (hi : 0 ≤ i) (hi2 : i ≤ 100000) (hn : 1 < n) (hn2 : n ≤ 1000000000), ∃ r, laws_at.f l1 i n = some r ∧ 0 ≤ r ∧ r < n := fun i n hi hi2 hn hn2 => choice l1 hl i n hi hi2 hn hn2
  obtain ⟨v, e, _, _⟩ := at_ok 0 2 (by omega) (by omega) (by omega) (by omega)
  simp only [laws_FnSources.j1]
  rw [if_neg (by decide), e, Option.bind_some]
  by_cases q : v = 0
  · rw [if_pos q]
    obtain ⟨v1, e1, _, _⟩ := at_ok 1 3 (by omega) (by omega) (by omega) (by omega)
    obtain ⟨v2, e2, _, _⟩ := at_ok 2 3 (by omega) (by omega) (by omega) (by omega)
    have en : (strOfNums [v1 % 256, v2 % 256]).size = 2 := by rw [nums_size]; rfl
    rw [e1, Option.bind_some, e2, Option.bind_some, Option.bind_some, if_pos (by rw [en]; decide), if_pos (by rw [ByteArray.size_append, en]; decide)]
    exact j2_ok _ (by rw [ByteArray.size_append, ByteArray.size_append, en]; rfl) link A l2 hG k (by omega)
  · rw [if_neg q]
    exact j2_ok x hx link A l2 hG k (by omega)
theorem FnSources : fnSources.Say := by
  intro l0 l1 ⟨m0, w0⟩ ⟨m1, w1⟩
  obtain ⟨K, hK⟩ : ∃ K : Nat, K = 100000 := ⟨_, rfl⟩
  refine ⟨K + 1, ?_⟩
  unfold laws_FnSources.f
  have t : laws_FnSources.j0 (K + 1) l0 l1 true = some true := by simp only [laws_FnSources.j0, if_true]
  by_cases c0 : (l0.length : Int) > 1048576
  · rw [if_pos c0, t]
  rw [if_neg c0]
  by_cases c1 : (l1.length : Int) > 1048576
  · rw [decide_eq_true c1, t]
  rw [decide_eq_false c1]
  simp only [laws_FnSources.j0]
  obtain ⟨link, el, hl⟩ := link_ok (bs w0) (by omega)
  obtain ⟨acts, ea, ha⟩ := acts_ok (bs w0) (by omega) link hl K (by omega)
  have hG := runA_good link hl acts
  have er : spec_AutoRun.f K link acts = some (link, (runA link acts).1, (runA link acts).2, [], 0) := by
    unfold spec_AutoRun.f; rw [if_pos ⟨hl, by omega⟩]
  generalize runA link acts = R at hG er
  obtain ⟨p, hp⟩ : ∃ p : ByteArray, p = (⟨#[254, 128, 0, 0, 0, 0, 0, 0]⟩ : ByteArray).extract 0 8 := ⟨_, rfl⟩
  have hp8 : p.size = 8 := by rw [hp]; rfl
  have eL : impl_LinkLocal.f K link = some (EU p link, 0) := by
    unfold impl_LinkLocal.f impl_isLink.f
    have e6 : ((link.size : Int) == 6) = true := by rw [hl]; rfl
    rw [long_no [link] (by simp) (by simp; omega) _ (by simp; omega), Option.bind_some, if_neg (by decide), Option.bind_some, e6, if_pos rfl, EU_ok _ _ (by decide) hl, Option.bind_some, hp]
  have hLs := EU_size p link hp8 hl
  have hLh := EU_head p link hp8
  generalize hL : EU p link = L at eL hLs hLh
  rw [if_neg (by decide), el, Option.bind_some, ea, Option.bind_some, er, Option.bind_some, eL, Option.bind_some]
  dsimp only
  have hm : mn (L.size : Int) 8 = 8 := by rw [hLs]; rfl
  have ex : L.extract 0 (8 : Int).toNat = p := hLh
  rw [hm, if_pos (by omega), if_pos (by omega), ex, if_pos (by rw [hp8]; decide)]
  have eE : impl_EuiAddr.f K (p ++ (⟨#[49, 50, 51, 52, 53, 54, 55, 56]⟩ : ByteArray)) link = some (L, 0) := by
    have es : (p ++ (⟨#[49, 50, 51, 52, 53, 54, 55, 56]⟩ : ByteArray)).size = 16 := by rw [ByteArray.size_append, hp8]; rfl
    have eh : (p ++ (⟨#[49, 50, 51, 52, 53, 54, 55, 56]⟩ : ByteArray)).extract 0 8 = p := ByteArray.extract_append_eq_left hp8.symm
    generalize p ++ (⟨#[49, 50, 51, 52, 53, 54, 55, 56]⟩ : ByteArray) = g at es eh
    unfold impl_EuiAddr.f impl_isLink.f impl_isSix.f
    have e6 : ((link.size : Int) == 6) = true := by rw [hl]; rfl
    have e16 : ((g.size : Int) == 16) = true := by rw [es]; rfl
    rw [long_no [g, link] (by simp) (by simp; omega) _ (by simp; omega), Option.bind_some, if_neg (by decide), Option.bind_some, e16, if_pos rfl, Option.bind_some, e6, if_pos rfl, EU_ok _ _ (by omega) hl, Option.bind_some, eh, hL]
  rw [eE, Option.bind_some]
  simp only [if_true]
  have e16 : ((L.size : Int) != 16) = false := by rw [hLs]; rfl
  rw [e16]
  exact j1_ok (bs w1) L hLs link R.1 R.2 hG K (by omega)
end Go.Proofs.Ytnpbnmhbajiefaa.Pure
namespace Go.Proofs.Ytnpbnmhbajiefaa
/-- The row. -/
theorem fnSources_holds : Rows.FnSourcesSaid := fnSources.row_of Pure.FnSources
end Go.Proofs.Ytnpbnmhbajiefaa
