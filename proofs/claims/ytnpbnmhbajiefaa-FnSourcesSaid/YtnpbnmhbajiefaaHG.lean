/- What spec.l14Step makes of a right state is a right state, plainly. -/
import Derived.Test.YtnpbnmhbajiefaaHT
namespace Go.Proofs.Ytnpbnmhbajiefaa.PFnSources
open Go.RowKit Go.Proofs.YtnpbnmhbajiefaaW.PrintWords Go.Proofs.YtnpbnmhbajiefaaW.PrintLast Go.Proofs.YtnpbnmhbajiefaaW.PrintMore
set_option linter.unusedVariables false
def nm (l : List S39) : List (List UInt8) := l.map (fun x => x.f0.toList)
def ky (l : List ByteArray) : List (List UInt8) := l.map ByteArray.toList
structure Eok (y : S39) : Prop where
 sz : y.f0.size = 16
 st : 1 ≤ y.f1 ∧ y.f1 ≤ 3
 va : 1 ≤ y.f3 ∧ y.f3 ≤ 100000
 pr : 0 ≤ y.f4 ∧ y.f4 ≤ y.f3
 l1 : y.f1 = 1 → 1 ≤ y.f2 ∧ y.f2 ≤ 3
 l0 : y.f1 ≠ 1 → y.f2 = 0
 p2 : y.f1 = 2 → 0 < y.f4
 p3 : y.f1 = 3 → y.f4 = 0
structure Good (link : ByteArray) (l1 : List S39) (l2 : List ByteArray) : Prop where
 ln : link.size = 6
 n1 : l1.length ≤ 6
 n2 : l2.length ≤ 6
 el : ∀ y ∈ l1, Eok y
 nb : ∀ y ∈ l1, y.f0.toList ∉ ky l2
 nd : (nm l1).Nodup
 b16 : ∀ b ∈ l2, b.size = 16
 bd : (ky l2).Nodup
theorem txF_iff (a : ByteArray) : ∀ l : List ByteArray, txF a l = true ↔ a.toList ∈ ky l
 | [] => by simp [txF, ky]
 | y :: r => by
  have ih := txF_iff a r
  unfold txF
  by_cases h : y.toList = a.toList
  ·
   rw [if_pos h]; simp [ky, h]
  ·
   rw [if_neg h, ih]; simp [ky]; exact fun e => absurd e.symm h
theorem fxF_or (a : ByteArray) : ∀ (l : List S39) (i : Nat), (fxF a l i = -1 ∧ a.toList ∉ nm l) ∨ (∃ T, T < l.length ∧ fxF a l i = ((i + T : Nat) : Int) ∧ (l.getD T z39).f0.toList = a.toList)
 | [], i => .inl ⟨rfl, by simp [nm]⟩
 | y :: r, i => by
  unfold fxF
  by_cases h : y.f0.toList = a.toList
  ·
   rw [if_pos h]; exact .inr ⟨0, by simp, by simp, by simpa using h⟩
  ·
   rw [if_neg h]
   rcases fxF_or a r (i + 1) with ⟨h1, h2⟩ | ⟨T, h1, h2, h3⟩
   ·
    exact .inl ⟨h1, by simp [nm] at h2 ⊢; exact ⟨fun e => h e.symm, h2⟩⟩
   ·
    exact .inr ⟨T + 1, by simp; omega, by rw [h2]; omega, by simpa using h3⟩
def eui (p link : ByteArray) : ByteArray := (spec_l14Eui.f p link).getD ⟨#[]⟩
theorem eui_f (p link : ByteArray) (hp : p.size = 16) (hl : link.size = 6) : spec_l14Eui.f p link = some (eui p link) ∧ (eui p link).size = 16 := by
 have key : ∃ r, spec_l14Eui.f p link = some r ∧ r.size = 16 := by
  unfold spec_l14Eui.f
  have e1 : (p.extract 0 8).size = 8 := by simp [hp]
  have e2 : (link.extract 1 3).size = 2 := by simp [hl]
  have e3 : (link.extract 3 link.size).size = 3 := by simp [hl]
  have e4 : (⟨#[255, 254]⟩ : ByteArray).size = 2 := rfl
  simp only [Option.bind_some, ByteArray.size_append, nums_size, List.length_cons, List.length_nil, e1, e2, e3, e4]
  rw [if_pos (by omega), if_pos (by omega), if_pos (by omega), if_pos (by omega), if_pos (by omega), if_pos (by omega), if_pos (by omega), if_pos (by omega), if_pos (by omega)]
  exact ⟨_, rfl, by simp only [ByteArray.size_append, nums_size, List.length_cons, List.length_nil, e1, e2, e3, e4]⟩
 obtain ⟨r, h1, h2⟩ := key
 unfold eui
 rw [h1]
 exact ⟨rfl, h2⟩
def rmA (l : List S39) (T : Nat) : List S39 := l.take T ++ l.drop (T + 1)
def prefixA (link : ByteArray) (l1 : List S39) (l2 : List ByteArray) (x : S58) : List S39 × List ByteArray :=
 if txF (eui x.f2 link) l2 = true then (l1, l2)
 else if fxF (eui x.f2 link) l1 0 < 0 then (if x.f4 = 0 then (l1, l2) else if l1.length = 6 then (l1, l2) else (l1 ++ [⟨eui x.f2 link, 1, 3, x.f4, x.f5⟩], l2))
 else (l1.set (fxF (eui x.f2 link) l1 0).toNat (updA x (l1.getD (fxF (eui x.f2 link) l1 0).toNat z39)), l2)
def tickN : Nat → List S39 → List S39
 | 0, l => l
 | n + 1, l => tickA (tickN n l)
def heardA (l1 : List S39) (l2 : List ByteArray) (a : ByteArray) : List S39 × List ByteArray :=
 if fxF a l1 0 < 0 then (l1, l2) else if (l1.getD (fxF a l1 0).toNat z39).f1 = 1 then (rmA l1 (fxF a l1 0).toNat, if l2.length < 6 then l2 ++ [a] else l2) else (l1, l2)
def dropA (l1 : List S39) (a : ByteArray) : List S39 := if fxF a l1 0 < 0 then l1 else rmA l1 (fxF a l1 0).toNat
def stepA (link : ByteArray) (l1 : List S39) (l2 : List ByteArray) (x : S58) : List S39 × List ByteArray :=
 if x.f0 = 1 then (if x.f2.size = 16 ∧ (0 ≤ x.f4 ∧ x.f4 ≤ 100000) ∧ (0 ≤ x.f5 ∧ x.f5 ≤ x.f4) then prefixA link l1 l2 x else (l1, l2))
 else if x.f0 = 2 then (if 0 ≤ x.f1 ∧ x.f1 ≤ 1000 then (tickN x.f1.toNat l1, l2) else (l1, l2))
 else if x.f0 = 3 then (if x.f3.size = 16 then heardA l1 l2 x.f3 else (l1, l2))
 else if x.f0 = 4 then (dropA l1 x.f3, l2)
 else (l1, l2)
theorem Eok.upd {x : S58} {y : S39} (h : Eok y) (h4 : 0 ≤ x.f4 ∧ x.f4 ≤ 100000) (h5 : 0 ≤ x.f5 ∧ x.f5 ≤ x.f4) : Eok (updA x y) ∧ (updA x y).f0 = y.f0 := by
 obtain ⟨h0, h1, h2, h3, h6, h7, h8, h9⟩ := h
 unfold updA
 dsimp only
 generalize hv : (if 7200 < x.f4 ∨ y.f3 < x.f4 then x.f4 else if 7200 < y.f3 then 7200 else y.f3) = v
 have hv1 : 1 ≤ v ∧ v ≤ 100000 := by
  rw [← hv]
  split
  ·
   omega
  ·
   split <;> omega
 generalize hp : min x.f5 v = p
 by_cases c : y.f1 = 1
 ·
  rw [if_pos c]; exact ⟨⟨h0, h1, hv1, by dsimp only; omega, h6, h7, fun e => by have e' : y.f1 = 2 := e; omega, fun e => by have e' : y.f1 = 3 := e; omega⟩, rfl⟩
 ·
  rw [if_neg c]
  by_cases q : p = 0
  ·
   rw [if_pos q]; exact ⟨⟨h0, by dsimp only; omega, hv1, by dsimp only; omega, fun e => by simp at e, fun _ => h7 c, fun e => by simp at e, fun _ => q⟩, rfl⟩
  ·
   rw [if_neg q]; exact ⟨⟨h0, by dsimp only; omega, hv1, by dsimp only; omega, fun e => by simp at e, fun _ => h7 c, fun _ => by dsimp only; omega, fun e => by simp at e⟩, rfl⟩
theorem Eok.tick {y : S39} (h : Eok y) (hn : y.f3 - 1 ≠ 0) : Eok (tickE y) ∧ (tickE y).f0 = y.f0 := by
 obtain ⟨h0, h1, h2, h3, h6, h7, h8, h9⟩ := h
 unfold tickE
 dsimp only
 generalize hp : (if 1 < y.f4 then y.f4 - 1 else 0) = p
 have hp1 : 0 ≤ p ∧ p ≤ y.f3 - 1 ∧ (p = 0 ∨ 0 < p) := by
  rw [← hp]
  split <;> omega
 generalize hl : (if y.f1 = 1 then y.f2 - 1 else y.f2) = l
 by_cases c : l = 0
 ·
  rw [if_pos c]
  by_cases q : p = 0
  ·
   rw [if_pos q]; exact ⟨⟨h0, by dsimp only; omega, by dsimp only; omega, by dsimp only; omega, fun e => by simp at e, fun _ => c, fun e => by simp at e, fun _ => q⟩, rfl⟩
  ·
   rw [if_neg q]; exact ⟨⟨h0, by dsimp only; omega, by dsimp only; omega, by dsimp only; omega, fun e => by simp at e, fun _ => c, fun _ => by dsimp only; omega, fun e => by simp at e⟩, rfl⟩
 ·
  rw [if_neg c]
  have c1 : y.f1 = 1 := by
   by_cases q : y.f1 = 1
   ·
    exact q
   ·
    rw [if_neg q] at hl; exact absurd (by rw [← hl]; exact h7 q) c
  rw [if_pos c1] at hl
  have := h6 c1
  exact ⟨⟨h0, h1, by dsimp only; omega, by dsimp only; omega, fun _ => by dsimp only; omega, fun e => absurd c1 e, fun e => by have e' : y.f1 = 2 := e; omega, fun e => by have e' : y.f1 = 3 := e; omega⟩, rfl⟩
theorem nm_set (l : List S39) (T : Nat) (y : S39) (h : y.f0 = (l.getD T z39).f0) : nm (l.set T y) = nm l := by
 unfold nm
 rw [List.map_set]
 by_cases c : T < l.length
 ·
  have e : y.f0.toList = (l.map (fun x => x.f0.toList))[T]'(by simpa using c) := by
   rw [h]; simp [List.getD_eq_getElem?_getD, c]
  rw [e, List.set_getElem_self]
 ·
  rw [List.set_eq_of_length_le (by simp; omega)]
theorem mem_set {l : List S39} {T : Nat} {y z : S39} (h : z ∈ l.set T y) : z = y ∨ z ∈ l := (List.mem_or_eq_of_mem_set h).symm
theorem rm_sub (l : List S39) (T : Nat) : (rmA l T).Sublist l := by
 unfold rmA
 rw [← List.eraseIdx_eq_take_drop_succ]
 exact List.eraseIdx_sublist ..
theorem nm_sub {a b : List S39} (h : a.Sublist b) : (nm a).Sublist (nm b) := h.map _
theorem tick_sub : ∀ l : List S39, (∀ y ∈ l, Eok y) → (nm (tickA l)).Sublist (nm l) ∧ ∀ z ∈ tickA l, Eok z ∧ ∃ y ∈ l, z.f0 = y.f0
 | [], _ => ⟨List.Sublist.refl _, fun z h => by simp [tickA] at h⟩
 | y :: r, h => by
  obtain ⟨h1, h2⟩ := tick_sub r (fun z hz => h z (by simp [hz]))
  unfold tickA
  by_cases c : y.f3 - 1 = 0
  ·
   rw [if_pos c]
   exact ⟨h1.trans (List.sublist_cons_self ..), fun z hz => ⟨(h2 z hz).1, (h2 z hz).2.elim fun q hq => ⟨q, by simp [hq.1], hq.2⟩⟩⟩
  ·
   rw [if_neg c]
   obtain ⟨e1, e2⟩ := (h y (by simp)).tick c
   refine ⟨?_, fun z hz => ?_⟩
   ·
    show (List.Sublist ((tickE y).f0.toList :: nm (tickA r)) (y.f0.toList :: nm r))
    rw [e2]; exact h1.cons_cons _
   ·
    rcases List.mem_cons.1 hz with rfl | hz
    ·
     exact ⟨e1, y, by simp, e2⟩
    ·
     exact ⟨(h2 z hz).1, (h2 z hz).2.elim fun q hq => ⟨q, by simp [hq.1], hq.2⟩⟩
variable {link : ByteArray} {l1 : List S39} {l2 : List ByteArray}
theorem Good.tick (h : Good link l1 l2) : Good link (tickA l1) l2 := by
 obtain ⟨s1, s2⟩ := tick_sub l1 h.el
 exact ⟨h.ln, Nat.le_trans (tickA_len l1) h.n1, h.n2, fun z hz => (s2 z hz).1, fun z hz => by
  obtain ⟨-, y, hy, e⟩ := s2 z hz
  rw [e]; exact h.nb y hy, h.nd.sublist s1, h.b16, h.bd⟩
theorem Good.ticks (h : Good link l1 l2) : ∀ n, Good link (tickN n l1) l2
 | 0 => h
 | n + 1 => (Good.ticks h n).tick
theorem Good.rm (h : Good link l1 l2) (T : Nat) : Good link (rmA l1 T) l2 :=
 ⟨h.ln, Nat.le_trans (rm_sub l1 T).length_le h.n1, h.n2, fun z hz => h.el z ((rm_sub l1 T).subset hz), fun z hz => h.nb z ((rm_sub l1 T).subset hz), h.nd.sublist (nm_sub (rm_sub l1 T)), h.b16, h.bd⟩
theorem rm_not {l : List S39} (hn : (nm l).Nodup) {T : Nat} (hT : T < l.length) : ∀ z ∈ rmA l T, z.f0.toList ≠ (l.getD T z39).f0.toList := by
 intro z hz e
 have hg : l.getD T z39 = l[T] := by simp [List.getD_eq_getElem?_getD, hT]
 rw [hg] at e
 have hs : nm l = nm (l.take T) ++ (l[T].f0.toList :: nm (l.drop (T + 1))) := by
  have hl : l = l.take T ++ l[T] :: l.drop (T + 1) := by rw [← List.drop_eq_getElem_cons hT, List.take_append_drop]
  exact (congrArg nm hl).trans (by simp only [nm, List.map_append, List.map_cons])
 rw [hs, List.nodup_append] at hn
 obtain ⟨_, h2, h3⟩ := hn
 rw [List.nodup_cons] at h2
 rcases List.mem_append.1 hz with q | q
 ·
  exact h3 _ (List.mem_map.2 ⟨z, q, rfl⟩) _ (by simp) e
 ·
  exact h2.1 (by rw [← e]; exact List.mem_map.2 ⟨z, q, rfl⟩)
theorem Good.heard (h : Good link l1 l2) (a : ByteArray) (ha : a.size = 16) : Good link (heardA l1 l2 a).1 (heardA l1 l2 a).2 := by
 unfold heardA
 rcases fxF_or a l1 0 with ⟨e, _⟩ | ⟨T, hT, e, hk⟩
 ·
  rw [if_pos (by omega)]; exact h
 ·
  rw [if_neg (by omega)]
  have e' : (fxF a l1 0).toNat = T := by omega
  rw [e']
  split
  ·
   have hr := h.rm T
   by_cases c : l2.length < 6
   ·
    rw [if_pos c]
    have hin : l1.getD T z39 ∈ l1 := by rw [List.getD_eq_getElem?_getD, List.getElem?_eq_getElem hT]; exact List.getElem_mem hT
    refine ⟨hr.ln, hr.n1, by rw [List.length_append]; simp; omega, hr.el, fun z hz => ?_, hr.nd, fun b hb => ?_, ?_⟩
    ·
     simp only [ky, List.map_append, List.map_cons, List.map_nil, List.mem_append, List.mem_singleton, not_or]
     exact ⟨hr.nb z hz, by rw [← hk]; exact rm_not h.nd hT z hz⟩
    ·
     rcases List.mem_append.1 hb with q | q
     ·
      exact h.b16 b q
     ·
      rw [List.mem_singleton.1 q]; exact ha
    ·
     simp only [ky, List.map_append, List.map_cons, List.map_nil]
     rw [List.nodup_append]
     refine ⟨h.bd, by simp, fun p hp q hq => ?_⟩
     rw [List.mem_singleton.1 hq]
     intro e2
     exact h.nb _ hin (by rw [hk, ← e2]; exact hp)
   ·
    rw [if_neg c]; exact hr
  ·
   exact h
theorem Good.drop (h : Good link l1 l2) (a : ByteArray) : Good link (dropA l1 a) l2 := by
 unfold dropA
 split
 ·
  exact h
 ·
  exact h.rm _
theorem Good.pre (h : Good link l1 l2) (x : S58) (h2 : x.f2.size = 16) (h4 : 0 ≤ x.f4 ∧ x.f4 ≤ 100000) (h5 : 0 ≤ x.f5 ∧ x.f5 ≤ x.f4) : Good link (prefixA link l1 l2 x).1 (prefixA link l1 l2 x).2 := by
 unfold prefixA
 obtain ⟨_, hs⟩ := eui_f x.f2 link h2 h.ln
 generalize eui x.f2 link = a at hs ⊢
 by_cases c : txF a l2 = true
 ·
  rw [if_pos c]; exact h
 ·
  rw [if_neg c]
  rw [txF_iff] at c
  rcases fxF_or a l1 0 with ⟨e, hn⟩ | ⟨T, hT, e, hk⟩
  ·
   rw [if_pos (by omega)]
   split
   ·
    exact h
   ·
    split
    ·
     exact h
    ·
     rename_i q1 q2
     refine ⟨h.ln, by have := h.n1; rw [List.length_append]; simp; omega, h.n2, fun z hz => ?_, fun z hz => ?_, ?_, h.b16, h.bd⟩
     ·
      rcases List.mem_append.1 hz with q | q
      ·
       exact h.el z q
      ·
       rw [List.mem_singleton.1 q]; exact ⟨hs, by simp, by dsimp only; omega, h5, fun _ => by simp, fun e => by simp at e, fun e => by simp at e, fun e => by simp at e⟩
     ·
      rcases List.mem_append.1 hz with q | q
      ·
       exact h.nb z q
      ·
       rw [List.mem_singleton.1 q]; exact c
     ·
      simp only [nm, List.map_append, List.map_cons, List.map_nil]
      rw [List.nodup_append]
      exact ⟨h.nd, by simp, fun p hp q hq => by rw [List.mem_singleton.1 hq]; intro e2; exact hn (by rw [← e2]; exact hp)⟩
  ·
   rw [if_neg (by omega)]
   have e' : (fxF a l1 0).toNat = T := by omega
   rw [e']
   have hin : l1.getD T z39 ∈ l1 := by rw [List.getD_eq_getElem?_getD, List.getElem?_eq_getElem hT]; exact List.getElem_mem hT
   obtain ⟨q1, q2⟩ := (h.el _ hin).upd h4 h5
   refine ⟨h.ln, by rw [List.length_set]; exact h.n1, h.n2, fun z hz => ?_, fun z hz => ?_, by rw [nm_set _ _ _ q2]; exact h.nd, h.b16, h.bd⟩
   ·
    rcases mem_set hz with rfl | q
    ·
     exact q1
    ·
     exact h.el z q
   ·
    rcases mem_set hz with rfl | q
    ·
     rw [q2]; exact h.nb _ hin
    ·
     exact h.nb z q
theorem Good.step (h : Good link l1 l2) (x : S58) : Good link (stepA link l1 l2 x).1 (stepA link l1 l2 x).2 := by
 unfold stepA
 split
 ·
  split
  ·
   rename_i _ q; exact h.pre x q.1 q.2.1 q.2.2
  ·
   exact h
 ·
  split
  ·
   split
   ·
    exact h.ticks _
   ·
    exact h
  ·
   split
   ·
    split
    ·
     rename_i _ _ _ q; exact h.heard _ q
    ·
     exact h
   ·
    split
    ·
     exact h.drop _
    ·
     exact h
end Go.Proofs.Ytnpbnmhbajiefaa.PFnSources
