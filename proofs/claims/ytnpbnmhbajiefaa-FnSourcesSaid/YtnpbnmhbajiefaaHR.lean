/- spec.AutoRun, by hand: what it makes of right acts is a right state; what it tells of each act is not looked into. -/
import Derived.Test.YtnpbnmhbajiefaaHU
namespace Go.Proofs.Ytnpbnmhbajiefaa.PFnSources
open Go.RowKit Go.Proofs.YtnpbnmhbajiefaaW.PrintWords Go.Proofs.YtnpbnmhbajiefaaW.PrintLast Go.Proofs.YtnpbnmhbajiefaaW.PrintMore
set_option linter.unusedVariables false
set_option linter.unusedSimpArgs false
/-- Five cells, whatever they hold. -/
def kV : Kd (List Value) where
 sz := 5
 E := []
 K := fun _ x cs => cs = x ∧ x.length = 5 ∧ ∀ u ∈ x, u.oneCell' = true
 M := fun _ _ _ x cs => cs = x ∧ x.length = 5 ∧ ∀ u ∈ x, u.oneCell' = true
 K_len := fun h => by rw [h.1]; exact h.2.1
 K_one := fun h u hu => by rw [h.1] at hu; exact h.2.2 u hu
 K_below := fun _ h => h
 K_of_M := fun h => h
 M_mono := fun _ h => h
 M_bound := fun h => h
 M_move := fun _ h => h
 M_lower := fun _ h => h
theorem eV : ∀ q, q ∈ (54 : Nat) :: kV.E → q = 54 := by
 intro q hq
 simpa [kV] using hq
theorem info54 : (Try.prog.info? 54).map (fun i => (i.zero, i.size, i.bytes)) = some (some (.agg #[(.int .i64 0), (.slice none 0 0), (.slice none 0 0), (.slice none 0 0), (.slice none 0 0)]), 5, 104) := by kernel_rfl
def loc (link : ByteArray) : ByteArray := (spec_l14Local.f link).getD ⟨#[]⟩
theorem local_f (link : ByteArray) (hl : link.size = 6) : spec_l14Local.f link = some (loc link) ∧ (loc link).size = 16 := by
 have key : ∃ r, spec_l14Local.f link = some r ∧ r.size = 16 := by
  unfold spec_l14Local.f
  have e1 : (⟨#[254, 128]⟩ : ByteArray).size = 2 := rfl
  simp only [Option.bind_some, nums_size, List.length_replicate]
  rw [if_pos (by omega), if_pos (by omega)]
  obtain ⟨h1, h2⟩ := eui_f ((⟨#[254, 128]⟩ : ByteArray) ++ strOfNums (List.replicate 14 0)) link (by rw [ByteArray.size_append, nums_size, List.length_replicate, e1]) hl
  rw [h1]
  exact ⟨_, rfl, h2⟩
 obtain ⟨r, h1, h2⟩ := key
 unfold loc
 rw [h1]
 exact ⟨rfl, h2⟩
def new1 (link : ByteArray) : List S39 := [⟨loc link, 1, 3, 100000, 100000⟩]
theorem new_f (link : ByteArray) (hl : link.size = 6) : spec_l14New.f link = some (link, new1 link, []) ∧ Good link (new1 link) [] := by
 obtain ⟨h1, h2⟩ := local_f link hl
 refine ⟨by unfold spec_l14New.f; rw [h1]; rfl, ⟨hl, by simp [new1], by simp, fun y hy => ?_, fun y hy => by simp [ky], by simp [new1, nm], fun b hb => by simp at hb, by simp [ky]⟩⟩
 rw [new1, List.mem_singleton] at hy
 subst hy
 exact ⟨h2, by simp, by simp, by simp, fun _ => by simp, fun e => by simp at e, fun e => by simp at e, fun e => by simp at e⟩
def runA (link : ByteArray) (acts : List S58) : List S39 × List ByteArray := acts.foldl (fun a x => stepA link a.1 a.2 x) (new1 link, [])
theorem runA_take (link : ByteArray) (acts : List S58) (i : Nat) (h : i < acts.length) : runA link (acts.take (i + 1)) = stepA link (runA link (acts.take i)).1 (runA link (acts.take i)).2 (acts.getD i z58) := by
 unfold runA
 rw [List.take_succ_eq_append_getElem h, List.foldl_append, List.getD_eq_getElem?_getD, List.getElem?_eq_getElem h]
 rfl
theorem runA_good (link : ByteArray) (hl : link.size = 6) (acts : List S58) : Good link (runA link acts).1 (runA link acts).2 := by
 have key : ∀ (acts : List S58) (a : List S39 × List ByteArray), Good link a.1 a.2 → Good link (acts.foldl (fun a x => stepA link a.1 a.2 x) a).1 (acts.foldl (fun a x => stepA link a.1 a.2 x) a).2 := by
  intro acts
  induction acts with
  | nil => exact fun a h => h
  | cons x r ih => exact fun a h => ih _ (h.step x)
 exact key acts _ (new_f link hl).2
/-- What the loop of AutoRun keeps. -/
structure RI (w W : World) (g0 g1 : Nat) (link : ByteArray) (u1 u2 o : Value) (L1 : List S39) (L2 : List ByteArray) (xs : List (List Value)) : Prop where
 hx : HS w W (fun _ => False) [(g1, #[.string link, u1, u2], 27), (g0, #[.string ⟨#[]⟩, .slice none 0 0, .slice none 0 0], 27)]
 ha : AR W (fun _ => True) u1 L1
 hq : SR W (fun _ => True) u2 L2
 ho : Kd.R kV 54 W 0 (fun _ => True) o xs
 ob : ∀ k, o.ownBlock = some k → w.heap.size ≤ k
 gd : Good link L1 L2
section
variable {w W W1 : World} {g0 g1 g2 : Nat} {link : ByteArray} {u1 u2 o v1 v2 : Value} {L1 K1 : List S39} {L2 K2 : List ByteArray} {xs ys : List (List Value)}
theorem RI.below (h : RI w W g0 g1 link u1 u2 o L1 L2 xs) (hb : Below W.heap.size W W1) : RI w W1 g0 g1 link u1 u2 o L1 L2 xs := ⟨h.hx.below hb, Kd.R_below h.ha hb, Kd.R_below h.hq hb, Kd.R_below h.ho hb, h.ob, h.gd⟩
theorem RI.next (h : RI w W g0 g1 link u1 u2 o L1 L2 xs) (h1 : AR W (fun _ => True) v1 K1) (h2 : SR W (fun _ => True) v2 K2) (hg : Good link K1 K2) : RI w (((W.setCell ⟨g1, 0, none⟩ (.string link)).setCell ⟨g1, 1, none⟩ v1).setCell ⟨g1, 2, none⟩ v2) g0 g1 link v1 v2 o K1 K2 xs := by
 have s1 := h.hx.set (P := []) 0 (.string link) rfl
 have s2 := s1.set (P := []) 1 v1 rfl
 have s3 := s2.set (P := []) 2 v2 rfl
 have q0 := h.hx.at 0 rfl
 have q1 := s1.at 0 rfl
 have q2 := s2.at 0 rfl
 have tv : ∀ q, q ∈ (54 : Nat) :: kV.E → q ≠ 27 := fun q hq => by rw [eV q hq]; decide
 exact ⟨s3, Kd.R_set (Kd.R_set (Kd.R_set h1 q0 (t39 (by decide)) 0 _) q1 (t39 (by decide)) 1 _) q2 (t39 (by decide)) 2 _, Kd.R_set (Kd.R_set (Kd.R_set h2 q0 (t9 (by decide)) 0 _) q1 (t9 (by decide)) 1 _) q2 (t9 (by decide)) 2 _, Kd.R_set (Kd.R_set (Kd.R_set h.ho q0 tv 0 _) q1 tv 1 _) q2 tv 2 _, h.ob, hg⟩
theorem RI.told (h : RI w W g0 g1 link u1 u2 o L1 L2 xs) (ho : Kd.R kV 54 W1 0 (fun _ => True) v1 ys) (hg : W.grownBy W1 o.ownBlock) (hat : v1.ownBlock = o.ownBlock ∨ ∃ b, v1.ownBlock = some b ∧ W.heap.size ≤ b) : RI w W1 g0 g1 link u1 u2 v1 L1 L2 ys :=
 ⟨h.hx.app h.ho (by simp only [List.mem_cons, List.not_mem_nil, or_false]; rintro p (rfl | rfl) <;> simp) hg (fun k hk => .inr (h.ob k hk)), Kd.R_over h.ha h.ho (fun q hq => by rw [e39 q hq]; decide) hg, Kd.R_over h.hq h.ho (fun q hq => by rw [e9 q hq]; decide) hg, ho, fun k hk => by
  have hl := h.hx.kept.1
  rcases hat with e | ⟨b, e, hl'⟩
  ·
   exact h.ob k (by rw [← e]; exact hk)
  ·
   rw [e] at hk; cases hk; omega, h.gd⟩
end
def spec_AutoRun.T12 : Bool × List (List Nat × List Nat) := (true, [([], []), ([], []), ([], []), ([1, 2], [1, 2]), ([3], [3]), ([0, 4], [0, 4]), ([5], [5]), ([6], [6]), ([6], [6]), ([], []), ([], []), ([9, 7, 5, 0, 1, 2, 3, 4, 5, 6, 7, 9, 10], [7, 9]), ([10, 8, 11, 0, 1, 2, 3, 4, 5, 6, 7, 8, 9, 10, 11], [8, 10])])
def spec_AutoRun.B12 : List Nat := [0, 0, 0, 6, 14, 31, 63, 127, 127, 0, 0, 1791, 4095]
theorem spec_AutoRun.tab12 : rtab .any (opsOf Try.f6 12) = spec_AutoRun.T12 := by kernel_rfl
theorem spec_AutoRun.bits12 : waitsOk spec_AutoRun.T12.2 spec_AutoRun.B12 = true := by kernel_rfl
set_option maxHeartbeats 8000000 in
set_option maxRecDepth 100000 in
theorem run_calls (link : ByteArray) (A1 : Option Addr) (c1 : Nat) (l1 : List S58) (w : World) (hl : link.size = 6) (hn : l1.length ≤ 300) (hr1 : Kd.C k58 w A1 l1.length l1) (hc1 : l1.length ≤ c1) :
  Calls Try.prog 6 #[.string link, .slice A1 l1.length c1] w fun e w' => ∃ v1_ v2_ v3_ : Value, e = .returned (.tuple #[.agg #[.string link, v1_, v2_], v3_, .int .i64 0]) ∧ Kd.R k39 39 w' w.heap.size (fun _ => True) v1_ (runA link l1).1 ∧ Kd.R Kd.string 9 w' w.heap.size (fun _ => True) v2_ (runA link l1).2 ∧ True ∧ Below w.heap.size w w' := by
 have hu27 := Try.underlying27
 have hu54 := Try.underlying54
 have hu58 := Try.underlying58
 have HL := Aside0.mk (And.intro hl hn)
 have HC := Aside0.mk hr1
 have HC1 := Aside0.mk hc1
 clear hl hn hr1 hc1
 obtain ⟨hn_, hg_⟩ := new_f link HL.out.1
 have HN := Aside0.mk hn_
 have HG := Aside0.mk hg_
 clear hn_ hg_
 have t1 : decide ((l1.length : Int) > 4096) = false := decide_eq_false (by have := HL.out.2; omega)
 have t2 : ((link.size : Int) != 6) = false := by simp; have := HL.out.1; omega
 have t3 : decide ((l1.length : Int) > 300) = false := decide_eq_false (by have := HL.out.2; omega)
 have t4 : decide (4096 < l1.length) = false := decide_eq_false (by have := HL.out.2; omega)
 have t5 : decide (300 < l1.length) = false := decide_eq_false (by have := HL.out.2; omega)
 go_enter Try.func6, Try.ntmps6
 go_upto_region 7 with (fail)
 clear t1 t2 t3 t4 t5
 refine at_world (fun W hW => ?_)
 have hb := below_alloc (Below.refl w.heap.size w) (Obj.cells #[.string ⟨#[]⟩, .slice none 0 0, .slice none 0 0] 27)
 rw [← hW] at hb
 obtain ⟨g0, e0⟩ : ∃ g, g = w.heap.size := ⟨_, rfl⟩
 have HX := Aside0.mk ((HS.start w (fun _ => False)).add (g := g0) (t := 27) (cs := #[.string ⟨#[]⟩, .slice none 0 0, .slice none 0 0]) hb (by rw [hW, e0]; exact blk_new _ _) (by omega))
 simp only [← e0]
 clear hb hW e0
 go_upto_region 8 with (go_at_call 21; (with_reducible refine (spec_l14New.calls link link (new1 link) [] _ HN.out).mono ?_); rintro e w1 ⟨y1, y2, rfl, hy1, hy2, hb⟩; obtain ⟨U1, k1, rfl⟩ := Kd.R_slice hy1; obtain ⟨U2, k2, rfl⟩ := Kd.R_slice hy2; have n0_ := Aside0.mk (HX.out.below hb); have HA := Aside0.mk (Kd.R_lower hy1 (Nat.zero_le _)); have HQ := Aside0.mk (Kd.R_lower hy2 (Nat.zero_le _)); clear HX hb hy1 hy2; have HX := n0_; clear n0_)
 refine at_world (fun W2 hW => ?_)
 have hb := below_alloc (Below.refl w1.heap.size w1) (Obj.cells #[.string link, .slice U1 (new1 link).length k1, .slice U2 0 k2] 27)
 rw [← hW] at hb
 obtain ⟨g1, e1⟩ : ∃ g, g = w1.heap.size := ⟨_, rfl⟩
 have n0_ := Aside0.mk (HX.out.add (g := g1) (t := 27) (cs := #[.string link, .slice U1 (new1 link).length k1, .slice U2 ([] : List ByteArray).length k2]) hb (by rw [hW, e1]; exact blk_new _ _) (by omega)); have n1_ := Aside0.mk (Kd.R_below HA.out hb); have n2_ := Aside0.mk (Kd.R_below HQ.out hb); simp only [← e1]; clear HX HA HQ hb hW e1; have HX := n0_; have HA := n1_; have HQ := n2_; clear n0_ n1_ n2_
 go_wp2_with ((with_reducible refine gate_dst (N := 29) rfl ?_); refine Kd.R_lit kV (w0 := W2) 0 54 ?hg (N := 29) ?hd (xs := ([] : List (List Value))) (inner := []) (ok := fun _ => True) (okp := fun _ => True) ?hr ?hp (fun _ hk => hk) trivial (Below.refl _ _) (Nat.zero_le _) (by simp) ?_; (case hd => rfl); (case hg => rfl); (case hr => (go_simp; done)); (case hp => exact (Reps.none _ _)); intro o1 w2 ho hb0 hgr hnew; have hb : Below W2.heap.size W2 w2 := ⟨hgr.os, hgr.tape, hgr.output, hgr.size, fun k hk => hgr.block k hk (by simp)⟩; obtain ⟨O1, co, rfl⟩ := Kd.R_slice ho; have HOB := Aside0.mk (fun k (hk : (Value.slice O1 ([] : List (List Value)).length co).ownBlock = some k) => show w.heap.size ≤ k from (Exists.elim hnew fun b_ h_ => by rw [h_.1] at hk; cases hk; exact Nat.le_trans HX.out.kept.1 h_.2)); have n0_ := Aside0.mk (HX.out.below hb); have n1_ := Aside0.mk (Kd.R_below HA.out hb); have n2_ := Aside0.mk (Kd.R_below HQ.out hb); have HO := Aside0.mk ho; clear HX HA HQ hb hb0 hgr hnew ho; have HX := n0_; have HA := n1_; have HQ := n2_; clear n0_ n1_ n2_)
 have HRI := Aside0.mk (RI.mk HX.out HA.out HQ.out HO.out HOB.out HG.out)
 clear HX HA HQ HO HOB HG HN
 go_loopg [8, 9] l1.length (fun gg v8 v9 w' => ∃ (i : Nat) (U1 U2 O : Option Addr) (k1 k2 co : Nat) (L1 : List S39) (L2 : List ByteArray) (xs : List (List Value)), v8 = .slice O xs.length co ∧ v9 = .int .i64 (i : Int) ∧ Aside0 (i ≤ l1.length ∧ l1.length - i ≤ gg ∧ xs.length = i ∧ (L1, L2) = runA link (l1.take i)) ∧ Aside0 (RI w w' g0 g1 link (.slice U1 L1.length k1) (.slice U2 L2.length k2) (.slice O xs.length co) L1 L2 xs))
 case atStart => exact ⟨0, U1, U2, O1, k1, k2, co, new1 link, [], [], rfl, rfl, ⟨Nat.zero_le _, by omega, rfl, rfl⟩, HRI⟩
 case round =>
  clear HRI
  obtain ⟨i, U1, U2, O, k1, k2, co, L1, L2, xs, rfl, rfl, HI, HRI⟩ := hrel
  by_cases hlt : i < l1.length
  ·
   have t0 : ((i : Int) < (l1.length : Int)) := by omega
   have t1 : decide (i < l1.length) = true := decide_eq_true hlt
   have t2 : (0 : Int) ≤ (i : Int) := by omega
   have t3 : (i : Int) ≤ 1000 := by have := HL.out.2; omega
   have hC := Kd.C_below HC.out (below_of HRI.out.hx)
   obtain ⟨ad, ea, hx0, hx1, hx2, hx3, hx4, hx5⟩ := at_T58 hC (i : Int) t2 t0
   subst ea
   obtain ⟨y, hy⟩ : ∃ y, y = l1.getD i z58 := ⟨_, rfl⟩
   have hyr : rd_T58 l1 (i : Int) = y := by rw [hy]; simp [rd_T58]
   rw [hyr] at hx0 hx1 hx2 hx3 hx4 hx5
   simp only [Int.toNat_natCast] at hx0 hx1 hx2 hx3 hx4 hx5
   have HLI := Aside0.mk (runA_take link l1 i hlt)
   rw [← hy] at HLI
   have HY0 := Aside0.mk (And.intro hx0 (And.intro hx1 (And.intro hx2 (And.intro hx3 (And.intro hx4 hx5)))))
   clear hC hyr hy hlt hx0 hx1 hx2 hx3 hx4 hx5
   go_upto_region 12 with (fail)
   clear t1
   refine start_ (n := 13) (S := fun w' => w'.cell? ⟨g1, 0, none⟩ = some (.string link) ∧ w'.cell? ⟨g1, 1, none⟩ = some (.slice U1 L1.length k1) ∧ w'.cell? ⟨g1, 2, none⟩ = some (.slice U2 L2.length k2) ∧ w'.cell? (ad.add (i * 6)) = some (.int .i64 y.f0) ∧ w'.cell? ⟨(ad.add (i * 6)).block, (ad.add (i * 6)).off + 1, none⟩ = some (.int .i64 y.f1) ∧ w'.cell? ⟨(ad.add (i * 6)).block, (ad.add (i * 6)).off + 2, none⟩ = some (.string y.f2) ∧ w'.cell? ⟨(ad.add (i * 6)).block, (ad.add (i * 6)).off + 3, none⟩ = some (.string y.f3) ∧ w'.cell? ⟨(ad.add (i * 6)).block, (ad.add (i * 6)).off + 4, none⟩ = some (.int .i64 y.f4) ∧ w'.cell? ⟨(ad.add (i * 6)).block, (ad.add (i * 6)).off + 5, none⟩ = some (.int .i64 y.f5)) (ds := [11, 12]) #[false, false, false, false, false, false, false, false, false, false, false, false, false] (by kernel_rfl) rfl rfl ⟨(blk_cell (HRI.out.hx.at 0 rfl) 0).trans rfl, (blk_cell (HRI.out.hx.at 0 rfl) 1).trans rfl, (blk_cell (HRI.out.hx.at 0 rfl) 2).trans rfl, HY0.out.1, HY0.out.2.1, HY0.out.2.2.1, HY0.out.2.2.2.1, HY0.out.2.2.2.2.1, HY0.out.2.2.2.2.2⟩ (fun hHeld => ?_); refine with_tabW spec_AutoRun.tab12 spec_AutoRun.bits12 (fun HT_ HW_ => ?_)
   replace HRI := Aside0.mk (HRI.out.below (below_drew1 (Below.refl _ _)))
   have HY1 := Aside0.mk (show (World.drew wr).cell? (ad.add (i * 6)) = some (.int .i64 y.f0) ∧ (World.drew wr).cell? ⟨(ad.add (i * 6)).block, (ad.add (i * 6)).off + 1, none⟩ = some (.int .i64 y.f1) ∧ (World.drew wr).cell? ⟨(ad.add (i * 6)).block, (ad.add (i * 6)).off + 2, none⟩ = some (.string y.f2) ∧ (World.drew wr).cell? ⟨(ad.add (i * 6)).block, (ad.add (i * 6)).off + 3, none⟩ = some (.string y.f3) ∧ (World.drew wr).cell? ⟨(ad.add (i * 6)).block, (ad.add (i * 6)).off + 4, none⟩ = some (.int .i64 y.f4) ∧ (World.drew wr).cell? ⟨(ad.add (i * 6)).block, (ad.add (i * 6)).off + 5, none⟩ = some (.int .i64 y.f5) from HY0.out)
   clear HY0
   have HY0 := HY1
   clear HY1
   generalize World.drew wr = W3 at HRI HY0 hHeld ⊢
   refine pure_ (i := 1) (N := some 38) (v := ?_) (a' := ?_) #[false, true, false, false, false, false, false, false, false, false, false, false, false] rfl rfl (any_of HT_.out (by kernel_rfl)) (fun _ _ _ h => h) (Or.inl ⟨by rfl, ?_⟩) ?_ ?_
   rotate_left
   ·
    intro w'
    go_simp
    with_reducible rfl
   rotate_left
   ·
    simp only [Act.put, pq]
    rfl
   refine pure_ (i := 2) (N := some 39) (v := ?_) (a' := ?_) #[false, true, true, false, false, false, false, false, false, false, false, false, false] rfl rfl (any_of HT_.out (by kernel_rfl)) (fun _ _ _ h => h) (Or.inl ⟨by rfl, ?_⟩) ?_ ?_
   rotate_left
   ·
    intro w'
    go_simp
    with_reducible rfl
   rotate_left
   ·
    simp only [Act.put, pq]
    rfl
   refine pure_ (i := 3) (N := some 40) (v := ?_) (a' := ?_) #[false, true, true, true, false, false, false, false, false, false, false, false, false] rfl rfl (any_of HT_.out (by kernel_rfl)) (fun _ _ _ h => h) (Or.inl ⟨by rfl, ?_⟩) ?_ ?_
   rotate_left
   ·
    intro w'
    go_simp
    with_reducible rfl
   rotate_left
   ·
    simp only [Act.put, pq]
    rfl
   refine take_ (i := 0) (N := some 37) (v := ?_) (a' := ?_) #[true, true, true, true, false, false, false, false, false, false, false, false, false] rfl rfl (take_ofW HT_.out HW_.out (by kernel_rfl)) (fun _ _ _ h => h) (Or.inl ⟨by rfl, ?_⟩) hHeld ?_ ?_
   rotate_left
   ·
    rintro w' ⟨s0, s1, s2, s3, s4, s5, s6, s7, s8⟩
    go_simp
    with_reducible rfl
   rotate_left
   ·
    simp only [Act.put, pq]
    rfl
   refine take_ (i := 4) (N := some 41) (v := ?_) (a' := ?_) #[true, true, true, true, true, false, false, false, false, false, false, false, false] rfl rfl (take_ofW HT_.out HW_.out (by kernel_rfl)) (fun _ _ _ h => h) (Or.inl ⟨by rfl, ?_⟩) hHeld ?_ ?_
   rotate_left
   ·
    rintro w' ⟨s0, s1, s2, s3, s4, s5, s6, s7, s8⟩
    go_simp
    with_reducible rfl
   rotate_left
   ·
    simp only [Act.put, pq]
    rfl
   refine join_ (σ := Value × Value × Nat × Nat) 2 #[true, true, true, true, true, true, true, true, true, true, true, false, false] (fun s_ => [(42, .tuple #[s_.1, s_.2.1]), (36, .tuple #[s_.1, s_.2.1]), (43, s_.1), (44, s_.2.1), (10, .pointer (some ⟨s_.2.2.1, 0, none⟩)), (11, .pointer (some ⟨s_.2.2.2, 0, none⟩))]) (fun s_ w' => (w'.cell? ⟨g1, 0, none⟩ = some (.string link) ∧ w'.cell? ⟨g1, 1, none⟩ = some (.slice U1 L1.length k1) ∧ w'.cell? ⟨g1, 2, none⟩ = some (.slice U2 L2.length k2) ∧ w'.cell? (ad.add (i * 6)) = some (.int .i64 y.f0) ∧ w'.cell? ⟨(ad.add (i * 6)).block, (ad.add (i * 6)).off + 1, none⟩ = some (.int .i64 y.f1) ∧ w'.cell? ⟨(ad.add (i * 6)).block, (ad.add (i * 6)).off + 2, none⟩ = some (.string y.f2) ∧ w'.cell? ⟨(ad.add (i * 6)).block, (ad.add (i * 6)).off + 3, none⟩ = some (.string y.f3) ∧ w'.cell? ⟨(ad.add (i * 6)).block, (ad.add (i * 6)).off + 4, none⟩ = some (.int .i64 y.f4) ∧ w'.cell? ⟨(ad.add (i * 6)).block, (ad.add (i * 6)).off + 5, none⟩ = some (.int .i64 y.f5)) ∧ Below W3.heap.size W3 w' ∧ w'.heap[s_.2.2.1]? = some (.cells #[.string ⟨#[]⟩, .slice none 0 0, .slice none 0 0] 27 (0, 0)) ∧ w'.heap[s_.2.2.2]? = some (.cells #[.int .i64 0, .slice none 0 0, .slice none 0 0, .slice none 0 0, .slice none 0 0] 54 (0, 0)) ∧ W3.heap.size ≤ s_.2.2.1 ∧ W3.heap.size ≤ s_.2.2.2 ∧ ∃ cd' x1 x2 x3 x4 p1 p2 p3 p4 u1 u2, s_.1 = .agg #[.string link, u1, u2] ∧ s_.2.1 = .agg #[.int .i64 cd', x1, x2, x3, x4] ∧ AR w' (fun _ => True) u1 (stepA link L1 L2 y).1 ∧ SR w' (fun _ => True) u2 (stepA link L1 L2 y).2 ∧ Rows4 w' x1 x2 x3 x4 p1 p2 p3 p4) ?_ ?_
   rotate_left
   ·
    intro hCont
    have hB0 := Below.refl W3.heap.size W3
    refine three_ (i := 5) (j := 9) (k := 10) (Ni := some 42) (Nj := some 10) (Nk := some 11) #[true, true, true, true, true, true, false, false, false, false, false, false, false] #[true, true, true, true, true, false, false, false, false, true, false, false, false] #[true, true, true, true, true, false, false, false, false, false, true, false, false] rfl rfl rfl rfl rfl rfl (three_of HT_.out (by kernel_rfl)) (by decide) (by decide) (by decide) (fun K hK => ?_) (fun K hK => ?_) (fun K hK => ?_)
    ·
     refine goes_ Try.func22 (by kernel_rfl) rfl #[.agg #[.string link, .slice U1 L1.length k1, .slice U2 L2.length k2], .agg #[.int .i64 y.f0, .int .i64 y.f1, .string y.f2, .string y.f3, .int .i64 y.f4, .int .i64 y.f5]] (by rfl) rfl rfl (by (try simp only [List.map_toArray, List.map_cons, List.map_nil]); rfl) ?_
     with_reducible refine (step_calls link U1 U2 k1 k2 L1 L2 y _ HRI.out.gd (Kd.R_below HRI.out.ha hB0) (Kd.R_below HRI.out.hq hB0)).mono ?_
     rintro e Wc ⟨u1, u2, cd', x1, x2, x3, x4, p1, p2, p3, p4, rfl, hr_, h1_, h2_, hbc⟩
     refine ⟨_, rfl, ?_⟩
     have hBc : Below W3.heap.size W3 _ := below_then (hB0) (hB0).size hbc
     refine hK.out _ _ ⟨(blk_cell (blk_below (HRI.out.hx.at 0 rfl) hBc) 0).trans rfl, (blk_cell (blk_below (HRI.out.hx.at 0 rfl) hBc) 1).trans rfl, (blk_cell (blk_below (HRI.out.hx.at 0 rfl) hBc) 2).trans rfl, ((hBc).cell (World.block_lt_of_cell? _ _ HY0.out.1)).trans HY0.out.1, ((hBc).cell (World.block_lt_of_cell? _ _ HY0.out.2.1)).trans HY0.out.2.1, ((hBc).cell (World.block_lt_of_cell? _ _ HY0.out.2.2.1)).trans HY0.out.2.2.1, ((hBc).cell (World.block_lt_of_cell? _ _ HY0.out.2.2.2.1)).trans HY0.out.2.2.2.1, ((hBc).cell (World.block_lt_of_cell? _ _ HY0.out.2.2.2.2.1)).trans HY0.out.2.2.2.2.1, ((hBc).cell (World.block_lt_of_cell? _ _ HY0.out.2.2.2.2.2)).trans HY0.out.2.2.2.2.2⟩ (fun hHeld => ?_)
     clear hK K
     refine norm_ (a' := ?_) ?_ ?_
     rotate_left
     ·
      show Act.put _ (some 42) _ = _
      simp only [Act.put, pq]
      rfl
     refine pure_ (i := 6) (N := some 36) (v := ?_) (a' := ?_) #[true, true, true, true, true, true, true, false, false, false, false, false, false] rfl rfl (any_of HT_.out (by kernel_rfl)) (fun _ _ _ h => h) (Or.inl ⟨by rfl, ?_⟩) ?_ ?_
     rotate_left
     ·
      intro w'
      go_simp
      with_reducible rfl
     rotate_left
     ·
      simp only [Act.put, pq]
      rfl
     refine pure_ (i := 7) (N := some 43) (v := ?_) (a' := ?_) #[true, true, true, true, true, true, true, true, false, false, false, false, false] rfl rfl (any_of HT_.out (by kernel_rfl)) (fun _ _ _ h => h) (Or.inl ⟨by rfl, ?_⟩) ?_ ?_
     rotate_left
     ·
      intro w'
      go_simp
      with_reducible rfl
     rotate_left
     ·
      simp only [Act.put, pq]
      rfl
     refine pure_ (i := 8) (N := some 44) (v := ?_) (a' := ?_) #[true, true, true, true, true, true, true, true, true, false, false, false, false] rfl rfl (any_of HT_.out (by kernel_rfl)) (fun _ _ _ h => h) (Or.inl ⟨by rfl, ?_⟩) ?_ ?_
     rotate_left
     ·
      intro w'
      go_simp
      with_reducible rfl
     rotate_left
     ·
      simp only [Act.put, pq]
      rfl
     refine two_ (i := 9) (j := 10) (Ni := some 10) (Nj := some 11) #[true, true, true, true, true, true, true, true, true, true, false, false, false] #[true, true, true, true, true, true, true, true, true, false, true, false, false] rfl rfl rfl rfl (two_of HT_.out (by kernel_rfl)) (by decide) (by decide) (fun K hK => ?_) (fun K hK => ?_)
     ·
      refine box_step ?hg (N := 10) ?hd (cs := #[.string (⟨#[]⟩ : ByteArray), .slice none 0 0, .slice none 0 0]) (t := 27) ?hr ?_; (case hd => rfl); (case hg => rfl); (case hr => (go_simp; done))
      intro g10 hga Wa hxa hba
      have hla : W3.heap.size ≤ g10 := by rw [hga]; exact (hBc).size
      have hBa : Below W3.heap.size W3 _ := below_then (hBc) (hBc).size hba
      have h1_a := Kd.R_below h1_ hba; have h2_a := Kd.R_below h2_ hba; have hr_a := hr_.below hba
      refine hK.out _ _ ⟨(blk_cell (blk_below (HRI.out.hx.at 0 rfl) hBa) 0).trans rfl, (blk_cell (blk_below (HRI.out.hx.at 0 rfl) hBa) 1).trans rfl, (blk_cell (blk_below (HRI.out.hx.at 0 rfl) hBa) 2).trans rfl, ((hBa).cell (World.block_lt_of_cell? _ _ HY0.out.1)).trans HY0.out.1, ((hBa).cell (World.block_lt_of_cell? _ _ HY0.out.2.1)).trans HY0.out.2.1, ((hBa).cell (World.block_lt_of_cell? _ _ HY0.out.2.2.1)).trans HY0.out.2.2.1, ((hBa).cell (World.block_lt_of_cell? _ _ HY0.out.2.2.2.1)).trans HY0.out.2.2.2.1, ((hBa).cell (World.block_lt_of_cell? _ _ HY0.out.2.2.2.2.1)).trans HY0.out.2.2.2.2.1, ((hBa).cell (World.block_lt_of_cell? _ _ HY0.out.2.2.2.2.2)).trans HY0.out.2.2.2.2.2⟩ (fun hHeld => ?_)
      clear hK K
      refine norm_ (a' := ?_) ?_ ?_
      rotate_left
      ·
       show Act.put _ (some 10) _ = _
       simp only [Act.put, pq]
       rfl
      refine one_ (i := 10) (N := some 11) #[true, true, true, true, true, true, true, true, true, true, true, false, false] rfl rfl (one_of HT_.out (by kernel_rfl)) (by decide) (fun K hK => ?_)
      refine box_step ?hg (N := 11) ?hd (cs := #[.int .i64 0, .slice none 0 0, .slice none 0 0, .slice none 0 0, .slice none 0 0]) (t := 54) ?hr ?_; (case hd => rfl); (case hg => rfl); (case hr => (go_simp; done))
      intro g11 hgb Wb hxb hbb
      have hlb : W3.heap.size ≤ g11 := by rw [hgb]; exact (hBa).size
      have hBb : Below W3.heap.size W3 _ := below_then (hBa) (hBa).size hbb
      have hxab := blk_below hxa hbb
      have h1_b := Kd.R_below h1_a hbb; have h2_b := Kd.R_below h2_a hbb; have hr_b := hr_a.below hbb
      refine hK.out _ _ ⟨(blk_cell (blk_below (HRI.out.hx.at 0 rfl) hBb) 0).trans rfl, (blk_cell (blk_below (HRI.out.hx.at 0 rfl) hBb) 1).trans rfl, (blk_cell (blk_below (HRI.out.hx.at 0 rfl) hBb) 2).trans rfl, ((hBb).cell (World.block_lt_of_cell? _ _ HY0.out.1)).trans HY0.out.1, ((hBb).cell (World.block_lt_of_cell? _ _ HY0.out.2.1)).trans HY0.out.2.1, ((hBb).cell (World.block_lt_of_cell? _ _ HY0.out.2.2.1)).trans HY0.out.2.2.1, ((hBb).cell (World.block_lt_of_cell? _ _ HY0.out.2.2.2.1)).trans HY0.out.2.2.2.1, ((hBb).cell (World.block_lt_of_cell? _ _ HY0.out.2.2.2.2.1)).trans HY0.out.2.2.2.2.1, ((hBb).cell (World.block_lt_of_cell? _ _ HY0.out.2.2.2.2.2)).trans HY0.out.2.2.2.2.2⟩ (fun hHeld => ?_)
      clear hK K
      refine norm_ (a' := ?_) ?_ ?_
      rotate_left
      ·
       show Act.put _ (some 11) _ = _
       simp only [Act.put, pq]
       rfl
      exact norm_ (by simp only [putAll, Act.put, pq]) (hCont (.agg #[.string link, u1, u2], .agg #[.int .i64 cd', x1, x2, x3, x4], g10, g11) _ ⟨hHeld, hBb, hxab, hxb, hla, hlb, _, _, _, _, _, _, _, _, _, _, _, rfl, rfl, h1_b, h2_b, hr_b⟩)
     ·
      refine box_step ?hg (N := 11) ?hd (cs := #[.int .i64 0, .slice none 0 0, .slice none 0 0, .slice none 0 0, .slice none 0 0]) (t := 54) ?hr ?_; (case hd => rfl); (case hg => rfl); (case hr => (go_simp; done))
      intro g11 hgb Wb hxb hbb
      have hlb : W3.heap.size ≤ g11 := by rw [hgb]; exact (hBc).size
      have hBb : Below W3.heap.size W3 _ := below_then (hBc) (hBc).size hbb
      have h1_b := Kd.R_below h1_ hbb; have h2_b := Kd.R_below h2_ hbb; have hr_b := hr_.below hbb
      refine hK.out _ _ ⟨(blk_cell (blk_below (HRI.out.hx.at 0 rfl) hBb) 0).trans rfl, (blk_cell (blk_below (HRI.out.hx.at 0 rfl) hBb) 1).trans rfl, (blk_cell (blk_below (HRI.out.hx.at 0 rfl) hBb) 2).trans rfl, ((hBb).cell (World.block_lt_of_cell? _ _ HY0.out.1)).trans HY0.out.1, ((hBb).cell (World.block_lt_of_cell? _ _ HY0.out.2.1)).trans HY0.out.2.1, ((hBb).cell (World.block_lt_of_cell? _ _ HY0.out.2.2.1)).trans HY0.out.2.2.1, ((hBb).cell (World.block_lt_of_cell? _ _ HY0.out.2.2.2.1)).trans HY0.out.2.2.2.1, ((hBb).cell (World.block_lt_of_cell? _ _ HY0.out.2.2.2.2.1)).trans HY0.out.2.2.2.2.1, ((hBb).cell (World.block_lt_of_cell? _ _ HY0.out.2.2.2.2.2)).trans HY0.out.2.2.2.2.2⟩ (fun hHeld => ?_)
      clear hK K
      refine norm_ (a' := ?_) ?_ ?_
      rotate_left
      ·
       show Act.put _ (some 11) _ = _
       simp only [Act.put, pq]
       rfl
      refine one_ (i := 9) (N := some 10) #[true, true, true, true, true, true, true, true, true, true, true, false, false] rfl rfl (one_of HT_.out (by kernel_rfl)) (by decide) (fun K hK => ?_)
      refine box_step ?hg (N := 10) ?hd (cs := #[.string (⟨#[]⟩ : ByteArray), .slice none 0 0, .slice none 0 0]) (t := 27) ?hr ?_; (case hd => rfl); (case hg => rfl); (case hr => (go_simp; done))
      intro g10 hga Wa hxa hba
      have hla : W3.heap.size ≤ g10 := by rw [hga]; exact (hBb).size
      have hBa : Below W3.heap.size W3 _ := below_then (hBb) (hBb).size hba
      have hxba := blk_below hxb hba
      have h1_a := Kd.R_below h1_b hba; have h2_a := Kd.R_below h2_b hba; have hr_a := hr_b.below hba
      refine hK.out _ _ ⟨(blk_cell (blk_below (HRI.out.hx.at 0 rfl) hBa) 0).trans rfl, (blk_cell (blk_below (HRI.out.hx.at 0 rfl) hBa) 1).trans rfl, (blk_cell (blk_below (HRI.out.hx.at 0 rfl) hBa) 2).trans rfl, ((hBa).cell (World.block_lt_of_cell? _ _ HY0.out.1)).trans HY0.out.1, ((hBa).cell (World.block_lt_of_cell? _ _ HY0.out.2.1)).trans HY0.out.2.1, ((hBa).cell (World.block_lt_of_cell? _ _ HY0.out.2.2.1)).trans HY0.out.2.2.1, ((hBa).cell (World.block_lt_of_cell? _ _ HY0.out.2.2.2.1)).trans HY0.out.2.2.2.1, ((hBa).cell (World.block_lt_of_cell? _ _ HY0.out.2.2.2.2.1)).trans HY0.out.2.2.2.2.1, ((hBa).cell (World.block_lt_of_cell? _ _ HY0.out.2.2.2.2.2)).trans HY0.out.2.2.2.2.2⟩ (fun hHeld => ?_)
      clear hK K
      refine norm_ (a' := ?_) ?_ ?_
      rotate_left
      ·
       show Act.put _ (some 10) _ = _
       simp only [Act.put, pq]
       rfl
      exact norm_ (by simp only [putAll, Act.put, pq]) (hCont (.agg #[.string link, u1, u2], .agg #[.int .i64 cd', x1, x2, x3, x4], g10, g11) _ ⟨hHeld, hBa, hxa, hxba, hla, hlb, _, _, _, _, _, _, _, _, _, _, _, rfl, rfl, h1_a, h2_a, hr_a⟩)
    ·
     refine box_step ?hg (N := 10) ?hd (cs := #[.string (⟨#[]⟩ : ByteArray), .slice none 0 0, .slice none 0 0]) (t := 27) ?hr ?_; (case hd => rfl); (case hg => rfl); (case hr => (go_simp; done))
     intro g10 hga Wa hxa hba
     have hla : W3.heap.size ≤ g10 := by rw [hga]; exact (hB0).size
     have hBa : Below W3.heap.size W3 _ := below_then (hB0) (hB0).size hba
     refine hK.out _ _ ⟨(blk_cell (blk_below (HRI.out.hx.at 0 rfl) hBa) 0).trans rfl, (blk_cell (blk_below (HRI.out.hx.at 0 rfl) hBa) 1).trans rfl, (blk_cell (blk_below (HRI.out.hx.at 0 rfl) hBa) 2).trans rfl, ((hBa).cell (World.block_lt_of_cell? _ _ HY0.out.1)).trans HY0.out.1, ((hBa).cell (World.block_lt_of_cell? _ _ HY0.out.2.1)).trans HY0.out.2.1, ((hBa).cell (World.block_lt_of_cell? _ _ HY0.out.2.2.1)).trans HY0.out.2.2.1, ((hBa).cell (World.block_lt_of_cell? _ _ HY0.out.2.2.2.1)).trans HY0.out.2.2.2.1, ((hBa).cell (World.block_lt_of_cell? _ _ HY0.out.2.2.2.2.1)).trans HY0.out.2.2.2.2.1, ((hBa).cell (World.block_lt_of_cell? _ _ HY0.out.2.2.2.2.2)).trans HY0.out.2.2.2.2.2⟩ (fun hHeld => ?_)
     clear hK K
     refine norm_ (a' := ?_) ?_ ?_
     rotate_left
     ·
      show Act.put _ (some 10) _ = _
      simp only [Act.put, pq]
      rfl
     refine two_ (i := 5) (j := 10) (Ni := some 42) (Nj := some 11) #[true, true, true, true, true, true, false, false, false, true, false, false, false] #[true, true, true, true, true, false, false, false, false, true, true, false, false] rfl rfl rfl rfl (two_of HT_.out (by kernel_rfl)) (by decide) (by decide) (fun K hK => ?_) (fun K hK => ?_)
     ·
      refine goes_ Try.func22 (by kernel_rfl) rfl #[.agg #[.string link, .slice U1 L1.length k1, .slice U2 L2.length k2], .agg #[.int .i64 y.f0, .int .i64 y.f1, .string y.f2, .string y.f3, .int .i64 y.f4, .int .i64 y.f5]] (by rfl) rfl rfl (by (try simp only [List.map_toArray, List.map_cons, List.map_nil]); rfl) ?_
      with_reducible refine (step_calls link U1 U2 k1 k2 L1 L2 y _ HRI.out.gd (Kd.R_below HRI.out.ha hBa) (Kd.R_below HRI.out.hq hBa)).mono ?_
      rintro e Wc ⟨u1, u2, cd', x1, x2, x3, x4, p1, p2, p3, p4, rfl, hr_, h1_, h2_, hbc⟩
      refine ⟨_, rfl, ?_⟩
      have hBc : Below W3.heap.size W3 _ := below_then (hBa) (hBa).size hbc
      have hxac := blk_below hxa hbc
      refine hK.out _ _ ⟨(blk_cell (blk_below (HRI.out.hx.at 0 rfl) hBc) 0).trans rfl, (blk_cell (blk_below (HRI.out.hx.at 0 rfl) hBc) 1).trans rfl, (blk_cell (blk_below (HRI.out.hx.at 0 rfl) hBc) 2).trans rfl, ((hBc).cell (World.block_lt_of_cell? _ _ HY0.out.1)).trans HY0.out.1, ((hBc).cell (World.block_lt_of_cell? _ _ HY0.out.2.1)).trans HY0.out.2.1, ((hBc).cell (World.block_lt_of_cell? _ _ HY0.out.2.2.1)).trans HY0.out.2.2.1, ((hBc).cell (World.block_lt_of_cell? _ _ HY0.out.2.2.2.1)).trans HY0.out.2.2.2.1, ((hBc).cell (World.block_lt_of_cell? _ _ HY0.out.2.2.2.2.1)).trans HY0.out.2.2.2.2.1, ((hBc).cell (World.block_lt_of_cell? _ _ HY0.out.2.2.2.2.2)).trans HY0.out.2.2.2.2.2⟩ (fun hHeld => ?_)
      clear hK K
      refine norm_ (a' := ?_) ?_ ?_
      rotate_left
      ·
       show Act.put _ (some 42) _ = _
       simp only [Act.put, pq]
       rfl
      refine pure_ (i := 6) (N := some 36) (v := ?_) (a' := ?_) #[true, true, true, true, true, true, true, false, false, true, false, false, false] rfl rfl (any_of HT_.out (by kernel_rfl)) (fun _ _ _ h => h) (Or.inl ⟨by rfl, ?_⟩) ?_ ?_
      rotate_left
      ·
       intro w'
       go_simp
       with_reducible rfl
      rotate_left
      ·
       simp only [Act.put, pq]
       rfl
      refine pure_ (i := 7) (N := some 43) (v := ?_) (a' := ?_) #[true, true, true, true, true, true, true, true, false, true, false, false, false] rfl rfl (any_of HT_.out (by kernel_rfl)) (fun _ _ _ h => h) (Or.inl ⟨by rfl, ?_⟩) ?_ ?_
      rotate_left
      ·
       intro w'
       go_simp
       with_reducible rfl
      rotate_left
      ·
       simp only [Act.put, pq]
       rfl
      refine pure_ (i := 8) (N := some 44) (v := ?_) (a' := ?_) #[true, true, true, true, true, true, true, true, true, true, false, false, false] rfl rfl (any_of HT_.out (by kernel_rfl)) (fun _ _ _ h => h) (Or.inl ⟨by rfl, ?_⟩) ?_ ?_
      rotate_left
      ·
       intro w'
       go_simp
       with_reducible rfl
      rotate_left
      ·
       simp only [Act.put, pq]
       rfl
      refine one_ (i := 10) (N := some 11) #[true, true, true, true, true, true, true, true, true, true, true, false, false] rfl rfl (one_of HT_.out (by kernel_rfl)) (by decide) (fun K hK => ?_)
      refine box_step ?hg (N := 11) ?hd (cs := #[.int .i64 0, .slice none 0 0, .slice none 0 0, .slice none 0 0, .slice none 0 0]) (t := 54) ?hr ?_; (case hd => rfl); (case hg => rfl); (case hr => (go_simp; done))
      intro g11 hgb Wb hxb hbb
      have hlb : W3.heap.size ≤ g11 := by rw [hgb]; exact (hBc).size
      have hBb : Below W3.heap.size W3 _ := below_then (hBc) (hBc).size hbb
      have hxacb := blk_below hxac hbb
      have h1_b := Kd.R_below h1_ hbb; have h2_b := Kd.R_below h2_ hbb; have hr_b := hr_.below hbb
      refine hK.out _ _ ⟨(blk_cell (blk_below (HRI.out.hx.at 0 rfl) hBb) 0).trans rfl, (blk_cell (blk_below (HRI.out.hx.at 0 rfl) hBb) 1).trans rfl, (blk_cell (blk_below (HRI.out.hx.at 0 rfl) hBb) 2).trans rfl, ((hBb).cell (World.block_lt_of_cell? _ _ HY0.out.1)).trans HY0.out.1, ((hBb).cell (World.block_lt_of_cell? _ _ HY0.out.2.1)).trans HY0.out.2.1, ((hBb).cell (World.block_lt_of_cell? _ _ HY0.out.2.2.1)).trans HY0.out.2.2.1, ((hBb).cell (World.block_lt_of_cell? _ _ HY0.out.2.2.2.1)).trans HY0.out.2.2.2.1, ((hBb).cell (World.block_lt_of_cell? _ _ HY0.out.2.2.2.2.1)).trans HY0.out.2.2.2.2.1, ((hBb).cell (World.block_lt_of_cell? _ _ HY0.out.2.2.2.2.2)).trans HY0.out.2.2.2.2.2⟩ (fun hHeld => ?_)
      clear hK K
      refine norm_ (a' := ?_) ?_ ?_
      rotate_left
      ·
       show Act.put _ (some 11) _ = _
       simp only [Act.put, pq]
       rfl
      exact norm_ (by simp only [putAll, Act.put, pq]) (hCont (.agg #[.string link, u1, u2], .agg #[.int .i64 cd', x1, x2, x3, x4], g10, g11) _ ⟨hHeld, hBb, hxacb, hxb, hla, hlb, _, _, _, _, _, _, _, _, _, _, _, rfl, rfl, h1_b, h2_b, hr_b⟩)
     ·
      refine box_step ?hg (N := 11) ?hd (cs := #[.int .i64 0, .slice none 0 0, .slice none 0 0, .slice none 0 0, .slice none 0 0]) (t := 54) ?hr ?_; (case hd => rfl); (case hg => rfl); (case hr => (go_simp; done))
      intro g11 hgb Wb hxb hbb
      have hlb : W3.heap.size ≤ g11 := by rw [hgb]; exact (hBa).size
      have hBb : Below W3.heap.size W3 _ := below_then (hBa) (hBa).size hbb
      have hxab := blk_below hxa hbb
      refine hK.out _ _ ⟨(blk_cell (blk_below (HRI.out.hx.at 0 rfl) hBb) 0).trans rfl, (blk_cell (blk_below (HRI.out.hx.at 0 rfl) hBb) 1).trans rfl, (blk_cell (blk_below (HRI.out.hx.at 0 rfl) hBb) 2).trans rfl, ((hBb).cell (World.block_lt_of_cell? _ _ HY0.out.1)).trans HY0.out.1, ((hBb).cell (World.block_lt_of_cell? _ _ HY0.out.2.1)).trans HY0.out.2.1, ((hBb).cell (World.block_lt_of_cell? _ _ HY0.out.2.2.1)).trans HY0.out.2.2.1, ((hBb).cell (World.block_lt_of_cell? _ _ HY0.out.2.2.2.1)).trans HY0.out.2.2.2.1, ((hBb).cell (World.block_lt_of_cell? _ _ HY0.out.2.2.2.2.1)).trans HY0.out.2.2.2.2.1, ((hBb).cell (World.block_lt_of_cell? _ _ HY0.out.2.2.2.2.2)).trans HY0.out.2.2.2.2.2⟩ (fun hHeld => ?_)
      clear hK K
      refine norm_ (a' := ?_) ?_ ?_
      rotate_left
      ·
       show Act.put _ (some 11) _ = _
       simp only [Act.put, pq]
       rfl
      refine one_ (i := 5) (N := some 42) #[true, true, true, true, true, true, false, false, false, true, true, false, false] rfl rfl (one_of HT_.out (by kernel_rfl)) (by decide) (fun K hK => ?_)
      refine goes_ Try.func22 (by kernel_rfl) rfl #[.agg #[.string link, .slice U1 L1.length k1, .slice U2 L2.length k2], .agg #[.int .i64 y.f0, .int .i64 y.f1, .string y.f2, .string y.f3, .int .i64 y.f4, .int .i64 y.f5]] (by rfl) rfl rfl (by (try simp only [List.map_toArray, List.map_cons, List.map_nil]); rfl) ?_
      with_reducible refine (step_calls link U1 U2 k1 k2 L1 L2 y _ HRI.out.gd (Kd.R_below HRI.out.ha hBb) (Kd.R_below HRI.out.hq hBb)).mono ?_
      rintro e Wc ⟨u1, u2, cd', x1, x2, x3, x4, p1, p2, p3, p4, rfl, hr_, h1_, h2_, hbc⟩
      refine ⟨_, rfl, ?_⟩
      have hBc : Below W3.heap.size W3 _ := below_then (hBb) (hBb).size hbc
      have hxabc := blk_below hxab hbc
      have hxbc := blk_below hxb hbc
      refine hK.out _ _ ⟨(blk_cell (blk_below (HRI.out.hx.at 0 rfl) hBc) 0).trans rfl, (blk_cell (blk_below (HRI.out.hx.at 0 rfl) hBc) 1).trans rfl, (blk_cell (blk_below (HRI.out.hx.at 0 rfl) hBc) 2).trans rfl, ((hBc).cell (World.block_lt_of_cell? _ _ HY0.out.1)).trans HY0.out.1, ((hBc).cell (World.block_lt_of_cell? _ _ HY0.out.2.1)).trans HY0.out.2.1, ((hBc).cell (World.block_lt_of_cell? _ _ HY0.out.2.2.1)).trans HY0.out.2.2.1, ((hBc).cell (World.block_lt_of_cell? _ _ HY0.out.2.2.2.1)).trans HY0.out.2.2.2.1, ((hBc).cell (World.block_lt_of_cell? _ _ HY0.out.2.2.2.2.1)).trans HY0.out.2.2.2.2.1, ((hBc).cell (World.block_lt_of_cell? _ _ HY0.out.2.2.2.2.2)).trans HY0.out.2.2.2.2.2⟩ (fun hHeld => ?_)
      clear hK K
      refine norm_ (a' := ?_) ?_ ?_
      rotate_left
      ·
       show Act.put _ (some 42) _ = _
       simp only [Act.put, pq]
       rfl
      refine pure_ (i := 6) (N := some 36) (v := ?_) (a' := ?_) #[true, true, true, true, true, true, true, false, false, true, true, false, false] rfl rfl (any_of HT_.out (by kernel_rfl)) (fun _ _ _ h => h) (Or.inl ⟨by rfl, ?_⟩) ?_ ?_
      rotate_left
      ·
       intro w'
       go_simp
       with_reducible rfl
      rotate_left
      ·
       simp only [Act.put, pq]
       rfl
      refine pure_ (i := 7) (N := some 43) (v := ?_) (a' := ?_) #[true, true, true, true, true, true, true, true, false, true, true, false, false] rfl rfl (any_of HT_.out (by kernel_rfl)) (fun _ _ _ h => h) (Or.inl ⟨by rfl, ?_⟩) ?_ ?_
      rotate_left
      ·
       intro w'
       go_simp
       with_reducible rfl
      rotate_left
      ·
       simp only [Act.put, pq]
       rfl
      refine pure_ (i := 8) (N := some 44) (v := ?_) (a' := ?_) #[true, true, true, true, true, true, true, true, true, true, true, false, false] rfl rfl (any_of HT_.out (by kernel_rfl)) (fun _ _ _ h => h) (Or.inl ⟨by rfl, ?_⟩) ?_ ?_
      rotate_left
      ·
       intro w'
       go_simp
       with_reducible rfl
      rotate_left
      ·
       simp only [Act.put, pq]
       rfl
      exact norm_ (by simp only [putAll, Act.put, pq]) (hCont (.agg #[.string link, u1, u2], .agg #[.int .i64 cd', x1, x2, x3, x4], g10, g11) _ ⟨hHeld, hBc, hxabc, hxbc, hla, hlb, _, _, _, _, _, _, _, _, _, _, _, rfl, rfl, h1_, h2_, hr_⟩)
    ·
     refine box_step ?hg (N := 11) ?hd (cs := #[.int .i64 0, .slice none 0 0, .slice none 0 0, .slice none 0 0, .slice none 0 0]) (t := 54) ?hr ?_; (case hd => rfl); (case hg => rfl); (case hr => (go_simp; done))
     intro g11 hgb Wb hxb hbb
     have hlb : W3.heap.size ≤ g11 := by rw [hgb]; exact (hB0).size
     have hBb : Below W3.heap.size W3 _ := below_then (hB0) (hB0).size hbb
     refine hK.out _ _ ⟨(blk_cell (blk_below (HRI.out.hx.at 0 rfl) hBb) 0).trans rfl, (blk_cell (blk_below (HRI.out.hx.at 0 rfl) hBb) 1).trans rfl, (blk_cell (blk_below (HRI.out.hx.at 0 rfl) hBb) 2).trans rfl, ((hBb).cell (World.block_lt_of_cell? _ _ HY0.out.1)).trans HY0.out.1, ((hBb).cell (World.block_lt_of_cell? _ _ HY0.out.2.1)).trans HY0.out.2.1, ((hBb).cell (World.block_lt_of_cell? _ _ HY0.out.2.2.1)).trans HY0.out.2.2.1, ((hBb).cell (World.block_lt_of_cell? _ _ HY0.out.2.2.2.1)).trans HY0.out.2.2.2.1, ((hBb).cell (World.block_lt_of_cell? _ _ HY0.out.2.2.2.2.1)).trans HY0.out.2.2.2.2.1, ((hBb).cell (World.block_lt_of_cell? _ _ HY0.out.2.2.2.2.2)).trans HY0.out.2.2.2.2.2⟩ (fun hHeld => ?_)
     clear hK K
     refine norm_ (a' := ?_) ?_ ?_
     rotate_left
     ·
      show Act.put _ (some 11) _ = _
      simp only [Act.put, pq]
      rfl
     refine two_ (i := 5) (j := 9) (Ni := some 42) (Nj := some 10) #[true, true, true, true, true, true, false, false, false, false, true, false, false] #[true, true, true, true, true, false, false, false, false, true, true, false, false] rfl rfl rfl rfl (two_of HT_.out (by kernel_rfl)) (by decide) (by decide) (fun K hK => ?_) (fun K hK => ?_)
     ·
      refine goes_ Try.func22 (by kernel_rfl) rfl #[.agg #[.string link, .slice U1 L1.length k1, .slice U2 L2.length k2], .agg #[.int .i64 y.f0, .int .i64 y.f1, .string y.f2, .string y.f3, .int .i64 y.f4, .int .i64 y.f5]] (by rfl) rfl rfl (by (try simp only [List.map_toArray, List.map_cons, List.map_nil]); rfl) ?_
      with_reducible refine (step_calls link U1 U2 k1 k2 L1 L2 y _ HRI.out.gd (Kd.R_below HRI.out.ha hBb) (Kd.R_below HRI.out.hq hBb)).mono ?_
      rintro e Wc ⟨u1, u2, cd', x1, x2, x3, x4, p1, p2, p3, p4, rfl, hr_, h1_, h2_, hbc⟩
      refine ⟨_, rfl, ?_⟩
      have hBc : Below W3.heap.size W3 _ := below_then (hBb) (hBb).size hbc
      have hxbc := blk_below hxb hbc
      refine hK.out _ _ ⟨(blk_cell (blk_below (HRI.out.hx.at 0 rfl) hBc) 0).trans rfl, (blk_cell (blk_below (HRI.out.hx.at 0 rfl) hBc) 1).trans rfl, (blk_cell (blk_below (HRI.out.hx.at 0 rfl) hBc) 2).trans rfl, ((hBc).cell (World.block_lt_of_cell? _ _ HY0.out.1)).trans HY0.out.1, ((hBc).cell (World.block_lt_of_cell? _ _ HY0.out.2.1)).trans HY0.out.2.1, ((hBc).cell (World.block_lt_of_cell? _ _ HY0.out.2.2.1)).trans HY0.out.2.2.1, ((hBc).cell (World.block_lt_of_cell? _ _ HY0.out.2.2.2.1)).trans HY0.out.2.2.2.1, ((hBc).cell (World.block_lt_of_cell? _ _ HY0.out.2.2.2.2.1)).trans HY0.out.2.2.2.2.1, ((hBc).cell (World.block_lt_of_cell? _ _ HY0.out.2.2.2.2.2)).trans HY0.out.2.2.2.2.2⟩ (fun hHeld => ?_)
      clear hK K
      refine norm_ (a' := ?_) ?_ ?_
      rotate_left
      ·
       show Act.put _ (some 42) _ = _
       simp only [Act.put, pq]
       rfl
      refine pure_ (i := 6) (N := some 36) (v := ?_) (a' := ?_) #[true, true, true, true, true, true, true, false, false, false, true, false, false] rfl rfl (any_of HT_.out (by kernel_rfl)) (fun _ _ _ h => h) (Or.inl ⟨by rfl, ?_⟩) ?_ ?_
      rotate_left
      ·
       intro w'
       go_simp
       with_reducible rfl
      rotate_left
      ·
       simp only [Act.put, pq]
       rfl
      refine pure_ (i := 7) (N := some 43) (v := ?_) (a' := ?_) #[true, true, true, true, true, true, true, true, false, false, true, false, false] rfl rfl (any_of HT_.out (by kernel_rfl)) (fun _ _ _ h => h) (Or.inl ⟨by rfl, ?_⟩) ?_ ?_
      rotate_left
      ·
       intro w'
       go_simp
       with_reducible rfl
      rotate_left
      ·
       simp only [Act.put, pq]
       rfl
      refine pure_ (i := 8) (N := some 44) (v := ?_) (a' := ?_) #[true, true, true, true, true, true, true, true, true, false, true, false, false] rfl rfl (any_of HT_.out (by kernel_rfl)) (fun _ _ _ h => h) (Or.inl ⟨by rfl, ?_⟩) ?_ ?_
      rotate_left
      ·
       intro w'
       go_simp
       with_reducible rfl
      rotate_left
      ·
       simp only [Act.put, pq]
       rfl
      refine one_ (i := 9) (N := some 10) #[true, true, true, true, true, true, true, true, true, true, true, false, false] rfl rfl (one_of HT_.out (by kernel_rfl)) (by decide) (fun K hK => ?_)
      refine box_step ?hg (N := 10) ?hd (cs := #[.string (⟨#[]⟩ : ByteArray), .slice none 0 0, .slice none 0 0]) (t := 27) ?hr ?_; (case hd => rfl); (case hg => rfl); (case hr => (go_simp; done))
      intro g10 hga Wa hxa hba
      have hla : W3.heap.size ≤ g10 := by rw [hga]; exact (hBc).size
      have hBa : Below W3.heap.size W3 _ := below_then (hBc) (hBc).size hba
      have hxbca := blk_below hxbc hba
      have h1_a := Kd.R_below h1_ hba; have h2_a := Kd.R_below h2_ hba; have hr_a := hr_.below hba
      refine hK.out _ _ ⟨(blk_cell (blk_below (HRI.out.hx.at 0 rfl) hBa) 0).trans rfl, (blk_cell (blk_below (HRI.out.hx.at 0 rfl) hBa) 1).trans rfl, (blk_cell (blk_below (HRI.out.hx.at 0 rfl) hBa) 2).trans rfl, ((hBa).cell (World.block_lt_of_cell? _ _ HY0.out.1)).trans HY0.out.1, ((hBa).cell (World.block_lt_of_cell? _ _ HY0.out.2.1)).trans HY0.out.2.1, ((hBa).cell (World.block_lt_of_cell? _ _ HY0.out.2.2.1)).trans HY0.out.2.2.1, ((hBa).cell (World.block_lt_of_cell? _ _ HY0.out.2.2.2.1)).trans HY0.out.2.2.2.1, ((hBa).cell (World.block_lt_of_cell? _ _ HY0.out.2.2.2.2.1)).trans HY0.out.2.2.2.2.1, ((hBa).cell (World.block_lt_of_cell? _ _ HY0.out.2.2.2.2.2)).trans HY0.out.2.2.2.2.2⟩ (fun hHeld => ?_)
      clear hK K
      refine norm_ (a' := ?_) ?_ ?_
      rotate_left
      ·
       show Act.put _ (some 10) _ = _
       simp only [Act.put, pq]
       rfl
      exact norm_ (by simp only [putAll, Act.put, pq]) (hCont (.agg #[.string link, u1, u2], .agg #[.int .i64 cd', x1, x2, x3, x4], g10, g11) _ ⟨hHeld, hBa, hxa, hxbca, hla, hlb, _, _, _, _, _, _, _, _, _, _, _, rfl, rfl, h1_a, h2_a, hr_a⟩)
     ·
      refine box_step ?hg (N := 10) ?hd (cs := #[.string (⟨#[]⟩ : ByteArray), .slice none 0 0, .slice none 0 0]) (t := 27) ?hr ?_; (case hd => rfl); (case hg => rfl); (case hr => (go_simp; done))
      intro g10 hga Wa hxa hba
      have hla : W3.heap.size ≤ g10 := by rw [hga]; exact (hBb).size
      have hBa : Below W3.heap.size W3 _ := below_then (hBb) (hBb).size hba
      have hxba := blk_below hxb hba
      refine hK.out _ _ ⟨(blk_cell (blk_below (HRI.out.hx.at 0 rfl) hBa) 0).trans rfl, (blk_cell (blk_below (HRI.out.hx.at 0 rfl) hBa) 1).trans rfl, (blk_cell (blk_below (HRI.out.hx.at 0 rfl) hBa) 2).trans rfl, ((hBa).cell (World.block_lt_of_cell? _ _ HY0.out.1)).trans HY0.out.1, ((hBa).cell (World.block_lt_of_cell? _ _ HY0.out.2.1)).trans HY0.out.2.1, ((hBa).cell (World.block_lt_of_cell? _ _ HY0.out.2.2.1)).trans HY0.out.2.2.1, ((hBa).cell (World.block_lt_of_cell? _ _ HY0.out.2.2.2.1)).trans HY0.out.2.2.2.1, ((hBa).cell (World.block_lt_of_cell? _ _ HY0.out.2.2.2.2.1)).trans HY0.out.2.2.2.2.1, ((hBa).cell (World.block_lt_of_cell? _ _ HY0.out.2.2.2.2.2)).trans HY0.out.2.2.2.2.2⟩ (fun hHeld => ?_)
      clear hK K
      refine norm_ (a' := ?_) ?_ ?_
      rotate_left
      ·
       show Act.put _ (some 10) _ = _
       simp only [Act.put, pq]
       rfl
      refine one_ (i := 5) (N := some 42) #[true, true, true, true, true, true, false, false, false, true, true, false, false] rfl rfl (one_of HT_.out (by kernel_rfl)) (by decide) (fun K hK => ?_)
      refine goes_ Try.func22 (by kernel_rfl) rfl #[.agg #[.string link, .slice U1 L1.length k1, .slice U2 L2.length k2], .agg #[.int .i64 y.f0, .int .i64 y.f1, .string y.f2, .string y.f3, .int .i64 y.f4, .int .i64 y.f5]] (by rfl) rfl rfl (by (try simp only [List.map_toArray, List.map_cons, List.map_nil]); rfl) ?_
      with_reducible refine (step_calls link U1 U2 k1 k2 L1 L2 y _ HRI.out.gd (Kd.R_below HRI.out.ha hBa) (Kd.R_below HRI.out.hq hBa)).mono ?_
      rintro e Wc ⟨u1, u2, cd', x1, x2, x3, x4, p1, p2, p3, p4, rfl, hr_, h1_, h2_, hbc⟩
      refine ⟨_, rfl, ?_⟩
      have hBc : Below W3.heap.size W3 _ := below_then (hBa) (hBa).size hbc
      have hxac := blk_below hxa hbc
      have hxbac := blk_below hxba hbc
      refine hK.out _ _ ⟨(blk_cell (blk_below (HRI.out.hx.at 0 rfl) hBc) 0).trans rfl, (blk_cell (blk_below (HRI.out.hx.at 0 rfl) hBc) 1).trans rfl, (blk_cell (blk_below (HRI.out.hx.at 0 rfl) hBc) 2).trans rfl, ((hBc).cell (World.block_lt_of_cell? _ _ HY0.out.1)).trans HY0.out.1, ((hBc).cell (World.block_lt_of_cell? _ _ HY0.out.2.1)).trans HY0.out.2.1, ((hBc).cell (World.block_lt_of_cell? _ _ HY0.out.2.2.1)).trans HY0.out.2.2.1, ((hBc).cell (World.block_lt_of_cell? _ _ HY0.out.2.2.2.1)).trans HY0.out.2.2.2.1, ((hBc).cell (World.block_lt_of_cell? _ _ HY0.out.2.2.2.2.1)).trans HY0.out.2.2.2.2.1, ((hBc).cell (World.block_lt_of_cell? _ _ HY0.out.2.2.2.2.2)).trans HY0.out.2.2.2.2.2⟩ (fun hHeld => ?_)
      clear hK K
      refine norm_ (a' := ?_) ?_ ?_
      rotate_left
      ·
       show Act.put _ (some 42) _ = _
       simp only [Act.put, pq]
       rfl
      refine pure_ (i := 6) (N := some 36) (v := ?_) (a' := ?_) #[true, true, true, true, true, true, true, false, false, true, true, false, false] rfl rfl (any_of HT_.out (by kernel_rfl)) (fun _ _ _ h => h) (Or.inl ⟨by rfl, ?_⟩) ?_ ?_
      rotate_left
      ·
       intro w'
       go_simp
       with_reducible rfl
      rotate_left
      ·
       simp only [Act.put, pq]
       rfl
      refine pure_ (i := 7) (N := some 43) (v := ?_) (a' := ?_) #[true, true, true, true, true, true, true, true, false, true, true, false, false] rfl rfl (any_of HT_.out (by kernel_rfl)) (fun _ _ _ h => h) (Or.inl ⟨by rfl, ?_⟩) ?_ ?_
      rotate_left
      ·
       intro w'
       go_simp
       with_reducible rfl
      rotate_left
      ·
       simp only [Act.put, pq]
       rfl
      refine pure_ (i := 8) (N := some 44) (v := ?_) (a' := ?_) #[true, true, true, true, true, true, true, true, true, true, true, false, false] rfl rfl (any_of HT_.out (by kernel_rfl)) (fun _ _ _ h => h) (Or.inl ⟨by rfl, ?_⟩) ?_ ?_
      rotate_left
      ·
       intro w'
       go_simp
       with_reducible rfl
      rotate_left
      ·
       simp only [Act.put, pq]
       rfl
      exact norm_ (by simp only [putAll, Act.put, pq]) (hCont (.agg #[.string link, u1, u2], .agg #[.int .i64 cd', x1, x2, x3, x4], g10, g11) _ ⟨hHeld, hBc, hxac, hxbac, hla, hlb, _, _, _, _, _, _, _, _, _, _, _, rfl, rfl, h1_, h2_, hr_⟩)
   rintro ⟨z1, z2, g10, g11⟩ W4 ⟨hS_, hb, hxa, hxb, hla, hlb, cd', x1, x2, x3, x4, p1, p2, p3, p4, u1, u2, e1_, e2_, h1_, h2_, hr_⟩
   have hHeld : W4.cell? ⟨g1, 0, none⟩ = some (.string link) ∧ W4.cell? ⟨g1, 1, none⟩ = some (.slice U1 L1.length k1) ∧ W4.cell? ⟨g1, 2, none⟩ = some (.slice U2 L2.length k2) ∧ W4.cell? (ad.add (i * 6)) = some (.int .i64 y.f0) ∧ W4.cell? ⟨(ad.add (i * 6)).block, (ad.add (i * 6)).off + 1, none⟩ = some (.int .i64 y.f1) ∧ W4.cell? ⟨(ad.add (i * 6)).block, (ad.add (i * 6)).off + 2, none⟩ = some (.string y.f2) ∧ W4.cell? ⟨(ad.add (i * 6)).block, (ad.add (i * 6)).off + 3, none⟩ = some (.string y.f3) ∧ W4.cell? ⟨(ad.add (i * 6)).block, (ad.add (i * 6)).off + 4, none⟩ = some (.int .i64 y.f4) ∧ W4.cell? ⟨(ad.add (i * 6)).block, (ad.add (i * 6)).off + 5, none⟩ = some (.int .i64 y.f5) := hS_
   clear hS_
   dsimp only at hxa hxb hla hlb e1_ e2_
   subst e1_ e2_
   obtain ⟨V1, i1, rfl⟩ := Kd.R_slice h1_
   obtain ⟨V2, i2, rfl⟩ := Kd.R_slice h2_
   obtain ⟨X1, j1, rfl⟩ := Kd.R_slice hr_.r1
   obtain ⟨X2, j2, rfl⟩ := Kd.R_slice hr_.r2
   obtain ⟨X3, j3, rfl⟩ := Kd.R_slice hr_.r3
   obtain ⟨X4, j4, rfl⟩ := Kd.R_slice hr_.r4
   refine norm_ (a' := ?_) ?_ ?_
   rotate_left
   ·
    simp only [putAll, Act.put, pq]
    rfl
   refine last_ (i := 11) (N := none) #[true, true, true, true, true, true, true, true, true, true, true, true, false] rfl rfl (one_of HT_.out (by kernel_rfl)) (by decide) (fun K hK => ?_)
   refine skip27 (s := link) (A1 := V1) (n1 := (stepA link L1 L2 y).1.length) (c1 := i1) (A2 := V2) (n2 := (stepA link L1 L2 y).2.length) (c2 := i2) (by rfl) rfl (by rfl) (by rfl) hxa (fun W5 b1_ k1_ o1_ => ?_)
   refine hK.out _ _ ?_
   clear hK K
   have ne_ : g10 ≠ g11 := blk_ne hxa hxb (by decide)
   have b5_ := blk_kept hxb k1_ (fun e => ne_ e.symm)
   refine last_ (i := 12) (N := none) #[true, true, true, true, true, true, true, true, true, true, true, true, true] rfl rfl (one_of HT_.out (by kernel_rfl)) (by decide) (fun K hK => ?_)
   refine skip54 (c := cd') (A1 := X1) (n1 := p1.length) (c1 := j1) (A2 := X2) (n2 := p2.length) (c2 := j2) (A3 := X3) (n3 := p3.length) (c3 := j3) (A4 := X4) (n4 := p4.length) (c4 := j4) (by rfl) rfl (by rfl) (by rfl) b5_ (fun W6 b2_ k2_ o2_ => ?_)
   refine hK.out _ _ ?_
   clear hK K
   refine done_ (done_of HT_.out (by kernel_rfl)) ?_
   have hk_ : Kept W4 W6 (fun k => k = g10 ∨ k = g11) := Kept.then_ (k1_.mono (fun k hk => .inl hk)) k2_ (fun k hk => .inl (.inr hk))
   have hb6 : Below W3.heap.size W3 W6 := ⟨(o1_.trans o2_).os.trans hb.os, (o1_.trans o2_).tape.trans hb.tape, (o1_.trans o2_).output.trans hb.output, Nat.le_trans hb.size (o1_.trans o2_).size, fun k hk => (hk_.2 k (Nat.lt_of_lt_of_le hk hb.size) (fun e => by omega)).trans (hb.block k hk)⟩
   have HNE := Aside0.mk (show g1 ≠ g10 ∧ g1 ≠ g11 by have := blk_lt (HRI.out.hx.at 0 rfl); omega)
   have hg_ := HRI.out.gd.step y
   have n0_ := Aside0.mk (HRI.out.below hb6)
   have HV1 := Aside0.mk (R_box2 h1_ e39 (by decide) (by decide) hxa hxb hk_)
   have HV2 := Aside0.mk (R_box2 h2_ e9 (by decide) (by decide) hxa hxb hk_)
   have HB1 := Aside0.mk (blk_kept b1_ k2_ ne_)
   have HB2 := Aside0.mk b2_
   have HGD := Aside0.mk hg_
   clear hg_ HRI hb hxa hxb h1_ h2_ hr_ b5_ b1_ b2_ k1_ k2_ o1_ o2_ hk_ hHeld HT_ HW_
   have HRI := n0_
   clear n0_
   obtain ⟨K1, hK1⟩ : ∃ K, K = (stepA link L1 L2 y).1 := ⟨_, rfl⟩
   obtain ⟨K2, hK2⟩ : ∃ K, K = (stepA link L1 L2 y).2 := ⟨_, rfl⟩
   simp only [← hK1, ← hK2] at HV1 HV2 HB1 HGD ⊢
   have HK := Aside0.mk (And.intro hK1 hK2)
   clear hK1 hK2
   skip
   have a_0 := (blk_cell HB1.out 0).trans rfl; have a_1 := (blk_cell HB1.out 1).trans rfl; have a_2 := (blk_cell HB1.out 2).trans rfl
   have c_0 := HRI.out.hx.cell 0 rfl 0 rfl; have f_0 := HRI.out.hx.free 0 rfl 0
   have c_1 := HRI.out.hx.cell 0 rfl 1 rfl; have f_1 := HRI.out.hx.free 0 rfl 1
   have c_2 := HRI.out.hx.cell 0 rfl 2 rfl; have f_2 := HRI.out.hx.free 0 rfl 2
   have ne1_ := HNE.out.1; have ne2_ : g10 ≠ g1 := fun e => HNE.out.1 e.symm
   go_upto_region 14 with (fail)
   clear a_0 a_1 a_2 c_0 c_1 c_2 f_0 f_1 f_2 ne1_ ne2_
   have n0_ := Aside0.mk (HRI.out.next HV1.out HV2.out HGD.out)
   have n1_ := Aside0.mk (blk_far (blk_far (blk_far HB2.out (p := ⟨g1, 0, none⟩) (fun e => HNE.out.2 e.symm) (.string link)) (p := ⟨g1, 1, none⟩) (fun e => HNE.out.2 e.symm) (.slice V1 K1.length i1)) (p := ⟨g1, 2, none⟩) (fun e => HNE.out.2 e.symm) (.slice V2 K2.length i2))
   clear HRI HV1 HV2 HB1 HB2 HGD
   have HRI := n0_
   have HB2 := n1_
   clear n0_ n1_
   generalize World.setCell _ _ _ = W7 at HRI HB2 ⊢
   have x_0 := (blk_cell HB2.out 0).trans rfl
   have x_1 := (blk_cell HB2.out 1).trans rfl
   have x_2 := (blk_cell HB2.out 2).trans rfl
   have x_3 := (blk_cell HB2.out 3).trans rfl
   have x_4 := (blk_cell HB2.out 4).trans rfl
   go_wp2_with ((with_reducible refine gate_builtin (b := .append) (xs := #[.tmp 46, .tmp 48]) rfl ?_); at_builtin; refine Kd.R_append kV (w0 := W7) 0 rfl (.tmp 46) (.tmp 48) 28 54 (.agg #[(.int .i64 0), (.slice none 0 0), (.slice none 0 0), (.slice none 0 0), (.slice none 0 0)]) 104 rfl Try.underlying28 info54 rfl (by decide) (by omega) _ xs [.int .i64 cd', .slice X1 p1.length j1, .slice X2 p2.length j2, .slice X3 p3.length j3, .slice X4 p4.length j4] [.int .i64 cd', .slice X1 p1.length j1, .slice X2 p2.length j2, .slice X3 p3.length j3, .slice X4 p4.length j4] _ (fun _ => False) rfl (by (go_simp; done)) ⟨rfl, rfl, by simp [Value.oneCell']⟩ (fun _ hk => hk.elim) (fun _ _ => trivial) HRI.out.ho (Below.refl _ _) (Nat.zero_le _) (by have := HI.out; have := HL.out.2; omega) ?_; intro v1 w8 ho hb hg hat; obtain ⟨YS, hYS⟩ : ∃ YS, YS = xs ++ [[.int .i64 cd', .slice X1 p1.length j1, .slice X2 p2.length j2, .slice X3 p3.length j3, .slice X4 p4.length j4]] := ⟨_, rfl⟩; rw [← hYS] at ho; have HYS := Aside0.mk hYS; clear hYS; obtain ⟨O2, co2, rfl⟩ := Kd.R_slice ho; have n0_ := Aside0.mk (HRI.out.told ho hg hat); clear HRI hb hg hat ho x_0 x_1 x_2 x_3 x_4; have HRI := n0_; clear n0_)
   go_roundg (l1.length - (i + 1))
   case measure => have := HI.out; omega
   case rel => exact ⟨i + 1, V1, V2, O2, i1, i2, co2, K1, K2, YS, rfl, by go_num, ⟨by omega, by omega, by have := HI.out; rw [HYS.out, List.length_append]; simp only [List.length_cons, List.length_nil]; omega, by rw [HLI.out, ← HI.out.2.2.2, HK.out.1, HK.out.2]⟩, HRI⟩
  ·
   have t1 : decide (i < l1.length) = false := decide_eq_false hlt
   have HE := Aside0.mk (show (L1, L2) = runA link l1 by rw [HI.out.2.2.2, List.take_of_length_le (by omega)])
   have HW := Aside0.mk (own_f link L1 L2 (by have := HRI.out.gd.n1; omega) (by have := HRI.out.gd.n2; omega))
   clear hlt HI
   have c_0 := HRI.out.hx.cell 0 rfl 0 rfl; have c_1 := HRI.out.hx.cell 0 rfl 1 rfl; have c_2 := HRI.out.hx.cell 0 rfl 2 rfl
   go_wp2_with (go_at_call 23; (with_reducible refine (spec_l14Own.calls link _ _ L1 _ _ L2 link L1 L2 _ (Kd.R_reads' HRI.out.ha).2.2 (Kd.R_reads' HRI.out.ha).2.1 (Kd.R_reads' HRI.out.hq).2.2 (Kd.R_reads' HRI.out.hq).2.1 HW.out).mono ?_); rintro e w5 ⟨z1, z2, rfl, h1_, h2_, hb_⟩; obtain ⟨Z1, q1, rfl⟩ := Kd.R_slice h1_; obtain ⟨Z2, q2, rfl⟩ := Kd.R_slice h2_; have HX := Aside0.mk (HRI.out.hx.below hb_); have H1 := Aside0.mk (Kd.R_lower h1_ HRI.out.hx.kept.1); have H2 := Aside0.mk (Kd.R_lower h2_ HRI.out.hx.kept.1); clear HRI h1_ h2_ hb_ c_0 c_1 c_2; have d_0 := HX.out.cell 1 rfl 0 rfl; have f_0 := HX.out.free 1 rfl 0; have d_1 := HX.out.cell 1 rfl 1 rfl; have f_1 := HX.out.free 1 rfl 1; have d_2 := HX.out.cell 1 rfl 2 rfl; have f_2 := HX.out.free 1 rfl 2)
   clear d_0 f_0 d_1 f_1 d_2 f_2 t1
   have s1 := HX.out.set (P := [_]) 0 (.string link) rfl
   have s2 := s1.set (P := [_]) 1 (.slice Z1 L1.length q1) rfl
   have s3 := s2.set (P := [_]) 2 (.slice Z2 L2.length q2) rfl
   have r1 := Kd.R_set (Kd.R_set (Kd.R_set H1.out (HX.out.at 1 rfl) (t39 (by decide)) 0 (.string link)) (s1.at 1 rfl) (t39 (by decide)) 1 (.slice Z1 L1.length q1)) (s2.at 1 rfl) (t39 (by decide)) 2 (.slice Z2 L2.length q2)
   have r2 := Kd.R_set (Kd.R_set (Kd.R_set H2.out (HX.out.at 1 rfl) (t9 (by decide)) 0 (.string link)) (s1.at 1 rfl) (t9 (by decide)) 1 (.slice Z1 L1.length q1)) (s2.at 1 rfl) (t9 (by decide)) 2 (.slice Z2 L2.length q2)
   have e1_ : L1 = (runA link l1).1 := congrArg Prod.fst HE.out
   have e2_ : L2 = (runA link l1).2 := congrArg Prod.snd HE.out
   rw [← e1_, ← e2_]
   exact bodyPost_ret (results_ctt rfl _ _ g0 27 _ (0, 0) _ rfl (s3.at 1 rfl) Try.underlying27 rfl (by kernel_rfl)) rfl ⟨_, _, _, rfl, r1, r2, trivial, below_of s3⟩
end Go.Proofs.Ytnpbnmhbajiefaa.PFnSources
