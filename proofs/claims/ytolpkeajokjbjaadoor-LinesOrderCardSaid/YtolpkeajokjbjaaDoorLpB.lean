/- Lines: a step goes; Unkill. -/
import Derived.Test.YtolpkeajokjbjaaDoorLpA
set_option linter.unusedVariables false
set_option linter.unusedSimpArgs false
namespace Go.Proofs.YtolpkeajokjbjaaDoor
open Go.RowKit Go.L Go.Lib
attribute [local irreducible] LL LW LO LP LA
def cutN (x : Ln) (b : Vx) : Ln := { x with next := x.next.eraseIdx (placeG x.next b).toNat }
def cutP (y : Ln) (a : Vx) : Ln := { y with prev := y.prev.eraseIdx (placeG y.prev a).toNat }
def unN (m : At) (a b : Vx) : At := if 0 ≤ placeG (atG m a).next b then setA m a (cutN (atG m a) b) else m
def unP (m : At) (a b : Vx) : At := if 0 ≤ placeG (atG m b).prev a then setA m b (cutP (atG m b) a) else m
def unstepA (m : At) (a b : Vx) : At := unP (unN m a b) a b
theorem unN_len (m : At) (a b v : Vx) {k : Nat} (h : Sz m k) : (atG (unN m a b) v).next.length ≤ k ∧ (atG (unN m a b) v).prev.length ≤ k := by
  unfold unN
  split
  · rw [atG_set]
    split
    · rename_i e
      subst e
      refine ⟨?_, (h a).2⟩
      exact Nat.le_trans (List.length_eraseIdx_le _ _) (h a).1
    · exact h v
  · exact h v
theorem unP_len (m : At) (a b v : Vx) {k : Nat} (h : Sz m k) : (atG (unP m a b) v).next.length ≤ k ∧ (atG (unP m a b) v).prev.length ≤ k := by
  unfold unP
  split
  · rw [atG_set]
    split
    · rename_i e
      subst e
      refine ⟨(h b).1, ?_⟩
      exact Nat.le_trans (List.length_eraseIdx_le _ _) (h b).2
    · exact h v
  · exact h v
theorem Sz.unstep {m : At} {k : Nat} (h : Sz m k) (a b : Vx) : Sz (unstepA m a b) k := fun v => unP_len _ a b v fun v => unN_len m a b v h
set_option maxHeartbeats 2000000 in
set_option maxRecDepth 100000 in
theorem unstep_calls (g ma mb : Nat) (n : Int) (m : At) (a b : Vx) (k : Nat) (hz : Sz m k) (hk : k < 900000) : LCalls Tryd.prog 41 [pt g, .agg (vxL a), .agg (vxL b)] [gC g ma mb n, gA ma m] (fun r H' => r = .tup [] ∧ H' = [gC g ma mb n, gA ma (unstepA m a b)]) := by
  have hal := vxL_len a
  have hbl := vxL_len b
  have ha32 : a.p.1.length = 32 := a.p.2
  have hb32 : b.p.1.length = 32 := b.p.2
  obtain ⟨x, hx⟩ : ∃ x, x = atG m a := ⟨_, rfl⟩
  have hxn := (hz a).1
  rw [← hx] at hxn
  obtain ⟨m1, hm1⟩ : ∃ m1, m1 = unN m a b := ⟨_, rfl⟩
  obtain ⟨y, hy⟩ : ∃ y, y = atG m1 b := ⟨_, rfl⟩
  have hyn : y.prev.length ≤ k := by rw [hy, hm1]; exact (unN_len m a b b hz).2
  have hm1b : m1 = if 0 ≤ placeG x.next b then setA m a (cutN x b) else m := by rw [hm1, unN, hx]
  obtain ⟨m2, hm2⟩ : ∃ m2, m2 = unstepA m a b := ⟨_, rfl⟩
  have hm2b : m2 = if 0 ≤ placeG y.prev a then setA m1 b (cutP y a) else m1 := by rw [hm2, unstepA, ← hm1, unP, hy]
  rw [← hm2]
  have hxi : Is ((lookM (encM lnE m) a).getD (.raw z73)) (lnE x) := by rw [hx]; exact at_is m a
  have hyi : Is ((lookM (encM lnE m1) b).getD (.raw z73)) (lnE y) := by rw [hy]; exact at_is m1 b
  refine LCalls.of Tryd.func41 rfl Tryd.ntmps41 Tryd.results41 rfl (fun Rf => ?_)
  refine LW.seq ?_
  refine LW.region ?_
  refine X.act (X.box rfl Is.rfl' (by exact Cells.agg) (fun b4 => ?_))
  refine X.act (X.box rfl Is.rfl' (by exact Cells.agg) (fun b5 => ?_))
  refine LL.nil (after_code ?_)
  refine LW.seq ?_
  refine LW.invM (m := 7) (γ := Nat × Nat) [(0, 10), (1, 11), (2, 12), (3, 13), (4, 14), (5, 15), (6, 6)] (fun g_ d => match g_ with | ⟨b_, z_⟩ => match d with | 10 => pt g | 11 => pt g | 12 => pt g | 13 => .raw (.map (some ma)) | 14 => .agg (vxL a) | 15 => lnE x | 6 => pt b_ | _ => .any) (fun g_ f => match g_ with | ⟨b_, z_⟩ => cond (f 6) (.cells b_ 73 (raws z73.cells.toList)) (.tail 0 0 0) :: .cells b4 35 (vxL a) :: .cells b5 35 (vxL b) :: gC g ma mb n :: gA ma m :: Rf) (0, 0) rfl (by kernel_rfl) rfl rfl ((HSub.trans (by repeat (first | exact HSub.refl _ | refine HSub.pick 1 rfl ?_)) (HSub.tail0 0 0 0 (Nat.le_refl _) _))) ?_ ?_
  · intro i hi f g_ hfi hdir hdown
    obtain ⟨b_, z_⟩ := g_
    have hc : i = 0 ∨ i = 1 ∨ i = 2 ∨ i = 3 ∨ i = 4 ∨ i = 5 ∨ i = 6 := by omega
    rcases hc with rfl | rfl | rfl | rfl | rfl | rfl | rfl
    · refine ⟨_, rfl, ?_⟩
      refine A.u (LU.moveR Is.rfl') rfl ?_
      refine ⟨⟨b_, z_⟩, Weaker.mk' ?_ (HSub.refl _)⟩
      refine env_back0 (envS_hit (sl := [(0, 10), (1, 11), (2, 12), (3, 13), (4, 14), (5, 15), (6, 6)]) (j := 0) (d := 10) rfl (fun _ _ h => h))  (envS_next ?_)
      · intro p hp hne; simp only [List.mem_cons, List.not_mem_nil, or_false] at hp; rcases hp with rfl | rfl | rfl | rfl | rfl | rfl | rfl <;> first | exact absurd rfl hne | exact ⟨rfl, rfl⟩
    · have d0 := hdir 0 (List.mem_of_elem_eq_true (by kernel_rfl))
      refine ⟨_, rfl, ?_⟩
      refine LP.weak (t := 10) (v := pt g) (envS_is (j := 0) rfl d0) ?_
      refine A.u (LU.nilCheck Is.rfl') rfl ?_
      refine ⟨⟨b_, z_⟩, Weaker.mk' ?_ (HSub.refl _)⟩
      refine env_back1 (envS_hit (sl := [(0, 10), (1, 11), (2, 12), (3, 13), (4, 14), (5, 15), (6, 6)]) (j := 1) (d := 11) rfl (fun _ _ h => h)) (envS_hit (sl := [(0, 10), (1, 11), (2, 12), (3, 13), (4, 14), (5, 15), (6, 6)]) (j := 0) (d := 10) rfl (fun _ _ h => h)) (envS_next ?_)
      · intro p hp hne; simp only [List.mem_cons, List.not_mem_nil, or_false] at hp; rcases hp with rfl | rfl | rfl | rfl | rfl | rfl | rfl <;> first | exact absurd rfl hne | exact ⟨rfl, rfl⟩
    · have d1 := hdir 1 (List.mem_of_elem_eq_true (by kernel_rfl))
      refine ⟨_, rfl, ?_⟩
      refine LP.weak (t := 11) (v := pt g) (envS_is (j := 1) rfl d1) ?_
      refine A.u (LU.fieldO Tryd.underlying68 rfl Tryd.sizeOf65 (by decide) Is.rfl') rfl ?_
      refine ⟨⟨b_, z_⟩, Weaker.mk' ?_ (HSub.refl _)⟩
      refine env_back1 (envS_hit (sl := [(0, 10), (1, 11), (2, 12), (3, 13), (4, 14), (5, 15), (6, 6)]) (j := 2) (d := 12) rfl (fun _ _ h => h)) (envS_hit (sl := [(0, 10), (1, 11), (2, 12), (3, 13), (4, 14), (5, 15), (6, 6)]) (j := 1) (d := 11) rfl (fun _ _ h => h)) (envS_next ?_)
      · intro p hp hne; simp only [List.mem_cons, List.not_mem_nil, or_false] at hp; rcases hp with rfl | rfl | rfl | rfl | rfl | rfl | rfl <;> first | exact absurd rfl hne | exact ⟨rfl, rfl⟩
    · have d2 := hdir 2 (List.mem_of_elem_eq_true (by kernel_rfl))
      refine ⟨_, rfl, ?_⟩
      refine LP.weak (t := 12) (v := pt g) (envS_is (j := 2) rfl d2) ?_
      refine A.u (LU.loadO 3 rfl ⟨Tryd.sizeOf65, Tryd.isAgg65⟩ Is.rfl' (Part.one rfl)) rfl ?_
      refine ⟨⟨b_, z_⟩, Weaker.mk' ?_ (HSub.refl _)⟩
      refine env_back1 (envS_hit (sl := [(0, 10), (1, 11), (2, 12), (3, 13), (4, 14), (5, 15), (6, 6)]) (j := 3) (d := 13) rfl (fun _ _ h => h)) (envS_hit (sl := [(0, 10), (1, 11), (2, 12), (3, 13), (4, 14), (5, 15), (6, 6)]) (j := 2) (d := 12) rfl (fun _ _ h => h)) (envS_next ?_)
      · intro p hp hne; simp only [List.mem_cons, List.not_mem_nil, or_false] at hp; rcases hp with rfl | rfl | rfl | rfl | rfl | rfl | rfl <;> first | exact absurd rfl hne | exact ⟨rfl, rfl⟩
    · refine ⟨_, rfl, ?_⟩
      refine A.u (LU.loadO 1 rfl ⟨Tryd.sizeOf35, Tryd.isAgg35⟩ Is.rfl' (Part.whole (by assumption))) rfl ?_
      refine ⟨⟨b_, z_⟩, Weaker.mk' ?_ (HSub.refl _)⟩
      refine env_back0 (envS_hit (sl := [(0, 10), (1, 11), (2, 12), (3, 13), (4, 14), (5, 15), (6, 6)]) (j := 4) (d := 14) rfl (fun _ _ h => h))  (envS_next ?_)
      · intro p hp hne; simp only [List.mem_cons, List.not_mem_nil, or_false] at hp; rcases hp with rfl | rfl | rfl | rfl | rfl | rfl | rfl <;> first | exact absurd rfl hne | exact ⟨rfl, rfl⟩
    · have d3 := hdir 3 (List.mem_of_elem_eq_true (by kernel_rfl))
      have d4 := hdir 4 (List.mem_of_elem_eq_true (by kernel_rfl))
      refine ⟨_, rfl, ?_⟩
      refine LP.weak (t := 13) (v := .raw (.map (some ma))) (envS_is (j := 3) rfl d3) ?_
      refine LP.weak (t := 14) (v := .agg (vxL a)) (envS_is (j := 4) rfl d4) ?_
      refine A.u (LU.weak (LU.lookup 4 (KeyOk.vx vxty) rfl Tryd.underlying65 Tryd.zeroValue73 Is.rfl' (by exact Is.vx _)) (hxi)) rfl ?_
      refine ⟨⟨b_, z_⟩, Weaker.mk' ?_ (HSub.refl _)⟩
      refine env_back2 (envS_hit (sl := [(0, 10), (1, 11), (2, 12), (3, 13), (4, 14), (5, 15), (6, 6)]) (j := 5) (d := 15) rfl (fun _ _ h => h)) (envS_hit (sl := [(0, 10), (1, 11), (2, 12), (3, 13), (4, 14), (5, 15), (6, 6)]) (j := 4) (d := 14) rfl (fun _ _ h => h)) (envS_hit (sl := [(0, 10), (1, 11), (2, 12), (3, 13), (4, 14), (5, 15), (6, 6)]) (j := 3) (d := 13) rfl (fun _ _ h => h)) (envS_next ?_)
      · intro p hp hne; simp only [List.mem_cons, List.not_mem_nil, or_false] at hp; rcases hp with rfl | rfl | rfl | rfl | rfl | rfl | rfl <;> first | exact absurd rfl hne | exact ⟨rfl, rfl⟩
    · refine ⟨_, rfl, ?_⟩
      refine A.act (X.alloc rfl Tryd.zeroValue73 (by exact Cells.rawagg (by decide)) (fun b6 => ?_))
      refine ⟨(b6, 0), Weaker.mk' ?_ (by show L.HSub (_ :: cond (f 6) _ (.tail 0 0 0) :: _) _; rw [hfi]; exact HSub.cons (HSub.drop (HSub.refl _)))⟩
      refine env_back0 (envS_hit (sl := [(0, 10), (1, 11), (2, 12), (3, 13), (4, 14), (5, 15), (6, 6)]) (j := 6) (d := 6) rfl (fun _ _ h => h))  (envS_next ?_)
      · intro p hp hne; simp only [List.mem_cons, List.not_mem_nil, or_false] at hp; rcases hp with rfl | rfl | rfl | rfl | rfl | rfl | rfl <;> first | exact absurd rfl hne | exact ⟨rfl, rfl⟩
  · intro g_ f hf_
    obtain ⟨b_, z_⟩ := g_
    refine X.ghost (H' := .cells b_ 73 (raws z73.cells.toList) :: .cells b4 35 (vxL a) :: .cells b5 35 (vxL b) :: gC g ma mb n :: gA ma m :: Rf) (by show L.HSub (cond (f 6) _ (.tail 0 0 0) :: _) _; rw [hf_ 6 (by omega)]; exact HSub.refl _) ?_
    refine X.act (X.store 0 rfl Tryd.sizeOf73 Is.rfl' Is.rfl' (by exact Cells.agg) (by (simp; done)) (by exact Nat.le_of_ble_eq_true rfl) ?_)
    refine LL.nil (after_code ?_)
    refine X.meetK (α := Unit) (fun u_ => []) [0, 4, 5] (fun u_ => .cells b4 35 (vxL a) :: .cells b5 35 (vxL b) :: gC g ma mb n :: gA ma m1 :: Rf) (fun u_ => True) ?_ ?_
    · refine LW.seq ?_
      refine X.wcells (ys := lnL x) rfl ?_
      refine X.wghost (H' := .cells b_ 73 (lnL x) :: gC g ma mb n :: gA ma m :: .cells b4 35 (vxL a) :: .cells b5 35 (vxL b) :: Rf) (by repeat (first | exact HSub.refl _ | refine HSub.pick 0 rfl ?_ | refine HSub.pick 2 rfl ?_)) ?_
      refine LW.region ?_
      refine X.u (LU.fieldO Tryd.underlying73 rfl Tryd.sizeOf26 (by decide) Is.rfl') rfl ?_
      refine X.u (LU.loadO 0 rfl ⟨Tryd.sizeOf26, Tryd.isAgg26⟩ Is.rfl' (Part.one rfl)) rfl ?_
      refine X.u (LU.loadO 4 rfl ⟨Tryd.sizeOf35, Tryd.isAgg35⟩ Is.rfl' (Part.whole (by assumption))) rfl ?_
      refine X.u (LU.call (index_calls x.next .unk b (by omega)) Tryd.func56 rfl rfl (Opds.cons Is.rfl' (Opds.cons Is.rfl' Opds.nil))) rfl ?_
      refine X.u (LU.assignR Is.rfl') rfl ?_
      refine LL.nil (after_code ?_)
      refine LW.seq ?_
      refine LW.region ?_
      refine X.u (LU.moveR Is.rfl') rfl ?_
      refine X.u (LU.geq Is.rfl' Is.rfl') rfl ?_
      refine LL.nil (after_code ?_)
      refine X.cond rfl (fun h3 => ?_) (fun h3 => ?_)
      · have h3 : 0 ≤ placeG x.next b := by simpa using h3
        rw [if_pos h3] at hm1b
        have hpr := placeG_range x.next b
        obtain ⟨ix, hix⟩ : ∃ ix : Nat, placeG x.next b = ix := ⟨(placeG x.next b).toNat, by omega⟩
        have hcut : cutN x b = { x with next := x.next.eraseIdx ix } := by unfold cutN; rw [hix, Int.toNat_natCast]
        refine LW.seq ?_
        refine LW.region ?_
        refine X.u (LU.fieldO Tryd.underlying73 rfl Tryd.sizeOf26 (by decide) Is.rfl') rfl ?_
        refine X.u (LU.loadO 0 rfl ⟨Tryd.sizeOf26, Tryd.isAgg26⟩ Is.rfl' (Part.one rfl)) rfl ?_
        refine X.act (X.call (cloneO_calls x.next .unk (by omega) (by omega)) Tryd.func36 rfl rfl rfl (HSub.refl _) (Opds.cons Is.rfl' Opds.nil) ?_)
        rintro r H' ⟨b24, c24, xs24, rfl, rfl, ow24⟩
        refine X.u (LU.weak (LU.moveR Is.rfl') (Is.of (y := i64 (ix : Nat)) (congrArg i64 hix))) rfl ?_
        refine X.u (LU.moveR Is.rfl') rfl ?_
        refine X.u (LU.weak (LU.addN Is.rfl' Is.rfl' (wrap_i64 (by omega) (by omega))) (Is.of (y := i64 ((ix + 1 : Nat) : Int)) (congrArg i64 (by rw [hix]; rfl)))) rfl ?_
        refine X.act (X.call (delete_calls x.next b24 0 x.next.length c24 ix _ xs24 ow24 (by omega) (by omega)) Tryd.func57 rfl rfl rfl (by (refine HSub.pick 0 rfl ?_); exact HSub.refl _) (Opds.cons Is.rfl' (Opds.cons Is.rfl' (Opds.cons Is.rfl' Opds.nil))) ?_)
        rintro r H' ⟨rfl, xs28, rfl, ow28⟩
        refine LL.freezeO (t := 28) 0 rfl rfl ow28 ?_
        refine X.u (LU.fieldO Tryd.underlying73 rfl Tryd.sizeOf26 (by decide) Is.rfl') rfl ?_
        refine X.act (X.store 0 rfl Tryd.sizeOf26 Is.rfl' Is.rfl' (by exact Cells.sl) (by (simp; done)) (by (simp; done)) ?_)
        refine LL.nil (after_code ?_)
        refine X.wcells (ys := [Str x.text, .sl 32 (hss x.kills) .unk, i64 x.part, Vxs (x.next.eraseIdx ix) .unk, Vxs x.prev .unk]) rfl ?_
        refine X.wghost (H' := .cells b_ 73 (lnL (cutN x b)) :: gC g ma mb n :: gA ma m :: .cells b4 35 (vxL a) :: .cells b5 35 (vxL b) :: Rf) (by rw [hcut]; exact (by repeat (exact HSub.refl _))) ?_
        refine X.drawM 6 rfl (by kernel_rfl) rfl ?_
        refine QD.u (LU.moveR Is.rfl') rfl ?_
        refine QD.u (LU.nilCheck Is.rfl') rfl ?_
        refine QD.u (LU.fieldO Tryd.underlying68 rfl Tryd.sizeOf65 (by decide) Is.rfl') rfl ?_
        refine QD.u (LU.loadO 1 rfl ⟨Tryd.sizeOf65, Tryd.isAgg65⟩ Is.rfl' (Part.one rfl)) rfl ?_
        refine QD.u (LU.loadO 3 rfl ⟨Tryd.sizeOf35, Tryd.isAgg35⟩ Is.rfl' (Part.whole (by assumption))) rfl ?_
        refine QD.u (LU.loadO 0 rfl ⟨Tryd.sizeOf73, Tryd.isAgg73⟩ Is.rfl' (Part.whole (by (simp; done)))) rfl ?_
        refine QD.nil ?_
        refine X.act (LO.mapUpdate (st := ⟨_, _, _⟩) 2 (KeyOk.vx vxty) rfl Tryd.underlying65 Is.rfl' (by exact Is.vx _) Is.rfl' ?_)
        refine LL.nil (after_rnd ?_)
        refine X.meets (()) rfl (EnvLe.nil) (Keeps.cons (by exact Eq.trans (b := .raw _) rfl rfl) (Keeps.cons (by exact Eq.trans (b := .raw _) rfl rfl) (Keeps.cons (by exact Eq.trans (b := .raw _) rfl rfl) (Keeps.nil)))) (by (rw [hm1b, ← gA_set]; exact (by repeat (first | exact HSub.refl _ | refine HSub.pick 0 rfl ?_ | refine HSub.pick 2 rfl ?_ | refine HSub.pick 3 rfl ?_ | refine HSub.drop ?_)))) ?_
        trivial
      · have h3 : ¬ 0 ≤ placeG x.next b := by simp at h3; omega
        rw [if_neg h3] at hm1b
        refine LW.skip (after_rnd ?_)
        refine X.meets (()) rfl (EnvLe.nil) (Keeps.cons (by exact Eq.trans (b := .raw _) rfl rfl) (Keeps.cons (by exact Eq.trans (b := .raw _) rfl rfl) (Keeps.cons (by exact Eq.trans (b := .raw _) rfl rfl) (Keeps.nil)))) (by (rw [hm1b]; exact (by repeat (first | exact HSub.refl _ | refine HSub.pick 1 rfl ?_ | refine HSub.pick 3 rfl ?_ | refine HSub.drop ?_)))) ?_
        trivial
    · rintro u_ hI
      refine LW.seq ?_
      refine LW.invM (m := 7) (γ := Nat × Nat) [(0, 36), (1, 37), (2, 38), (3, 39), (4, 40), (5, 41), (6, 8)] (fun g_ d => match g_ with | ⟨c_, z_⟩ => match d with | 36 => pt g | 37 => pt g | 38 => pt g | 39 => .raw (.map (some ma)) | 40 => .agg (vxL b) | 41 => lnE y | 8 => pt c_ | _ => .any) (fun g_ f => match g_ with | ⟨c_, z_⟩ => cond (f 6) (.cells c_ 73 (raws z73.cells.toList)) (.tail 0 0 0) :: .cells b4 35 (vxL a) :: .cells b5 35 (vxL b) :: gC g ma mb n :: gA ma m1 :: Rf) (0, 0) rfl (by kernel_rfl) rfl rfl ((HSub.trans (by repeat (exact HSub.refl _)) (HSub.tail0 0 0 0 (Nat.le_refl _) _))) ?_ ?_
      · intro i hi f g_ hfi hdir hdown
        obtain ⟨c_, z_⟩ := g_
        have hc : i = 0 ∨ i = 1 ∨ i = 2 ∨ i = 3 ∨ i = 4 ∨ i = 5 ∨ i = 6 := by omega
        rcases hc with rfl | rfl | rfl | rfl | rfl | rfl | rfl
        · refine ⟨_, rfl, ?_⟩
          refine A.u (LU.moveR Is.rfl') rfl ?_
          refine ⟨⟨c_, z_⟩, Weaker.mk' ?_ (HSub.refl _)⟩
          refine env_back0 (envS_hit (sl := [(0, 36), (1, 37), (2, 38), (3, 39), (4, 40), (5, 41), (6, 8)]) (j := 0) (d := 36) rfl (fun _ _ h => h))  (envS_next ?_)
          · intro p hp hne; simp only [List.mem_cons, List.not_mem_nil, or_false] at hp; rcases hp with rfl | rfl | rfl | rfl | rfl | rfl | rfl <;> first | exact absurd rfl hne | exact ⟨rfl, rfl⟩
        · have d0 := hdir 0 (List.mem_of_elem_eq_true (by kernel_rfl))
          refine ⟨_, rfl, ?_⟩
          refine LP.weak (t := 36) (v := pt g) (envS_is (j := 0) rfl d0) ?_
          refine A.u (LU.nilCheck Is.rfl') rfl ?_
          refine ⟨⟨c_, z_⟩, Weaker.mk' ?_ (HSub.refl _)⟩
          refine env_back1 (envS_hit (sl := [(0, 36), (1, 37), (2, 38), (3, 39), (4, 40), (5, 41), (6, 8)]) (j := 1) (d := 37) rfl (fun _ _ h => h)) (envS_hit (sl := [(0, 36), (1, 37), (2, 38), (3, 39), (4, 40), (5, 41), (6, 8)]) (j := 0) (d := 36) rfl (fun _ _ h => h)) (envS_next ?_)
          · intro p hp hne; simp only [List.mem_cons, List.not_mem_nil, or_false] at hp; rcases hp with rfl | rfl | rfl | rfl | rfl | rfl | rfl <;> first | exact absurd rfl hne | exact ⟨rfl, rfl⟩
        · have d1 := hdir 1 (List.mem_of_elem_eq_true (by kernel_rfl))
          refine ⟨_, rfl, ?_⟩
          refine LP.weak (t := 37) (v := pt g) (envS_is (j := 1) rfl d1) ?_
          refine A.u (LU.fieldO Tryd.underlying68 rfl Tryd.sizeOf65 (by decide) Is.rfl') rfl ?_
          refine ⟨⟨c_, z_⟩, Weaker.mk' ?_ (HSub.refl _)⟩
          refine env_back1 (envS_hit (sl := [(0, 36), (1, 37), (2, 38), (3, 39), (4, 40), (5, 41), (6, 8)]) (j := 2) (d := 38) rfl (fun _ _ h => h)) (envS_hit (sl := [(0, 36), (1, 37), (2, 38), (3, 39), (4, 40), (5, 41), (6, 8)]) (j := 1) (d := 37) rfl (fun _ _ h => h)) (envS_next ?_)
          · intro p hp hne; simp only [List.mem_cons, List.not_mem_nil, or_false] at hp; rcases hp with rfl | rfl | rfl | rfl | rfl | rfl | rfl <;> first | exact absurd rfl hne | exact ⟨rfl, rfl⟩
        · have d2 := hdir 2 (List.mem_of_elem_eq_true (by kernel_rfl))
          refine ⟨_, rfl, ?_⟩
          refine LP.weak (t := 38) (v := pt g) (envS_is (j := 2) rfl d2) ?_
          refine A.u (LU.loadO 3 rfl ⟨Tryd.sizeOf65, Tryd.isAgg65⟩ Is.rfl' (Part.one rfl)) rfl ?_
          refine ⟨⟨c_, z_⟩, Weaker.mk' ?_ (HSub.refl _)⟩
          refine env_back1 (envS_hit (sl := [(0, 36), (1, 37), (2, 38), (3, 39), (4, 40), (5, 41), (6, 8)]) (j := 3) (d := 39) rfl (fun _ _ h => h)) (envS_hit (sl := [(0, 36), (1, 37), (2, 38), (3, 39), (4, 40), (5, 41), (6, 8)]) (j := 2) (d := 38) rfl (fun _ _ h => h)) (envS_next ?_)
          · intro p hp hne; simp only [List.mem_cons, List.not_mem_nil, or_false] at hp; rcases hp with rfl | rfl | rfl | rfl | rfl | rfl | rfl <;> first | exact absurd rfl hne | exact ⟨rfl, rfl⟩
        · refine ⟨_, rfl, ?_⟩
          refine A.u (LU.loadO 2 rfl ⟨Tryd.sizeOf35, Tryd.isAgg35⟩ Is.rfl' (Part.whole (by assumption))) rfl ?_
          refine ⟨⟨c_, z_⟩, Weaker.mk' ?_ (HSub.refl _)⟩
          refine env_back0 (envS_hit (sl := [(0, 36), (1, 37), (2, 38), (3, 39), (4, 40), (5, 41), (6, 8)]) (j := 4) (d := 40) rfl (fun _ _ h => h))  (envS_next ?_)
          · intro p hp hne; simp only [List.mem_cons, List.not_mem_nil, or_false] at hp; rcases hp with rfl | rfl | rfl | rfl | rfl | rfl | rfl <;> first | exact absurd rfl hne | exact ⟨rfl, rfl⟩
        · have d3 := hdir 3 (List.mem_of_elem_eq_true (by kernel_rfl))
          have d4 := hdir 4 (List.mem_of_elem_eq_true (by kernel_rfl))
          refine ⟨_, rfl, ?_⟩
          refine LP.weak (t := 39) (v := .raw (.map (some ma))) (envS_is (j := 3) rfl d3) ?_
          refine LP.weak (t := 40) (v := .agg (vxL b)) (envS_is (j := 4) rfl d4) ?_
          refine A.u (LU.weak (LU.lookup 4 (KeyOk.vx vxty) rfl Tryd.underlying65 Tryd.zeroValue73 Is.rfl' (by exact Is.vx _)) (hyi)) rfl ?_
          refine ⟨⟨c_, z_⟩, Weaker.mk' ?_ (HSub.refl _)⟩
          refine env_back2 (envS_hit (sl := [(0, 36), (1, 37), (2, 38), (3, 39), (4, 40), (5, 41), (6, 8)]) (j := 5) (d := 41) rfl (fun _ _ h => h)) (envS_hit (sl := [(0, 36), (1, 37), (2, 38), (3, 39), (4, 40), (5, 41), (6, 8)]) (j := 4) (d := 40) rfl (fun _ _ h => h)) (envS_hit (sl := [(0, 36), (1, 37), (2, 38), (3, 39), (4, 40), (5, 41), (6, 8)]) (j := 3) (d := 39) rfl (fun _ _ h => h)) (envS_next ?_)
          · intro p hp hne; simp only [List.mem_cons, List.not_mem_nil, or_false] at hp; rcases hp with rfl | rfl | rfl | rfl | rfl | rfl | rfl <;> first | exact absurd rfl hne | exact ⟨rfl, rfl⟩
        · refine ⟨_, rfl, ?_⟩
          refine A.act (X.alloc rfl Tryd.zeroValue73 (by exact Cells.rawagg (by decide)) (fun b8 => ?_))
          refine ⟨(b8, 0), Weaker.mk' ?_ (by show L.HSub (_ :: cond (f 6) _ (.tail 0 0 0) :: _) _; rw [hfi]; exact HSub.cons (HSub.drop (HSub.refl _)))⟩
          refine env_back0 (envS_hit (sl := [(0, 36), (1, 37), (2, 38), (3, 39), (4, 40), (5, 41), (6, 8)]) (j := 6) (d := 8) rfl (fun _ _ h => h))  (envS_next ?_)
          · intro p hp hne; simp only [List.mem_cons, List.not_mem_nil, or_false] at hp; rcases hp with rfl | rfl | rfl | rfl | rfl | rfl | rfl <;> first | exact absurd rfl hne | exact ⟨rfl, rfl⟩
      · intro g_ f hf_
        obtain ⟨c_, z_⟩ := g_
        refine X.ghost (H' := .cells c_ 73 (raws z73.cells.toList) :: .cells b4 35 (vxL a) :: .cells b5 35 (vxL b) :: gC g ma mb n :: gA ma m1 :: Rf) (by show L.HSub (cond (f 6) _ (.tail 0 0 0) :: _) _; rw [hf_ 6 (by omega)]; exact HSub.refl _) ?_
        refine X.act (X.store 0 rfl Tryd.sizeOf73 Is.rfl' Is.rfl' (by exact Cells.agg) (by (simp; done)) (by exact Nat.le_of_ble_eq_true rfl) ?_)
        refine LL.nil (after_code ?_)
        refine LW.seq ?_
        refine X.wcells (ys := lnL y) rfl ?_
        refine X.wghost (H' := .cells c_ 73 (lnL y) :: gC g ma mb n :: gA ma m1 :: .cells b4 35 (vxL a) :: .cells b5 35 (vxL b) :: Rf) (by repeat (first | exact HSub.refl _ | refine HSub.pick 0 rfl ?_ | refine HSub.pick 2 rfl ?_)) ?_
        refine LW.region ?_
        refine X.u (LU.fieldO Tryd.underlying73 rfl Tryd.sizeOf26 (by decide) Is.rfl') rfl ?_
        refine X.u (LU.loadO 0 rfl ⟨Tryd.sizeOf26, Tryd.isAgg26⟩ Is.rfl' (Part.one rfl)) rfl ?_
        refine X.u (LU.loadO 3 rfl ⟨Tryd.sizeOf35, Tryd.isAgg35⟩ Is.rfl' (Part.whole (by assumption))) rfl ?_
        refine X.u (LU.call (index_calls y.prev .unk a (by omega)) Tryd.func56 rfl rfl (Opds.cons Is.rfl' (Opds.cons Is.rfl' Opds.nil))) rfl ?_
        refine X.u (LU.assignR Is.rfl') rfl ?_
        refine LL.nil (after_code ?_)
        refine LW.seq ?_
        refine LW.region ?_
        refine X.u (LU.moveR Is.rfl') rfl ?_
        refine X.u (LU.geq Is.rfl' Is.rfl') rfl ?_
        refine LL.nil (after_code ?_)
        refine X.cond rfl (fun h8 => ?_) (fun h8 => ?_)
        · have h8 : 0 ≤ placeG y.prev a := by simpa using h8
          rw [if_pos h8] at hm2b
          have hpr2 := placeG_range y.prev a
          obtain ⟨iy, hiy⟩ : ∃ iy : Nat, placeG y.prev a = iy := ⟨(placeG y.prev a).toNat, by omega⟩
          have hcut2 : cutP y a = { y with prev := y.prev.eraseIdx iy } := by unfold cutP; rw [hiy, Int.toNat_natCast]
          refine LW.seq ?_
          refine LW.region ?_
          refine X.u (LU.fieldO Tryd.underlying73 rfl Tryd.sizeOf26 (by decide) Is.rfl') rfl ?_
          refine X.u (LU.loadO 0 rfl ⟨Tryd.sizeOf26, Tryd.isAgg26⟩ Is.rfl' (Part.one rfl)) rfl ?_
          refine X.act (X.call (cloneO_calls y.prev .unk (by omega) (by omega)) Tryd.func36 rfl rfl rfl (HSub.refl _) (Opds.cons Is.rfl' Opds.nil) ?_)
          rintro r H' ⟨b50, c50, xs50, rfl, rfl, ow50⟩
          refine X.u (LU.weak (LU.moveR Is.rfl') (Is.of (y := i64 (iy : Nat)) (congrArg i64 hiy))) rfl ?_
          refine X.u (LU.moveR Is.rfl') rfl ?_
          refine X.u (LU.weak (LU.addN Is.rfl' Is.rfl' (wrap_i64 (by omega) (by omega))) (Is.of (y := i64 ((iy + 1 : Nat) : Int)) (congrArg i64 (by rw [hiy]; rfl)))) rfl ?_
          refine X.act (X.call (delete_calls y.prev b50 0 y.prev.length c50 iy _ xs50 ow50 (by omega) (by omega)) Tryd.func57 rfl rfl rfl (by (refine HSub.pick 0 rfl ?_); exact HSub.refl _) (Opds.cons Is.rfl' (Opds.cons Is.rfl' (Opds.cons Is.rfl' Opds.nil))) ?_)
          rintro r H' ⟨rfl, xs54, rfl, ow54⟩
          refine LL.freezeO (t := 54) 0 rfl rfl ow54 ?_
          refine X.u (LU.fieldO Tryd.underlying73 rfl Tryd.sizeOf26 (by decide) Is.rfl') rfl ?_
          refine X.act (X.store 0 rfl Tryd.sizeOf26 Is.rfl' Is.rfl' (by exact Cells.sl) (by (simp; done)) (by (simp; done)) ?_)
          refine LL.nil (after_code ?_)
          refine X.wcells (ys := [Str y.text, .sl 32 (hss y.kills) .unk, i64 y.part, Vxs y.next .unk, Vxs (y.prev.eraseIdx iy) .unk]) rfl ?_
          refine X.wghost (H' := .cells c_ 73 (lnL (cutP y a)) :: gC g ma mb n :: gA ma m1 :: .cells b4 35 (vxL a) :: .cells b5 35 (vxL b) :: Rf) (by rw [hcut2]; exact (by repeat (exact HSub.refl _))) ?_
          refine X.drawM 6 rfl (by kernel_rfl) rfl ?_
          refine QD.u (LU.moveR Is.rfl') rfl ?_
          refine QD.u (LU.nilCheck Is.rfl') rfl ?_
          refine QD.u (LU.fieldO Tryd.underlying68 rfl Tryd.sizeOf65 (by decide) Is.rfl') rfl ?_
          refine QD.u (LU.loadO 1 rfl ⟨Tryd.sizeOf65, Tryd.isAgg65⟩ Is.rfl' (Part.one rfl)) rfl ?_
          refine QD.u (LU.loadO 4 rfl ⟨Tryd.sizeOf35, Tryd.isAgg35⟩ Is.rfl' (Part.whole (by assumption))) rfl ?_
          refine QD.u (LU.loadO 0 rfl ⟨Tryd.sizeOf73, Tryd.isAgg73⟩ Is.rfl' (Part.whole (by (simp; done)))) rfl ?_
          refine QD.nil ?_
          refine X.act (LO.mapUpdate (st := ⟨_, _, _⟩) 2 (KeyOk.vx vxty) rfl Tryd.underlying65 Is.rfl' (by exact Is.vx _) Is.rfl' ?_)
          refine LL.nil (after_end ?_)
          refine X.normal (H' := [gC g ma mb n, gA ma m2]) Res.none (by rw [hm2b, ← gA_set]; exact (by repeat (first | exact HSub.refl _ | refine HSub.pick 0 rfl ?_ | refine HSub.pick 2 rfl ?_ | refine HSub.drop ?_))) ?_
          exact ⟨rfl, rfl⟩
        · have h8 : ¬ 0 ≤ placeG y.prev a := by simp at h8; omega
          rw [if_neg h8] at hm2b
          refine LW.skip (after_end ?_)
          refine X.normal (H' := [gC g ma mb n, gA ma m2]) Res.none (by rw [hm2b]; exact (by repeat (first | exact HSub.refl _ | refine HSub.pick 1 rfl ?_ | refine HSub.drop ?_))) ?_
          exact ⟨rfl, rfl⟩
end Go.Proofs.YtolpkeajokjbjaaDoor
