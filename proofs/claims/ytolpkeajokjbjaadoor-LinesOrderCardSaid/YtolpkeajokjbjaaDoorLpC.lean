/- Lines: Unkill. -/
import Derived.Test.YtolpkeajokjbjaaDoorLpB
set_option linter.unusedVariables false
set_option linter.unusedSimpArgs false
namespace Go.Proofs.YtolpkeajokjbjaaDoor
open Go.RowKit Go.L Go.Lib
attribute [local irreducible] LL LW LO LP LA
def unkillE (m : At) (v : Vx) (h : Hs) : Nat := if woundE m v ≠ 0 then woundE m v else if placeG (atG m v).kills h < 0 then 111 else 0
def unkillA (m : At) (v : Vx) (h : Hs) : At := if unkillE m v h = 0 then setA m v { atG m v with kills := (atG m v).kills.eraseIdx (placeG (atG m v).kills h).toNat } else m
set_option maxHeartbeats 2000000 in
set_option maxRecDepth 100000 in
theorem unkill_calls (g ma mb : Nat) (n : Int) (m : At) (v : Vx) (by_ : Hs) (hk : (atG m v).kills.length < 900000) : LCalls Tryd.prog 24 [pt g, .agg (vxL v), .agg (hsL by_)] [gC g ma mb n, gA ma m, kb] (fun r H' => r = i64 (unkillE m v by_ : Nat) ∧ H' = [gC g ma mb n, gA ma (unkillA m v by_), kb]) := by
  have hvl := vxL_len v
  have hbl := hsL_len by_
  have hb32 : by_.1.length = 32 := by_.2
  have hgi := at_is m v
  obtain ⟨x, hx⟩ : ∃ x, x = atG m v := ⟨_, rfl⟩
  obtain ⟨W, hW⟩ : ∃ W, W = woundE m v := ⟨_, rfl⟩
  have hwc := wound_calls g ma mb n m v
  rw [← hx] at hk hgi
  rw [← hW] at hwc
  have hE : unkillE m v by_ = if W ≠ 0 then W else if placeG x.kills by_ < 0 then 111 else 0 := by unfold unkillE; rw [hx, hW]
  have hA : unkillA m v by_ = if unkillE m v by_ = 0 then setA m v { x with kills := x.kills.eraseIdx (placeG x.kills by_).toNat } else m := by unfold unkillA; rw [hx]
  rw [hA, hE]
  refine LCalls.of Tryd.func24 rfl Tryd.ntmps24 Tryd.results24 rfl (fun Rf => ?_)
  refine LW.seq ?_
  refine LW.region ?_
  refine X.act (X.box rfl Is.rfl' (by exact Cells.agg) (fun b4 => ?_))
  refine X.act (X.box rfl Is.rfl' (by exact Cells.agg) (fun b5 => ?_))
  refine X.u (LU.assignR Is.rfl') rfl ?_
  refine LL.nil (after_code ?_)
  refine LW.seq ?_
  refine LW.seq ?_
  refine LW.region ?_
  refine X.u (LU.moveR Is.rfl') rfl ?_
  refine X.u (LU.loadO 1 rfl ⟨Tryd.sizeOf35, Tryd.isAgg35⟩ Is.rfl' (Part.whole (by assumption))) rfl ?_
  refine X.u (LU.callP (show List.Perm _ ([gC g ma mb n, gA ma m, kb] ++ (.cells b5 31 (hsL by_) :: .cells b4 35 (vxL v) :: Rf)) from perm_of fun x => (by simp only [List.count_append, List.count_cons, List.count_nil]; omega)) (hwc) Tryd.func30 rfl rfl (Opds.cons Is.rfl' (Opds.cons Is.rfl' Opds.nil))) rfl ?_
  refine X.u (LU.assignR Is.rfl') rfl ?_
  refine LL.nil (after_code ?_)
  refine LW.seq ?_
  refine LW.region ?_
  refine X.u (LU.moveR Is.rfl') rfl ?_
  refine X.u (LU.neq Is.rfl' Is.rfl') rfl ?_
  refine LL.nil (after_code ?_)
  refine X.cond rfl (fun h2 => ?_) (fun h2 => ?_)
  · have h2 : W ≠ 0 := by simp at h2; omega
    refine LW.seq ?_
    refine LW.region ?_
    refine X.u (LU.moveR Is.rfl') rfl ?_
    refine X.u (LU.assignR Is.rfl') rfl ?_
    refine LL.nil (after_code ?_)
    refine LW.ret (ret_code (after_end ?_))
    refine X.ret (H' := [gC g ma mb n, gA ma m, kb]) (Res.one (by exact IsR rfl)) (by repeat (first | exact HSub.refl _ | refine HSub.pick 2 rfl ?_ | refine HSub.drop ?_)) ?_
    exact ⟨by rw [if_pos h2], by rw [if_pos h2, if_neg h2]⟩
  · have h2 : ¬ W ≠ 0 := by simp at h2; omega
    refine LW.skip (after_code ?_)
    refine LW.seq ?_
    refine LW.invM (m := 7) (γ := Nat × Nat) [(0, 16), (1, 17), (2, 18), (3, 19), (4, 20), (5, 21), (6, 8)] (fun g_ d => match g_ with | ⟨b_, z_⟩ => match d with | 16 => pt g | 17 => pt g | 18 => pt g | 19 => .raw (.map (some ma)) | 20 => .agg (vxL v) | 21 => lnE x | 8 => pt b_ | _ => .any) (fun g_ f => match g_ with | ⟨b_, z_⟩ => cond (f 6) (.cells b_ 73 (raws z73.cells.toList)) (.tail 0 0 0) :: .cells b5 31 (hsL by_) :: .cells b4 35 (vxL v) :: gC g ma mb n :: gA ma m :: kb :: Rf) (0, 0) rfl (by kernel_rfl) rfl rfl ((HSub.trans (by repeat (exact HSub.refl _)) (HSub.tail0 0 0 0 (Nat.le_refl _) _))) ?_ ?_
    · intro i hi f g_ hfi hdir hdown
      obtain ⟨b_, z_⟩ := g_
      have hc : i = 0 ∨ i = 1 ∨ i = 2 ∨ i = 3 ∨ i = 4 ∨ i = 5 ∨ i = 6 := by omega
      rcases hc with rfl | rfl | rfl | rfl | rfl | rfl | rfl
      · refine ⟨_, rfl, ?_⟩
        refine A.u (LU.moveR Is.rfl') rfl ?_
        refine ⟨⟨b_, z_⟩, Weaker.mk' ?_ (HSub.refl _)⟩
        refine env_back0 (envS_hit (sl := [(0, 16), (1, 17), (2, 18), (3, 19), (4, 20), (5, 21), (6, 8)]) (j := 0) (d := 16) rfl (fun _ _ h => h))  (envS_next ?_)
        · intro p hp hne; simp only [List.mem_cons, List.not_mem_nil, or_false] at hp; rcases hp with rfl | rfl | rfl | rfl | rfl | rfl | rfl <;> first | exact absurd rfl hne | exact ⟨rfl, rfl⟩
      · have d0 := hdir 0 (List.mem_of_elem_eq_true (by kernel_rfl))
        refine ⟨_, rfl, ?_⟩
        refine LP.weak (t := 16) (v := pt g) (envS_is (j := 0) rfl d0) ?_
        refine A.u (LU.nilCheck Is.rfl') rfl ?_
        refine ⟨⟨b_, z_⟩, Weaker.mk' ?_ (HSub.refl _)⟩
        refine env_back1 (envS_hit (sl := [(0, 16), (1, 17), (2, 18), (3, 19), (4, 20), (5, 21), (6, 8)]) (j := 1) (d := 17) rfl (fun _ _ h => h)) (envS_hit (sl := [(0, 16), (1, 17), (2, 18), (3, 19), (4, 20), (5, 21), (6, 8)]) (j := 0) (d := 16) rfl (fun _ _ h => h)) (envS_next ?_)
        · intro p hp hne; simp only [List.mem_cons, List.not_mem_nil, or_false] at hp; rcases hp with rfl | rfl | rfl | rfl | rfl | rfl | rfl <;> first | exact absurd rfl hne | exact ⟨rfl, rfl⟩
      · have d1 := hdir 1 (List.mem_of_elem_eq_true (by kernel_rfl))
        refine ⟨_, rfl, ?_⟩
        refine LP.weak (t := 17) (v := pt g) (envS_is (j := 1) rfl d1) ?_
        refine A.u (LU.fieldO Tryd.underlying68 rfl Tryd.sizeOf65 (by decide) Is.rfl') rfl ?_
        refine ⟨⟨b_, z_⟩, Weaker.mk' ?_ (HSub.refl _)⟩
        refine env_back1 (envS_hit (sl := [(0, 16), (1, 17), (2, 18), (3, 19), (4, 20), (5, 21), (6, 8)]) (j := 2) (d := 18) rfl (fun _ _ h => h)) (envS_hit (sl := [(0, 16), (1, 17), (2, 18), (3, 19), (4, 20), (5, 21), (6, 8)]) (j := 1) (d := 17) rfl (fun _ _ h => h)) (envS_next ?_)
        · intro p hp hne; simp only [List.mem_cons, List.not_mem_nil, or_false] at hp; rcases hp with rfl | rfl | rfl | rfl | rfl | rfl | rfl <;> first | exact absurd rfl hne | exact ⟨rfl, rfl⟩
      · have d2 := hdir 2 (List.mem_of_elem_eq_true (by kernel_rfl))
        refine ⟨_, rfl, ?_⟩
        refine LP.weak (t := 18) (v := pt g) (envS_is (j := 2) rfl d2) ?_
        refine A.u (LU.loadO 3 rfl ⟨Tryd.sizeOf65, Tryd.isAgg65⟩ Is.rfl' (Part.one rfl)) rfl ?_
        refine ⟨⟨b_, z_⟩, Weaker.mk' ?_ (HSub.refl _)⟩
        refine env_back1 (envS_hit (sl := [(0, 16), (1, 17), (2, 18), (3, 19), (4, 20), (5, 21), (6, 8)]) (j := 3) (d := 19) rfl (fun _ _ h => h)) (envS_hit (sl := [(0, 16), (1, 17), (2, 18), (3, 19), (4, 20), (5, 21), (6, 8)]) (j := 2) (d := 18) rfl (fun _ _ h => h)) (envS_next ?_)
        · intro p hp hne; simp only [List.mem_cons, List.not_mem_nil, or_false] at hp; rcases hp with rfl | rfl | rfl | rfl | rfl | rfl | rfl <;> first | exact absurd rfl hne | exact ⟨rfl, rfl⟩
      · refine ⟨_, rfl, ?_⟩
        refine A.u (LU.loadO 2 rfl ⟨Tryd.sizeOf35, Tryd.isAgg35⟩ Is.rfl' (Part.whole (by assumption))) rfl ?_
        refine ⟨⟨b_, z_⟩, Weaker.mk' ?_ (HSub.refl _)⟩
        refine env_back0 (envS_hit (sl := [(0, 16), (1, 17), (2, 18), (3, 19), (4, 20), (5, 21), (6, 8)]) (j := 4) (d := 20) rfl (fun _ _ h => h))  (envS_next ?_)
        · intro p hp hne; simp only [List.mem_cons, List.not_mem_nil, or_false] at hp; rcases hp with rfl | rfl | rfl | rfl | rfl | rfl | rfl <;> first | exact absurd rfl hne | exact ⟨rfl, rfl⟩
      · have d3 := hdir 3 (List.mem_of_elem_eq_true (by kernel_rfl))
        have d4 := hdir 4 (List.mem_of_elem_eq_true (by kernel_rfl))
        refine ⟨_, rfl, ?_⟩
        refine LP.weak (t := 19) (v := .raw (.map (some ma))) (envS_is (j := 3) rfl d3) ?_
        refine LP.weak (t := 20) (v := .agg (vxL v)) (envS_is (j := 4) rfl d4) ?_
        refine A.u (LU.weak (LU.lookup 4 (KeyOk.vx vxty) rfl Tryd.underlying65 Tryd.zeroValue73 Is.rfl' (by exact Is.vx _)) (hgi)) rfl ?_
        refine ⟨⟨b_, z_⟩, Weaker.mk' ?_ (HSub.refl _)⟩
        refine env_back2 (envS_hit (sl := [(0, 16), (1, 17), (2, 18), (3, 19), (4, 20), (5, 21), (6, 8)]) (j := 5) (d := 21) rfl (fun _ _ h => h)) (envS_hit (sl := [(0, 16), (1, 17), (2, 18), (3, 19), (4, 20), (5, 21), (6, 8)]) (j := 4) (d := 20) rfl (fun _ _ h => h)) (envS_hit (sl := [(0, 16), (1, 17), (2, 18), (3, 19), (4, 20), (5, 21), (6, 8)]) (j := 3) (d := 19) rfl (fun _ _ h => h)) (envS_next ?_)
        · intro p hp hne; simp only [List.mem_cons, List.not_mem_nil, or_false] at hp; rcases hp with rfl | rfl | rfl | rfl | rfl | rfl | rfl <;> first | exact absurd rfl hne | exact ⟨rfl, rfl⟩
      · refine ⟨_, rfl, ?_⟩
        refine A.act (X.alloc rfl Tryd.zeroValue73 (by exact Cells.rawagg (by decide)) (fun b8 => ?_))
        refine ⟨(b8, 0), Weaker.mk' ?_ (by show L.HSub (_ :: cond (f 6) _ (.tail 0 0 0) :: _) _; rw [hfi]; exact HSub.cons (HSub.drop (HSub.refl _)))⟩
        refine env_back0 (envS_hit (sl := [(0, 16), (1, 17), (2, 18), (3, 19), (4, 20), (5, 21), (6, 8)]) (j := 6) (d := 8) rfl (fun _ _ h => h))  (envS_next ?_)
        · intro p hp hne; simp only [List.mem_cons, List.not_mem_nil, or_false] at hp; rcases hp with rfl | rfl | rfl | rfl | rfl | rfl | rfl <;> first | exact absurd rfl hne | exact ⟨rfl, rfl⟩
    · intro g_ f hf_
      obtain ⟨b_, z_⟩ := g_
      refine X.ghost (H' := .cells b_ 73 (raws z73.cells.toList) :: .cells b5 31 (hsL by_) :: .cells b4 35 (vxL v) :: gC g ma mb n :: gA ma m :: kb :: Rf) (by show L.HSub (cond (f 6) _ (.tail 0 0 0) :: _) _; rw [hf_ 6 (by omega)]; exact HSub.refl _) ?_
      refine X.act (X.store 0 rfl Tryd.sizeOf73 Is.rfl' Is.rfl' (by exact Cells.agg) (by (simp; done)) (by exact Nat.le_of_ble_eq_true rfl) ?_)
      refine LL.nil (after_code ?_)
      refine LW.seq ?_
      refine X.wcells (ys := lnL x) rfl ?_
      refine X.wghost (H' := .cells b_ 73 (lnL x) :: .cells b5 31 (hsL by_) :: .cells b4 35 (vxL v) :: gC g ma mb n :: gA ma m :: kb :: Rf) (by repeat (exact HSub.refl _)) ?_
      refine LW.region ?_
      refine X.u (LU.fieldO Tryd.underlying73 rfl Tryd.sizeOf71 (by decide) Is.rfl') rfl ?_
      refine X.u (LU.loadO 0 rfl ⟨Tryd.sizeOf71, Tryd.isAgg71⟩ Is.rfl' (Part.one rfl)) rfl ?_
      refine X.u (LU.loadO 1 rfl ⟨Tryd.sizeOf31, Tryd.isAgg31⟩ Is.rfl' (Part.whole (by assumption))) rfl ?_
      refine X.u (LU.call (indexH_calls x.kills .unk by_ (by omega)) Tryd.func42 rfl rfl (Opds.cons Is.rfl' (Opds.cons Is.rfl' Opds.nil))) rfl ?_
      refine X.u (LU.assignR Is.rfl') rfl ?_
      refine LL.nil (after_code ?_)
      refine LW.seq ?_
      refine LW.seq ?_
      refine LW.region ?_
      refine X.u (LU.moveR Is.rfl') rfl ?_
      refine X.u (LU.lss Is.rfl' Is.rfl') rfl ?_
      refine LL.nil (after_code ?_)
      refine X.cond rfl (fun h6 => ?_) (fun h6 => ?_)
      · have h6 : placeG x.kills by_ < 0 := by simpa using h6
        have hz0 : (0 : Nat) = 0 := rfl
        refine LW.seq ?_
        refine LW.region ?_
        refine X.u (LU.assignR Is.rfl') rfl ?_
        refine LL.nil (after_code ?_)
        refine LW.ret (ret_code (after_end ?_))
        refine X.ret (H' := [gC g ma mb n, gA ma m, kb]) (Res.one (by exact IsR rfl)) (by repeat (first | exact HSub.refl _ | refine HSub.pick 3 rfl ?_ | refine HSub.drop ?_)) ?_
        exact ⟨by rw [if_neg h2, if_pos h6]; rfl, by rw [if_neg h2, if_pos h6, if_neg (by decide)]⟩
      · have h6 : ¬ placeG x.kills by_ < 0 := by simp at h6; omega
        have hpr := placeG_range x.kills by_
        obtain ⟨ix, hix⟩ : ∃ ix : Nat, placeG x.kills by_ = ix := ⟨(placeG x.kills by_).toNat, by omega⟩
        refine LW.skip (after_code ?_)
        refine LW.seq ?_
        refine LW.region ?_
        refine X.u (LU.fieldO Tryd.underlying73 rfl Tryd.sizeOf71 (by decide) Is.rfl') rfl ?_
        refine X.u (LU.loadO 0 rfl ⟨Tryd.sizeOf71, Tryd.isAgg71⟩ Is.rfl' (Part.one rfl)) rfl ?_
        refine X.act (X.call (cloneOH_calls x.kills .unk (by omega) (by omega)) Tryd.func32 rfl rfl rfl (HSub.refl _) (Opds.cons Is.rfl' Opds.nil) ?_)
        rintro r H' ⟨b30, c30, xs30, rfl, rfl, ow30⟩
        refine X.u (LU.weak (LU.moveR Is.rfl') (Is.of (y := i64 (ix : Nat)) (congrArg i64 hix))) rfl ?_
        refine X.u (LU.moveR Is.rfl') rfl ?_
        refine X.u (LU.weak (LU.addN Is.rfl' Is.rfl' (wrap_i64 (by omega) (by omega))) (Is.of (y := i64 ((ix + 1 : Nat) : Int)) (congrArg i64 (by rw [hix]; rfl)))) rfl ?_
        refine X.act (X.call (deleteH_calls x.kills b30 0 x.kills.length c30 ix _ xs30 ow30 (by omega) (by omega)) Tryd.func43 rfl rfl rfl (by (refine HSub.pick 0 rfl ?_); exact HSub.refl _) (Opds.cons Is.rfl' (Opds.cons Is.rfl' (Opds.cons Is.rfl' Opds.nil))) ?_)
        rintro r H' ⟨rfl, xs34, rfl, ow34⟩
        refine LL.freezeO (t := 34) 0 rfl rfl ow34 ?_
        refine X.u (LU.fieldO Tryd.underlying73 rfl Tryd.sizeOf71 (by decide) Is.rfl') rfl ?_
        refine X.act (X.store 0 rfl Tryd.sizeOf71 Is.rfl' Is.rfl' (by exact Cells.sl) (by (simp; done)) (by (simp; done)) ?_)
        refine LL.nil (after_code ?_)
        refine LW.seq ?_
        refine X.wcells (ys := [Str x.text, .sl 32 (hss (x.kills.eraseIdx ix)) .unk, i64 x.part, Vxs x.next .unk, Vxs x.prev .unk]) rfl ?_
        refine X.wghost (H' := .cells b_ 73 (lnL { x with kills := x.kills.eraseIdx ix }) :: .cells b5 31 (hsL by_) :: .cells b4 35 (vxL v) :: gC g ma mb n :: gA ma m :: kb :: Rf) (by repeat (exact HSub.refl _)) ?_
        refine X.drawM 6 rfl (by kernel_rfl) rfl ?_
        refine QD.u (LU.moveR Is.rfl') rfl ?_
        refine QD.u (LU.nilCheck Is.rfl') rfl ?_
        refine QD.u (LU.fieldO Tryd.underlying68 rfl Tryd.sizeOf65 (by decide) Is.rfl') rfl ?_
        refine QD.u (LU.loadO 3 rfl ⟨Tryd.sizeOf65, Tryd.isAgg65⟩ Is.rfl' (Part.one rfl)) rfl ?_
        refine QD.u (LU.loadO 2 rfl ⟨Tryd.sizeOf35, Tryd.isAgg35⟩ Is.rfl' (Part.whole (by assumption))) rfl ?_
        refine QD.u (LU.loadO 0 rfl ⟨Tryd.sizeOf73, Tryd.isAgg73⟩ Is.rfl' (Part.whole (by (simp; done)))) rfl ?_
        refine QD.nil ?_
        refine X.act (LO.mapUpdate (st := ⟨_, _, _⟩) 4 (KeyOk.vx vxty) rfl Tryd.underlying65 Is.rfl' (by exact Is.vx _) Is.rfl' ?_)
        refine LL.nil (after_code ?_)
        refine LW.seq ?_
        refine LW.region ?_
        refine X.u (LU.assignR Is.rfl') rfl ?_
        refine LL.nil (after_code ?_)
        refine LW.ret (after_end ?_)
        refine X.ret (H' := [gC g ma mb n, gA ma (setA m v { x with kills := x.kills.eraseIdx ix }), kb]) (Res.one (by exact IsR rfl)) (by rw [← gA_set]; exact (by repeat (first | exact HSub.refl _ | refine HSub.pick 0 rfl ?_ | refine HSub.pick 3 rfl ?_ | refine HSub.pick 4 rfl ?_ | refine HSub.drop ?_))) ?_
        exact ⟨by rw [if_neg h2, if_neg h6]; rfl, by rw [if_neg h2, if_neg h6, if_pos rfl, hix, Int.toNat_natCast]⟩
end Go.Proofs.YtolpkeajokjbjaaDoor
