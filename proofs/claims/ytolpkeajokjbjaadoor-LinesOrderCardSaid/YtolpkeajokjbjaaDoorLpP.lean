/- Lines: the chapter's example. -/
import Derived.Test.YtolpkeajokjbjaaDoorLpO
set_option linter.unusedVariables false
set_option linter.unusedSimpArgs false
namespace Go.Proofs.YtolpkeajokjbjaaDoor
open Go.RowKit Go.L Go.Lib
attribute [local irreducible] LL LW LO
def lv1 : Rg := raddG rg0 topV botV [idV 5] [[97]]
def lv2 : Rg := raddG lv1 topV (idV 5) [idV 6] [[98]]
def lv3 : Rg := raddG lv2 (idV 5) botV [idV 7] [[99]]
def lv4 : Rg := raddG lv3 (idV 5) botV [idV 8] [[100]]
set_option maxRecDepth 100000 in
theorem lv_facts : raddE rg0 topV botV [idV 5] [[97]] = 0 ∧ raddE lv1 topV (idV 5) [idV 6] [[98]] = 0 ∧ raddE lv2 (idV 5) botV [idV 7] [[99]] = 0 ∧ raddE lv3 (idV 5) botV [idV 8] [[100]] = 0 ∧ textsG lv4 = [[98], [97], [99], [100]] ∧ conflG lv4 = 1 ∧ (idsG lv4.L).length = 4 := by decide +kernel
set_option maxHeartbeats 2000000 in
set_option maxRecDepth 100000 in
theorem lives_calls : LCalls Tryd.prog 15 [] [kb] (fun x H' => x = bl true ∧ H' = [kb]) := by
  obtain ⟨f1, f2, f3, f4, f5, f6, f7⟩ := lv_facts
  have htl := vxL_len topV
  have hbl := vxL_len botV
  have hi5 := vxL_len (idV 5)
  have hi6 := vxL_len (idV 6)
  have hi7 := vxL_len (idV 7)
  have hi8 := vxL_len (idV 8)
  refine LCalls.of Tryd.func15 rfl Tryd.ntmps15 Tryd.results15 rfl (fun Rf => ?_)
  refine LW.seq ?_
  refine LW.region ?_
  refine X.u (LU.assignR Is.rfl') rfl ?_
  refine LL.nil (after_code ?_)
  refine LW.seq ?_
  refine LW.region ?_
  refine X.act (X.call (new_r) Tryd.func9 rfl rfl rfl (by (refine HSub.pick 0 rfl ?_); exact HSub.refl _) Opds.nil ?_)
  rintro r H' ⟨g, s0, rfl, rfl, hs0⟩
  refine X.u (LU.assignR Is.rfl') rfl ?_
  refine LL.nil (after_code ?_)
  refine LW.seq ?_
  refine LW.region ?_
  refine X.u (LU.weak (LU.build (places := #[(0, 32), (32, 1)]) Tryd.underlying35 Tryd.zeroValue35 (ones rfl) (by intro w; simp [Tryd.sizeOf3, Tryd.sizeOf31]) Parts.nil rfl) (Is.of (y := .agg (vxL topV)) (rfl))) rfl ?_
  refine X.u (LU.weak (LU.build (places := #[(0, 32), (32, 1)]) Tryd.underlying35 Tryd.zeroValue35 (ones rfl) (by intro w; simp [Tryd.sizeOf3, Tryd.sizeOf31]) (Parts.cons Is.rfl' (by exact Cells.raw rfl) Parts.nil) rfl) (Is.of (y := .agg (vxL botV)) (rfl))) rfl ?_
  refine X.act (X.alloc rfl Tryd.zeroValue35 (by exact Cells.rawagg (by decide)) (fun b2 => ?_))
  refine X.act (X.alloc rfl Tryd.zeroValue35 (by exact Cells.rawagg (by decide)) (fun b3 => ?_))
  refine X.act (X.store 1 rfl Tryd.sizeOf35 Is.rfl' Is.rfl' (by exact Cells.agg) (by (simp; done)) (by exact Nat.le_of_ble_eq_true rfl) ?_)
  refine X.act (X.store 1 rfl Tryd.sizeOf35 Is.rfl' Is.rfl' (by exact Cells.agg) (by (simp; done)) (by exact Nat.le_of_ble_eq_true rfl) ?_)
  refine LL.nil (after_code ?_)
  refine LW.seq ?_
  refine X.wghost (H' := .cells b2 35 (vxL topV) :: .cells b3 35 (vxL botV) :: gC g s0.ma s0.mb s0.n :: gA s0.ma s0.m :: gP s0.mb s0.q :: kb :: Rf) (by repeat (first | exact HSub.refl _ | refine HSub.pick 1 rfl ?_)) ?_
  have ha1 := add_r g hs0 (by decide) topV botV [idV 5] [[97]] .full .full (by decide) (by decide)
  rw [f1] at ha1
  obtain ⟨R1, hR1⟩ : ∃ R1, R1 = raddG rg0 topV botV [idV 5] [[97]] := ⟨_, rfl⟩
  rw [← hR1] at ha1
  refine X.drawM 6 rfl (by kernel_rfl) rfl ?_
  refine QD.u (LU.moveR Is.rfl') rfl ?_
  refine QD.u (LU.weak (LU.loadO 0 rfl ⟨Tryd.sizeOf35, Tryd.isAgg35⟩ Is.rfl' (Part.whole (by (simp; done)))) (Is.of (y := .agg (vxL topV)) (rfl))) rfl ?_
  refine QD.u (LU.weak (LU.loadO 1 rfl ⟨Tryd.sizeOf35, Tryd.isAgg35⟩ Is.rfl' (Part.whole (by (simp; done)))) (Is.of (y := .agg (vxL botV)) (rfl))) rfl ?_
  refine QD.u (LU.call (id_calls 5) Tryd.func38 rfl rfl (Opds.cons Is.rfl' Opds.nil)) rfl ?_
  refine QD.u (LU.weak (LU.lits Tryd.underlying26 Tryd.sizeOf35 Tryd.zeroValue35 (ones rfl) rfl (by decide) (by decide) (Elems.cons Is.rfl' (by exact Cells.agg) Elems.nil) (by (simp; done)) rfl) (Is.of (y := Vxs [idV 5] .full) (rfl))) rfl ?_
  refine QD.u (LU.weak (LU.lits Tryd.underlying25 Tryd.sizeOf9 Tryd.zeroValue9 (ones rfl) rfl (by decide) (by decide) (Elems.cons Is.rfl' (by exact Cells.raw rfl) Elems.nil) (by (simp; done)) rfl) (Is.of (y := .sl 1 (strsL [[97]]) .full) (rfl))) rfl ?_
  refine QD.nil ?_
  refine X.act (X.call (ha1) Tryd.func11 rfl rfl rfl (by (refine HSub.pick 2 rfl ?_); (refine HSub.pick 2 rfl ?_); (refine HSub.pick 2 rfl ?_); (refine HSub.pick 2 rfl ?_); exact HSub.refl _) (Opds.cons Is.rfl' (Opds.cons Is.rfl' (Opds.cons Is.rfl' (Opds.cons Is.rfl' (Opds.cons Is.rfl' Opds.nil))))) ?_)
  rintro r H' ⟨rfl, s1, rfl, hs1⟩
  refine X.u (LU.assignR Is.rfl') rfl ?_
  refine LL.nil (after_code ?_)
  refine LW.seq ?_
  refine X.wghost (H' := .cells b2 35 (vxL topV) :: .cells b3 35 (vxL botV) :: gC g s1.ma s1.mb s1.n :: gA s1.ma s1.m :: gP s1.mb s1.q :: kb :: Rf) (by repeat (first | exact HSub.refl _ | refine HSub.pick 4 rfl ?_)) ?_
  rw [hR1, show raddG rg0 topV botV [idV 5] [[97]] = lv1 from rfl] at hs1
  have ha2 := add_r g hs1 (by decide) topV (idV 5) [idV 6] [[98]] .full .full (by decide) (by decide)
  rw [f2, show raddG lv1 topV (idV 5) [idV 6] [[98]] = lv2 from rfl] at ha2
  refine X.drawM 6 rfl (by kernel_rfl) rfl ?_
  refine QD.u (LU.moveR Is.rfl') rfl ?_
  refine QD.u (LU.weak (LU.loadO 0 rfl ⟨Tryd.sizeOf35, Tryd.isAgg35⟩ Is.rfl' (Part.whole (by (simp; done)))) (Is.of (y := .agg (vxL topV)) (rfl))) rfl ?_
  refine QD.u (LU.call (id_calls 5) Tryd.func38 rfl rfl (Opds.cons Is.rfl' Opds.nil)) rfl ?_
  refine QD.u (LU.call (id_calls 6) Tryd.func38 rfl rfl (Opds.cons Is.rfl' Opds.nil)) rfl ?_
  refine QD.u (LU.weak (LU.lits Tryd.underlying26 Tryd.sizeOf35 Tryd.zeroValue35 (ones rfl) rfl (by decide) (by decide) (Elems.cons Is.rfl' (by exact Cells.agg) Elems.nil) (by (simp; done)) rfl) (Is.of (y := Vxs [idV 6] .full) (rfl))) rfl ?_
  refine QD.u (LU.weak (LU.lits Tryd.underlying25 Tryd.sizeOf9 Tryd.zeroValue9 (ones rfl) rfl (by decide) (by decide) (Elems.cons Is.rfl' (by exact Cells.raw rfl) Elems.nil) (by (simp; done)) rfl) (Is.of (y := .sl 1 (strsL [[98]]) .full) (rfl))) rfl ?_
  refine QD.nil ?_
  refine X.act (X.call (ha2) Tryd.func11 rfl rfl rfl (by (refine HSub.pick 2 rfl ?_); (refine HSub.pick 2 rfl ?_); (refine HSub.pick 2 rfl ?_); (refine HSub.pick 2 rfl ?_); exact HSub.refl _) (Opds.cons Is.rfl' (Opds.cons Is.rfl' (Opds.cons Is.rfl' (Opds.cons Is.rfl' (Opds.cons Is.rfl' Opds.nil))))) ?_)
  rintro r H' ⟨rfl, s2, rfl, hs2⟩
  refine X.u (LU.assignR Is.rfl') rfl ?_
  refine LL.nil (after_code ?_)
  refine LW.seq ?_
  refine X.wghost (H' := .cells b2 35 (vxL topV) :: .cells b3 35 (vxL botV) :: gC g s2.ma s2.mb s2.n :: gA s2.ma s2.m :: gP s2.mb s2.q :: kb :: Rf) (by repeat (first | exact HSub.refl _ | refine HSub.pick 4 rfl ?_)) ?_
  have ha3 := add_r g hs2 (by decide) (idV 5) botV [idV 7] [[99]] .full .full (by decide) (by decide)
  rw [f3, show raddG lv2 (idV 5) botV [idV 7] [[99]] = lv3 from rfl] at ha3
  refine X.drawM 6 rfl (by kernel_rfl) rfl ?_
  refine QD.u (LU.moveR Is.rfl') rfl ?_
  refine QD.u (LU.call (id_calls 5) Tryd.func38 rfl rfl (Opds.cons Is.rfl' Opds.nil)) rfl ?_
  refine QD.u (LU.weak (LU.loadO 1 rfl ⟨Tryd.sizeOf35, Tryd.isAgg35⟩ Is.rfl' (Part.whole (by (simp; done)))) (Is.of (y := .agg (vxL botV)) (rfl))) rfl ?_
  refine QD.u (LU.call (id_calls 7) Tryd.func38 rfl rfl (Opds.cons Is.rfl' Opds.nil)) rfl ?_
  refine QD.u (LU.weak (LU.lits Tryd.underlying26 Tryd.sizeOf35 Tryd.zeroValue35 (ones rfl) rfl (by decide) (by decide) (Elems.cons Is.rfl' (by exact Cells.agg) Elems.nil) (by (simp; done)) rfl) (Is.of (y := Vxs [idV 7] .full) (rfl))) rfl ?_
  refine QD.u (LU.weak (LU.lits Tryd.underlying25 Tryd.sizeOf9 Tryd.zeroValue9 (ones rfl) rfl (by decide) (by decide) (Elems.cons Is.rfl' (by exact Cells.raw rfl) Elems.nil) (by (simp; done)) rfl) (Is.of (y := .sl 1 (strsL [[99]]) .full) (rfl))) rfl ?_
  refine QD.nil ?_
  refine X.act (X.call (ha3) Tryd.func11 rfl rfl rfl (by (refine HSub.pick 2 rfl ?_); (refine HSub.pick 2 rfl ?_); (refine HSub.pick 2 rfl ?_); (refine HSub.pick 2 rfl ?_); exact HSub.refl _) (Opds.cons Is.rfl' (Opds.cons Is.rfl' (Opds.cons Is.rfl' (Opds.cons Is.rfl' (Opds.cons Is.rfl' Opds.nil))))) ?_)
  rintro r H' ⟨rfl, s3, rfl, hs3⟩
  refine X.u (LU.assignR Is.rfl') rfl ?_
  refine LL.nil (after_code ?_)
  refine LW.seq ?_
  refine X.wghost (H' := .cells b2 35 (vxL topV) :: .cells b3 35 (vxL botV) :: gC g s3.ma s3.mb s3.n :: gA s3.ma s3.m :: gP s3.mb s3.q :: kb :: Rf) (by repeat (first | exact HSub.refl _ | refine HSub.pick 4 rfl ?_)) ?_
  have ha4 := add_r g hs3 (by decide) (idV 5) botV [idV 8] [[100]] .full .full (by decide) (by decide)
  rw [f4, show raddG lv3 (idV 5) botV [idV 8] [[100]] = lv4 from rfl] at ha4
  refine X.drawM 6 rfl (by kernel_rfl) rfl ?_
  refine QD.u (LU.moveR Is.rfl') rfl ?_
  refine QD.u (LU.call (id_calls 5) Tryd.func38 rfl rfl (Opds.cons Is.rfl' Opds.nil)) rfl ?_
  refine QD.u (LU.weak (LU.loadO 1 rfl ⟨Tryd.sizeOf35, Tryd.isAgg35⟩ Is.rfl' (Part.whole (by (simp; done)))) (Is.of (y := .agg (vxL botV)) (rfl))) rfl ?_
  refine QD.u (LU.call (id_calls 8) Tryd.func38 rfl rfl (Opds.cons Is.rfl' Opds.nil)) rfl ?_
  refine QD.u (LU.weak (LU.lits Tryd.underlying26 Tryd.sizeOf35 Tryd.zeroValue35 (ones rfl) rfl (by decide) (by decide) (Elems.cons Is.rfl' (by exact Cells.agg) Elems.nil) (by (simp; done)) rfl) (Is.of (y := Vxs [idV 8] .full) (rfl))) rfl ?_
  refine QD.u (LU.weak (LU.lits Tryd.underlying25 Tryd.sizeOf9 Tryd.zeroValue9 (ones rfl) rfl (by decide) (by decide) (Elems.cons Is.rfl' (by exact Cells.raw rfl) Elems.nil) (by (simp; done)) rfl) (Is.of (y := .sl 1 (strsL [[100]]) .full) (rfl))) rfl ?_
  refine QD.nil ?_
  refine X.act (X.call (ha4) Tryd.func11 rfl rfl rfl (by (refine HSub.pick 2 rfl ?_); (refine HSub.pick 2 rfl ?_); (refine HSub.pick 2 rfl ?_); (refine HSub.pick 2 rfl ?_); exact HSub.refl _) (Opds.cons Is.rfl' (Opds.cons Is.rfl' (Opds.cons Is.rfl' (Opds.cons Is.rfl' (Opds.cons Is.rfl' Opds.nil))))) ?_)
  rintro r H' ⟨rfl, s4, rfl, hs4⟩
  refine X.u (LU.assignR Is.rfl') rfl ?_
  refine LL.nil (after_code ?_)
  refine LW.seq ?_
  refine X.wghost (H' := gC g s4.ma s4.mb s4.n :: gA s4.ma s4.m :: kb :: gP s4.mb s4.q :: .cells b2 35 (vxL topV) :: .cells b3 35 (vxL botV) :: Rf) (by repeat (first | exact HSub.refl _ | refine HSub.pick 0 rfl ?_ | refine HSub.pick 1 rfl ?_)) ?_
  have hD : lv4.D.length < 900000 := by have := hs4.dc; omega
  have htc := text_calls g s4.ma s4.mb s4.n s4.m s4.q lv4 hs4.rel hs4.ok hD
  rw [f5] at htc
  have hcc := conflicts_calls g s4.ma s4.mb s4.n s4.m s4.q lv4 hs4.rel hs4.ok hD
  rw [f6] at hcc
  have hlc := len_r g hs4
  rw [f7] at hlc
  refine LW.region ?_
  refine X.u (LU.moveR Is.rfl') rfl ?_
  refine X.u (LU.eql Is.rfl' Is.rfl') rfl ?_
  refine X.u (LU.moveR Is.rfl') rfl ?_
  refine X.doT rfl rfl (LU.moveR (by exact Is.rfl')) rfl ?_
  refine X.doT rfl rfl (LU.eql (by exact Is.rfl') (by exact Is.rfl')) rfl ?_
  refine X.u (LU.pickT Is.rfl' (by exact Is.rfl')) rfl ?_
  refine X.u (LU.moveR Is.rfl') rfl ?_
  refine X.doT rfl rfl (LU.moveR (by exact Is.rfl')) rfl ?_
  refine X.doT rfl rfl (LU.eql (by exact Is.rfl') (by exact Is.rfl')) rfl ?_
  refine X.u (LU.pickT Is.rfl' (by exact Is.rfl')) rfl ?_
  refine X.u (LU.moveR Is.rfl') rfl ?_
  refine X.doT rfl rfl (LU.moveR (by exact Is.rfl')) rfl ?_
  refine X.doT rfl rfl (LU.eql (by exact Is.rfl') (by exact Is.rfl')) rfl ?_
  refine X.u (LU.pickT Is.rfl' (by exact Is.rfl')) rfl ?_
  refine X.u (LU.moveR Is.rfl') rfl ?_
  refine X.doT rfl rfl (LU.moveR (by exact Is.rfl')) rfl ?_
  refine X.doT rfl rfl (LU.callP (List.Perm.refl _) (htc) Tryd.func13 rfl rfl (Opds.cons (by exact Is.rfl') Opds.nil)) rfl ?_
  refine X.doT rfl rfl (LU.weak (LU.lits Tryd.underlying25 Tryd.sizeOf9 Tryd.zeroValue9 (ones rfl) rfl (by decide) (by decide) (Elems.cons (by exact Is.rfl') (by exact Cells.raw rfl) (Elems.cons (by exact Is.rfl') (by exact Cells.raw rfl) (Elems.cons (by exact Is.rfl') (by exact Cells.raw rfl) (Elems.cons (by exact Is.rfl') (by exact Cells.raw rfl) Elems.nil)))) (by (simp; done)) rfl) (Is.of (y := .sl 1 (strsL [[98], [97], [99], [100]]) .full) (rfl))) rfl ?_
  refine X.doT rfl rfl (LU.call (texts_calls [[98], [97], [99], [100]] [[98], [97], [99], [100]] .unk .full (by decide) (by decide)) Tryd.func12 rfl rfl (Opds.cons (by exact Is.rfl') (Opds.cons (by exact Is.rfl') Opds.nil))) rfl ?_
  refine X.u (LU.pickT Is.rfl' (by exact Is.rfl')) rfl ?_
  refine X.u (LU.moveR Is.rfl') rfl ?_
  refine X.doT rfl rfl (LU.moveR (by exact Is.rfl')) rfl ?_
  refine X.doT rfl rfl (LU.callP (List.Perm.refl _) (hcc) Tryd.func14 rfl rfl (Opds.cons (by exact Is.rfl') Opds.nil)) rfl ?_
  refine X.doT rfl rfl (LU.eql (by exact Is.rfl') (by exact Is.rfl')) rfl ?_
  refine X.u (LU.pickT Is.rfl' (by exact Is.rfl')) rfl ?_
  refine X.u (LU.moveR Is.rfl') rfl ?_
  refine X.doT rfl rfl (LU.moveR (by exact Is.rfl')) rfl ?_
  refine X.doT rfl rfl (LU.callP (List.Perm.refl _) (hlc) Tryd.func19 rfl rfl (Opds.cons (by exact Is.rfl') Opds.nil)) rfl ?_
  refine X.doT rfl rfl (LU.eql (by exact Is.rfl') (by exact Is.rfl')) rfl ?_
  refine X.u (LU.pickT Is.rfl' (by exact Is.rfl')) rfl ?_
  refine X.u (LU.moveR Is.rfl') rfl ?_
  refine X.u (LU.pickT Is.rfl' (by exact Is.rfl')) rfl ?_
  refine X.u (LU.assignR Is.rfl') rfl ?_
  refine LL.nil (after_code ?_)
  refine LW.ret (after_end ?_)
  refine X.ret (H' := [kb]) (Res.one (by exact IsR rfl)) (by repeat (first | exact HSub.refl _ | refine HSub.pick 2 rfl ?_ | refine HSub.drop ?_)) ?_
  exact ⟨rfl, rfl⟩
end Go.Proofs.YtolpkeajokjbjaaDoor
