/- The chapter's example; of any entries it is told whether they are a chain. -/
import Derived.Test.YtpcfpkfchoelcaaDoorAuF
set_option linter.unusedVariables false
set_option linter.unusedSimpArgs false
namespace Go.Proofs.YtpcfpkfchoelcaaDoor
open Go.RowKit Go.L
attribute [local irreducible] LL LW LO
abbrev wAnn : List UInt8 := [97, 110, 110]
abbrev wMade : List UInt8 := [109, 97, 100, 101, 32, 111, 114, 103]
abbrev wBob : List UInt8 := [98, 111, 98]
def e1 : Ent := ⟨1, 1, wAnn, wMade, zero32⟩
def e2 : Ent := ⟨2, 1, wBob, [], digE e1⟩
theorem err1 : errN [] 1 wAnn wMade = 0 := by decide
theorem nxt1 : nxtE [] 1 wAnn wMade = e1 := (nxtE_ok err1).2.1.trans rfl
theorem add1 : addE [] 1 wAnn wMade = [e1] := by unfold addE; rw [if_pos err1, nxt1]; rfl
theorem err2 : errN [e1] 1 wBob [] = 0 := by decide
theorem nxt2 : nxtE [e1] 1 wBob [] = e2 := (nxtE_ok err2).2.1.trans rfl
theorem add2 : addE [e1] 1 wBob [] = [e1, e2] := by unfold addE; rw [if_pos err2, nxt2]; rfl
theorem ver12 : verL [e1, e2] = -1 := ver_good fun j hj => by
  have hj2 : j = 0 ∨ j = 1 := by simp at hj; omega
  rcases hj2 with rfl | rfl
  · show fitE [] e1 = true
    unfold fitE
    rw [show errN [] e1.tick e1.who e1.what = 0 from err1, show nxtE [] e1.tick e1.who e1.what = e1 from nxt1]
    simp
  · show fitE [e1] e2 = true
    unfold fitE
    rw [show errN [e1] e2.tick e2.who e2.what = 0 from err2, show nxtE [e1] e2.tick e2.who e2.what = e2 from nxt2]
    simp
theorem ver2 : verL [e2] = 0 := ver_bad (i := 0) (by simp) (fun j hj => by omega) (by
  show fitE [] e2 = false
  rw [fit_iff]
  have : decide (e2.seq = (([] : List Ent).length : Int) + 1) = false := by decide
  rw [this]; simp)
theorem e1_ok : EntOk e1 := ⟨by decide, by decide, by decide, by decide, by decide⟩
theorem e2_ok : EntOk e2 := ⟨by decide, by decide, by decide, by decide, digE_len e1⟩
set_option maxHeartbeats 1000000 in
set_option maxRecDepth 100000 in
theorem lives19_calls : LCalls Tryd.prog 9 [] [kw] (fun r H' => r = bl true ∧ H' = [kw]) := by
  have o1 := e1_ok
  have o2 := e2_ok
  have hN1 := nxt1
  have hA1 := add1
  have hE1 := err1
  have hN2 := nxt2
  have hA2 := add2
  have hE2 := err2
  have hv1 := ver12
  have hv2 := ver2
  have hp2 : e2.prev = digE e1 := rfl
  have hb1 : (LV.agg (entL ⟨1, 1, wAnn, wMade, zero32⟩)) = .agg (entL e1) := rfl
  obtain ⟨X1, hX1⟩ : ∃ X, X = e1 := ⟨_, rfl⟩
  obtain ⟨X2, hX2⟩ : ∃ X, X = e2 := ⟨_, rfl⟩
  rw [← hX1] at o1 hN1 hA1 hN2 hA2 hE2 hv1 hp2 hb1
  rw [← hX2] at o2 hN2 hA2 hv1 hv2 hp2
  clear hX1 hX2
  have l1 := o1.2.2.2.2
  have l2 := o2.2.2.2.2
  have l12 : X1.prev.length = 32 ∧ X2.prev.length = 32 := ⟨l1, l2⟩
  have hap1 : ∀ g hv, HeadOk hv [] → LCalls Tryd.prog 16 [pt g, i64 1, Str wAnn, Str wMade] [lg g [] hv 0 0 0, .tail 0 0 0, kw] (fun r H' => ∃ hv' b' o' c', HeadOk hv' [X1] ∧ r = .tup [.agg (entL X1), i64 0] ∧ H' = [lg g [X1] hv' b' o' c', .tail b' o' c', kw]) := fun g hv hh => by
    have := append_calls19 g [] hv 0 0 0 1 wAnn wMade hh (by simp) (by simp) (by decide) (by decide)
    rw [hN1, hA1, hE1] at this
    exact this
  have hap2 : ∀ g hv b o c, HeadOk hv [X1] → LCalls Tryd.prog 16 [pt g, i64 1, Str wBob, Str []] [lg g [X1] hv b o c, .tail b o c, kw] (fun r H' => ∃ hv' b' o' c', HeadOk hv' [X1, X2] ∧ r = .tup [.agg (entL X2), i64 0] ∧ H' = [lg g [X1, X2] hv' b' o' c', .tail b' o' c', kw]) := fun g hv b o c hh => by
    have := append_calls19 g [X1] hv b o c 1 wBob [] hh (by simp) (by simpa using l1) (by decide) (by decide)
    rw [hN2, hA2, hE2] at this
    exact this
  have hdg := digest_calls X1 o1
  have hdl := digE_len X1
  obtain ⟨D, hD⟩ : ∃ D, D = digE X1 := ⟨_, rfl⟩
  have hpp := part_prev X2 l2
  rw [hp2] at hpp
  rw [← hD] at hdg hdl hpp
  clear hD hp2
  have hvc1 := verify_calls [X1, X2] .full (by simp) (by simpa using ⟨o1, o2⟩)
  have hvc2 := verify_calls [X2] .full (by simp) (by simpa using o2)
  rw [hv1] at hvc1
  rw [hv2] at hvc2
  refine LCalls.of Tryd.func9 rfl Tryd.ntmps9 Tryd.results9 rfl (fun Rf => ?_)
  refine LW.seq ?_
  refine LW.region ?_
  refine X.u (LU.assignR Is.rfl') rfl ?_
  refine LL.nil (after_code ?_)
  refine LW.seq ?_
  refine LW.region ?_
  refine X.act (X.call (new_calls19) Tryd.func20 rfl rfl rfl (HSub.refl _) Opds.nil ?_)
  rintro r H' ⟨g, hv, hh, rfl, rfl⟩
  refine X.u (LU.assignR Is.rfl') rfl ?_
  refine LL.nil (after_code ?_)
  refine LW.seq ?_
  refine LW.region ?_
  refine X.u (LU.moveR Is.rfl') rfl ?_
  refine X.act (X.call (hap1 g hv hh) Tryd.func16 rfl rfl rfl (by (refine HSub.pick 0 rfl ?_); (refine HSub.pick 0 rfl ?_); (refine HSub.pick 0 rfl ?_); exact HSub.refl _) (Opds.cons Is.rfl' (Opds.cons Is.rfl' (Opds.cons Is.rfl' (Opds.cons Is.rfl' Opds.nil)))) ?_)
  rintro r H' ⟨hv2, b2_, o2_, c2_, hh2, rfl, rfl⟩
  refine X.u (LU.moveT Is.rfl') rfl ?_
  refine X.u (LU.extract Is.rfl' rfl) rfl ?_
  refine X.u (LU.extract Is.rfl' rfl) rfl ?_
  refine X.act (X.alloc rfl Tryd.zeroValue28 (by exact Cells.rawagg (by decide)) (fun b2 => ?_))
  refine X.act (X.store 0 rfl Tryd.sizeOf28 Is.rfl' Is.rfl' (by exact Cells.agg) (by (simp; omega)) (by exact Nat.le_of_ble_eq_true rfl) ?_)
  refine X.u (LU.assignR Is.rfl') rfl ?_
  refine LL.nil (after_code ?_)
  refine LW.seq ?_
  refine X.wcells (ys := entL X1) (putAt_all (by simp [raws, l1])) ?_
  refine LW.region ?_
  refine X.u (LU.moveR Is.rfl') rfl ?_
  refine X.act (X.call (hap2 g hv2 b2_ o2_ c2_ hh2) Tryd.func16 rfl rfl rfl (by (refine HSub.pick 1 rfl ?_); (refine HSub.pick 1 rfl ?_); (refine HSub.pick 1 rfl ?_); exact HSub.refl _) (Opds.cons Is.rfl' (Opds.cons Is.rfl' (Opds.cons Is.rfl' (Opds.cons Is.rfl' Opds.nil)))) ?_)
  rintro r H' ⟨hv3, b3_, o3_, c3_, hh3, rfl, rfl⟩
  refine X.u (LU.moveT Is.rfl') rfl ?_
  refine X.u (LU.extract Is.rfl' rfl) rfl ?_
  refine X.u (LU.extract Is.rfl' rfl) rfl ?_
  refine X.act (X.alloc rfl Tryd.zeroValue28 (by exact Cells.rawagg (by decide)) (fun b4 => ?_))
  refine X.act (X.store 0 rfl Tryd.sizeOf28 Is.rfl' Is.rfl' (by exact Cells.agg) (by (simp; omega)) (by exact Nat.le_of_ble_eq_true rfl) ?_)
  refine X.u (LU.assignR Is.rfl') rfl ?_
  refine LL.nil (after_code ?_)
  refine LW.seq ?_
  refine X.wcells (ys := entL X2) (putAt_all (by simp [raws, l2])) ?_
  refine X.drawM 36 rfl (by kernel_rfl) rfl ?_
  refine QD.u (LU.moveR Is.rfl') rfl ?_
  refine QD.u (LU.weak (LU.eql Is.rfl' Is.rfl') (asB (c := true) rfl (by rfl))) rfl ?_
  refine QD.u (LU.moveR Is.rfl') rfl ?_
  refine QD.doT rfl rfl (LU.moveR (by exact Is.rfl')) rfl ?_
  refine QD.doT rfl rfl (LU.weak (LU.eql (by exact Is.rfl') (by exact Is.rfl')) (asB (c := true) rfl (by rfl))) rfl ?_
  refine QD.u (LU.pickT Is.rfl' (by exact Is.rfl')) rfl ?_
  refine QD.u (LU.moveR Is.rfl') rfl ?_
  refine QD.doT rfl rfl (LU.loadO 4 rfl ⟨Tryd.sizeOf28, Tryd.isAgg28⟩ (by exact Is.rfl') (Part.whole (by (simp; omega)))) rfl ?_
  refine QD.doT rfl rfl (LU.weak (LU.build (places := #[(0, 1), (1, 1), (2, 1), (3, 1), (4, 32)]) Tryd.underlying28 Tryd.zeroValue28 (ones rfl) (by intro w; simp [Tryd.sizeOf26, Tryd.sizeOf3, Tryd.sizeOf9]) (Parts.cons (by exact Is.rfl') (by exact Cells.raw rfl) (Parts.cons (by exact Is.rfl') (by exact Cells.raw rfl) (Parts.cons (by exact Is.rfl') (by exact Cells.raw rfl) (Parts.cons (by exact Is.rfl') (by exact Cells.raw rfl) Parts.nil)))) rfl) (Is.of (y := .agg (entL X1)) (hb1))) rfl ?_
  refine QD.doT rfl rfl (LU.weak (LU.eqlEnt l1 l1 (by exact Is.rfl') (by exact Is.rfl')) (asB (c := true) rfl (by exact decide_eq_true rfl))) rfl ?_
  refine QD.u (LU.pickT Is.rfl' (by exact Is.rfl')) rfl ?_
  refine QD.u (LU.moveR Is.rfl') rfl ?_
  refine QD.doT rfl rfl (LU.fieldO Tryd.underlying28 rfl Tryd.sizeOf26 (by decide) (by exact Is.rfl')) rfl ?_
  refine QD.doT rfl rfl (LU.weak (LU.loadO 0 rfl ⟨Tryd.sizeOf26, Tryd.isAgg26⟩ (by exact Is.rfl') (Part.sub (by (simp; omega)))) (Is.of (y := H32 D) (hpp))) rfl ?_
  refine QD.doT rfl rfl (LU.loadO 4 rfl ⟨Tryd.sizeOf28, Tryd.isAgg28⟩ (by exact Is.rfl') (Part.whole (by (simp; omega)))) rfl ?_
  refine QD.doT rfl rfl (LU.call1 3 rfl (hdg) Tryd.func15 rfl rfl (Opds.cons (by exact Is.rfl') Opds.nil)) rfl ?_
  refine QD.doT rfl rfl (LU.weak (LU.eqlH hdl hdl (by exact Is.rfl') (by exact Is.rfl')) (asB (c := true) rfl (by exact decide_eq_true rfl))) rfl ?_
  refine QD.u (LU.pickT Is.rfl' (by exact Is.rfl')) rfl ?_
  refine QD.u (LU.moveR Is.rfl') rfl ?_
  refine QD.doT rfl rfl (LU.loadO 4 rfl ⟨Tryd.sizeOf28, Tryd.isAgg28⟩ (by exact Is.rfl') (Part.whole (by (simp; omega)))) rfl ?_
  refine QD.doT rfl rfl (LU.loadO 0 rfl ⟨Tryd.sizeOf28, Tryd.isAgg28⟩ (by exact Is.rfl') (Part.whole (by (simp; omega)))) rfl ?_
  refine QD.doT rfl rfl (LU.lits Tryd.underlying22 Tryd.sizeOf28 Tryd.zeroValue28 (ones rfl) rfl (by decide) (by decide) (Elems.cons (by exact Is.rfl') (by exact Cells.agg) (Elems.cons (by exact Is.rfl') (by exact Cells.agg) Elems.nil)) (by (simp; assumption)) rfl) rfl ?_
  refine QD.doT rfl rfl (LU.call1 3 rfl (hvc1) Tryd.func13 rfl rfl (Opds.cons (by exact Is.rfl') Opds.nil)) rfl ?_
  refine QD.doT rfl rfl (LU.weak (LU.eql (by exact Is.rfl') (by exact Is.rfl')) (asB (c := true) rfl (by rfl))) rfl ?_
  refine QD.u (LU.pickT Is.rfl' (by exact Is.rfl')) rfl ?_
  refine QD.u (LU.moveR Is.rfl') rfl ?_
  refine QD.doT rfl rfl (LU.loadO 0 rfl ⟨Tryd.sizeOf28, Tryd.isAgg28⟩ (by exact Is.rfl') (Part.whole (by (simp; omega)))) rfl ?_
  refine QD.doT rfl rfl (LU.lits Tryd.underlying22 Tryd.sizeOf28 Tryd.zeroValue28 (ones rfl) rfl (by decide) (by decide) (Elems.cons (by exact Is.rfl') (by exact Cells.agg) Elems.nil) (by (simp; assumption)) rfl) rfl ?_
  refine QD.doT rfl rfl (LU.call1 3 rfl (hvc2) Tryd.func13 rfl rfl (Opds.cons (by exact Is.rfl') Opds.nil)) rfl ?_
  refine QD.doT rfl rfl (LU.weak (LU.eql (by exact Is.rfl') (by exact Is.rfl')) (asB (c := true) rfl (by rfl))) rfl ?_
  refine QD.u (LU.pickT Is.rfl' (by exact Is.rfl')) rfl ?_
  refine QD.u (LU.moveR Is.rfl') rfl ?_
  refine QD.u (LU.pickT Is.rfl' (by exact Is.rfl')) rfl ?_
  refine QD.u (LU.moveR Is.rfl') rfl ?_
  refine QD.u (LU.pickT Is.rfl' (by exact Is.rfl')) rfl ?_
  refine QD.u (LU.assignR Is.rfl') rfl ?_
  refine QD.nil ?_
  refine LL.nil (after_code ?_)
  refine LW.ret (after_end ?_)
  refine X.ret (H' := [kw]) (Res.one (by exact IsR rfl)) (by repeat (first | exact HSub.refl _ | refine HSub.pick 3 rfl ?_ | refine HSub.drop ?_)) ?_
  exact ⟨rfl, rfl⟩
end Go.Proofs.YtpcfpkfchoelcaaDoor
