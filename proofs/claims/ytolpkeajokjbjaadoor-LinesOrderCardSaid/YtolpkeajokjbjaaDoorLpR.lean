/- Lines: LinesOrder. -/
import Derived.Test.YtolpkeajokjbjaaDoorLpQ
set_option linter.unusedVariables false
set_option linter.unusedSimpArgs false
namespace Go.Proofs.YtolpkeajokjbjaaDoor
open Go.RowKit Go.L Go.Lib
attribute [local irreducible] LL LW LO
theorem shown_at {r : Rg} {i : Nat} {x : Sh} (h : (shownG r)[i]? = some x) : ∃ v, (orderG r)[i]? = some v ∧ x = shG r v := by
  unfold shownG at h
  rw [List.getElem?_map] at h
  cases hq : (orderG r)[i]? with
  | none => rw [hq] at h; cases h
  | some v => rw [hq] at h; exact ⟨v, rfl, (Option.some.inj h).symm⟩
theorem shown_cnt {r : Rg} (ho : Ok r) : (shownG r).length = (idsG r.L).length := by
  unfold shownG; rw [List.length_map]; exact ((orderG_ord r).perm ho).length_eq
theorem ahead_false {r : Rg} (ho : Ok r) {a b : Vx} (h : ¬ Rch (nxE (Er r)) a b) : aheadG r a b = false := by
  cases hq : aheadG r a b with
  | false => rfl
  | true => exact absurd ((ho.ahead a b).1 hq) h
theorem shown_one {r : Rg} (ho : Ok r) {i : Nat} {x : Sh} (h : (shownG r)[i]? = some x) : hasG r x.v = true ∧ aheadG r topV x.v = true ∧ aheadG r x.v botV = true ∧ aheadG r x.v x.v = false := by
  obtain ⟨v, hv, rfl⟩ := shown_at h
  have hm := (orderG_ord r).1.mem v (List.mem_of_getElem? hv)
  exact ⟨hasG_iff.2 (.inr (.inr hm)), (ho.ahead _ _).2 (ho.from_top v hm), (ho.ahead _ _).2 (ho.to_bot v hm), ahead_false ho (ho.acy v)⟩
theorem shown_two {r : Rg} (ho : Ok r) {i k : Nat} {x y : Sh} (h : (shownG r)[i]? = some x) (hk : (shownG r)[k]? = some y) (hki : k < i) : y.v ≠ x.v ∧ aheadG r x.v y.v = false := by
  obtain ⟨v, hv, rfl⟩ := shown_at h
  obtain ⟨w, hw, rfl⟩ := shown_at hk
  have hn := (orderG_ord r).1.nodup
  have hne : w ≠ v := fun e => by
    subst e
    obtain ⟨a1, a2⟩ := List.getElem?_eq_some_iff.1 hv
    obtain ⟨b1, b2⟩ := List.getElem?_eq_some_iff.1 hw
    have := (List.getElem_inj hn).1 (a2.trans b2.symm)
    omega
  refine ⟨hne, ahead_false ho fun hr => ?_⟩
  have hm := (orderG_ord r).1.mem v (List.mem_of_getElem? hv)
  have hb := (orderG_ord r).before ho hm hr hw
  obtain ⟨j, hj⟩ := List.getElem?_of_mem hb
  have hjk : j < k := by
    have := (List.getElem?_eq_some_iff.1 hj).1
    rw [List.length_take] at this; omega
  rw [List.getElem?_take_of_lt hjk] at hj
  obtain ⟨a1, a2⟩ := List.getElem?_eq_some_iff.1 hv
  obtain ⟨b1, b2⟩ := List.getElem?_eq_some_iff.1 hj
  have := (List.getElem_inj hn).1 (a2.trans b2.symm)
  omega
theorem bot_top {r : Rg} (ho : Ok r) : aheadG r botV topV = false := ahead_false ho fun hr => by
  obtain ⟨y, hy, _⟩ := hr.first
  exact ho.from_bot (nxE_mem.1 hy)
set_option maxHeartbeats 4000000 in
set_option maxRecDepth 100000 in
theorem order_law (l : List Ac) (k : Cap) (hl : l.length < 140737488355328) (hf : Fit l) : LCalls Tryd.prog 4 [Acs l k] [kb] (fun r H' => r = .raw (.bool true) ∧ H' = [kb]) := by
  refine LCalls.of Tryd.func4 rfl Tryd.ntmps4 Tryd.results4 rfl (fun Rf => ?_)
  refine LW.seq ?_
  refine LW.region ?_
  refine X.u (LU.assignR Is.rfl') rfl ?_
  refine LL.nil (after_code ?_)
  refine LW.seq ?_
  refine LW.seq ?_
  refine LW.region ?_
  refine X.u (LU.moveS Is.rfl') rfl ?_
  refine X.u (LU.call (few_calls l k hl hf) Tryd.func16 rfl rfl (Opds.cons Is.rfl' Opds.nil)) rfl ?_
  refine X.u (LU.not Is.rfl') rfl ?_
  refine LL.nil (after_code ?_)
  refine X.cond rfl (fun h1 => ?_) (fun h1 => ?_)
  · try have h1 := of_decide_eq_true h1
    have hz0 : (0 : Nat) = 0 := rfl
    refine LW.seq ?_
    refine LW.region ?_
    refine X.u (LU.call1 0 rfl (lives_calls) Tryd.func15 rfl rfl Opds.nil) rfl ?_
    refine X.u (LU.assignR Is.rfl') rfl ?_
    refine LL.nil (after_code ?_)
    refine LW.ret (ret_code (after_end ?_))
    refine X.ret (H' := [kb]) (Res.one (by exact IsR rfl)) (by repeat (exact HSub.refl _)) ?_
    exact ⟨rfl, rfl⟩
  · have hw : sumW l ≤ 120 := by unfold fewB at h1; simpa using h1
    refine LW.skip (after_code ?_)
    refine LW.seq ?_
    refine LW.region ?_
    refine X.u (LU.moveS Is.rfl') rfl ?_
    refine X.act (X.call (built_calls l k hw) Tryd.func17 rfl rfl rfl (by (refine HSub.pick 0 rfl ?_); exact HSub.refl _) (Opds.cons Is.rfl' Opds.nil) ?_)
    rintro r H' ⟨g, s, rfl, rfl, hs⟩
    refine X.u (LU.assignR Is.rfl') rfl ?_
    refine LL.nil (after_code ?_)
    refine LW.seq ?_
    refine X.wghost (H' := gC g s.ma s.mb s.n :: gA s.ma s.m :: kb :: gP s.mb s.q :: Rf) (by repeat (first | exact HSub.refl _ | refine HSub.pick 0 rfl ?_ | refine HSub.pick 1 rfl ?_)) ?_
    have ho := hs.ok
    have hD : (bld rg0 l).D.length < 900000 := by have := hs.dc; omega
    have hsc := shown_calls g s.ma s.mb s.n s.m s.q _ hs.rel ho hD
    have hlc := len_r g hs
    have hac := ahead_r g hs
    have hhc := has_r g hs
    have hcnt := shown_cnt ho
    have hone := fun i x (h : (shownG (bld rg0 l))[i]? = some x) => shown_one ho h
    have htwo := fun i k x y (h : (shownG (bld rg0 l))[i]? = some x) (h2 : (shownG (bld rg0 l))[k]? = some y) => shown_two ho h h2
    have hbt := bot_top ho
    have hol := shown_len ho
    obtain ⟨R, hR⟩ : ∃ R, R = bld rg0 l := ⟨_, rfl⟩
    rw [← hR] at hsc hlc hac hhc hcnt hone htwo hbt hol
    obtain ⟨S, hS⟩ : ∃ S, S = shownG R := ⟨_, rfl⟩
    rw [← hS] at hsc hcnt hone htwo hol
    refine LW.region ?_
    refine X.u (LU.moveR Is.rfl') rfl ?_
    refine X.u (LU.callP (List.Perm.refl _) (hsc) Tryd.func18 rfl rfl (Opds.cons Is.rfl' Opds.nil)) rfl ?_
    refine X.u (LU.assignS Is.rfl') rfl ?_
    refine LL.nil (after_code ?_)
    refine LW.seq ?_
    refine LW.seq ?_
    refine LW.region ?_
    refine X.u (LU.moveS Is.rfl') rfl ?_
    refine X.u (LU.lenN Tryd.underlying45 Is.rfl' (by (simp only [Option.getD_some, Option.getD_none, byteEls_length, intEls_length, List.length_append, List.length_cons, List.length_nil, List.length_map, List.length_drop, List.length_take, Int.toNat_natCast]; rfl))) rfl ?_
    refine X.u (LU.moveR Is.rfl') rfl ?_
    refine X.u (LU.callP (List.Perm.refl _) (hlc) Tryd.func19 rfl rfl (Opds.cons Is.rfl' Opds.nil)) rfl ?_
    refine X.u (LU.weak (LU.neq Is.rfl' Is.rfl') (asB (c := false) rfl (by rw [← hcnt]; simp))) rfl ?_
    refine LL.nil (after_code ?_)
    refine X.condF rfl ?_ ?_
    · rfl
    refine LW.skip (after_code ?_)
    refine LW.seq ?_
    refine LW.seq ?_
    refine LW.region ?_
    refine X.u (LU.moveS Is.rfl') rfl ?_
    refine X.u (LU.lenN Tryd.underlying45 Is.rfl' (by (simp only [Option.getD_some, Option.getD_none, byteEls_length, intEls_length, List.length_append, List.length_cons, List.length_nil, List.length_map, List.length_drop, List.length_take, Int.toNat_natCast]; rfl))) rfl ?_
    refine X.u (LU.moveR Is.rfl') rfl ?_
    refine LL.nil (after_code ?_)
    refine LW.block ?_
    refine X.loopK (α := Nat) (fun i => [(22, i64 i)]) [3, 4, 21] (fun i => gC g s.ma s.mb s.n :: gA s.ma s.m :: kb :: gP s.mb s.q :: Rf) (fun i => i ≤ S.length) (fun i => S.length - i) (0) (EnvLe.cons (by rfl) (EnvLe.nil)) (by repeat (exact HSub.refl _)) ?_ ?_
    · exact Nat.zero_le _
    · rintro i hI
      refine LW.seq ?_
      refine LW.region ?_
      refine X.u (LU.lss Is.rfl' Is.rfl') rfl ?_
      refine LL.nil (after_code ?_)
      refine LW.seq ?_
      refine X.cond rfl (fun h8 => ?_) (fun h8 => ?_)
      · try have h8 := of_decide_eq_true h8
        refine LW.skip (after_code ?_)
        refine LW.seq ?_
        refine LW.block ?_
        refine LW.seq ?_
        refine LW.region ?_
        refine X.u (LU.moveR Is.rfl') rfl ?_
        refine X.u (LU.assignR Is.rfl') rfl ?_
        refine LL.nil (after_code ?_)
        refine LW.seq ?_
        refine LW.seq ?_
        obtain ⟨x, hx⟩ := at_lt (show i < S.length by omega)
        have hxl := sh_len x
        have hxv := x.v.p.2
        obtain ⟨f1, f2, f3, f4⟩ := hone i x hx
        refine X.drawM 44 rfl (by kernel_rfl) rfl ?_
        refine QD.u (LU.moveR Is.rfl') rfl ?_
        refine QD.u (LU.moveS Is.rfl') rfl ?_
        refine QD.u (LU.moveR Is.rfl') rfl ?_
        refine QD.u (LU.at Tryd.underlying45 ⟨Tryd.sizeOf49, Tryd.isAgg49⟩ Is.rfl' Is.rfl' (by omega) (shs_at hx) (sh_ne x)) rfl ?_
        refine QD.u (LU.fieldP Tryd.underlying49 rfl ⟨Tryd.sizeOf35, Tryd.isAgg35⟩ (by decide) Is.rfl' (by (simp; omega))) rfl ?_
        refine QD.u (LU.weak (LU.load ⟨Tryd.sizeOf35, Tryd.isAgg35⟩ Is.rfl' (by (simp; omega)) (Part.whole (by (simp; omega)))) (Is.of (y := .agg (vxL x.v)) (congrArg LV.agg (sh_v x)))) rfl ?_
        refine QD.u (LU.weak (LU.callP (List.Perm.refl _) (hhc x.v) Tryd.func20 rfl rfl (Opds.cons Is.rfl' (Opds.cons Is.rfl' Opds.nil))) (Is.of (y := bl true) (congrArg bl f1))) rfl ?_
        refine QD.u (LU.not Is.rfl') rfl ?_
        refine QD.u (LU.moveR Is.rfl') rfl ?_
        refine QD.doF rfl rfl (LU.moveR (by exact Is.rfl')) rfl ?_
        refine QD.doF rfl rfl (LU.weak (LU.build (places := #[(0, 32), (32, 1)]) Tryd.underlying35 Tryd.zeroValue35 (ones rfl) (by intro w; simp [Tryd.sizeOf3, Tryd.sizeOf31]) Parts.nil rfl) (Is.of (y := .agg (vxL topV)) (rfl))) rfl ?_
        refine QD.doF rfl rfl (LU.moveS (by exact Is.rfl')) rfl ?_
        refine QD.doF rfl rfl (LU.moveR (by exact Is.rfl')) rfl ?_
        refine QD.doF rfl rfl (LU.at Tryd.underlying45 ⟨Tryd.sizeOf49, Tryd.isAgg49⟩ (by exact Is.rfl') (by exact Is.rfl') (by omega) (shs_at hx) (sh_ne x)) rfl ?_
        refine QD.doF rfl rfl (LU.fieldP Tryd.underlying49 rfl ⟨Tryd.sizeOf35, Tryd.isAgg35⟩ (by decide) (by exact Is.rfl') (by (simp; omega))) rfl ?_
        refine QD.doF rfl rfl (LU.weak (LU.load ⟨Tryd.sizeOf35, Tryd.isAgg35⟩ (by exact Is.rfl') (by (simp; omega)) (Part.whole (by (simp; omega)))) (Is.of (y := .agg (vxL x.v)) (congrArg LV.agg (sh_v x)))) rfl ?_
        refine QD.doF rfl rfl (LU.weak (LU.callP (List.Perm.refl _) (hac topV x.v) Tryd.func21 rfl rfl (Opds.cons (by exact Is.rfl') (Opds.cons (by exact Is.rfl') (Opds.cons (by exact Is.rfl') Opds.nil)))) (Is.of (y := bl true) (congrArg bl f2))) rfl ?_
        refine QD.doF rfl rfl (LU.not (by exact Is.rfl')) rfl ?_
        refine QD.u (LU.pickF Is.rfl' (by exact Is.rfl')) rfl ?_
        refine QD.u (LU.moveR Is.rfl') rfl ?_
        refine QD.doF rfl rfl (LU.moveR (by exact Is.rfl')) rfl ?_
        refine QD.doF rfl rfl (LU.moveS (by exact Is.rfl')) rfl ?_
        refine QD.doF rfl rfl (LU.moveR (by exact Is.rfl')) rfl ?_
        refine QD.doF rfl rfl (LU.at Tryd.underlying45 ⟨Tryd.sizeOf49, Tryd.isAgg49⟩ (by exact Is.rfl') (by exact Is.rfl') (by omega) (shs_at hx) (sh_ne x)) rfl ?_
        refine QD.doF rfl rfl (LU.fieldP Tryd.underlying49 rfl ⟨Tryd.sizeOf35, Tryd.isAgg35⟩ (by decide) (by exact Is.rfl') (by (simp; omega))) rfl ?_
        refine QD.doF rfl rfl (LU.weak (LU.load ⟨Tryd.sizeOf35, Tryd.isAgg35⟩ (by exact Is.rfl') (by (simp; omega)) (Part.whole (by (simp; omega)))) (Is.of (y := .agg (vxL x.v)) (congrArg LV.agg (sh_v x)))) rfl ?_
        refine QD.doF rfl rfl (LU.weak (LU.build (places := #[(0, 32), (32, 1)]) Tryd.underlying35 Tryd.zeroValue35 (ones rfl) (by intro w; simp [Tryd.sizeOf3, Tryd.sizeOf31]) (Parts.cons (by exact Is.rfl') (by exact Cells.raw rfl) Parts.nil) rfl) (Is.of (y := .agg (vxL botV)) (rfl))) rfl ?_
        refine QD.doF rfl rfl (LU.weak (LU.callP (List.Perm.refl _) (hac x.v botV) Tryd.func21 rfl rfl (Opds.cons (by exact Is.rfl') (Opds.cons (by exact Is.rfl') (Opds.cons (by exact Is.rfl') Opds.nil)))) (Is.of (y := bl true) (congrArg bl f3))) rfl ?_
        refine QD.doF rfl rfl (LU.not (by exact Is.rfl')) rfl ?_
        refine QD.u (LU.pickF Is.rfl' (by exact Is.rfl')) rfl ?_
        refine QD.u (LU.moveR Is.rfl') rfl ?_
        refine QD.doF rfl rfl (LU.moveR (by exact Is.rfl')) rfl ?_
        refine QD.doF rfl rfl (LU.moveS (by exact Is.rfl')) rfl ?_
        refine QD.doF rfl rfl (LU.moveR (by exact Is.rfl')) rfl ?_
        refine QD.doF rfl rfl (LU.at Tryd.underlying45 ⟨Tryd.sizeOf49, Tryd.isAgg49⟩ (by exact Is.rfl') (by exact Is.rfl') (by omega) (shs_at hx) (sh_ne x)) rfl ?_
        refine QD.doF rfl rfl (LU.fieldP Tryd.underlying49 rfl ⟨Tryd.sizeOf35, Tryd.isAgg35⟩ (by decide) (by exact Is.rfl') (by (simp; omega))) rfl ?_
        refine QD.doF rfl rfl (LU.weak (LU.load ⟨Tryd.sizeOf35, Tryd.isAgg35⟩ (by exact Is.rfl') (by (simp; omega)) (Part.whole (by (simp; omega)))) (Is.of (y := .agg (vxL x.v)) (congrArg LV.agg (sh_v x)))) rfl ?_
        refine QD.doF rfl rfl (LU.moveS (by exact Is.rfl')) rfl ?_
        refine QD.doF rfl rfl (LU.moveR (by exact Is.rfl')) rfl ?_
        refine QD.doF rfl rfl (LU.at Tryd.underlying45 ⟨Tryd.sizeOf49, Tryd.isAgg49⟩ (by exact Is.rfl') (by exact Is.rfl') (by omega) (shs_at hx) (sh_ne x)) rfl ?_
        refine QD.doF rfl rfl (LU.fieldP Tryd.underlying49 rfl ⟨Tryd.sizeOf35, Tryd.isAgg35⟩ (by decide) (by exact Is.rfl') (by (simp; omega))) rfl ?_
        refine QD.doF rfl rfl (LU.weak (LU.load ⟨Tryd.sizeOf35, Tryd.isAgg35⟩ (by exact Is.rfl') (by (simp; omega)) (Part.whole (by (simp; omega)))) (Is.of (y := .agg (vxL x.v)) (congrArg LV.agg (sh_v x)))) rfl ?_
        refine QD.doF rfl rfl (LU.weak (LU.callP (List.Perm.refl _) (hac x.v x.v) Tryd.func21 rfl rfl (Opds.cons (by exact Is.rfl') (Opds.cons (by exact Is.rfl') (Opds.cons (by exact Is.rfl') Opds.nil)))) (Is.of (y := bl false) (congrArg bl f4))) rfl ?_
        refine QD.u (LU.pickF Is.rfl' (by exact Is.rfl')) rfl ?_
        refine QD.nil ?_
        refine LL.nil (after_code ?_)
        refine X.condF rfl ?_ ?_
        · rfl
        refine LW.skip (after_code ?_)
        refine LW.seq ?_
        refine LW.region ?_
        refine X.u (LU.moveR Is.rfl') rfl ?_
        refine X.u (LU.moveR Is.rfl') rfl ?_
        refine LL.nil (after_code ?_)
        refine LW.block ?_
        refine X.loopK (α := Nat) (fun j => [(70, i64 j)]) [3, 4, 5, 21, 22, 69] (fun j => gC g s.ma s.mb s.n :: gA s.ma s.m :: kb :: gP s.mb s.q :: Rf) (fun j => j ≤ i) (fun j => i - j) (0) (EnvLe.cons (by rfl) (EnvLe.nil)) (by repeat (exact HSub.refl _)) ?_ ?_
        · exact Nat.zero_le _
        · rintro j hI
          refine LW.seq ?_
          refine LW.region ?_
          refine X.u (LU.lss Is.rfl' Is.rfl') rfl ?_
          refine LL.nil (after_code ?_)
          refine LW.seq ?_
          refine X.cond rfl (fun h13 => ?_) (fun h13 => ?_)
          · try have h13 := of_decide_eq_true h13
            refine LW.skip (after_code ?_)
            refine LW.seq ?_
            refine LW.block ?_
            refine LW.seq ?_
            refine LW.region ?_
            refine X.u (LU.moveR Is.rfl') rfl ?_
            refine X.u (LU.assignR Is.rfl') rfl ?_
            refine LL.nil (after_code ?_)
            refine LW.seq ?_
            obtain ⟨y, hy⟩ := at_lt (show j < S.length by omega)
            have hyl := sh_len y
            have hyv := y.v.p.2
            obtain ⟨f5, f6⟩ := htwo i j x y hx hy (by omega)
            refine X.drawM 25 rfl (by kernel_rfl) rfl ?_
            refine QD.u (LU.moveS Is.rfl') rfl ?_
            refine QD.u (LU.moveR Is.rfl') rfl ?_
            refine QD.u (LU.at Tryd.underlying45 ⟨Tryd.sizeOf49, Tryd.isAgg49⟩ Is.rfl' Is.rfl' (by omega) (shs_at hy) (sh_ne y)) rfl ?_
            refine QD.u (LU.fieldP Tryd.underlying49 rfl ⟨Tryd.sizeOf35, Tryd.isAgg35⟩ (by decide) Is.rfl' (by (simp; omega))) rfl ?_
            refine QD.u (LU.weak (LU.load ⟨Tryd.sizeOf35, Tryd.isAgg35⟩ Is.rfl' (by (simp; omega)) (Part.whole (by (simp; omega)))) (Is.of (y := .agg (vxL y.v)) (congrArg LV.agg (sh_v y)))) rfl ?_
            refine QD.u (LU.moveS Is.rfl') rfl ?_
            refine QD.u (LU.moveR Is.rfl') rfl ?_
            refine QD.u (LU.at Tryd.underlying45 ⟨Tryd.sizeOf49, Tryd.isAgg49⟩ Is.rfl' Is.rfl' (by omega) (shs_at hx) (sh_ne x)) rfl ?_
            refine QD.u (LU.fieldP Tryd.underlying49 rfl ⟨Tryd.sizeOf35, Tryd.isAgg35⟩ (by decide) Is.rfl' (by (simp; omega))) rfl ?_
            refine QD.u (LU.weak (LU.load ⟨Tryd.sizeOf35, Tryd.isAgg35⟩ Is.rfl' (by (simp; omega)) (Part.whole (by (simp; omega)))) (Is.of (y := .agg (vxL x.v)) (congrArg LV.agg (sh_v x)))) rfl ?_
            refine QD.u (LU.weak (LU.eqlVx vxty Is.rfl' Is.rfl') (Is.of (y := bl false) (congrArg bl (decide_eq_false f5)))) rfl ?_
            refine QD.u (LU.moveR Is.rfl') rfl ?_
            refine QD.doF rfl rfl (LU.moveR (by exact Is.rfl')) rfl ?_
            refine QD.doF rfl rfl (LU.moveS (by exact Is.rfl')) rfl ?_
            refine QD.doF rfl rfl (LU.moveR (by exact Is.rfl')) rfl ?_
            refine QD.doF rfl rfl (LU.at Tryd.underlying45 ⟨Tryd.sizeOf49, Tryd.isAgg49⟩ (by exact Is.rfl') (by exact Is.rfl') (by omega) (shs_at hx) (sh_ne x)) rfl ?_
            refine QD.doF rfl rfl (LU.fieldP Tryd.underlying49 rfl ⟨Tryd.sizeOf35, Tryd.isAgg35⟩ (by decide) (by exact Is.rfl') (by (simp; omega))) rfl ?_
            refine QD.doF rfl rfl (LU.weak (LU.load ⟨Tryd.sizeOf35, Tryd.isAgg35⟩ (by exact Is.rfl') (by (simp; omega)) (Part.whole (by (simp; omega)))) (Is.of (y := .agg (vxL x.v)) (congrArg LV.agg (sh_v x)))) rfl ?_
            refine QD.doF rfl rfl (LU.moveS (by exact Is.rfl')) rfl ?_
            refine QD.doF rfl rfl (LU.moveR (by exact Is.rfl')) rfl ?_
            refine QD.doF rfl rfl (LU.at Tryd.underlying45 ⟨Tryd.sizeOf49, Tryd.isAgg49⟩ (by exact Is.rfl') (by exact Is.rfl') (by omega) (shs_at hy) (sh_ne y)) rfl ?_
            refine QD.doF rfl rfl (LU.fieldP Tryd.underlying49 rfl ⟨Tryd.sizeOf35, Tryd.isAgg35⟩ (by decide) (by exact Is.rfl') (by (simp; omega))) rfl ?_
            refine QD.doF rfl rfl (LU.weak (LU.load ⟨Tryd.sizeOf35, Tryd.isAgg35⟩ (by exact Is.rfl') (by (simp; omega)) (Part.whole (by (simp; omega)))) (Is.of (y := .agg (vxL y.v)) (congrArg LV.agg (sh_v y)))) rfl ?_
            refine QD.doF rfl rfl (LU.weak (LU.callP (List.Perm.refl _) (hac x.v y.v) Tryd.func21 rfl rfl (Opds.cons (by exact Is.rfl') (Opds.cons (by exact Is.rfl') (Opds.cons (by exact Is.rfl') Opds.nil)))) (Is.of (y := bl false) (congrArg bl f6))) rfl ?_
            refine QD.u (LU.pickF Is.rfl' (by exact Is.rfl')) rfl ?_
            refine QD.nil ?_
            refine LL.nil (after_code ?_)
            refine X.condF rfl ?_ ?_
            · rfl
            refine LW.skip (after_blk (after_code ?_))
            refine LW.region ?_
            refine X.u (LU.addN Is.rfl' Is.rfl' (wrap_i64 (by omega) (by omega))) rfl ?_
            refine X.u (LU.moveR Is.rfl') rfl ?_
            refine LL.nil (after_rnd ?_)
            refine X.next (j + 1) rfl (EnvLe.cons (by rfl) (EnvLe.nil)) (Keeps.cons (by exact Eq.trans (b := .raw _) rfl rfl) (Keeps.cons (by exact Eq.trans (b := .sl _ _ _) rfl rfl) (Keeps.cons (by exact Eq.trans (b := .raw _) rfl rfl) (Keeps.cons (by exact Eq.trans (b := .raw _) rfl rfl) (Keeps.cons (by exact Eq.trans (b := .raw _) rfl rfl) (Keeps.cons (by exact Eq.trans (b := .raw _) rfl rfl) (Keeps.nil))))))) (by repeat (exact HSub.refl _)) ?_ ?_
            · omega
            · omega
          · try have h13 := of_decide_eq_false h13
            refine LW.exit (exit_code (exit_rnd (exit_blk (after_blk (after_code ?_)))))
            refine LW.region ?_
            refine X.u (LU.addN Is.rfl' Is.rfl' (wrap_i64 (by omega) (by omega))) rfl ?_
            refine X.u (LU.moveR Is.rfl') rfl ?_
            refine LL.nil (after_rnd ?_)
            refine X.next (i + 1) rfl (EnvLe.cons (by rfl) (EnvLe.nil)) (Keeps.cons (by exact Eq.trans (b := .raw _) rfl rfl) (Keeps.cons (by exact Eq.trans (b := .sl _ _ _) rfl rfl) (Keeps.cons (by exact Eq.trans (b := .raw _) rfl rfl) (Keeps.nil)))) (by repeat (exact HSub.refl _)) ?_ ?_
            · omega
            · omega
      · try have h8 := of_decide_eq_false h8
        refine LW.exit (exit_code (exit_rnd (exit_blk (after_code ?_))))
        refine LW.seq ?_
        refine LW.region ?_
        refine X.u (LU.moveR Is.rfl') rfl ?_
        refine X.u (LU.weak (LU.build (places := #[(0, 32), (32, 1)]) Tryd.underlying35 Tryd.zeroValue35 (ones rfl) (by intro w; simp [Tryd.sizeOf3, Tryd.sizeOf31]) (Parts.cons Is.rfl' (by exact Cells.raw rfl) Parts.nil) rfl) (Is.of (y := .agg (vxL botV)) (rfl))) rfl ?_
        refine X.u (LU.weak (LU.build (places := #[(0, 32), (32, 1)]) Tryd.underlying35 Tryd.zeroValue35 (ones rfl) (by intro w; simp [Tryd.sizeOf3, Tryd.sizeOf31]) Parts.nil rfl) (Is.of (y := .agg (vxL topV)) (rfl))) rfl ?_
        refine X.u (LU.weak (LU.callP (List.Perm.refl _) (hac botV topV) Tryd.func21 rfl rfl (Opds.cons Is.rfl' (Opds.cons Is.rfl' (Opds.cons Is.rfl' Opds.nil)))) (Is.of (y := bl false) (congrArg bl hbt))) rfl ?_
        refine X.u (LU.not Is.rfl') rfl ?_
        refine X.u (LU.moveR Is.rfl') rfl ?_
        refine X.doT rfl rfl (LU.call1 2 rfl (lives_calls) Tryd.func15 rfl rfl Opds.nil) rfl ?_
        refine X.u (LU.pickT Is.rfl' (by exact Is.rfl')) rfl ?_
        refine X.u (LU.assignR Is.rfl') rfl ?_
        refine LL.nil (after_code ?_)
        refine LW.ret (after_end ?_)
        refine X.ret (H' := [kb]) (Res.one (by exact IsR rfl)) (by repeat (first | exact HSub.refl _ | refine HSub.pick 2 rfl ?_ | refine HSub.drop ?_)) ?_
        exact ⟨rfl, rfl⟩
theorem LinesOrder_row (x0 : List (List LV)) (h0 : ∀ c ∈ x0, QAct c) (h1 : x0.length * 168 ≤ reachBytes) : LCalls Tryd.prog 4 [.sl 101 x0 .unk] [kb] (fun r H' => r = .raw (.bool true) ∧ H' = [kb]) := by
  obtain ⟨l, rfl, hl⟩ := acs_of h0
  have := reach_lt
  rw [List.length_map] at h1
  exact order_law l .unk (by omega) hl
end Go.Proofs.YtolpkeajokjbjaaDoor
