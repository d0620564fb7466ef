/- What LinesPlays needs, part 4. -/
import Derived.Below
import Derived.WalkKit
import Derived.OwnWalk
import Derived.Deep.LoopGhost
import Derived.RangeFuncIn
import Derived.RangeFuncLeaves
import Derived.TacticsIn
import Derived.OrdersIn
import Derived.LoopIn
import Derived.LoopNIn
import Derived.Laws.Entries
import Derived.Laws.Slices
import Derived.Laws.Cells
import Derived.Deep.AppendSrc
import Derived.Deep.MidRow
import Derived.Laws.AppendOwn
import Derived.Laws.MakeOwn
import Derived.Laws.IdiomCopy
import Derived.Lib.ConvBytes
import Derived.Lib.SlBytesConst
import Derived.Laws.BytesArg
import Derived.Deep.Upon
import Derived.Laws.StructEq
import Derived.Laws.Small
import Derived.SizedLaws
import Derived.ChangeSlices
import Derived.Lib.SmallJoins
import Derived.MakeChecks
import Derived.ChangeBears2
import Derived.Laws.CopyRow
import Derived.RangeFuncRecord
import Derived.Laws.Externs
import Derived.Lib.Bytealg
import Derived.Lib.IndexLaws
import Derived.DefersIn
import Derived.Lib.SliceRun
import Derived.OpenShut
import Derived.WideShapes
import Derived.Maps.RangeRun
import Derived.Sort.Row
import Derived.Lib.BytesEntry
import Derived.Lib.SlFresh
import Derived.Test.YtolpkeajokjbjaaDoorProg
import Derived.Test.YtolpkeajokjbjaaDoorRows
import Derived.LaidMore
import Derived.LaidHandle
import Derived.ChangeSame
import Derived.Test.YtolpkeajokjbjaaDoorBLinesPlays3
set_option linter.unusedVariables false
set_option linter.unusedSimpArgs false
namespace Go.Proofs.YtolpkeajokjbjaaDoor
open Go.RowKit Go.L Go.Lib
attribute [local irreducible] LL LW LO LP LA
def unkillE (m : At) (v : Vx) (h : Hs) : Nat := if woundE m v ≠ 0 then woundE m v else if placeG (atG m v).kills h < 0 then 111 else 0
def unkillA (m : At) (v : Vx) (h : Hs) : At := if unkillE m v h = 0 then setA m v { atG m v with kills := (atG m v).kills.eraseIdx (placeG (atG m v).kills h).toNat } else m
set_option maxHeartbeats 2000000 in
set_option maxRecDepth 100000 in
theorem unkill_calls (g ma mb : Nat) (n : Int) (m : At) (v : Vx) (by_ : Hs) (hk : (atG m v).kills.length < 900000) : LCalls Tryd.prog 24 [pt g, .agg (vxL v), .agg (hsL by_)] [gC g ma mb n, gA ma m, kb] (fun r H' => r = i64 (unkillE m v by_ : Nat) ∧ H' = [gC g ma mb n, gA ma (unkillA m v by_), kb]) := by
  have hvl := vxL_len v
  have hbl := hsL_len by_
  have hb32 : by_.1.length = 32 := by_.2
  have hgi := at_is m v
  obtain ⟨x, hx⟩ : ∃ x, x = atG m v := ⟨_, rfl⟩
  obtain ⟨W, hW⟩ : ∃ W, W = woundE m v := ⟨_, rfl⟩
  have hwc := wound_calls g ma mb n m v
  rw [← hx] at hk hgi
  rw [← hW] at hwc
  have hE : unkillE m v by_ = if W ≠ 0 then W else if placeG x.kills by_ < 0 then 111 else 0 := by unfold unkillE; rw [hx, hW]
  have hA : unkillA m v by_ = if unkillE m v by_ = 0 then setA m v { x with kills := x.kills.eraseIdx (placeG x.kills by_).toNat } else m := by unfold unkillA; rw [hx]
  rw [hA, hE]
  refine LCalls.of Tryd.func24 rfl Tryd.ntmps24 Tryd.results24 rfl (fun Rf => ?_)
  refine LW.seq ?_
  refine LW.region ?_
  refine X.act (X.box rfl Is.rfl' (by exact Cells.agg) (fun b4 => ?_))
  refine X.act (X.box rfl Is.rfl' (by exact Cells.agg) (fun b5 => ?_))
  refine X.u (LU.assignR Is.rfl') rfl ?_
  refine LL.nil (after_code ?_)
  refine LW.seq ?_
  refine LW.seq ?_
  refine LW.region ?_
  refine X.u (LU.moveR Is.rfl') rfl ?_
  refine X.u (LU.loadO 1 rfl ⟨Tryd.sizeOf35, Tryd.isAgg35⟩ Is.rfl' (Part.whole (by assumption))) rfl ?_
  refine X.u (LU.callP (show List.Perm _ ([gC g ma mb n, gA ma m, kb] ++ (.cells b5 31 (hsL by_) :: .cells b4 35 (vxL v) :: Rf)) from perm_of fun x => (by simp only [List.count_append, List.count_cons, List.count_nil]; omega)) (hwc) Tryd.func30 rfl rfl (Opds.cons Is.rfl' (Opds.cons Is.rfl' Opds.nil))) rfl ?_
  refine X.u (LU.assignR Is.rfl') rfl ?_
  refine LL.nil (after_code ?_)
  refine LW.seq ?_
  refine LW.region ?_
  refine X.u (LU.moveR Is.rfl') rfl ?_
  refine X.u (LU.neq Is.rfl' Is.rfl') rfl ?_
  refine LL.nil (after_code ?_)
  refine X.cond rfl (fun h2 => ?_) (fun h2 => ?_)
  · have h2 : W ≠ 0 := by simp at h2; omega
    refine LW.seq ?_
    refine LW.region ?_
    refine X.u (LU.moveR Is.rfl') rfl ?_
    refine X.u (LU.assignR Is.rfl') rfl ?_
    refine LL.nil (after_code ?_)
    refine LW.ret (ret_code (after_end ?_))
    refine X.ret (H' := [gC g ma mb n, gA ma m, kb]) (Res.one (by exact IsR rfl)) (by repeat (first | exact HSub.refl _ | refine HSub.pick 2 rfl ?_ | refine HSub.drop ?_)) ?_
    exact ⟨by rw [if_pos h2], by rw [if_pos h2, if_neg h2]⟩
  · have h2 : ¬ W ≠ 0 := by simp at h2; omega
    refine LW.skip (after_code ?_)
    refine LW.seq ?_
    refine LW.invM (m := 7) (γ := Nat × Nat) [(0, 16), (1, 17), (2, 18), (3, 19), (4, 20), (5, 21), (6, 8)] (fun g_ d => match g_ with | ⟨b_, z_⟩ => match d with | 16 => pt g | 17 => pt g | 18 => pt g | 19 => .raw (.map (some ma)) | 20 => .agg (vxL v) | 21 => lnE x | 8 => pt b_ | _ => .any) (fun g_ f => match g_ with | ⟨b_, z_⟩ => cond (f 6) (.cells b_ 73 (raws z73.cells.toList)) (.tail 0 0 0) :: .cells b5 31 (hsL by_) :: .cells b4 35 (vxL v) :: gC g ma mb n :: gA ma m :: kb :: Rf) (0, 0) rfl (by kernel_rfl) rfl rfl ((HSub.trans (by repeat (exact HSub.refl _)) (HSub.tail0 0 0 0 (Nat.le_refl _) _))) ?_ ?_
    · intro i hi f g_ hfi hdir hdown
      obtain ⟨b_, z_⟩ := g_
      have hc : i = 0 ∨ i = 1 ∨ i = 2 ∨ i = 3 ∨ i = 4 ∨ i = 5 ∨ i = 6 := by omega
      rcases hc with rfl | rfl | rfl | rfl | rfl | rfl | rfl
      · refine ⟨_, rfl, ?_⟩
        refine A.u (LU.moveR Is.rfl') rfl ?_
        refine ⟨⟨b_, z_⟩, Weaker.mk' ?_ (HSub.refl _)⟩
        refine env_back0 (envS_hit (sl := [(0, 16), (1, 17), (2, 18), (3, 19), (4, 20), (5, 21), (6, 8)]) (j := 0) (d := 16) rfl (fun _ _ h => h))  (envS_next ?_)
        · intro p hp hne; simp only [List.mem_cons, List.not_mem_nil, or_false] at hp; rcases hp with rfl | rfl | rfl | rfl | rfl | rfl | rfl <;> first | exact absurd rfl hne | exact ⟨rfl, rfl⟩
      · have d0 := hdir 0 (List.mem_of_elem_eq_true (by kernel_rfl))
        refine ⟨_, rfl, ?_⟩
        refine LP.weak (t := 16) (v := pt g) (envS_is (j := 0) rfl d0) ?_
        refine A.u (LU.nilCheck Is.rfl') rfl ?_
        refine ⟨⟨b_, z_⟩, Weaker.mk' ?_ (HSub.refl _)⟩
        refine env_back1 (envS_hit (sl := [(0, 16), (1, 17), (2, 18), (3, 19), (4, 20), (5, 21), (6, 8)]) (j := 1) (d := 17) rfl (fun _ _ h => h)) (envS_hit (sl := [(0, 16), (1, 17), (2, 18), (3, 19), (4, 20), (5, 21), (6, 8)]) (j := 0) (d := 16) rfl (fun _ _ h => h)) (envS_next ?_)
        · intro p hp hne; simp only [List.mem_cons, List.not_mem_nil, or_false] at hp; rcases hp with rfl | rfl | rfl | rfl | rfl | rfl | rfl <;> first | exact absurd rfl hne | exact ⟨rfl, rfl⟩
      · have d1 := hdir 1 (List.mem_of_elem_eq_true (by kernel_rfl))
        refine ⟨_, rfl, ?_⟩
        refine LP.weak (t := 17) (v := pt g) (envS_is (j := 1) rfl d1) ?_
        refine A.u (LU.fieldO Tryd.underlying68 rfl Tryd.sizeOf65 (by decide) Is.rfl') rfl ?_
        refine ⟨⟨b_, z_⟩, Weaker.mk' ?_ (HSub.refl _)⟩
        refine env_back1 (envS_hit (sl := [(0, 16), (1, 17), (2, 18), (3, 19), (4, 20), (5, 21), (6, 8)]) (j := 2) (d := 18) rfl (fun _ _ h => h)) (envS_hit (sl := [(0, 16), (1, 17), (2, 18), (3, 19), (4, 20), (5, 21), (6, 8)]) (j := 1) (d := 17) rfl (fun _ _ h => h)) (envS_next ?_)
        · intro p hp hne; simp only [List.mem_cons, List.not_mem_nil, or_false] at hp; rcases hp with rfl | rfl | rfl | rfl | rfl | rfl | rfl <;> first | exact absurd rfl hne | exact ⟨rfl, rfl⟩
      · have d2 := hdir 2 (List.mem_of_elem_eq_true (by kernel_rfl))
        refine ⟨_, rfl, ?_⟩
        refine LP.weak (t := 18) (v := pt g) (envS_is (j := 2) rfl d2) ?_
        refine A.u (LU.loadO 3 rfl ⟨Tryd.sizeOf65, Tryd.isAgg65⟩ Is.rfl' (Part.one rfl)) rfl ?_
        refine ⟨⟨b_, z_⟩, Weaker.mk' ?_ (HSub.refl _)⟩
        refine env_back1 (envS_hit (sl := [(0, 16), (1, 17), (2, 18), (3, 19), (4, 20), (5, 21), (6, 8)]) (j := 3) (d := 19) rfl (fun _ _ h => h)) (envS_hit (sl := [(0, 16), (1, 17), (2, 18), (3, 19), (4, 20), (5, 21), (6, 8)]) (j := 2) (d := 18) rfl (fun _ _ h => h)) (envS_next ?_)
        · intro p hp hne; simp only [List.mem_cons, List.not_mem_nil, or_false] at hp; rcases hp with rfl | rfl | rfl | rfl | rfl | rfl | rfl <;> first | exact absurd rfl hne | exact ⟨rfl, rfl⟩
      · refine ⟨_, rfl, ?_⟩
        refine A.u (LU.loadO 2 rfl ⟨Tryd.sizeOf35, Tryd.isAgg35⟩ Is.rfl' (Part.whole (by assumption))) rfl ?_
        refine ⟨⟨b_, z_⟩, Weaker.mk' ?_ (HSub.refl _)⟩
        refine env_back0 (envS_hit (sl := [(0, 16), (1, 17), (2, 18), (3, 19), (4, 20), (5, 21), (6, 8)]) (j := 4) (d := 20) rfl (fun _ _ h => h))  (envS_next ?_)
        · intro p hp hne; simp only [List.mem_cons, List.not_mem_nil, or_false] at hp; rcases hp with rfl | rfl | rfl | rfl | rfl | rfl | rfl <;> first | exact absurd rfl hne | exact ⟨rfl, rfl⟩
      · have d3 := hdir 3 (List.mem_of_elem_eq_true (by kernel_rfl))
        have d4 := hdir 4 (List.mem_of_elem_eq_true (by kernel_rfl))
        refine ⟨_, rfl, ?_⟩
        refine LP.weak (t := 19) (v := .raw (.map (some ma))) (envS_is (j := 3) rfl d3) ?_
        refine LP.weak (t := 20) (v := .agg (vxL v)) (envS_is (j := 4) rfl d4) ?_
        refine A.u (LU.weak (LU.lookup 4 (KeyOk.vx vxty) rfl Tryd.underlying65 Tryd.zeroValue73 Is.rfl' (by exact Is.vx _)) (hgi)) rfl ?_
        refine ⟨⟨b_, z_⟩, Weaker.mk' ?_ (HSub.refl _)⟩
        refine env_back2 (envS_hit (sl := [(0, 16), (1, 17), (2, 18), (3, 19), (4, 20), (5, 21), (6, 8)]) (j := 5) (d := 21) rfl (fun _ _ h => h)) (envS_hit (sl := [(0, 16), (1, 17), (2, 18), (3, 19), (4, 20), (5, 21), (6, 8)]) (j := 4) (d := 20) rfl (fun _ _ h => h)) (envS_hit (sl := [(0, 16), (1, 17), (2, 18), (3, 19), (4, 20), (5, 21), (6, 8)]) (j := 3) (d := 19) rfl (fun _ _ h => h)) (envS_next ?_)
        · intro p hp hne; simp only [List.mem_cons, List.not_mem_nil, or_false] at hp; rcases hp with rfl | rfl | rfl | rfl | rfl | rfl | rfl <;> first | exact absurd rfl hne | exact ⟨rfl, rfl⟩
      · refine ⟨_, rfl, ?_⟩
        refine A.act (X.alloc rfl Tryd.zeroValue73 (by exact Cells.rawagg (by decide)) (fun b8 => ?_))
        refine ⟨(b8, 0), Weaker.mk' ?_ (by show L.HSub (_ :: cond (f 6) _ (.tail 0 0 0) :: _) _; rw [hfi]; exact HSub.cons (HSub.drop (HSub.refl _)))⟩
        refine env_back0 (envS_hit (sl := [(0, 16), (1, 17), (2, 18), (3, 19), (4, 20), (5, 21), (6, 8)]) (j := 6) (d := 8) rfl (fun _ _ h => h))  (envS_next ?_)
        · intro p hp hne; simp only [List.mem_cons, List.not_mem_nil, or_false] at hp; rcases hp with rfl | rfl | rfl | rfl | rfl | rfl | rfl <;> first | exact absurd rfl hne | exact ⟨rfl, rfl⟩
    · intro g_ f hf_
      obtain ⟨b_, z_⟩ := g_
      refine X.ghost (H' := .cells b_ 73 (raws z73.cells.toList) :: .cells b5 31 (hsL by_) :: .cells b4 35 (vxL v) :: gC g ma mb n :: gA ma m :: kb :: Rf) (by show L.HSub (cond (f 6) _ (.tail 0 0 0) :: _) _; rw [hf_ 6 (by omega)]; exact HSub.refl _) ?_
      refine X.act (X.store 0 rfl Tryd.sizeOf73 Is.rfl' Is.rfl' (by exact Cells.agg) (by (simp; done)) (by exact Nat.le_of_ble_eq_true rfl) ?_)
      refine LL.nil (after_code ?_)
      refine LW.seq ?_
      refine X.wcells (ys := lnL x) rfl ?_
      refine X.wghost (H' := .cells b_ 73 (lnL x) :: .cells b5 31 (hsL by_) :: .cells b4 35 (vxL v) :: gC g ma mb n :: gA ma m :: kb :: Rf) (by repeat (exact HSub.refl _)) ?_
      refine LW.region ?_
      refine X.u (LU.fieldO Tryd.underlying73 rfl Tryd.sizeOf71 (by decide) Is.rfl') rfl ?_
      refine X.u (LU.loadO 0 rfl ⟨Tryd.sizeOf71, Tryd.isAgg71⟩ Is.rfl' (Part.one rfl)) rfl ?_
      refine X.u (LU.loadO 1 rfl ⟨Tryd.sizeOf31, Tryd.isAgg31⟩ Is.rfl' (Part.whole (by assumption))) rfl ?_
      refine X.u (LU.call (indexH_calls x.kills .unk by_ (by omega)) Tryd.func42 rfl rfl (Opds.cons Is.rfl' (Opds.cons Is.rfl' Opds.nil))) rfl ?_
      refine X.u (LU.assignR Is.rfl') rfl ?_
      refine LL.nil (after_code ?_)
      refine LW.seq ?_
      refine LW.seq ?_
      refine LW.region ?_
      refine X.u (LU.moveR Is.rfl') rfl ?_
      refine X.u (LU.lss Is.rfl' Is.rfl') rfl ?_
      refine LL.nil (after_code ?_)
      refine X.cond rfl (fun h6 => ?_) (fun h6 => ?_)
      · have h6 : placeG x.kills by_ < 0 := by simpa using h6
        have hz0 : (0 : Nat) = 0 := rfl
        refine LW.seq ?_
        refine LW.region ?_
        refine X.u (LU.assignR Is.rfl') rfl ?_
        refine LL.nil (after_code ?_)
        refine LW.ret (ret_code (after_end ?_))
        refine X.ret (H' := [gC g ma mb n, gA ma m, kb]) (Res.one (by exact IsR rfl)) (by repeat (first | exact HSub.refl _ | refine HSub.pick 3 rfl ?_ | refine HSub.drop ?_)) ?_
        exact ⟨by rw [if_neg h2, if_pos h6]; rfl, by rw [if_neg h2, if_pos h6, if_neg (by decide)]⟩
      · have h6 : ¬ placeG x.kills by_ < 0 := by simp at h6; omega
        have hpr := placeG_range x.kills by_
        obtain ⟨ix, hix⟩ : ∃ ix : Nat, placeG x.kills by_ = ix := ⟨(placeG x.kills by_).toNat, by omega⟩
        refine LW.skip (after_code ?_)
        refine LW.seq ?_
        refine LW.region ?_
        refine X.u (LU.fieldO Tryd.underlying73 rfl Tryd.sizeOf71 (by decide) Is.rfl') rfl ?_
        refine X.u (LU.loadO 0 rfl ⟨Tryd.sizeOf71, Tryd.isAgg71⟩ Is.rfl' (Part.one rfl)) rfl ?_
        refine X.act (X.call (cloneOH_calls x.kills .unk (by omega) (by omega)) Tryd.func32 rfl rfl rfl (HSub.refl _) (Opds.cons Is.rfl' Opds.nil) ?_)
        rintro r H' ⟨b30, c30, xs30, rfl, rfl, ow30⟩
        refine X.u (LU.weak (LU.moveR Is.rfl') (Is.of (y := i64 (ix : Nat)) (congrArg i64 hix))) rfl ?_
        refine X.u (LU.moveR Is.rfl') rfl ?_
        refine X.u (LU.weak (LU.addN Is.rfl' Is.rfl' (wrap_i64 (by omega) (by omega))) (Is.of (y := i64 ((ix + 1 : Nat) : Int)) (congrArg i64 (by rw [hix]; rfl)))) rfl ?_
        refine X.act (X.call (deleteH_calls x.kills b30 0 x.kills.length c30 ix _ xs30 ow30 (by omega) (by omega)) Tryd.func43 rfl rfl rfl (by (refine HSub.pick 0 rfl ?_); exact HSub.refl _) (Opds.cons Is.rfl' (Opds.cons Is.rfl' (Opds.cons Is.rfl' Opds.nil))) ?_)
        rintro r H' ⟨rfl, xs34, rfl, ow34⟩
        refine LL.freezeO (t := 34) 0 rfl rfl ow34 ?_
        refine X.u (LU.fieldO Tryd.underlying73 rfl Tryd.sizeOf71 (by decide) Is.rfl') rfl ?_
        refine X.act (X.store 0 rfl Tryd.sizeOf71 Is.rfl' Is.rfl' (by exact Cells.sl) (by (simp; done)) (by (simp; done)) ?_)
        refine LL.nil (after_code ?_)
        refine LW.seq ?_
        refine X.wcells (ys := [Str x.text, .sl 32 (hss (x.kills.eraseIdx ix)) .unk, i64 x.part, Vxs x.next .unk, Vxs x.prev .unk]) rfl ?_
        refine X.wghost (H' := .cells b_ 73 (lnL { x with kills := x.kills.eraseIdx ix }) :: .cells b5 31 (hsL by_) :: .cells b4 35 (vxL v) :: gC g ma mb n :: gA ma m :: kb :: Rf) (by repeat (exact HSub.refl _)) ?_
        refine X.drawM 6 rfl (by kernel_rfl) rfl ?_
        refine QD.u (LU.moveR Is.rfl') rfl ?_
        refine QD.u (LU.nilCheck Is.rfl') rfl ?_
        refine QD.u (LU.fieldO Tryd.underlying68 rfl Tryd.sizeOf65 (by decide) Is.rfl') rfl ?_
        refine QD.u (LU.loadO 3 rfl ⟨Tryd.sizeOf65, Tryd.isAgg65⟩ Is.rfl' (Part.one rfl)) rfl ?_
        refine QD.u (LU.loadO 2 rfl ⟨Tryd.sizeOf35, Tryd.isAgg35⟩ Is.rfl' (Part.whole (by assumption))) rfl ?_
        refine QD.u (LU.loadO 0 rfl ⟨Tryd.sizeOf73, Tryd.isAgg73⟩ Is.rfl' (Part.whole (by (simp; done)))) rfl ?_
        refine QD.nil ?_
        refine X.act (LO.mapUpdate (st := ⟨_, _, _⟩) 4 (KeyOk.vx vxty) rfl Tryd.underlying65 Is.rfl' (by exact Is.vx _) Is.rfl' ?_)
        refine LL.nil (after_code ?_)
        refine LW.seq ?_
        refine LW.region ?_
        refine X.u (LU.assignR Is.rfl') rfl ?_
        refine LL.nil (after_code ?_)
        refine LW.ret (after_end ?_)
        refine X.ret (H' := [gC g ma mb n, gA ma (setA m v { x with kills := x.kills.eraseIdx ix }), kb]) (Res.one (by exact IsR rfl)) (by rw [← gA_set]; exact (by repeat (first | exact HSub.refl _ | refine HSub.pick 0 rfl ?_ | refine HSub.pick 3 rfl ?_ | refine HSub.pick 4 rfl ?_ | refine HSub.drop ?_))) ?_
        exact ⟨by rw [if_neg h2, if_neg h6]; rfl, by rw [if_neg h2, if_neg h6, if_pos rfl, hix, Int.toNat_natCast]⟩
end Go.Proofs.YtolpkeajokjbjaaDoor
namespace Go.Proofs.YtolpkeajokjbjaaDoor
open Go.RowKit Go.L Go.Lib
attribute [local irreducible] LL LW LO
def SzL (m : At) (k : Nat) : Prop := ∀ p ∈ m, p.2.next.length ≤ k ∧ p.2.prev.length ≤ k
theorem SzL.sz {m : At} {k : Nat} (h : SzL m k) : Sz m k := fun v => by
  unfold atG
  cases hq : lookA m v with
  | none => exact ⟨Nat.zero_le _, Nat.zero_le _⟩
  | some x => exact h _ (look_mem hq)
theorem mem_setA {κ α : Type} [DecidableEq κ] : ∀ {l : List (κ × α)} {a : κ} {x : α} {p : κ × α}, p ∈ setA l a x → p = (a, x) ∨ p ∈ l
  | [], a, x, p, h => .inl (List.mem_singleton.1 h)
  | q :: r, a, x, p, h => by
    rw [setA] at h
    split at h
    · rcases List.mem_cons.1 h with e | e
      · exact .inl e
      · exact .inr (List.mem_cons_of_mem _ e)
    · rcases List.mem_cons.1 h with e | e
      · exact .inr (by rw [e]; simp)
      · rcases mem_setA e with f | f
        · exact .inl f
        · exact .inr (List.mem_cons_of_mem _ f)
theorem mem_delA {κ α : Type} [DecidableEq κ] : ∀ {l : List (κ × α)} {a : κ} {p : κ × α}, p ∈ delA l a → p ∈ l
  | [], a, p, h => h
  | q :: r, a, p, h => by
    rw [delA] at h
    split at h
    · exact List.mem_cons_of_mem _ h
    · rcases List.mem_cons.1 h with e | e
      · rw [e]; simp
      · exact List.mem_cons_of_mem _ (mem_delA e)
theorem SzL.unstep {m : At} {k : Nat} (h : SzL m k) (a b : Vx) : SzL (unstepA m a b) k := by
  have h1 : SzL (unN m a b) k := by
    unfold unN
    split
    · intro p hp
      rcases mem_setA hp with e | e
      · rw [e]
        exact ⟨Nat.le_trans (List.length_eraseIdx_le _ _) (h.sz a).1, (h.sz a).2⟩
      · exact h p e
    · exact h
  show SzL (unP (unN m a b) a b) k
  unfold unP
  split
  · intro p hp
    rcases mem_setA hp with e | e
    · rw [e]
      exact ⟨(h1.sz b).1, Nat.le_trans (List.length_eraseIdx_le _ _) (h1.sz b).2⟩
    · exact h1 p e
  · exact h1
theorem SzL.del {m : At} {k : Nat} (h : SzL m k) (a : Vx) : SzL (delA m a) k := fun p hp => h p (mem_delA hp)
abbrev unstepV (g : Nat) : Value := .func (.func 41) #[.pointer (some ⟨g, 0, none⟩)] #[]
theorem unstep_fn (g ma mb : Nat) (n : Int) (m : At) (a b : Vx) (k : Nat) (hz : SzL m k) (hk : k < 900000) : FnCalls Tryd.prog (unstepV g) [.agg (vxL a), .agg (vxL b)] [gC g ma mb n, gA ma m] (fun r H' => r = .tup [] ∧ H' = [gC g ma mb n, gA ma (unstepA m a b)]) :=
  FnCalls.bound Tryd.func41 rfl rfl (unstep_calls g ma mb n m a b k hz.sz hk)
theorem chain_unstep (g ma mb : Nat) (n : Int) (m : At) (p : Pt) (k : Nat) (hz : SzL m k) (hl : p.ids.length < 400000) (hk : k < 400000) : LCalls Tryd.prog 37 [ptE p, .raw (unstepV g)] [gC g ma mb n, gA ma m] (fun r H' => r = .tup [] ∧ H' = [gC g ma mb n, gA ma (chainF unstepA m p.up p.ids p.down)] ∧ SzL (chainF unstepA m p.up p.ids p.down) k) :=
  chain_calls (fun m => [gC g ma mb n, gA ma m]) unstepA (fun i m => SzL m k) (unstepV g) p m (by omega) (fun i s a b hi hs => ⟨unstep_fn g ma mb n s a b k hs (by omega), hs.unstep a b⟩) hz
def pt0 : Pt := ⟨topV, topV, []⟩
def lkP (q : Ps) (k : Int) : Pt := (lookA q k).getD pt0
theorem pt0_is : Is (.raw z82) (ptE pt0) := by
  have h := Is.raw_agg (vs := z82.cells.toList) (fun v hv => by
    have : ∀ v ∈ z82.cells.toList, v.oneCell' = true := by decide +kernel
    exact this v hv)
  refine h.trans (Is.agg rfl fun i x y hx hy => ?_)
  have e1 : raws z82.cells.toList = (vxL topV ++ vxL topV) ++ [.raw (.slice none 0 0)] := rfl
  have e2 : ptL pt0 = (vxL topV ++ vxL topV) ++ [Vxs [] .unk] := rfl
  rw [e1] at hx
  rw [e2] at hy
  by_cases c : i < (vxL topV ++ vxL topV).length
  · rw [List.getElem?_append_left c] at hx hy
    rw [hx] at hy
    rw [Option.some.inj hy]; exact Is.rfl'
  · rw [List.getElem?_append_right (by omega)] at hx hy
    generalize i - (vxL topV ++ vxL topV).length = j at hx hy
    match j, hx, hy with
    | 0, hx, hy => cases hx; cases hy; exact (Is.nil 33).trans Is.unk
    | j + 1, hx, hy => simp at hx
theorem lkP_is (q : Ps) (k : Int) : Is ((lookM (encM ptE q) k).getD (.raw z82)) (ptE (lkP q k)) := by
  rw [look_enc]
  unfold lkP
  cases lookA q k with
  | none => exact pt0_is
  | some x => exact Is.rfl'
theorem gA_del (ma : Nat) (m : At) (a : Vx) : Atom.map ma (mp vxV (delM (encM lnE m) a)) = gA ma (delA m a) := by rw [del_enc]
theorem gP_del (mb : Nat) (q : Ps) (a : Int) : Atom.map mb (mp intK (delM (encM ptE q) a)) = gP mb (delA q a) := by rw [del_enc]
def dropP (s : At × Ps) (k : Int) : At := (lkP s.2 k).ids.foldl delA (chainF unstepA s.1 (lkP s.2 k).up (lkP s.2 k).ids (lkP s.2 k).down)
def dropK (s : At × Ps) (k : Int) : At × Ps := (dropP s k, delA s.2 k)
def cntP (m : At) (ids : List Vx) (k : Int) : Nat := ids.countP fun v => decide ((atG m v).part = k)
def badP (m : At) (ids : List Vx) (p : Int × Pt) : Bool := !decide (cntP m ids p.1 = p.2.ids.length) && ((decide (0 < cntP m ids p.1) || decide (p.2.up ∈ ids)) || decide (p.2.down ∈ ids))
def dropE (m : At) (q : Ps) (ids : List Vx) : Nat := if wrongB ids = true then 2 else if ids.any (fun v => !(lookA m v).isSome) = true then 111 else if q.any (badP m ids) = true then 130 else 0
abbrev iE (n : Int) : LV := i64 n
/-- Of how many ids each part is. -/
structure Gn (m : At) (ids : List Vx) (G : List (Int × Int)) : Prop where
  look : ∀ k, lookA G k = if cntP m ids k = 0 then none else some ((cntP m ids k : Nat) : Int)
  nd : (G.map (·.1)).Nodup
theorem Gn.nil (m : At) : Gn m [] [] := ⟨fun k => rfl, List.nodup_nil⟩
theorem cntP_snoc (m : At) (ids : List Vx) (v : Vx) (k : Int) : cntP m (ids ++ [v]) k = cntP m ids k + if (atG m v).part = k then 1 else 0 := by
  unfold cntP
  rw [List.countP_append, List.countP_singleton]
  simp
theorem Gn.add {m : At} {ids : List Vx} {G : List (Int × Int)} (h : Gn m ids G) (v : Vx) : Gn m (ids ++ [v]) (setA G (atG m v).part ((cntP m ids (atG m v).part + 1 : Nat) : Int)) := by
  refine ⟨fun k => ?_, ?_⟩
  · rw [look_setA, cntP_snoc]
    by_cases c : (atG m v).part = k
    · rw [if_pos c, if_pos c, if_neg (by omega), c]
    · rw [if_neg c, if_neg c, h.look]; rfl
  · rw [keys_set]
    split
    · exact h.nd
    · rename_i c; exact nodup_snoc.2 ⟨h.nd, c⟩
theorem Gn.get {m : At} {ids : List Vx} {G : List (Int × Int)} (h : Gn m ids G) (k : Int) : (lookM (encM iE G) k).getD (.raw (.int .i64 0)) = i64 (cntP m ids k : Nat) := by
  rw [look_enc, h.look]
  split
  · rename_i c; rw [c]; rfl
  · rfl
theorem Gn.mem {m : At} {ids : List Vx} {G : List (Int × Int)} (h : Gn m ids G) (k : Int) : k ∈ G.map (·.1) ↔ 0 < cntP m ids k := by
  rw [← look_keys, h.look]
  split
  · rename_i c; simp [c]
  · rename_i c; simp; omega
def pickI (K : List Int) (seen : List Nat) : List Int := seen.map fun i => K.getD i 0
theorem pickI_snoc {K : List Int} {seen : List Nat} {i : Nat} {a : Int} (h : K[i]? = some a) : pickI K (seen ++ [i]) = pickI K seen ++ [a] := by
  unfold pickI
  rw [List.map_append]
  simp [h]
theorem pickI_mem {K : List Int} {seen : List Nat} (hs : ∀ i ∈ seen, i < K.length) (hall : ∀ i, i < K.length → i ∈ seen) (x : Int) : x ∈ pickI K seen ↔ x ∈ K := by
  unfold pickI
  rw [List.mem_map]
  constructor
  · rintro ⟨i, hi, rfl⟩
    have := hs i hi
    rw [List.getD_eq_getElem?_getD, List.getElem?_eq_getElem this]
    exact List.getElem_mem this
  · intro hx
    obtain ⟨i, hi, rfl⟩ := List.getElem_of_mem hx
    exact ⟨i, hall i hi, by rw [List.getD_eq_getElem?_getD, List.getElem?_eq_getElem hi]; rfl⟩
theorem pickI_nodup {K : List Int} (hK : K.Nodup) : ∀ {seen : List Nat}, seen.Nodup → (∀ i ∈ seen, i < K.length) → (pickI K seen).Nodup
  | [], _, _ => List.nodup_nil
  | i :: s, hn, hs => by
    obtain ⟨h1, h2⟩ := List.nodup_cons.1 hn
    have hi := hs i (by simp)
    refine List.nodup_cons.2 ⟨fun hm => ?_, pickI_nodup hK h2 fun j hj => hs j (List.mem_cons_of_mem _ hj)⟩
    obtain ⟨j, hj, e⟩ := List.mem_map.1 hm
    have e : K.getD j 0 = K.getD i 0 := e
    have hjl := hs j (List.mem_cons_of_mem _ hj)
    rw [List.getD_eq_getElem?_getD, List.getElem?_eq_getElem hjl, List.getD_eq_getElem?_getD, List.getElem?_eq_getElem hi] at e
    have : j = i := (List.getElem_inj hK).1 e
    exact h1 (this ▸ hj)
theorem cntP_le (m : At) (ids : List Vx) (k : Int) : cntP m ids k ≤ ids.length := List.countP_le_length
theorem foldl_snoc {α β : Type} (f : β → α → β) (b : β) (l : List α) (a : α) : (l ++ [a]).foldl f b = f (l.foldl f b) a := by rw [List.foldl_append]; rfl
end Go.Proofs.YtolpkeajokjbjaaDoor
namespace Go.Proofs.YtolpkeajokjbjaaDoor
open Go.RowKit Go.L Go.Lib
attribute [local irreducible] LL LW LO LP LA
abbrev gG (b : Nat) (G : List (Int × Int)) : Atom := .map b (mp intK (encM iE G))
theorem gG_set (b : Nat) (G : List (Int × Int)) (k n : Int) : Atom.map b (mp intK (setM (encM iE G) k (i64 n))) = gG b (setA G k n) := congrArg (fun z => Atom.map b (mp intK z)) (set_enc iE G k n)
theorem ent_at {κ α : Type} {key : κ → Value} {enc : α → LV} {l : List (κ × α)} {i : Nat} {kv : LV × LV} (h : (mp key (encM enc l))[i]? = some kv) : ∃ p, l[i]? = some p ∧ kv = (.raw (key p.1), enc p.2) := by
  rw [List.getElem?_map, List.getElem?_map] at h
  cases hq : l[i]? with
  | none => rw [hq] at h; cases h
  | some p => rw [hq] at h; exact ⟨p, rfl, (Option.some.inj h).symm⟩
theorem mp_len {κ α : Type} {key : κ → Value} {enc : α → LV} {l : List (κ × α)} : (mp key (encM enc l)).length = l.length := by rw [List.length_map, List.length_map]
set_option maxHeartbeats 4000000 in
set_option maxRecDepth 100000 in
theorem drop_calls (g ma mb : Nat) (n : Int) (m : At) (q : Ps) (ids : List Vx) (k1 : Cap) (k : Nat) (hz : SzL m k) (hk : k < 100000) (hi : ids.length < 100000) (hq : ∀ p ∈ q, p.2.ids.length < 100000) :
    LCalls Tryd.prog 22 [pt g, Vxs ids k1] (H5 g ma mb n m q) (fun r H' => r = i64 (dropE m q ids : Nat) ∧ (dropE m q ids ≠ 0 → H' = H5 g ma mb n m q) ∧ (dropE m q ids = 0 → ∃ ks : List Int, ks.Nodup ∧ (∀ k, k ∈ ks ↔ 0 < cntP m ids k) ∧ H' = H5 g ma mb n (ks.foldl dropK (m, q)).1 (ks.foldl dropK (m, q)).2)) := by
  obtain ⟨E, hE⟩ : ∃ E, E = dropE m q ids := ⟨_, rfl⟩
  rw [← hE]
  unfold dropE at hE
  refine LCalls.of Tryd.func22 rfl Tryd.ntmps22 Tryd.results22 rfl (fun Rf => ?_)
  refine LW.seq ?_
  refine LW.region ?_
  refine X.u (LU.assignR Is.rfl') rfl ?_
  refine LL.nil (after_code ?_)
  refine LW.seq ?_
  refine LW.block ?_
  refine LW.seq ?_
  refine LW.region ?_
  refine X.u (LU.moveR Is.rfl') rfl ?_
  refine X.u (LU.callP (show List.Perm _ ([gC g ma mb n] ++ (gA ma m :: gP mb q :: kb :: Rf)) from perm_of fun x => (by simp only [List.count_append, List.count_cons, List.count_nil]; omega)) (none_calls g ma mb n) Tryd.func33 rfl rfl (Opds.cons Is.rfl' Opds.nil)) rfl ?_
  refine X.u (LU.assignR Is.rfl') rfl ?_
  refine LL.nil (after_code ?_)
  refine X.condF rfl ?_ ?_
  · rfl
  refine LW.seq ?_
  refine LW.region ?_
  refine X.u (LU.moveS Is.rfl') rfl ?_
  refine X.u (LU.callP (show List.Perm _ ([kb] ++ (gC g ma mb n :: gA ma m :: gP mb q :: Rf)) from perm_of fun x => (by simp only [List.count_append, List.count_cons, List.count_nil]; omega)) (wrong_calls ids k1 (by omega)) Tryd.func34 rfl rfl (Opds.cons Is.rfl' Opds.nil)) rfl ?_
  refine X.u (LU.assignR Is.rfl') rfl ?_
  refine LL.nil (after_code ?_)
  refine X.cond rfl (fun h3 => ?_) (fun h3 => ?_)
  · rw [if_pos h3] at hE
    refine LW.seq ?_
    refine LW.region ?_
    refine X.u (LU.assignR Is.rfl') rfl ?_
    refine LL.nil (after_code ?_)
    refine LW.ret (ret_blk (ret_code (after_end ?_)))
    refine X.ret (H' := H5 g ma mb n m q) (Res.one (by exact IsR rfl)) (by repeat (exact HSub.refl _)) ?_
    exact ⟨by rw [hE]; rfl, fun _ => rfl, fun c => by rw [hE] at c; cases c⟩
  · rw [if_neg (by rw [h3]; decide)] at hE
    refine LW.skip (after_blk (after_code ?_))
    refine LW.seq ?_
    refine LW.region ?_
    refine X.act (LO.makeMap (st := ⟨_, _, _⟩) rfl (fun b22 => ?_))
    refine X.u (LU.assignR Is.rfl') rfl ?_
    refine LL.nil (after_code ?_)
    refine LW.seq ?_
    refine LW.seq ?_
    refine X.wghost (H' := gG b22 [] :: gC g ma mb n :: gA ma m :: gP mb q :: kb :: Rf) (by repeat (exact HSub.refl _)) ?_
    refine LW.region ?_
    refine X.u (LU.moveS Is.rfl') rfl ?_
    refine X.u (LU.lenN Tryd.underlying26 Is.rfl' (by (simp only [Option.getD_some, Option.getD_none, byteEls_length, intEls_length, List.length_append, List.length_cons, List.length_nil, List.length_map, List.length_drop, List.length_take, Int.toNat_natCast]; rfl))) rfl ?_
    refine X.u (LU.moveR Is.rfl') rfl ?_
    refine LL.nil (after_code ?_)
    refine LW.block ?_
    refine X.loopK (α := Nat × List (Int × Int)) (fun ⟨i, G⟩ => [(25, i64 i)]) [0, 1, 5, 23, 24] (fun ⟨i, G⟩ => gG b22 G :: gC g ma mb n :: gA ma m :: gP mb q :: kb :: Rf) (fun ⟨i, G⟩ => i ≤ ids.length ∧ Gn m (ids.take i) G ∧ ∀ v ∈ ids.take i, (lookA m v).isSome = true) (fun ⟨i, G⟩ => ids.length - i) ((0, [])) (EnvLe.cons (by rfl) (EnvLe.nil)) (by repeat (exact HSub.refl _)) ?_ ?_
    · exact ⟨Nat.zero_le _, Gn.nil m, by simp⟩
    · rintro ⟨i, G⟩ hI
      obtain ⟨hi2, hG, hS⟩ := hI
      refine LW.seq ?_
      refine LW.region ?_
      refine X.u (LU.lss Is.rfl' Is.rfl') rfl ?_
      refine LL.nil (after_code ?_)
      refine LW.seq ?_
      refine X.cond rfl (fun h7 => ?_) (fun h7 => ?_)
      · try have h7 := of_decide_eq_true h7
        refine LW.skip (after_code ?_)
        refine LW.seq ?_
        refine LW.block ?_
        refine LW.seq ?_
        obtain ⟨v, hv⟩ := at_lt (show i < ids.length by omega)
        have hvl := vxL_len v
        have hv32 : v.p.1.length = 32 := v.p.2
        have hok := ok_is m v
        obtain ⟨x, hx⟩ : ∃ x, x = atG m v := ⟨_, rfl⟩
        obtain ⟨w, hw⟩ : ∃ w, w = (lookA m v).isSome := ⟨_, rfl⟩
        rw [← hx, ← hw] at hok
        have hc1 := cntP_le m (ids.take i) (atG m v).part
        rw [List.length_take] at hc1
        obtain ⟨cn, hcn⟩ : ∃ cn, cn = cntP m (ids.take i) (atG m v).part := ⟨_, rfl⟩
        have hget := hG.get (atG m v).part
        rw [← hcn] at hget hc1
        rw [← hx] at hget
        refine LW.region ?_
        refine X.u (LU.at Tryd.underlying26 ⟨Tryd.sizeOf35, Tryd.isAgg35⟩ Is.rfl' Is.rfl' (by omega) (vxs_at hv) (vx_ne v)) rfl ?_
        refine X.u (LU.weak (LU.load ⟨Tryd.sizeOf35, Tryd.isAgg35⟩ Is.rfl' (by assumption) (Part.whole (by assumption))) (Is.of (y := .agg (vxL v)) (rfl))) rfl ?_
        refine X.act (X.alloc rfl Tryd.zeroValue35 (by exact Cells.rawagg (by decide)) (fun b7 => ?_))
        refine X.act (X.store 0 rfl Tryd.sizeOf35 Is.rfl' Is.rfl' (by exact Cells.agg) (by assumption) (by exact Nat.le_of_ble_eq_true rfl) ?_)
        refine LL.nil (after_code ?_)
        refine LW.seq ?_
        refine X.wcells (ys := vxL v) (putAt_all (by rw [hvl]; rfl)) ?_
        refine LW.invB (m := 12) (γ := Nat × Nat) [(0, 30), (1, 31), (2, 32), (3, 33), (4, 34), (5, 35), (6, 29), (7, 36), (8, 37), (9, 8), (11, 9)] (fun g_ d => match g_ with | ⟨b_, z_⟩ => match d with | 30 => pt g | 31 => pt g | 32 => pt g | 33 => .raw (.map (some ma)) | 34 => .agg (vxL v) | 35 => .tup [lnE x, bl w] | 29 => .tup [lnE x, bl w] | 36 => lnE x | 37 => bl w | 8 => pt b_ | 9 => bl w | _ => .any) (fun g_ f => match g_ with | ⟨b_, z_⟩ => cond (f 9) (.cells b_ 73 (cond (f 10) (lnL x) (raws z73.cells.toList))) (.tail 0 0 0) :: .cells b7 35 (vxL v) :: gG b22 G :: gC g ma mb n :: gA ma m :: gP mb q :: kb :: Rf) (0, 0) rfl (by kernel_rfl) rfl rfl ((HSub.trans (by repeat (exact HSub.refl _)) (HSub.tail0 0 0 0 (Nat.le_refl _) _))) ?_ ?_
        · intro i hi f g_ hfi hdir hdown
          obtain ⟨b_, z_⟩ := g_
          have hc : i = 0 ∨ i = 1 ∨ i = 2 ∨ i = 3 ∨ i = 4 ∨ i = 5 ∨ i = 6 ∨ i = 7 ∨ i = 8 ∨ i = 9 ∨ i = 10 ∨ i = 11 := by omega
          rcases hc with rfl | rfl | rfl | rfl | rfl | rfl | rfl | rfl | rfl | rfl | rfl | rfl
          · refine ⟨_, rfl, ?_⟩
            refine A.u (LU.moveR Is.rfl') rfl ?_
            refine ⟨⟨b_, z_⟩, Weaker.mk' ?_ (HSub.refl _)⟩
            refine env_back0 (envS_hit (sl := [(0, 30), (1, 31), (2, 32), (3, 33), (4, 34), (5, 35), (6, 29), (7, 36), (8, 37), (9, 8), (11, 9)]) (j := 0) (d := 30) rfl (fun _ _ h => h))  (envS_next ?_)
            · intro p hp hne; simp only [List.mem_cons, List.not_mem_nil, or_false] at hp; rcases hp with rfl | rfl | rfl | rfl | rfl | rfl | rfl | rfl | rfl | rfl | rfl <;> first | exact absurd rfl hne | exact ⟨rfl, rfl⟩
          · have d0 := hdir 0 (List.mem_of_elem_eq_true (by kernel_rfl))
            refine ⟨_, rfl, ?_⟩
            refine LP.weak (t := 30) (v := pt g) (envS_is (j := 0) rfl d0) ?_
            refine A.u (LU.nilCheck Is.rfl') rfl ?_
            refine ⟨⟨b_, z_⟩, Weaker.mk' ?_ (HSub.refl _)⟩
            refine env_back1 (envS_hit (sl := [(0, 30), (1, 31), (2, 32), (3, 33), (4, 34), (5, 35), (6, 29), (7, 36), (8, 37), (9, 8), (11, 9)]) (j := 1) (d := 31) rfl (fun _ _ h => h)) (envS_hit (sl := [(0, 30), (1, 31), (2, 32), (3, 33), (4, 34), (5, 35), (6, 29), (7, 36), (8, 37), (9, 8), (11, 9)]) (j := 0) (d := 30) rfl (fun _ _ h => h)) (envS_next ?_)
            · intro p hp hne; simp only [List.mem_cons, List.not_mem_nil, or_false] at hp; rcases hp with rfl | rfl | rfl | rfl | rfl | rfl | rfl | rfl | rfl | rfl | rfl <;> first | exact absurd rfl hne | exact ⟨rfl, rfl⟩
          · have d1 := hdir 1 (List.mem_of_elem_eq_true (by kernel_rfl))
            refine ⟨_, rfl, ?_⟩
            refine LP.weak (t := 31) (v := pt g) (envS_is (j := 1) rfl d1) ?_
            refine A.u (LU.fieldO Tryd.underlying68 rfl Tryd.sizeOf65 (by decide) Is.rfl') rfl ?_
            refine ⟨⟨b_, z_⟩, Weaker.mk' ?_ (HSub.refl _)⟩
            refine env_back1 (envS_hit (sl := [(0, 30), (1, 31), (2, 32), (3, 33), (4, 34), (5, 35), (6, 29), (7, 36), (8, 37), (9, 8), (11, 9)]) (j := 2) (d := 32) rfl (fun _ _ h => h)) (envS_hit (sl := [(0, 30), (1, 31), (2, 32), (3, 33), (4, 34), (5, 35), (6, 29), (7, 36), (8, 37), (9, 8), (11, 9)]) (j := 1) (d := 31) rfl (fun _ _ h => h)) (envS_next ?_)
            · intro p hp hne; simp only [List.mem_cons, List.not_mem_nil, or_false] at hp; rcases hp with rfl | rfl | rfl | rfl | rfl | rfl | rfl | rfl | rfl | rfl | rfl <;> first | exact absurd rfl hne | exact ⟨rfl, rfl⟩
          · have d2 := hdir 2 (List.mem_of_elem_eq_true (by kernel_rfl))
            refine ⟨_, rfl, ?_⟩
            refine LP.weak (t := 32) (v := pt g) (envS_is (j := 2) rfl d2) ?_
            refine A.u (LU.loadO 3 rfl ⟨Tryd.sizeOf65, Tryd.isAgg65⟩ Is.rfl' (Part.one rfl)) rfl ?_
            refine ⟨⟨b_, z_⟩, Weaker.mk' ?_ (HSub.refl _)⟩
            refine env_back1 (envS_hit (sl := [(0, 30), (1, 31), (2, 32), (3, 33), (4, 34), (5, 35), (6, 29), (7, 36), (8, 37), (9, 8), (11, 9)]) (j := 3) (d := 33) rfl (fun _ _ h => h)) (envS_hit (sl := [(0, 30), (1, 31), (2, 32), (3, 33), (4, 34), (5, 35), (6, 29), (7, 36), (8, 37), (9, 8), (11, 9)]) (j := 2) (d := 32) rfl (fun _ _ h => h)) (envS_next ?_)
            · intro p hp hne; simp only [List.mem_cons, List.not_mem_nil, or_false] at hp; rcases hp with rfl | rfl | rfl | rfl | rfl | rfl | rfl | rfl | rfl | rfl | rfl <;> first | exact absurd rfl hne | exact ⟨rfl, rfl⟩
          · refine ⟨_, rfl, ?_⟩
            refine A.u (LU.loadO 1 rfl ⟨Tryd.sizeOf35, Tryd.isAgg35⟩ Is.rfl' (Part.whole (by assumption))) rfl ?_
            refine ⟨⟨b_, z_⟩, Weaker.mk' ?_ (HSub.refl _)⟩
            refine env_back0 (envS_hit (sl := [(0, 30), (1, 31), (2, 32), (3, 33), (4, 34), (5, 35), (6, 29), (7, 36), (8, 37), (9, 8), (11, 9)]) (j := 4) (d := 34) rfl (fun _ _ h => h))  (envS_next ?_)
            · intro p hp hne; simp only [List.mem_cons, List.not_mem_nil, or_false] at hp; rcases hp with rfl | rfl | rfl | rfl | rfl | rfl | rfl | rfl | rfl | rfl | rfl <;> first | exact absurd rfl hne | exact ⟨rfl, rfl⟩
          · have d3 := hdir 3 (List.mem_of_elem_eq_true (by kernel_rfl))
            have d4 := hdir 4 (List.mem_of_elem_eq_true (by kernel_rfl))
            refine ⟨_, rfl, ?_⟩
            refine LP.weak (t := 33) (v := .raw (.map (some ma))) (envS_is (j := 3) rfl d3) ?_
            refine LP.weak (t := 34) (v := .agg (vxL v)) (envS_is (j := 4) rfl d4) ?_
            refine A.u (LU.lookupOk 4 (KeyOk.vx vxty) rfl Tryd.underlying65 Tryd.zeroValue73 Is.rfl' (by exact Is.vx _)) rfl ?_
            refine ⟨⟨b_, z_⟩, Weaker.mk' ?_ (HSub.refl _)⟩
            refine env_back2 (envS_hit (sl := [(0, 30), (1, 31), (2, 32), (3, 33), (4, 34), (5, 35), (6, 29), (7, 36), (8, 37), (9, 8), (11, 9)]) (j := 5) (d := 35) rfl (hok)) (envS_hit (sl := [(0, 30), (1, 31), (2, 32), (3, 33), (4, 34), (5, 35), (6, 29), (7, 36), (8, 37), (9, 8), (11, 9)]) (j := 4) (d := 34) rfl (fun _ _ h => h)) (envS_hit (sl := [(0, 30), (1, 31), (2, 32), (3, 33), (4, 34), (5, 35), (6, 29), (7, 36), (8, 37), (9, 8), (11, 9)]) (j := 3) (d := 33) rfl (fun _ _ h => h)) (envS_next ?_)
            · intro p hp hne; simp only [List.mem_cons, List.not_mem_nil, or_false] at hp; rcases hp with rfl | rfl | rfl | rfl | rfl | rfl | rfl | rfl | rfl | rfl | rfl <;> first | exact absurd rfl hne | exact ⟨rfl, rfl⟩
          · have d5 := hdir 5 (List.mem_of_elem_eq_true (by kernel_rfl))
            refine ⟨_, rfl, ?_⟩
            refine LP.weak (t := 35) (v := .tup [lnE x, bl w]) (envS_is (j := 5) rfl d5) ?_
            refine A.u (LU.moveT Is.rfl') rfl ?_
            refine ⟨⟨b_, z_⟩, Weaker.mk' ?_ (HSub.refl _)⟩
            refine env_back1 (envS_hit (sl := [(0, 30), (1, 31), (2, 32), (3, 33), (4, 34), (5, 35), (6, 29), (7, 36), (8, 37), (9, 8), (11, 9)]) (j := 6) (d := 29) rfl (fun _ _ h => h)) (envS_hit (sl := [(0, 30), (1, 31), (2, 32), (3, 33), (4, 34), (5, 35), (6, 29), (7, 36), (8, 37), (9, 8), (11, 9)]) (j := 5) (d := 35) rfl (fun _ _ h => h)) (envS_next ?_)
            · intro p hp hne; simp only [List.mem_cons, List.not_mem_nil, or_false] at hp; rcases hp with rfl | rfl | rfl | rfl | rfl | rfl | rfl | rfl | rfl | rfl | rfl <;> first | exact absurd rfl hne | exact ⟨rfl, rfl⟩
          · have d6 := hdir 6 (List.mem_of_elem_eq_true (by kernel_rfl))
            refine ⟨_, rfl, ?_⟩
            refine LP.weak (t := 29) (v := .tup [lnE x, bl w]) (envS_is (j := 6) rfl d6) ?_
            refine A.u (LU.extract Is.rfl' rfl) rfl ?_
            refine ⟨⟨b_, z_⟩, Weaker.mk' ?_ (HSub.refl _)⟩
            refine env_back1 (envS_hit (sl := [(0, 30), (1, 31), (2, 32), (3, 33), (4, 34), (5, 35), (6, 29), (7, 36), (8, 37), (9, 8), (11, 9)]) (j := 7) (d := 36) rfl (fun _ _ h => h)) (envS_hit (sl := [(0, 30), (1, 31), (2, 32), (3, 33), (4, 34), (5, 35), (6, 29), (7, 36), (8, 37), (9, 8), (11, 9)]) (j := 6) (d := 29) rfl (fun _ _ h => h)) (envS_next ?_)
            · intro p hp hne; simp only [List.mem_cons, List.not_mem_nil, or_false] at hp; rcases hp with rfl | rfl | rfl | rfl | rfl | rfl | rfl | rfl | rfl | rfl | rfl <;> first | exact absurd rfl hne | exact ⟨rfl, rfl⟩
          · have d6 := hdir 6 (List.mem_of_elem_eq_true (by kernel_rfl))
            refine ⟨_, rfl, ?_⟩
            refine LP.weak (t := 29) (v := .tup [lnE x, bl w]) (envS_is (j := 6) rfl d6) ?_
            refine A.u (LU.extract Is.rfl' rfl) rfl ?_
            refine ⟨⟨b_, z_⟩, Weaker.mk' ?_ (HSub.refl _)⟩
            refine env_back1 (envS_hit (sl := [(0, 30), (1, 31), (2, 32), (3, 33), (4, 34), (5, 35), (6, 29), (7, 36), (8, 37), (9, 8), (11, 9)]) (j := 8) (d := 37) rfl (fun _ _ h => h)) (envS_hit (sl := [(0, 30), (1, 31), (2, 32), (3, 33), (4, 34), (5, 35), (6, 29), (7, 36), (8, 37), (9, 8), (11, 9)]) (j := 6) (d := 29) rfl (fun _ _ h => h)) (envS_next ?_)
            · intro p hp hne; simp only [List.mem_cons, List.not_mem_nil, or_false] at hp; rcases hp with rfl | rfl | rfl | rfl | rfl | rfl | rfl | rfl | rfl | rfl | rfl <;> first | exact absurd rfl hne | exact ⟨rfl, rfl⟩
          · refine ⟨_, rfl, ?_⟩
            have h6 : f 10 = false := Bool.eq_false_iff.2 (fun h => by rw [hdown 10 (by omega) h 9 (List.mem_of_elem_eq_true (by kernel_rfl))] at hfi; cases hfi)
            refine LP.ghost (H' := .cells b7 35 (vxL v) :: gG b22 G :: gC g ma mb n :: gA ma m :: gP mb q :: kb :: Rf) (by show L.HSub (cond (f 9) _ (.tail 0 0 0) :: _) _; rw [hfi]; exact HSub.drop (HSub.refl _)) ?_
            refine A.act (X.alloc rfl Tryd.zeroValue73 (by exact Cells.rawagg (by decide)) (fun b8 => ?_))
            refine ⟨(b8, 0), Weaker.mk' ?_ (by show L.HSub _ (.cells b8 _ (cond (f 10) _ _) :: _); rw [h6]; exact HSub.refl _)⟩
            refine env_back0 (envS_hit (sl := [(0, 30), (1, 31), (2, 32), (3, 33), (4, 34), (5, 35), (6, 29), (7, 36), (8, 37), (9, 8), (11, 9)]) (j := 9) (d := 8) rfl (fun _ _ h => h))  (envS_next ?_)
            · intro p hp hne; simp only [List.mem_cons, List.not_mem_nil, or_false] at hp; rcases hp with rfl | rfl | rfl | rfl | rfl | rfl | rfl | rfl | rfl | rfl | rfl <;> first | exact absurd rfl hne | exact ⟨rfl, rfl⟩
          · have d0 := hdir 0 (List.mem_of_elem_eq_true (by kernel_rfl))
            have d1 := hdir 1 (List.mem_of_elem_eq_true (by kernel_rfl))
            have d2 := hdir 2 (List.mem_of_elem_eq_true (by kernel_rfl))
            have d3 := hdir 3 (List.mem_of_elem_eq_true (by kernel_rfl))
            have d4 := hdir 4 (List.mem_of_elem_eq_true (by kernel_rfl))
            have d5 := hdir 5 (List.mem_of_elem_eq_true (by kernel_rfl))
            have d6 := hdir 6 (List.mem_of_elem_eq_true (by kernel_rfl))
            have d7 := hdir 7 (List.mem_of_elem_eq_true (by kernel_rfl))
            have d9 := hdir 9 (List.mem_of_elem_eq_true (by kernel_rfl))
            refine ⟨_, rfl, ?_⟩
            have h9 : f 9 = true := hdir 9 (List.mem_of_elem_eq_true (by kernel_rfl))
            refine LP.ghost (H' := .cells b_ 73 (raws z73.cells.toList) :: .cells b7 35 (vxL v) :: gG b22 G :: gC g ma mb n :: gA ma m :: gP mb q :: kb :: Rf) (by show L.HSub (cond (f 9) (.cells b_ _ (cond (f 10) _ _)) _ :: _) _; rw [h9, hfi]; exact HSub.refl _) ?_
            refine LP.weak (t := 8) (v := pt b_) (envS_is (j := 9) rfl d9) ?_
            refine LP.weak (t := 36) (v := lnE x) (envS_is (j := 7) rfl d7) ?_
            refine A.act (X.store 0 rfl Tryd.sizeOf73 Is.rfl' Is.rfl' (by exact Cells.agg) (by (simp; done)) (by exact Nat.le_of_ble_eq_true rfl) ?_)
            refine ⟨(b_, z_), Weaker.mk' ?_ (by show L.HSub _ (cond (f 9) (.cells b_ _ (lnL x)) _ :: _); rw [h9]; exact HSub.refl _)⟩
            refine env_back1 (envS_hit (sl := [(0, 30), (1, 31), (2, 32), (3, 33), (4, 34), (5, 35), (6, 29), (7, 36), (8, 37), (9, 8), (11, 9)]) (j := 7) (d := 36) rfl (fun _ _ h => h)) (envS_hit (sl := [(0, 30), (1, 31), (2, 32), (3, 33), (4, 34), (5, 35), (6, 29), (7, 36), (8, 37), (9, 8), (11, 9)]) (j := 9) (d := 8) rfl (fun _ _ h => h)) (envS_next ?_)
            · intro p hp hne; simp only [List.mem_cons, List.not_mem_nil, or_false] at hp; rcases hp with rfl | rfl | rfl | rfl | rfl | rfl | rfl | rfl | rfl | rfl | rfl <;> first | exact absurd rfl hne | exact ⟨rfl, rfl⟩
          · have d0 := hdir 0 (List.mem_of_elem_eq_true (by kernel_rfl))
            have d1 := hdir 1 (List.mem_of_elem_eq_true (by kernel_rfl))
            have d2 := hdir 2 (List.mem_of_elem_eq_true (by kernel_rfl))
            have d3 := hdir 3 (List.mem_of_elem_eq_true (by kernel_rfl))
            have d4 := hdir 4 (List.mem_of_elem_eq_true (by kernel_rfl))
            have d5 := hdir 5 (List.mem_of_elem_eq_true (by kernel_rfl))
            have d6 := hdir 6 (List.mem_of_elem_eq_true (by kernel_rfl))
            have d7 := hdir 7 (List.mem_of_elem_eq_true (by kernel_rfl))
            have d8 := hdir 8 (List.mem_of_elem_eq_true (by kernel_rfl))
            have d9 := hdir 9 (List.mem_of_elem_eq_true (by kernel_rfl))
            have d10 := hdir 10 (List.mem_of_elem_eq_true (by kernel_rfl))
            refine ⟨_, rfl, ?_⟩
            refine LP.weak (t := 37) (v := bl w) (envS_is (j := 8) rfl d8) ?_
            refine A.u (LU.assignR Is.rfl') rfl ?_
            refine ⟨⟨b_, z_⟩, Weaker.mk' ?_ (HSub.refl _)⟩
            refine env_back1 (envS_hit (sl := [(0, 30), (1, 31), (2, 32), (3, 33), (4, 34), (5, 35), (6, 29), (7, 36), (8, 37), (9, 8), (11, 9)]) (j := 11) (d := 9) rfl (fun _ _ h => h)) (envS_hit (sl := [(0, 30), (1, 31), (2, 32), (3, 33), (4, 34), (5, 35), (6, 29), (7, 36), (8, 37), (9, 8), (11, 9)]) (j := 8) (d := 37) rfl (fun _ _ h => h)) (envS_next ?_)
            · intro p hp hne; simp only [List.mem_cons, List.not_mem_nil, or_false] at hp; rcases hp with rfl | rfl | rfl | rfl | rfl | rfl | rfl | rfl | rfl | rfl | rfl <;> first | exact absurd rfl hne | exact ⟨rfl, rfl⟩
        · intro g_ f hf_
          obtain ⟨b_, z_⟩ := g_
          refine X.ghost (H' := .cells b_ 73 (lnL x) :: .cells b7 35 (vxL v) :: gG b22 G :: gC g ma mb n :: gA ma m :: gP mb q :: kb :: Rf) (by show L.HSub (cond (f 9) (.cells b_ _ (cond (f 10) _ _)) _ :: _) _; rw [hf_ 9 (by omega), hf_ 10 (by omega)]; exact HSub.refl _) ?_
          refine LL.nil (after_code ?_)
          refine LW.seq ?_
          refine LW.seq ?_
          refine LW.region ?_
          refine X.u (LU.moveR Is.rfl') rfl ?_
          refine X.u (LU.not Is.rfl') rfl ?_
          refine LL.nil (after_code ?_)
          refine X.cond rfl (fun h10 => ?_) (fun h10 => ?_)
          · have h10 : w = false := by simpa using h10
            have hbad : ids.any (fun v => !(lookA m v).isSome) = true := List.any_eq_true.2 ⟨v, List.mem_of_getElem? hv, by rw [← hw, h10]; rfl⟩
            rw [if_pos hbad] at hE
            refine LW.seq ?_
            refine LW.region ?_
            refine X.u (LU.assignR Is.rfl') rfl ?_
            refine LL.nil (after_code ?_)
            refine LW.ret (ret_code (ret_blk (ret_code (ret_rnd (ret_blk (ret_code (after_end ?_)))))))
            refine X.ret (H' := H5 g ma mb n m q) (Res.one (by exact IsR rfl)) (by repeat (first | exact HSub.refl _ | refine HSub.pick 3 rfl ?_ | refine HSub.drop ?_)) ?_
            exact ⟨by rw [hE]; rfl, fun _ => rfl, fun c => by rw [hE] at c; cases c⟩
          · have h10 : w = true := by simpa using h10
            have hz0 : (0 : Nat) = 0 := rfl
            refine LW.skip (after_code ?_)
            refine LW.region ?_
            refine X.u (LU.moveR Is.rfl') rfl ?_
            refine X.u (LU.fieldO Tryd.underlying73 rfl Tryd.sizeOf3 (by decide) Is.rfl') rfl ?_
            refine X.u (LU.loadO 0 rfl ⟨Tryd.sizeOf3, Tryd.isAgg3⟩ Is.rfl' (Part.one rfl)) rfl ?_
            refine X.u (LU.weak (LU.lookup 2 (KeyOk.int Tryd.underlying3) rfl Tryd.underlying88 Tryd.zeroValue3 Is.rfl' Is.rfl') (Is.of (y := i64 (cn : Nat)) (hget))) rfl ?_
            refine X.u (LU.weak (LU.add Is.rfl' Is.rfl') (Is.of (y := i64 ((cn + 1 : Nat) : Int)) (congrArg i64 ((wrap_i64 (by omega) (by omega)).trans (by omega))))) rfl ?_
            refine X.act (LO.mapUpdate (st := ⟨_, _, _⟩) 2 (KeyOk.int Tryd.underlying3) rfl Tryd.underlying88 Is.rfl' Is.rfl' Is.rfl' ?_)
            refine LL.nil (after_blk (after_code ?_))
            refine X.wghost (H' := gG b22 (setA G (atG m v).part ((cntP m (ids.take i) (atG m v).part + 1 : Nat) : Int)) :: gC g ma mb n :: gA ma m :: gP mb q :: kb :: Rf) (by rw [← gG_set, ← hcn, ← hx]; exact (by repeat (first | exact HSub.refl _ | refine HSub.pick 0 rfl ?_ | refine HSub.pick 2 rfl ?_ | refine HSub.drop ?_))) ?_
            refine LW.region ?_
            refine X.u (LU.addN Is.rfl' Is.rfl' (wrap_i64 (by omega) (by omega))) rfl ?_
            refine X.u (LU.moveR Is.rfl') rfl ?_
            refine LL.nil (after_rnd ?_)
            refine X.next ((i + 1, setA G (atG m v).part ((cntP m (ids.take i) (atG m v).part + 1 : Nat) : Int))) rfl (EnvLe.cons (by rfl) (EnvLe.nil)) (Keeps.cons (by exact Eq.trans (b := .raw _) rfl rfl) (Keeps.cons (by exact Eq.trans (b := .sl _ _ _) rfl rfl) (Keeps.cons (by exact Eq.trans (b := .raw _) rfl rfl) (Keeps.cons (by exact Eq.trans (b := .sl _ _ _) rfl rfl) (Keeps.cons (by exact Eq.trans (b := .raw _) rfl rfl) (Keeps.nil)))))) (by repeat (exact HSub.refl _)) ?_ ?_
            · refine ⟨by omega, by rw [take_snoc hv]; exact hG.add v, fun y hy => ?_⟩
              rw [take_snoc hv, List.mem_append, List.mem_singleton] at hy
              rcases hy with e | e
              · exact hS y e
              · rw [e, ← hw]; simpa using h10
            · (simp; omega)
      · try have h7 := of_decide_eq_false h7
        refine LW.exit (exit_code (exit_rnd (exit_blk (after_code ?_))))
        refine LW.seq ?_
        refine LW.seq ?_
        have hil : i = ids.length := by omega
        rw [hil, List.take_length] at hG hS
        have hall1 : ¬ ids.any (fun v => !(lookA m v).isSome) = true := fun c => by
          obtain ⟨y, hy, e⟩ := List.any_eq_true.1 c
          rw [hS y hy] at e; cases e
        rw [if_neg hall1] at hE
        refine LW.region ?_
        refine X.u (LU.moveR Is.rfl') rfl ?_
        refine X.u (LU.nilCheck Is.rfl') rfl ?_
        refine X.u (LU.fieldO Tryd.underlying68 rfl Tryd.sizeOf66 (by decide) Is.rfl') rfl ?_
        refine X.u (LU.loadO 1 rfl ⟨Tryd.sizeOf66, Tryd.isAgg66⟩ Is.rfl' (Part.one rfl)) rfl ?_
        refine X.act (LO.rangeMap (st := ⟨_, _, _⟩) 3 rfl rfl Tryd.underlying66 Is.rfl' (fun b50 => ?_))
        refine LL.nil (after_code ?_)
        refine LW.block ?_
        refine X.loopK (α := List Nat) (fun seen => []) [0, 1, 5, 50] (fun seen => .mapr mb b50 (mp intK (encM ptE q)) seen :: gG b22 G :: gC g ma mb n :: gA ma m :: kb :: Rf) (fun seen => (∀ i ∈ seen, i < q.length) ∧ ∀ i ∈ seen, ∀ p, q[i]? = some p → badP m ids p = false) (fun seen => unseen q.length seen) ([]) (EnvLe.nil) (by repeat (exact HSub.refl _)) ?_ ?_
        · exact ⟨(fun i hi => by cases hi), (fun i hi => by cases hi)⟩
        · rintro seen hI
          obtain ⟨hsl, hsb⟩ := hI
          refine LW.seq ?_
          refine LW.region ?_
          refine X.act (LO.nextMap (st := ⟨_, _, _⟩) 0 rfl rfl Is.rfl' (fun i51 kv51 hi51 hn51 => ?_) (fun hall51 => ?_))
          · refine X.u (LU.extract Is.rfl' rfl) rfl ?_
            refine LL.nil (after_code ?_)
            refine LW.seq ?_
            refine X.condT rfl ?_ ?_
            · rfl
            refine LW.skip (after_code ?_)
            refine LW.block ?_
            refine LW.seq ?_
            obtain ⟨p, hp, rfl⟩ := ent_at hi51
            have hil2 := (List.getElem?_eq_some_iff.1 hp).1
            have hmu := unseen_lt hil2 hn51
            have hpm := List.mem_of_getElem? hp
            have hpl := pt_len p.2
            have hpi := hq p hpm
            have hpu := p.2.up.p.2
            have hpd := p.2.down.p.2
            have hget2 := hG.get p.1
            have hcl := cntP_le m ids p.1
            obtain ⟨cn, hcn⟩ : ∃ cn, cn = cntP m ids p.1 := ⟨_, rfl⟩
            rw [← hcn] at hget2 hcl
            have hbd : badP m ids p = (!decide (cn = p.2.ids.length) && ((decide (0 < cn) || decide (p.2.up ∈ ids)) || decide (p.2.down ∈ ids))) := by unfold badP; rw [hcn]
            refine LW.region ?_
            refine X.u (LU.entryMap 0 rfl (by assumption) Is.rfl') rfl ?_
            refine X.u (LU.extract Is.rfl' rfl) rfl ?_
            refine X.u (LU.extract Is.rfl' rfl) rfl ?_
            refine X.act (X.alloc rfl Tryd.zeroValue82 (by exact Cells.rawagg (by decide)) (fun b11 => ?_))
            refine X.u (LU.assignR Is.rfl') rfl ?_
            refine X.act (X.store 0 rfl Tryd.sizeOf82 Is.rfl' Is.rfl' (by exact Cells.agg) (by assumption) (by exact Nat.le_of_ble_eq_true rfl) ?_)
            refine LL.nil (after_code ?_)
            refine LW.seq ?_
            refine LW.seq ?_
            refine X.wcells (ys := ptL p.2) (putAt_all (by rw [hpl]; rfl)) ?_
            refine X.wghost (H' := gG b22 G :: .cells b11 82 (ptL p.2) :: .mapr mb b50 (mp intK (encM ptE q)) (seen ++ [i51]) :: gC g ma mb n :: gA ma m :: kb :: Rf) (by repeat (first | exact HSub.refl _ | refine HSub.pick 2 rfl ?_)) ?_
            refine LW.region ?_
            refine X.u (LU.moveR Is.rfl') rfl ?_
            refine X.u (LU.moveR Is.rfl') rfl ?_
            refine X.u (LU.weak (LU.lookup 0 (KeyOk.int Tryd.underlying3) rfl Tryd.underlying88 Tryd.zeroValue3 Is.rfl' Is.rfl') (Is.of (y := i64 (cn : Nat)) (hget2))) rfl ?_
            refine X.u (LU.fieldO Tryd.underlying82 rfl Tryd.sizeOf26 (by decide) Is.rfl') rfl ?_
            refine X.u (LU.loadO 1 rfl ⟨Tryd.sizeOf26, Tryd.isAgg26⟩ Is.rfl' (Part.one (pt_ids p.2))) rfl ?_
            refine X.u (LU.lenN Tryd.underlying26 Is.rfl' (by (simp only [Option.getD_some, Option.getD_none, byteEls_length, intEls_length, List.length_append, List.length_cons, List.length_nil, List.length_map, List.length_drop, List.length_take, Int.toNat_natCast]; rfl))) rfl ?_
            refine X.u (LU.eql Is.rfl' Is.rfl') rfl ?_
            refine LL.nil (after_code ?_)
            refine X.cond rfl (fun h17 => ?_) (fun h17 => ?_)
            · have h17 : cn = p.2.ids.length := by simp at h17; omega
              have hgood : badP m ids p = false := by rw [hbd, decide_eq_true h17]; rfl
              refine LW.exit (exit_code (exit_blk (after_rnd ?_)))
              refine X.next (seen ++ [i51]) rfl (EnvLe.nil) (Keeps.cons (by exact Eq.trans (b := .raw _) rfl rfl) (Keeps.cons (by exact Eq.trans (b := .sl _ _ _) rfl rfl) (Keeps.cons (by exact Eq.trans (b := .raw _) rfl rfl) (Keeps.cons (by exact Eq.trans (b := .raw _) rfl rfl) (Keeps.nil))))) (by repeat (first | exact HSub.refl _ | refine HSub.pick 0 rfl ?_ | refine HSub.pick 1 rfl ?_ | refine HSub.pick 2 rfl ?_ | refine HSub.drop ?_)) ?_ ?_
              · refine ⟨fun i hi => ?_, fun i hi p' hp' => ?_⟩
                · rcases List.mem_append.1 hi with h | h
                  · exact hsl i h
                  · rw [List.mem_singleton.1 h]; exact hil2
                · rcases List.mem_append.1 hi with h | h
                  · exact hsb i h p' hp'
                  · rw [List.mem_singleton.1 h, hp] at hp'
                    rw [← Option.some.inj hp']; exact hgood
              · omega
            · have h17 : ¬ cn = p.2.ids.length := by simp at h17; omega
              have hz0 : (0 : Nat) = 0 := rfl
              refine LW.skip (after_code ?_)
              refine LW.seq ?_
              refine LW.region ?_
              refine X.u (LU.moveR Is.rfl') rfl ?_
              refine X.u (LU.moveR Is.rfl') rfl ?_
              refine X.u (LU.weak (LU.lookup 0 (KeyOk.int Tryd.underlying3) rfl Tryd.underlying88 Tryd.zeroValue3 Is.rfl' Is.rfl') (Is.of (y := i64 (cn : Nat)) (hget2))) rfl ?_
              refine X.u (LU.gtr Is.rfl' Is.rfl') rfl ?_
              refine X.u (LU.moveR Is.rfl') rfl ?_
              refine X.gF rfl rfl (fun hg => LU.moveS (by exact Is.rfl')) rfl ?_
              refine X.gF rfl rfl (fun hg => LU.fieldO Tryd.underlying82 rfl Tryd.sizeOf35 (by decide) (by exact Is.rfl')) rfl ?_
              refine X.gF rfl rfl (fun hg => LU.weak (LU.loadO 1 rfl ⟨Tryd.sizeOf35, Tryd.isAgg35⟩ (by exact Is.whenN hg) (Part.sub (by (simp; omega)))) (Is.of (y := .agg (vxL p.2.up)) (congrArg LV.agg (pt_up p.2)))) rfl ?_
              refine X.gF rfl rfl (fun hg => LU.call (contains_calls ids k1 p.2.up (by omega)) Tryd.func40 rfl rfl (Opds.cons (by exact Is.whenN hg) (Opds.cons (by exact Is.whenN hg) Opds.nil))) rfl ?_
              refine X.u (LU.pickOr Is.rfl' Is.rfl' (fun hq => (by exact Is.whenN hq))) rfl ?_
              refine X.u (LU.moveR Is.rfl') rfl ?_
              refine X.gF rfl rfl (fun hg => LU.moveS (by exact Is.rfl')) rfl ?_
              refine X.gF rfl rfl (fun hg => LU.fieldO Tryd.underlying82 rfl Tryd.sizeOf35 (by decide) (by exact Is.rfl')) rfl ?_
              refine X.gF rfl rfl (fun hg => LU.weak (LU.loadO 1 rfl ⟨Tryd.sizeOf35, Tryd.isAgg35⟩ (by exact Is.whenN hg) (Part.sub (by (simp; omega)))) (Is.of (y := .agg (vxL p.2.down)) (congrArg LV.agg (pt_down p.2)))) rfl ?_
              refine X.gF rfl rfl (fun hg => LU.call (contains_calls ids k1 p.2.down (by omega)) Tryd.func40 rfl rfl (Opds.cons (by exact Is.whenN hg) (Opds.cons (by exact Is.whenN hg) Opds.nil))) rfl ?_
              refine X.u (LU.pickOr Is.rfl' Is.rfl' (fun hq => (by exact Is.whenN hq))) rfl ?_
              refine LL.nil (after_code ?_)
              refine X.cond rfl (fun h18 => ?_) (fun h18 => ?_)
              · have hbad : badP m ids p = true := by rw [hbd, decide_eq_false h17]; simpa using h18
                rw [if_pos (List.any_eq_true.2 ⟨p, hpm, hbad⟩)] at hE
                refine LW.seq ?_
                refine LW.region ?_
                refine X.u (LU.assignR Is.rfl') rfl ?_
                refine LL.nil (after_code ?_)
                refine LW.ret (ret_blk (ret_rnd (ret_blk (ret_code (after_end ?_)))))
                refine X.ret (H' := H5 g ma mb n m q) (Res.one (by exact IsR rfl)) (HSub.trans (B := .mapr mb b50 (mp intK (encM ptE q)) (seen ++ [i51]) :: gC g ma mb n :: gA ma m :: kb :: Rf) (by repeat (first | exact HSub.refl _ | refine HSub.pick 2 rfl ?_ | refine HSub.drop ?_)) (HSub.trans (HSub.ranged _ _ _ _ _) (by repeat (first | exact HSub.refl _ | refine HSub.pick 1 rfl ?_)))) ?_
                exact ⟨by rw [hE]; rfl, fun _ => rfl, fun c => by rw [hE] at c; cases c⟩
              · have hgood : badP m ids p = false := by rw [hbd, decide_eq_false h17]; simpa using h18
                have hz0 : (0 : Nat) = 0 := rfl
                refine LW.skip (after_blk (after_rnd ?_))
                refine X.next (seen ++ [i51]) rfl (EnvLe.nil) (Keeps.cons (by exact Eq.trans (b := .raw _) rfl rfl) (Keeps.cons (by exact Eq.trans (b := .sl _ _ _) rfl rfl) (Keeps.cons (by exact Eq.trans (b := .raw _) rfl rfl) (Keeps.cons (by exact Eq.trans (b := .raw _) rfl rfl) (Keeps.nil))))) (by repeat (first | exact HSub.refl _ | refine HSub.pick 0 rfl ?_ | refine HSub.pick 1 rfl ?_ | refine HSub.pick 2 rfl ?_ | refine HSub.drop ?_)) ?_ ?_
                · refine ⟨fun i hi => ?_, fun i hi p' hp' => ?_⟩
                  · rcases List.mem_append.1 hi with h | h
                    · exact hsl i h
                    · rw [List.mem_singleton.1 h]; exact hil2
                  · rcases List.mem_append.1 hi with h | h
                    · exact hsb i h p' hp'
                    · rw [List.mem_singleton.1 h, hp] at hp'
                      rw [← Option.some.inj hp']; exact hgood
                · omega
          · refine X.u (LU.extract Is.rfl' rfl) rfl ?_
            refine LL.nil (after_code ?_)
            refine LW.seq ?_
            refine X.condF rfl ?_ ?_
            · rfl
            refine LW.exit (exit_code (exit_rnd (exit_blk (after_code ?_))))
            refine LW.seq ?_
            refine LW.seq ?_
            have hgo : ¬ q.any (badP m ids) = true := fun c => by
              obtain ⟨p, hpm, e⟩ := List.any_eq_true.1 c
              obtain ⟨i, hi⟩ := List.getElem?_of_mem hpm
              rw [hsb i (hall51 i (by rw [mp_len]; exact (List.getElem?_eq_some_iff.1 hi).1)) p hi] at e; cases e
            rw [if_neg hgo] at hE
            refine X.wghost (H' := gG b22 G :: gC g ma mb n :: gA ma m :: gP mb q :: kb :: Rf) (HSub.trans (HSub.ranged _ _ _ _ _) (by repeat (first | exact HSub.refl _ | refine HSub.pick 1 rfl ?_))) ?_
            refine LW.region ?_
            refine X.u (LU.moveR Is.rfl') rfl ?_
            refine X.act (LO.rangeMap (st := ⟨_, _, _⟩) 0 rfl rfl Tryd.underlying88 Is.rfl' (fun b80 => ?_))
            refine LL.nil (after_code ?_)
            refine LW.block ?_
            refine X.loopK (α := List Nat × At × Ps) (fun ⟨seen, m2, q2⟩ => []) [0, 80] (fun ⟨seen, m2, q2⟩ => .mapr b22 b80 (mp intK (encM iE G)) seen :: gC g ma mb n :: gA ma m2 :: gP mb q2 :: kb :: Rf) (fun ⟨seen, m2, q2⟩ => (∀ i ∈ seen, i < G.length) ∧ seen.Nodup ∧ (m2, q2) = (pickI (G.map (·.1)) seen).foldl dropK (m, q) ∧ SzL m2 k ∧ ∀ p ∈ q2, p.2.ids.length < 100000) (fun ⟨seen, m2, q2⟩ => unseen G.length seen) (([], m, q)) (EnvLe.nil) (by repeat (exact HSub.refl _)) ?_ ?_
            · exact ⟨(fun i hi => by cases hi), List.nodup_nil, rfl, hz, hq⟩
            · rintro ⟨seen, m2, q2⟩ hI
              obtain ⟨hsl2, hsn, hmq, hz2, hq2⟩ := hI
              refine LW.seq ?_
              refine LW.region ?_
              refine X.act (LO.nextMap (st := ⟨_, _, _⟩) 0 rfl rfl Is.rfl' (fun i81 kv81 hi81 hn81 => ?_) (fun hall81 => ?_))
              · refine X.u (LU.extract Is.rfl' rfl) rfl ?_
                refine LL.nil (after_code ?_)
                refine LW.seq ?_
                refine X.condT rfl ?_ ?_
                · rfl
                refine LW.skip (after_code ?_)
                refine LW.block ?_
                refine LW.seq ?_
                obtain ⟨p, hp, rfl⟩ := ent_at hi81
                have hil2 := (List.getElem?_eq_some_iff.1 hp).1
                have hmu := unseen_lt hil2 hn81
                have hka : (G.map (·.1))[i81]? = some p.1 := by rw [List.getElem?_map, hp]; rfl
                obtain ⟨P, hP⟩ : ∃ P, P = lkP q2 p.1 := ⟨_, rfl⟩
                have hPl := pt_len P
                have hpi : P.ids.length < 100000 := by
                  rw [hP]; unfold lkP
                  cases hc : lookA q2 p.1 with
                  | none => show pt0.ids.length < _; decide
                  | some y =>
                    have hm : (p.1, y) ∈ q2 := by
                      have key : ∀ {l : Ps} {a : Int} {x : Pt}, lookA l a = some x → (a, x) ∈ l := fun {l} => by
                        induction l with
                        | nil => intro a x h; cases h
                        | cons z l ih =>
                          intro a x h
                          rw [lookA] at h
                          split at h
                          · rename_i e
                            rw [← Option.some.inj h, ← e]; simp
                          · exact List.mem_cons_of_mem _ (ih h)
                      exact key hc
                    exact hq2 _ hm
                have hPi : Is ((lookM (encM ptE q2) p.1).getD (.raw z82)) (ptE P) := by rw [hP]; exact lkP_is q2 p.1
                obtain ⟨mC, hmC⟩ : ∃ mC, mC = chainF unstepA m2 P.up P.ids P.down := ⟨_, rfl⟩
                obtain ⟨mD, hmD⟩ : ∃ mD, mD = dropP (m2, q2) p.1 := ⟨_, rfl⟩
                have hmD2 : mD = P.ids.foldl delA mC := by rw [hmD, hmC, hP]; rfl
                have hch := chain_unstep g ma mb n m2 P k hz2 (by omega) (by omega)
                rw [← hmC] at hch
                have hzD : SzL mD k := by
                  have h1 : SzL mC k := by
                    have key : ∀ (ids : List Vx) (s : At) (a d : Vx), SzL s k → SzL (chainF unstepA s a ids d) k := fun ids => by
                      induction ids with
                      | nil => intro s a d h; exact h.unstep a d
                      | cons v r ih => intro s a d h; exact ih _ _ _ (h.unstep a v)
                    rw [hmC]; exact key _ _ _ _ hz2
                  rw [hmD2]
                  have key : ∀ (ids : List Vx) (s : At), SzL s k → SzL (ids.foldl delA s) k := fun ids => by
                    induction ids with
                    | nil => intro s h; exact h
                    | cons v r ih => intro s h; exact ih _ (h.del v)
                  exact key _ _ h1
                refine LW.region ?_
                refine X.u (LU.entryMap 0 rfl (by assumption) Is.rfl') rfl ?_
                refine X.u (LU.extract Is.rfl' rfl) rfl ?_
                refine X.u (LU.assignR Is.rfl') rfl ?_
                refine LL.nil (after_code ?_)
                refine LW.seq ?_
                refine LW.region ?_
                refine X.u (LU.moveR Is.rfl') rfl ?_
                refine X.u (LU.nilCheck Is.rfl') rfl ?_
                refine X.u (LU.fieldO Tryd.underlying68 rfl Tryd.sizeOf66 (by decide) Is.rfl') rfl ?_
                refine X.u (LU.loadO 1 rfl ⟨Tryd.sizeOf66, Tryd.isAgg66⟩ Is.rfl' (Part.one rfl)) rfl ?_
                refine X.u (LU.moveR Is.rfl') rfl ?_
                refine X.u (LU.weak (LU.lookup 3 (KeyOk.int Tryd.underlying3) rfl Tryd.underlying66 Tryd.zeroValue82 Is.rfl' Is.rfl') (hPi)) rfl ?_
                refine X.act (X.alloc rfl Tryd.zeroValue82 (by exact Cells.rawagg (by decide)) (fun b13 => ?_))
                refine X.act (X.store 0 rfl Tryd.sizeOf82 Is.rfl' Is.rfl' (by exact Cells.agg) (by assumption) (by exact Nat.le_of_ble_eq_true rfl) ?_)
                refine LL.nil (after_code ?_)
                refine LW.seq ?_
                refine X.wcells (ys := ptL P) (putAt_all (by rw [hPl]; rfl)) ?_
                refine X.wghost (H' := gC g ma mb n :: gA ma m2 :: .cells b13 82 (ptL P) :: .mapr b22 b80 (mp intK (encM iE G)) (seen ++ [i81]) :: gP mb q2 :: kb :: Rf) (by repeat (first | exact HSub.refl _ | refine HSub.pick 2 rfl ?_)) ?_
                refine LW.region ?_
                refine X.u (LU.loadO 2 rfl ⟨Tryd.sizeOf82, Tryd.isAgg82⟩ Is.rfl' (Part.whole (by assumption))) rfl ?_
                refine X.u (LU.moveR Is.rfl') rfl ?_
                refine X.u (LU.bound (Is.rfl')) rfl ?_
                refine X.act (X.call (hch) Tryd.func37 rfl rfl rfl (HSub.refl _) (Opds.cons Is.rfl' (Opds.cons Is.rfl' Opds.nil)) ?_)
                rintro r H' ⟨rfl, rfl, hsz⟩
                refine LL.nil (after_code ?_)
                refine LW.seq ?_
                refine LW.seq ?_
                refine LW.region ?_
                refine X.u (LU.fieldO Tryd.underlying82 rfl Tryd.sizeOf26 (by decide) Is.rfl') rfl ?_
                refine X.u (LU.loadO 2 rfl ⟨Tryd.sizeOf26, Tryd.isAgg26⟩ Is.rfl' (Part.one (pt_ids P))) rfl ?_
                refine X.u (LU.lenN Tryd.underlying26 Is.rfl' (by (simp only [Option.getD_some, Option.getD_none, byteEls_length, intEls_length, List.length_append, List.length_cons, List.length_nil, List.length_map, List.length_drop, List.length_take, Int.toNat_natCast]; rfl))) rfl ?_
                refine X.u (LU.moveR Is.rfl') rfl ?_
                refine LL.nil (after_code ?_)
                refine LW.block ?_
                refine X.loopK (α := Nat) (fun j => [(98, i64 j)]) [0, 12, 80, 96, 97] (fun j => gA ma ((P.ids.take j).foldl delA mC) :: gC g ma mb n :: .cells b13 82 (ptL P) :: .mapr b22 b80 (mp intK (encM iE G)) (seen ++ [i81]) :: gP mb q2 :: kb :: Rf) (fun j => j ≤ P.ids.length) (fun j => P.ids.length - j) (0) (EnvLe.cons (by rfl) (EnvLe.nil)) (by repeat (first | exact HSub.refl _ | refine HSub.pick 1 rfl ?_)) ?_ ?_
                · exact Nat.zero_le _
                · rintro j hI
                  refine LW.seq ?_
                  refine LW.region ?_
                  refine X.u (LU.lss Is.rfl' Is.rfl') rfl ?_
                  refine LL.nil (after_code ?_)
                  refine LW.seq ?_
                  refine X.cond rfl (fun h26 => ?_) (fun h26 => ?_)
                  · try have h26 := of_decide_eq_true h26
                    refine LW.skip (after_code ?_)
                    refine LW.seq ?_
                    refine LW.block ?_
                    refine LW.seq ?_
                    obtain ⟨u, hu⟩ := at_lt (show j < P.ids.length by omega)
                    have hul := vxL_len u
                    have hu32 : u.p.1.length = 32 := u.p.2
                    refine LW.region ?_
                    refine X.u (LU.at Tryd.underlying26 ⟨Tryd.sizeOf35, Tryd.isAgg35⟩ Is.rfl' Is.rfl' (by omega) (vxs_at hu) (vx_ne u)) rfl ?_
                    refine X.u (LU.weak (LU.load ⟨Tryd.sizeOf35, Tryd.isAgg35⟩ Is.rfl' (by assumption) (Part.whole (by assumption))) (Is.of (y := .agg (vxL u)) (rfl))) rfl ?_
                    refine X.act (X.alloc rfl Tryd.zeroValue35 (by exact Cells.rawagg (by decide)) (fun b15 => ?_))
                    refine X.act (X.store 0 rfl Tryd.sizeOf35 Is.rfl' Is.rfl' (by exact Cells.agg) (by assumption) (by exact Nat.le_of_ble_eq_true rfl) ?_)
                    refine LL.nil (after_code ?_)
                    refine X.wcells (ys := vxL u) (putAt_all (by rw [hul]; rfl)) ?_
                    refine X.drawM 5 rfl (by kernel_rfl) rfl ?_
                    refine QD.u (LU.moveR Is.rfl') rfl ?_
                    refine QD.u (LU.nilCheck Is.rfl') rfl ?_
                    refine QD.u (LU.fieldO Tryd.underlying68 rfl Tryd.sizeOf65 (by decide) Is.rfl') rfl ?_
                    refine QD.u (LU.loadO 2 rfl ⟨Tryd.sizeOf65, Tryd.isAgg65⟩ Is.rfl' (Part.one rfl)) rfl ?_
                    refine QD.u (LU.loadO 0 rfl ⟨Tryd.sizeOf35, Tryd.isAgg35⟩ Is.rfl' (Part.whole (by assumption))) rfl ?_
                    refine QD.nil ?_
                    refine X.act (LO.mapDelete0 (st := ⟨_, _, _⟩) 1 (KeyOk.vx vxty) rfl Tryd.underlying65 Is.rfl' (by exact Is.vx _) ?_)
                    refine LL.nil (after_blk (after_code ?_))
                    refine X.wghost (H' := gA ma ((P.ids.take (j + 1)).foldl delA mC) :: gC g ma mb n :: .cells b13 82 (ptL P) :: .mapr b22 b80 (mp intK (encM iE G)) (seen ++ [i81]) :: gP mb q2 :: kb :: Rf) (by rw [take_snoc hu, foldl_snoc, ← gA_del]; exact (by repeat (first | exact HSub.refl _ | refine HSub.pick 0 rfl ?_ | refine HSub.pick 1 rfl ?_ | refine HSub.drop ?_))) ?_
                    refine LW.region ?_
                    refine X.u (LU.addN Is.rfl' Is.rfl' (wrap_i64 (by omega) (by omega))) rfl ?_
                    refine X.u (LU.moveR Is.rfl') rfl ?_
                    refine LL.nil (after_rnd ?_)
                    refine X.next (j + 1) rfl (EnvLe.cons (by rfl) (EnvLe.nil)) (Keeps.cons (by exact Eq.trans (b := .raw _) rfl rfl) (Keeps.cons (by exact Eq.trans (b := .raw _) rfl rfl) (Keeps.cons (by exact Eq.trans (b := .raw _) rfl rfl) (Keeps.cons (by exact Eq.trans (b := .sl _ _ _) rfl rfl) (Keeps.cons (by exact Eq.trans (b := .raw _) rfl rfl) (Keeps.nil)))))) (by repeat (exact HSub.refl _)) ?_ ?_
                    · omega
                    · omega
                  · try have h26 := of_decide_eq_false h26
                    refine LW.exit (exit_code (exit_rnd (exit_blk (after_code ?_))))
                    have hjl : j = P.ids.length := by omega
                    refine X.wghost (H' := gP mb q2 :: .mapr b22 b80 (mp intK (encM iE G)) (seen ++ [i81]) :: gC g ma mb n :: gA ma mD :: kb :: Rf) (by rw [hmD2, hjl, List.take_length]; exact (by repeat (first | exact HSub.refl _ | refine HSub.pick 0 rfl ?_ | refine HSub.pick 1 rfl ?_ | refine HSub.pick 3 rfl ?_ | refine HSub.pick 4 rfl ?_ | refine HSub.drop ?_))) ?_
                    refine LW.region ?_
                    refine X.u (LU.moveR Is.rfl') rfl ?_
                    refine X.u (LU.nilCheck Is.rfl') rfl ?_
                    refine X.u (LU.fieldO Tryd.underlying68 rfl Tryd.sizeOf66 (by decide) Is.rfl') rfl ?_
                    refine X.u (LU.loadO 2 rfl ⟨Tryd.sizeOf66, Tryd.isAgg66⟩ Is.rfl' (Part.one rfl)) rfl ?_
                    refine X.u (LU.moveR Is.rfl') rfl ?_
                    refine X.act (LO.mapDelete0 (st := ⟨_, _, _⟩) 0 (KeyOk.int Tryd.underlying3) rfl Tryd.underlying66 Is.rfl' Is.rfl' ?_)
                    refine LL.nil (after_blk (after_rnd ?_))
                    refine X.next ((seen ++ [i81], mD, delA q2 p.1)) rfl (EnvLe.nil) (Keeps.cons (by exact Eq.trans (b := .raw _) rfl rfl) (Keeps.cons (by exact Eq.trans (b := .raw _) rfl rfl) (Keeps.nil))) (by show L.HSub _ (.mapr b22 b80 (mp intK (encM iE G)) (seen ++ [i81]) :: gC g ma mb n :: gA ma mD :: gP mb (delA q2 p.1) :: kb :: Rf); rw [← gP_del]; exact (by repeat (first | exact HSub.refl _ | refine HSub.pick 1 rfl ?_))) ?_ ?_
                    · refine ⟨fun i hi => ?_, ?_, ?_, hzD, fun p' hp' => hq2 p' (mem_delA hp')⟩
                      · rcases List.mem_append.1 hi with h | h
                        · exact hsl2 i h
                        · rw [List.mem_singleton.1 h]; exact hil2
                      · rw [List.nodup_append]; exact ⟨hsn, by simp, fun x hx y hy => by rw [List.mem_singleton.1 hy]; rintro rfl; exact hn81 hx⟩
                      · rw [pickI_snoc hka, foldl_snoc, ← hmq, hmD]; rfl
                    · omega
              · refine X.u (LU.extract Is.rfl' rfl) rfl ?_
                refine LL.nil (after_code ?_)
                refine LW.seq ?_
                refine X.condF rfl ?_ ?_
                · rfl
                refine LW.exit (exit_code (exit_rnd (exit_blk (after_code ?_))))
                refine LW.seq ?_
                refine LW.region ?_
                refine X.u (LU.assignR Is.rfl') rfl ?_
                refine LL.nil (after_code ?_)
                refine LW.ret (after_end ?_)
                refine X.ret (H' := H5 g ma mb n m2 q2) (Res.one (by exact IsR rfl)) (by repeat (first | exact HSub.refl _ | refine HSub.pick 1 rfl ?_ | refine HSub.drop ?_)) ?_
                refine ⟨by rw [hE]; rfl, fun c => absurd hE c, fun _ => ⟨pickI (G.map (·.1)) seen, pickI_nodup hG.nd hsn (by rw [List.length_map]; exact hsl2), fun k => ?_, by rw [← hmq]⟩⟩
                rw [pickI_mem (by rw [List.length_map]; exact hsl2) (fun i hi => hall81 i (by rw [mp_len]; simpa using hi)), hG.mem]
end Go.Proofs.YtolpkeajokjbjaaDoor
namespace Go.Proofs.YtolpkeajokjbjaaDoor
open Go.RowKit Go.L Go.Lib
attribute [local irreducible] LL LW LO
theorem place_erase {α : Type} [DecidableEq α] : ∀ {l : List α} {b : α}, l.Nodup → 0 ≤ placeG l b → l.eraseIdx (placeG l b).toNat = l.filter fun w => decide (w ≠ b)
  | [], b, _, h => by simp [placeG] at h
  | a :: l, b, hn, h => by
    obtain ⟨h1, h2⟩ := List.nodup_cons.1 hn
    rw [placeG]
    rw [placeG] at h
    by_cases c : a = b
    · subst c
      rw [if_pos rfl, List.filter_cons, if_neg (by simp)]
      show l = _
      exact (List.filter_eq_self.2 fun x hx => by simp; intro e; exact h1 (e ▸ hx)).symm
    · rw [if_neg c] at h ⊢
      by_cases d : placeG l b < 0
      · rw [if_pos d] at h; omega
      · rw [if_neg d] at h ⊢
        rw [show (placeG l b + 1).toNat = (placeG l b).toNat + 1 by omega, List.eraseIdx_cons_succ, place_erase h2 (by omega), List.filter_cons, if_pos (by simpa using c)]
theorem unN_at (m : At) (a b v : Vx) (hn : (atG m a).next.Nodup) : atG (unN m a b) v = { atG m v with next := (atG m v).next.filter fun w => decide ((v, w) ≠ (a, b)) } := by
  have keep : v ≠ a → ((atG m v).next.filter fun w => decide ((v, w) ≠ (a, b))) = (atG m v).next := fun c => List.filter_eq_self.2 fun x hx => by simp [c]
  unfold unN
  by_cases h : 0 ≤ placeG (atG m a).next b
  · rw [if_pos h, atG_set]
    by_cases c : a = v
    · subst c
      rw [if_pos rfl]
      unfold cutN
      rw [place_erase hn h]
      congr 1
      refine List.filter_congr fun x hx => ?_
      simp
    · rw [if_neg c, keep (fun e => c e.symm)]
  · rw [if_neg h]
    by_cases c : a = v
    · subst c
      have hb : b ∉ (atG m a).next := fun d => h (placeG_nn d)
      rw [List.filter_eq_self.2 fun x hx => by simp; intro e; exact hb (e ▸ hx)]
    · rw [keep (fun e => c e.symm)]
theorem unP_at (m : At) (a b v : Vx) (hn : (atG m b).prev.Nodup) : atG (unP m a b) v = { atG m v with prev := (atG m v).prev.filter fun w => decide ((w, v) ≠ (a, b)) } := by
  have keep : v ≠ b → ((atG m v).prev.filter fun w => decide ((w, v) ≠ (a, b))) = (atG m v).prev := fun c => List.filter_eq_self.2 fun x hx => by simp [c]
  unfold unP
  by_cases h : 0 ≤ placeG (atG m b).prev a
  · rw [if_pos h, atG_set]
    by_cases c : b = v
    · subst c
      rw [if_pos rfl]
      unfold cutP
      rw [place_erase hn h]
      congr 1
      refine List.filter_congr fun x hx => ?_
      simp
    · rw [if_neg c, keep (fun e => c e.symm)]
  · rw [if_neg h]
    by_cases c : b = v
    · subst c
      have hb : a ∉ (atG m b).prev := fun d => h (placeG_nn d)
      rw [List.filter_eq_self.2 fun x hx => by simp; intro e; exact hb (e ▸ hx)]
    · rw [keep (fun e => c e.symm)]
def Nd (m : At) : Prop := ∀ v, (atG m v).next.Nodup ∧ (atG m v).prev.Nodup
abbrev cutE (F : Ed) (x : Ln) (v : Vx) : Ln := { x with next := x.next.filter fun w => decide ((v, w) ∉ F), prev := x.prev.filter fun w => decide ((w, v) ∉ F) }
theorem unstep_at {m : At} (h : Nd m) (a b v : Vx) : atG (unstepA m a b) v = cutE [(a, b)] (atG m v) v := by
  unfold unstepA
  rw [unP_at _ a b v (by rw [unN_at m a b b (h a).1]; exact (h b).2), unN_at m a b v (h a).1]
  have e1 : ((atG m v).next.filter fun w => decide ((v, w) ≠ (a, b))) = (atG m v).next.filter fun w => decide ((v, w) ∉ [(a, b)]) := List.filter_congr fun x hx => by simp
  have e2 : ((atG m v).prev.filter fun w => decide ((w, v) ≠ (a, b))) = (atG m v).prev.filter fun w => decide ((w, v) ∉ [(a, b)]) := List.filter_congr fun x hx => by simp
  exact Eq.trans (b := (⟨(atG m v).text, (atG m v).kills, (atG m v).part, (atG m v).next.filter fun w => decide ((v, w) ≠ (a, b)), (atG m v).prev.filter fun w => decide ((w, v) ≠ (a, b))⟩ : Ln)) rfl (by rw [e1, e2])
theorem Nd.unstep {m : At} (h : Nd m) (a b : Vx) : Nd (unstepA m a b) := fun v => by
  rw [unstep_at h]
  exact ⟨List.filter_sublist.nodup (h v).1, List.filter_sublist.nodup (h v).2⟩
theorem cutE_nil (x : Ln) (v : Vx) : cutE [] x v = x := by
  unfold cutE
  rw [List.filter_eq_self.2 fun w _ => by simp, List.filter_eq_self.2 fun w _ => by simp]
theorem cutE_app (F1 F2 : Ed) (x : Ln) (v : Vx) : cutE F2 (cutE F1 x v) v = cutE (F1 ++ F2) x v := by
  unfold cutE
  congr 1
  · show List.filter _ (List.filter _ _) = _
    rw [List.filter_filter]
    refine List.filter_congr fun w _ => ?_
    rw [Bool.eq_iff_iff]; simp only [Bool.and_eq_true, decide_eq_true_eq, List.mem_append, not_or]
    exact And.comm
  · show List.filter _ (List.filter _ _) = _
    rw [List.filter_filter]
    refine List.filter_congr fun w _ => ?_
    rw [Bool.eq_iff_iff]; simp only [Bool.and_eq_true, decide_eq_true_eq, List.mem_append, not_or]
    exact And.comm
theorem unfold_at : ∀ {F : Ed} {m : At}, Nd m → ∀ v, atG (F.foldl (fun s e => unstepA s e.1 e.2) m) v = cutE F (atG m v) v
  | [], m, h, v => (cutE_nil _ _).symm
  | (a, b) :: F, m, h, v => by
    show atG (F.foldl _ (unstepA m a b)) v = _
    rw [unfold_at (h.unstep a b), unstep_at h, cutE_app]
    rfl
theorem atG_none {m : At} {v : Vx} (h : v ∉ m.map (·.1)) : atG m v = ln0 := by
  unfold atG
  cases hq : lookA m v with
  | none => rfl
  | some x => exact absurd (look_keys.1 (by rw [hq]; rfl)) h
theorem unstep_keys (m : At) (a b : Vx) : (unstepA m a b).map (·.1) = m.map (·.1) := by
  have h1 : (unN m a b).map (·.1) = m.map (·.1) := by
    unfold unN
    split
    · rename_i c
      rw [keys_set, if_pos]
      refine Classical.byContradiction fun d => ?_
      rw [atG_none d] at c
      simp [placeG] at c
    · rfl
  show (unP (unN m a b) a b).map (·.1) = _
  unfold unP
  split
  · rename_i c
    rw [keys_set, if_pos, h1]
    refine Classical.byContradiction fun d => ?_
    rw [atG_none d] at c
    simp [placeG] at c
  · exact h1
theorem unfold_keys : ∀ (F : Ed) (m : At), (F.foldl (fun s e => unstepA s e.1 e.2) m).map (·.1) = m.map (·.1)
  | [], m => rfl
  | (a, b) :: F, m => (unfold_keys F (unstepA m a b)).trans (unstep_keys m a b)
section
variable {κ α : Type} [DecidableEq κ]
theorem del_keys : ∀ {l : List (κ × α)} {a : κ}, (l.map (·.1)).Nodup → (delA l a).map (·.1) = (l.map (·.1)).filter fun x => decide (x ≠ a)
  | [], a, _ => rfl
  | p :: r, a, h => by
    rw [List.map_cons, List.nodup_cons] at h
    rw [delA, List.map_cons, List.filter_cons]
    by_cases c : p.1 = a
    · rw [if_pos c, if_neg (by simpa using c)]
      exact (List.filter_eq_self.2 fun x hx => by simp; intro e; exact h.1 (by rw [c, ← e]; exact hx)).symm
    · rw [if_neg c, if_pos (by simpa using c), List.map_cons, del_keys h.2]
theorem look_del : ∀ {l : List (κ × α)} {a b : κ}, (l.map (·.1)).Nodup → lookA (delA l a) b = if a = b then none else lookA l b
  | [], a, b, _ => by simp [delA, lookA]
  | p :: r, a, b, h => by
    rw [List.map_cons, List.nodup_cons] at h
    rw [delA]
    by_cases c : p.1 = a
    · rw [if_pos c]
      by_cases d : a = b
      · rw [if_pos d]
        cases hq : lookA r b with
        | none => rfl
        | some x => exact absurd (look_keys.1 (by rw [hq]; rfl)) (by rw [← d, ← c]; exact h.1)
      · rw [if_neg d, lookA, if_neg (by rw [c]; exact d)]
    · rw [if_neg c, lookA, lookA, look_del h.2]
      by_cases d : p.1 = b
      · rw [if_pos d, if_neg (fun e => c (by rw [d, e])), if_pos d]
      · rw [if_neg d, if_neg d]
theorem del_filter : ∀ {l : List (κ × α)} {a : κ}, (l.map (·.1)).Nodup → delA l a = l.filter fun p => decide (p.1 ≠ a)
  | [], a, _ => rfl
  | p :: r, a, h => by
    rw [List.map_cons, List.nodup_cons] at h
    rw [delA, List.filter_cons]
    by_cases c : p.1 = a
    · rw [if_pos c, if_neg (by simpa using c)]
      exact (List.filter_eq_self.2 fun x hx => by simp; intro e; exact h.1 (by rw [c, ← e]; exact List.mem_map.2 ⟨x, hx, rfl⟩)).symm
    · rw [if_neg c, if_pos (by simpa using c), del_filter h.2]
end
theorem dels_keys : ∀ {ids : List Vx} {m : At}, (m.map (·.1)).Nodup → (ids.foldl delA m).map (·.1) = (m.map (·.1)).filter fun x => decide (x ∉ ids)
  | [], m, h => by rw [List.filter_eq_self.2 fun x hx => by simp]; rfl
  | a :: ids, m, h => by
    show (ids.foldl delA (delA m a)).map (·.1) = _
    rw [dels_keys (by rw [del_keys h]; exact List.filter_sublist.nodup h), del_keys h, List.filter_filter]
    refine List.filter_congr fun x hx => ?_
    rw [Bool.eq_iff_iff]; simp only [Bool.and_eq_true, decide_eq_true_eq, List.mem_cons, not_or]
    exact And.comm
theorem dels_at : ∀ {ids : List Vx} {m : At}, (m.map (·.1)).Nodup → ∀ v, atG (ids.foldl delA m) v = if v ∈ ids then ln0 else atG m v
  | [], m, h, v => by simp
  | a :: ids, m, h, v => by
    show atG (ids.foldl delA (delA m a)) v = _
    rw [dels_at (by rw [del_keys h]; exact List.filter_sublist.nodup h)]
    have h1 : atG (delA m a) v = if a = v then ln0 else atG m v := by
      unfold atG
      rw [look_del h]
      split <;> rfl
    rw [h1]
    by_cases c : v ∈ ids
    · rw [if_pos c, if_pos (List.mem_cons_of_mem _ c)]
    · rw [if_neg c]
      by_cases d : a = v
      · rw [if_pos d, if_pos (by rw [d]; simp)]
      · rw [if_neg d, if_neg fun e => (List.mem_cons.1 e).elim (fun f => d f.symm) c]
abbrev Zs := List (Int × Ad)
def gIds (z : Zs) (K : List Int) : List Vx := (z.filter fun p => decide (p.1 ∈ K)).flatMap fun p => p.2.ids
def gEd (z : Zs) (K : List Int) : Ed := (z.filter fun p => decide (p.1 ∈ K)).flatMap fun p => edP p.2.up p.2.ids p.2.down
theorem gIds_mem {z : Zs} {K : List Int} {v : Vx} : v ∈ gIds z K ↔ ∃ p ∈ z, p.1 ∈ K ∧ v ∈ p.2.ids := by
  unfold gIds
  rw [List.mem_flatMap]
  refine exists_congr fun p => ?_
  rw [List.mem_filter, decide_eq_true_eq, and_assoc]
theorem gEd_mem {z : Zs} {K : List Int} {e : Vx × Vx} : e ∈ gEd z K ↔ ∃ p ∈ z, p.1 ∈ K ∧ e ∈ edP p.2.up p.2.ids p.2.down := by
  unfold gEd
  rw [List.mem_flatMap]
  refine exists_congr fun p => ?_
  rw [List.mem_filter, decide_eq_true_eq, and_assoc]
theorem key_uniq : ∀ {z : Zs}, (z.map (·.1)).Nodup → ∀ {p p' : Int × Ad}, p ∈ z → p' ∈ z → p.1 = p'.1 → p = p'
  | [], _, p, p', h, _, _ => by cases h
  | a :: z, hn, p, p', h1, h2, e => by
    rw [List.map_cons, List.nodup_cons] at hn
    rcases List.mem_cons.1 h1 with f | f <;> rcases List.mem_cons.1 h2 with g | g
    · rw [f, g]
    · rw [f] at e; exact absurd (List.mem_map.2 ⟨p', g, e.symm⟩) hn.1
    · rw [g] at e; exact absurd (List.mem_map.2 ⟨p, f, e⟩) hn.1
    · exact key_uniq hn.2 f g e
structure DSt (m : At) (z : Zs) (K : List Int) (s : At × Ps) : Prop where
  keys : s.1.map (·.1) = (m.map (·.1)).filter fun v => decide (v ∉ gIds z K)
  at_ : ∀ v, atG s.1 v = if v ∈ gIds z K then ln0 else cutE (gEd z K) (atG m v) v
  q : s.2.Perm ((z.filter fun p => decide (p.1 ∉ K)).map fun p => (p.1, ptOf p.2))
theorem DSt.nil {m : At} {z : Zs} {q : Ps} (hq : q.Perm (z.map fun p => (p.1, ptOf p.2))) : DSt m z [] (m, q) := by
  have h1 : gIds z [] = [] := by unfold gIds; simp
  have h2 : gEd z [] = [] := by unfold gEd; simp
  refine ⟨?_, fun v => ?_, ?_⟩
  · rw [h1, List.filter_eq_self.2 fun x hx => by simp]
  · rw [h1, h2, if_neg (by simp), cutE_nil]
  · rw [List.filter_eq_self.2 fun x hx => by simp]; exact hq
theorem DSt.step {m : At} {z : Zs} {K : List Int} {s : At × Ps} (h : DSt m z K s) (hm : (m.map (·.1)).Nodup) (hd : Nd m) (hz : (z.map (·.1)).Nodup) {p : Int × Ad} (hp : p ∈ z) (hk : p.1 ∉ K) : DSt m z (K ++ [p.1]) (dropK s p.1) := by
  have hI : ∀ v, v ∈ gIds z (K ++ [p.1]) ↔ v ∈ gIds z K ∨ v ∈ p.2.ids := fun v => by
    rw [gIds_mem, gIds_mem]
    constructor
    · rintro ⟨a, ha, hb, hc⟩
      rcases List.mem_append.1 hb with e | e
      · exact .inl ⟨a, ha, e, hc⟩
      · rw [key_uniq hz ha hp (List.mem_singleton.1 e)] at hc; exact .inr hc
    · rintro (⟨a, ha, hb, hc⟩ | hc)
      · exact ⟨a, ha, List.mem_append_left _ hb, hc⟩
      · exact ⟨p, hp, by simp, hc⟩
  have hE : ∀ e, e ∈ gEd z (K ++ [p.1]) ↔ e ∈ gEd z K ++ edP p.2.up p.2.ids p.2.down := fun v => by
    rw [List.mem_append, gEd_mem, gEd_mem]
    constructor
    · rintro ⟨a, ha, hb, hc⟩
      rcases List.mem_append.1 hb with e | e
      · exact .inl ⟨a, ha, e, hc⟩
      · rw [key_uniq hz ha hp (List.mem_singleton.1 e)] at hc; exact .inr hc
    · rintro (⟨a, ha, hb, hc⟩ | hc)
      · exact ⟨a, ha, List.mem_append_left _ hb, hc⟩
      · exact ⟨p, hp, by simp, hc⟩
  have hzf : ((z.filter fun p => decide (p.1 ∉ K)).map (·.1)).Nodup := (List.filter_sublist.map _).nodup hz
  have hqn : (s.2.map (·.1)).Nodup := (h.q.map (·.1)).nodup_iff.2 (by rw [List.map_map]; exact hzf)
  have hlk : lkP s.2 p.1 = ptOf p.2 := by
    unfold lkP
    rw [mem_look hqn (h.q.mem_iff.2 (List.mem_map.2 ⟨p, List.mem_filter.2 ⟨hp, by simpa using hk⟩, rfl⟩))]; rfl
  have hsn : (s.1.map (·.1)).Nodup := by rw [h.keys]; exact List.filter_sublist.nodup hm
  have hsd : Nd s.1 := fun v => by
    rw [h.at_]
    split
    · exact ⟨List.nodup_nil, List.nodup_nil⟩
    · exact ⟨List.filter_sublist.nodup (hd v).1, List.filter_sublist.nodup (hd v).2⟩
  have hP : (dropK s p.1).1 = p.2.ids.foldl delA ((edP p.2.up p.2.ids p.2.down).foldl (fun s e => unstepA s e.1 e.2) s.1) := by
    show dropP s p.1 = _
    unfold dropP
    rw [hlk, chain_fold]
  have hkn : (((edP p.2.up p.2.ids p.2.down).foldl (fun s e => unstepA s e.1 e.2) s.1).map (·.1)).Nodup := by rw [unfold_keys]; exact hsn
  refine ⟨?_, fun v => ?_, ?_⟩
  · rw [hP, dels_keys hkn, unfold_keys, h.keys, List.filter_filter]
    refine List.filter_congr fun v hv => ?_
    rw [Bool.eq_iff_iff]; simp only [Bool.and_eq_true, decide_eq_true_eq, hI, not_or]
    exact And.comm
  · rw [hP, dels_at hkn, unfold_at hsd, h.at_]
    by_cases c : v ∈ p.2.ids
    · rw [if_pos c, if_pos ((hI v).2 (.inr c))]
    · rw [if_neg c]
      by_cases d : v ∈ gIds z K
      · rw [if_pos d, if_pos ((hI v).2 (.inl d))]; rfl
      · rw [if_neg d, if_neg (fun e => ((hI v).1 e).elim d c), cutE_app]
        unfold cutE
        congr 1
        · exact List.filter_congr fun w _ => by rw [Bool.eq_iff_iff, decide_eq_true_eq, decide_eq_true_eq, hE]
        · exact List.filter_congr fun w _ => by rw [Bool.eq_iff_iff, decide_eq_true_eq, decide_eq_true_eq, hE]
  · show List.Perm (delA s.2 p.1) _
    rw [del_filter hqn]
    refine (h.q.filter _).trans (List.Perm.of_eq ?_)
    rw [List.filter_map, List.filter_filter]
    congr 1
    refine List.filter_congr fun a ha => ?_
    rw [Bool.eq_iff_iff]; simp only [Bool.and_eq_true, decide_eq_true_eq, Function.comp, List.mem_append, List.mem_singleton, not_or]
    exact And.comm
theorem DSt.fold {m : At} {z : Zs} (hm : (m.map (·.1)).Nodup) (hd : Nd m) (hz : (z.map (·.1)).Nodup) : ∀ {ks : List Int} {K : List Int} {s : At × Ps}, DSt m z K s → ks.Nodup → (∀ k ∈ ks, k ∉ K ∧ ∃ p ∈ z, p.1 = k) → DSt m z (K ++ ks) (ks.foldl dropK s)
  | [], K, s, h, _, _ => by rw [List.append_nil]; exact h
  | k :: ks, K, s, h, hn, hk => by
    obtain ⟨h1, h2⟩ := List.nodup_cons.1 hn
    obtain ⟨hkK, p, hp, rfl⟩ := hk k (by simp)
    have := DSt.fold hm hd hz (ks := ks) (h.step hm hd hz hp hkK) h2 fun k' hk' => by
      obtain ⟨a, b⟩ := hk k' (List.mem_cons_of_mem _ hk')
      refine ⟨fun c => ?_, b⟩
      rcases List.mem_append.1 c with e | e
      · exact a e
      · exact h1 (List.mem_singleton.1 e ▸ hk')
    rw [List.append_assoc] at this
    exact this
end Go.Proofs.YtolpkeajokjbjaaDoor
namespace Go.Proofs.YtolpkeajokjbjaaDoor
open Go.RowKit Go.L Go.Lib
attribute [local irreducible] LL LW LO
def nOf (ids : List Vx) (a : Ad) : Nat := a.ids.countP fun v => decide (v ∈ ids)
def goneB (ids : List Vx) (a : Ad) : Bool := decide (nOf ids a = a.ids.length)
def rbadB (ids : List Vx) (a : Ad) : Bool := !goneB ids a && ((decide (0 < nOf ids a) || decide (a.up ∈ ids)) || decide (a.down ∈ ids))
def rdropE (r : Rg) (ids : List Vx) : Nat := if wrongB ids = true then 2 else if ids.any (fun v => !decide (v ∈ idsG r.L)) = true then 111 else if r.L.any (rbadB ids) = true then 130 else 0
def rdropG (r : Rg) (ids : List Vx) : Rg := if rdropE r ids = 0 then ⟨r.L.filter (fun a => !goneB ids a), r.D.filter (fun d => !decide (d.v ∈ ids))⟩ else r
theorem nOf_zero {ids : List Vx} {a : Ad} : nOf ids a = 0 ↔ ∀ v ∈ a.ids, v ∉ ids := by unfold nOf; rw [List.countP_eq_zero]; simp
theorem nOf_all {ids : List Vx} {a : Ad} : nOf ids a = a.ids.length ↔ ∀ v ∈ a.ids, v ∈ ids := by unfold nOf; rw [List.countP_eq_length]; simp
section
variable {m : At} {q : Ps} {n : Int} {r : Rg} {z : Zs}
theorem cnt_same (h1 : r.L = z.map (·.2)) (hn : (z.map (·.1)).Nodup) (h5 : ∀ p ∈ z, ∀ v ∈ p.2.ids, (atG m v).part = p.1) (ho : Ok r) {ids : List Vx} (hid : ids.Nodup) (hin : ∀ v ∈ ids, v ∈ idsG r.L) {p : Int × Ad} (hp : p ∈ z) : cntP m ids p.1 = nOf ids p.2 := by
  have hpL : p.2 ∈ r.L := by rw [h1]; exact List.mem_map.2 ⟨p, hp, rfl⟩
  have e1 : cntP m ids p.1 = (ids.filter fun v => decide (v ∈ p.2.ids)).length := by
    unfold cntP
    rw [List.countP_eq_length_filter]
    congr 1
    refine List.filter_congr fun v hv => ?_
    rw [decide_eq_decide]
    constructor
    · intro e
      obtain ⟨a, ha, hva⟩ := ids_mem.1 (hin v hv)
      rw [h1] at ha
      obtain ⟨p', hp', rfl⟩ := List.mem_map.1 ha
      have := h5 p' hp' v hva
      rw [key_uniq hn hp hp' (e.symm.trans this)]
      exact hva
    · exact h5 p hp v
  rw [e1]
  unfold nOf
  rw [List.countP_eq_length_filter]
  refine (perm_same (List.filter_sublist.nodup hid) (List.filter_sublist.nodup (ho.idsOf hpL)) fun x => ?_).length_eq
  rw [List.mem_filter, List.mem_filter, decide_eq_true_eq, decide_eq_true_eq]
  exact And.comm
theorem Rel.dropE (h : Rel m q n r) (ho : Ok r) (ids : List Vx) : dropE m q ids = rdropE r ids := by
  obtain ⟨z, z1, z2, z3, z4, z5⟩ := h.parts
  unfold Go.Proofs.YtolpkeajokjbjaaDoor.dropE rdropE
  by_cases c : wrongB ids = true
  · rw [if_pos c, if_pos c]
  · rw [if_neg c, if_neg c]
    have hw : wrongB ids = false := by
      cases hq : wrongB ids with
      | false => rfl
      | true => exact absurd hq c
    obtain ⟨hid, hen, _⟩ := wrongB_false hw
    have ha : (ids.any fun v => !(lookA m v).isSome) = ids.any fun v => !decide (v ∈ idsG r.L) := by
      rw [Bool.eq_iff_iff, List.any_eq_true, List.any_eq_true]
      refine exists_congr fun v => and_congr_right fun hv => ?_
      rw [h.has, hasG, hen v hv, Bool.false_or]
    rw [ha]
    by_cases d : (ids.any fun v => !decide (v ∈ idsG r.L)) = true
    · rw [if_pos d, if_pos d]
    · rw [if_neg d, if_neg d]
      have hin : ∀ v ∈ ids, v ∈ idsG r.L := fun v hv => Classical.byContradiction fun e => d (List.any_eq_true.2 ⟨v, hv, by simpa using e⟩)
      have hb : q.any (badP m ids) = r.L.any (rbadB ids) := by
        have hq2 : q.any (badP m ids) = (z.map fun p => (p.1, ptOf p.2)).any (badP m ids) := by
          rw [Bool.eq_iff_iff, List.any_eq_true, List.any_eq_true]
          exact exists_congr fun p => and_congr_left fun _ => z2.mem_iff
        rw [hq2, z1, List.any_map, List.any_map, Bool.eq_iff_iff, List.any_eq_true, List.any_eq_true]
        refine exists_congr fun p => and_congr_right fun hp => ?_
        show badP m ids (p.1, ptOf p.2) = true ↔ rbadB ids p.2 = true
        unfold badP rbadB goneB
        rw [cnt_same z1 z3 z5 ho hid hin hp]
      rw [hb]
theorem rdropE_zero {ids : List Vx} (h : rdropE r ids = 0) : ids.Nodup ∧ (∀ v ∈ ids, endsB v = false) ∧ (∀ v ∈ ids, v ∈ idsG r.L) ∧ ∀ a ∈ r.L, goneB ids a = false → (∀ v ∈ a.ids, v ∉ ids) ∧ a.up ∉ ids ∧ a.down ∉ ids := by
  unfold rdropE at h
  split at h
  · cases h
  · rename_i c1
    split at h
    · cases h
    · rename_i c2
      split at h
      · cases h
      · rename_i c3
        obtain ⟨g1, g2, g3⟩ := wrongB_false (by simpa using c1)
        refine ⟨g1, g2, fun v hv => Classical.byContradiction fun e => c2 (List.any_eq_true.2 ⟨v, hv, by simpa using e⟩), fun a ha hg => ?_⟩
        have : rbadB ids a = false := by
          cases hq : rbadB ids a with
          | false => rfl
          | true => exact absurd (List.any_eq_true.2 ⟨a, ha, hq⟩) c3
        unfold rbadB at this
        rw [hg] at this
        simp only [Bool.not_false, Bool.true_and, Bool.or_eq_false_iff, decide_eq_false_iff_not] at this
        exact ⟨nOf_zero.1 (by omega), this.1.2, this.2⟩
theorem ids_filter {ids : List Vx} : ∀ {l : List Ad}, (∀ a ∈ l, goneB ids a = false → ∀ v ∈ a.ids, v ∉ ids) → idsG (l.filter fun a => !goneB ids a) = (idsG l).filter fun v => decide (v ∉ ids)
  | [], _ => rfl
  | a :: l, h => by
    have ih := ids_filter (l := l) fun b hb => h b (List.mem_cons_of_mem _ hb)
    unfold idsG at ih ⊢
    rw [List.filter_cons, List.flatMap_cons, List.filter_append]
    cases hg : goneB ids a with
    | true =>
      have := nOf_all.1 (of_decide_eq_true hg)
      have e0 : (a.ids.filter fun v => decide (v ∉ ids)) = [] := List.filter_eq_nil_iff.2 fun v hv => by simpa using this v hv
      rw [if_neg (by simp), ih, e0, List.nil_append]
    | false =>
      rw [if_pos (by simp), List.flatMap_cons, ih]
      congr 1
      exact (List.filter_eq_self.2 fun v hv => by simpa using h a (by simp) hg v hv).symm
theorem er_sub {l k : List Ad} {D D2 : List De} (h : l.Sublist k) : (Er ⟨l, D⟩).Sublist (Er ⟨k, D2⟩) := by
  unfold Er
  refine List.Sublist.cons_cons _ ?_
  show (l.flatMap _).Sublist (k.flatMap _)
  induction h with
  | slnil => exact List.Sublist.refl _
  | cons a _ ih => rw [List.flatMap_cons]; exact ih.trans (List.sublist_append_right _ _)
  | cons_cons a _ ih => rw [List.flatMap_cons, List.flatMap_cons]; exact (List.Sublist.refl _).append ih
theorem Ok.rdrop (ho : Ok r) (ids : List Vx) : Ok (rdropG r ids) := by
  unfold rdropG
  split
  · rename_i c
    obtain ⟨h1, h2, h3, h4⟩ := rdropE_zero c
    have hids := ids_filter (l := r.L) fun a ha hg => (h4 a ha hg).1
    have hsub : (r.L.filter fun a => !goneB ids a).Sublist r.L := List.filter_sublist
    have hin : ∀ v, v ∈ idsG r.L → v ∉ ids → v ∈ idsG (r.L.filter fun a => !goneB ids a) := fun v a b => by rw [hids]; exact List.mem_filter.2 ⟨a, by simpa using b⟩
    have hE := er_sub (D := r.D.filter (fun d => !decide (d.v ∈ ids))) (D2 := r.D) hsub
    refine ⟨?_, fun v hv => ?_, fun a ha => ho.ne a (hsub.subset ha), fun a ha => ?_, fun v hr => ?_, hE.nodup ho.end_, ?_, fun d hd => ?_, List.filter_sublist.nodup ho.dn⟩
    · show (idsG (r.L.filter fun a => !goneB ids a)).Nodup
      rw [hids]; exact List.filter_sublist.nodup ho.nd
    · rw [show idsG _ = _ from hids] at hv
      exact ho.ends v (List.mem_filter.1 hv).1
    · obtain ⟨a1, a2⟩ := List.mem_filter.1 ha
      obtain ⟨b1, b2, b3⟩ := h4 a a1 (by simpa using a2)
      exact ⟨(ho.inn a a1).1.imp id fun e => hin _ e b2, (ho.inn a a1).2.imp id fun e => hin _ e b3⟩
    · exact ho.acy v (hr.mono fun x y hy => nxE_mem.2 (hE.subset (nxE_mem.1 hy)))
    · show (idsG (r.L.filter fun a => !goneB ids a)).length ≤ 512
      rw [hids]; exact Nat.le_trans (List.length_filter_le _ _) ho.len
    · obtain ⟨d1, d2⟩ := List.mem_filter.1 hd
      exact hin _ (ho.dv d d1) (by simpa using d2)
  · exact ho
theorem text_filter {ids : List Vx} : ∀ {l : List Ad} {v : Vx}, v ∉ ids → textG (l.filter fun a => !goneB ids a) v = textG l v
  | [], v, _ => rfl
  | a :: l, v, hv => by
    rw [List.filter_cons]
    cases hg : goneB ids a with
    | true =>
      have hn : v ∉ a.ids := fun c => hv (nOf_all.1 (of_decide_eq_true hg) v c)
      rw [if_neg (by simp), text_filter hv, textG, if_neg (by have := placeG_neg.2 hn; omega)]
    | false => rw [if_pos (by simp), textG, textG, text_filter hv]
theorem Rel.drop (h : Rel m q n r) (ho : Ok r) {ids : List Vx} (he : rdropE r ids = 0) {ks : List Int} (hks : ks.Nodup) (hkm : ∀ k, k ∈ ks ↔ 0 < cntP m ids k) : Rel (ks.foldl dropK (m, q)).1 (ks.foldl dropK (m, q)).2 n (rdropG r ids) := by
  obtain ⟨h1, h2, h3, h4⟩ := rdropE_zero he
  have ho2 := ho.rdrop ids
  obtain ⟨z, z1, z2, z3, z4, z5⟩ := h.parts
  have hmn : (m.map (·.1)).Nodup := h.knd ho
  have hnd : Nd m := fun v => by rw [h.next, h.prev]; exact ⟨nxE_nodup ho.end_ v, pvE_nodup ho.end_ v⟩
  have hcnt : ∀ p ∈ z, cntP m ids p.1 = nOf ids p.2 := fun p hp => cnt_same z1 z3 z5 ho h1 h3 hp
  have hzL : ∀ p ∈ z, p.2 ∈ r.L := fun p hp => by rw [z1]; exact List.mem_map.2 ⟨p, hp, rfl⟩
  have hgo : ∀ p ∈ z, (p.1 ∈ ks ↔ goneB ids p.2 = true) := fun p hp => by
    rw [hkm, hcnt p hp]
    constructor
    · intro e
      cases hg : goneB ids p.2 with
      | true => rfl
      | false => have := nOf_zero.2 (h4 p.2 (hzL p hp) hg).1; omega
    · intro e
      rw [of_decide_eq_true e]
      exact List.length_pos_iff.2 (ho.ne p.2 (hzL p hp)).1
  have hst := DSt.fold hmn hnd z3 (ks := ks) (K := []) (s := (m, q)) (DSt.nil z2) hks fun k hk => ⟨by simp, by
    have := (hkm k).1 hk
    unfold cntP at this
    obtain ⟨v, hv, e⟩ := List.countP_pos_iff.1 this
    obtain ⟨a, ha, hva⟩ := ids_mem.1 (h3 v hv)
    rw [z1] at ha
    obtain ⟨p, hp, rfl⟩ := List.mem_map.1 ha
    exact ⟨p, hp, (z5 p hp v hva).symm.trans (of_decide_eq_true e)⟩⟩
  rw [List.nil_append] at hst
  have hgI : ∀ v, v ∈ gIds z ks ↔ v ∈ ids := fun v => by
    rw [gIds_mem]
    constructor
    · rintro ⟨p, hp, a, b⟩
      exact nOf_all.1 (of_decide_eq_true ((hgo p hp).1 a)) v b
    · intro hv
      obtain ⟨a, ha, hva⟩ := ids_mem.1 (h3 v hv)
      rw [z1] at ha
      obtain ⟨p, hp, rfl⟩ := List.mem_map.1 ha
      refine ⟨p, hp, (hgo p hp).2 ?_, hva⟩
      cases hg : goneB ids p.2 with
      | true => rfl
      | false => exact absurd hv ((h4 p.2 (hzL p hp) hg).1 v hva)
  have hgE : ∀ e, e ∈ gEd z ks ↔ ∃ a ∈ r.L, goneB ids a = true ∧ e ∈ edP a.up a.ids a.down := fun e => by
    rw [gEd_mem, z1]
    constructor
    · rintro ⟨p, hp, a, b⟩; exact ⟨p.2, List.mem_map.2 ⟨p, hp, rfl⟩, (hgo p hp).1 a, b⟩
    · rintro ⟨a, ha, b, c⟩
      obtain ⟨p, hp, rfl⟩ := List.mem_map.1 ha
      exact ⟨p, hp, (hgo p hp).2 b, c⟩
  have hG : rdropG r ids = ⟨r.L.filter (fun a => !goneB ids a), r.D.filter (fun d => !decide (d.v ∈ ids))⟩ := by unfold rdropG; rw [if_pos he]
  have hids := ids_filter (l := r.L) fun a ha hg => (h4 a ha hg).1
  -- which steps stay
  have touch : ∀ {x y : Vx}, (x, y) ∈ gEd z ks → x ∈ ids ∨ y ∈ ids := fun {x y} hm => by
    obtain ⟨a, ha, hg, hxy⟩ := (hgE _).1 hm
    have hall := nOf_all.1 (of_decide_eq_true hg)
    rcases edP_fst hxy with f | f
    · subst f; exact .inr (hall y (edP_up (ho.ne a ha).1 (ho.upOf ha) hxy))
    · exact .inl (hall x f)
  have stay : ∀ {x y : Vx}, (x, y) ∈ Er (rdropG r ids) → x ∉ ids ∧ y ∉ ids := fun {x y} hm => by
    rw [hG] at hm
    rcases er_mem.1 hm with ⟨rfl, rfl⟩ | ⟨a, ha, e⟩
    · exact ⟨fun c => (endsB_iff.1 (h2 _ c)).1 rfl, fun c => (endsB_iff.1 (h2 _ c)).2 rfl⟩
    · obtain ⟨a1, a2⟩ := List.mem_filter.1 ha
      obtain ⟨b1, b2, b3⟩ := h4 a a1 (by simpa using a2)
      refine ⟨?_, ?_⟩
      · rcases edP_fst e with f | f
        · rw [f]; exact b2
        · exact b1 x f
      · rcases edP_snd e with f | f
        · exact b1 y f
        · rw [f]; exact b3
  have hEr : Er (rdropG r ids) = (Er r).filter fun e => decide (e ∉ gEd z ks) := by
    rw [hG]
    unfold Er
    rw [List.filter_cons, if_pos (by
      simp only [decide_eq_true_eq]
      intro c
      rcases touch c with e | e
      · exact (endsB_iff.1 (h2 _ e)).1 rfl
      · exact (endsB_iff.1 (h2 _ e)).2 rfl)]
    congr 1
    show (List.filter _ r.L).flatMap _ = _
    have key : ∀ l : List Ad, (∀ a ∈ l, a ∈ r.L) → ((l.filter fun a => !goneB ids a).flatMap fun a => edP a.up a.ids a.down) = (l.flatMap fun a => edP a.up a.ids a.down).filter fun e => decide (e ∉ gEd z ks) := fun l => by
      induction l with
      | nil => intro _; rfl
      | cons a l ih =>
        intro hl
        have ih := ih fun b hb => hl b (List.mem_cons_of_mem _ hb)
        have haL := hl a (by simp)
        rw [List.filter_cons, List.flatMap_cons, List.filter_append]
        cases hg : goneB ids a with
        | true =>
          have e0 : ((edP a.up a.ids a.down).filter fun e => decide (e ∉ gEd z ks)) = [] := List.filter_eq_nil_iff.2 fun e hm => by
            simp only [decide_eq_true_eq, Classical.not_not]
            exact (hgE e).2 ⟨a, haL, hg, hm⟩
          rw [if_neg (by simp), ih, e0, List.nil_append]
        | false =>
          rw [if_pos (by simp), List.flatMap_cons, ih]
          congr 1
          refine (List.filter_eq_self.2 fun e hm => ?_).symm
          obtain ⟨x, y⟩ := e
          simp only [decide_eq_true_eq]
          intro c
          obtain ⟨b1, b2, b3⟩ := h4 a haL hg
          rcases touch c with d | d
          · rcases edP_fst hm with f | f
            · rw [f] at d; exact b2 d
            · exact b1 x f d
          · rcases edP_snd hm with f | f
            · exact b1 y f d
            · rw [f] at d; exact b3 d
    exact key r.L fun a ha => ha
  have hat := hst.at_
  refine ⟨?_, fun v => ?_, fun v => ?_, fun v => ?_, fun v => ?_, z.filter (fun p => decide (p.1 ∉ ks)), ?_, hst.q, (List.filter_sublist.map _).nodup z3, fun p hp => z4 p (List.mem_filter.1 hp).1, fun p hp v hv => ?_⟩
  · rw [hst.keys, hG]
    show List.Perm _ (topV :: botV :: idsG (r.L.filter fun a => !goneB ids a))
    refine (h.keys.filter _).trans (List.Perm.of_eq ?_)
    rw [hids, List.filter_cons, if_pos, List.filter_cons, if_pos]
    · congr 2
      exact List.filter_congr fun v _ => by rw [decide_eq_decide, hgI]
    · simp only [decide_eq_true_eq, hgI]; exact fun c => (endsB_iff.1 (h2 _ c)).2 rfl
    · simp only [decide_eq_true_eq, hgI]; exact fun c => (endsB_iff.1 (h2 _ c)).1 rfl
  · rw [hat]
    by_cases c : v ∈ gIds z ks
    · rw [if_pos c, nxE_nil fun w hw => (stay hw).1 ((hgI v).1 c)]
    · rw [if_neg c]
      show (atG m v).next.filter _ = _
      rw [h.next, hEr]
      unfold nxE
      rw [List.filter_map, List.filter_filter, List.filter_filter]
      congr 1
      refine List.filter_congr fun e he => ?_
      rw [Bool.eq_iff_iff]; simp only [Bool.and_eq_true, decide_eq_true_eq, Function.comp]
      constructor
      · rintro ⟨a, b⟩; exact ⟨b, by rw [← b] at a; exact a⟩
      · rintro ⟨a, b⟩; exact ⟨by rw [← a]; exact b, a⟩
  · rw [hat]
    by_cases c : v ∈ gIds z ks
    · rw [if_pos c, pvE_nil fun w hw => (stay hw).2 ((hgI v).1 c)]
    · rw [if_neg c]
      show (atG m v).prev.filter _ = _
      rw [h.prev, hEr]
      unfold pvE
      rw [List.filter_map, List.filter_filter, List.filter_filter]
      congr 1
      refine List.filter_congr fun e he => ?_
      rw [Bool.eq_iff_iff]; simp only [Bool.and_eq_true, decide_eq_true_eq, Function.comp]
      constructor
      · rintro ⟨a, b⟩; exact ⟨b, by rw [← b] at a; exact a⟩
      · rintro ⟨a, b⟩; exact ⟨by rw [← a]; exact b, a⟩
  · rw [hat, hG]
    show _ = textG (r.L.filter fun a => !goneB ids a) v
    by_cases c : v ∈ gIds z ks
    · rw [if_pos c, text_none]
      rw [hids, List.mem_filter]
      rintro ⟨_, b⟩
      exact (of_decide_eq_true b) ((hgI v).1 c)
    · rw [if_neg c, text_filter fun d => c ((hgI v).2 d), ← h.text]
  · rw [hat, hG]
    show _ = killsOf (r.D.filter fun d => !decide (d.v ∈ ids)) v
    unfold killsOf
    rw [List.filter_filter]
    by_cases c : v ∈ gIds z ks
    · rw [if_pos c, List.filter_eq_nil_iff.2 fun d hd => ?_]
      · rfl
      · simp only [Bool.and_eq_true, decide_eq_true_eq, Bool.not_eq_true', decide_eq_false_iff_not]
        rintro ⟨a, b⟩
        exact b (a ▸ (hgI v).1 c)
    · rw [if_neg c]
      show (atG m v).kills = _
      rw [h.kills]
      unfold killsOf
      congr 1
      refine List.filter_congr fun d hd => ?_
      rw [Bool.eq_iff_iff]; simp only [Bool.and_eq_true, decide_eq_true_eq, Bool.not_eq_true', decide_eq_false_iff_not]
      constructor
      · intro e; exact ⟨e, fun f => c ((hgI v).2 (e ▸ f))⟩
      · rintro ⟨a, _⟩; exact a
  · rw [hG]
    show r.L.filter _ = _
    rw [z1, List.filter_map]
    congr 1
    refine List.filter_congr fun p hp => ?_
    have := hgo p hp
    show (!goneB ids p.2) = _
    rw [Bool.eq_iff_iff, decide_eq_true_eq, this]
    cases goneB ids p.2 <;> simp
  · obtain ⟨a, b⟩ := List.mem_filter.1 hp
    rw [hat, if_neg]
    · exact z5 p a v hv
    · rw [gIds_mem]
      rintro ⟨p', hp', hk', hv'⟩
      have e1 := z5 p a v hv
      have e2 := z5 p' hp' v hv'
      exact (of_decide_eq_true b) (by rw [← e1, e2]; exact hk')
end
end Go.Proofs.YtolpkeajokjbjaaDoor
namespace Go.Proofs.YtolpkeajokjbjaaDoor
open Go.RowKit Go.L Go.Lib
attribute [local irreducible] LL LW LO
def rkE (r : Rg) (v : Vx) (h : Hs) : Nat := if endsB v = true then 2 else if hasG r v = false then 111 else if (⟨v, h⟩ : De) ∈ r.D then 110 else 0
def rkG (r : Rg) (v : Vx) (h : Hs) : Rg := if rkE r v h = 0 then ⟨r.L, r.D ++ [⟨v, h⟩]⟩ else r
def ukE (r : Rg) (v : Vx) (h : Hs) : Nat := if endsB v = true then 2 else if (⟨v, h⟩ : De) ∈ r.D then 0 else 111
def ukG (r : Rg) (v : Vx) (h : Hs) : Rg := if ukE r v h = 0 then ⟨r.L, r.D.eraseIdx (placeG r.D ⟨v, h⟩).toNat⟩ else r
theorem kills_mem {D : List De} {v : Vx} {h : Hs} : h ∈ killsOf D v ↔ (⟨v, h⟩ : De) ∈ D := by
  unfold killsOf
  rw [List.mem_map]
  constructor
  · rintro ⟨d, hd, rfl⟩
    obtain ⟨a, b⟩ := List.mem_filter.1 hd
    have := of_decide_eq_true b
    subst this
    exact a
  · intro hm; exact ⟨_, List.mem_filter.2 ⟨hm, by simp⟩, rfl⟩
theorem kills_nodup {D : List De} (hn : D.Nodup) (v : Vx) : (killsOf D v).Nodup := by
  unfold killsOf
  refine nodup_map_in (List.filter_sublist.nodup hn) fun x hx y hy e => ?_
  have h1 := of_decide_eq_true (List.mem_filter.1 hx).2
  have h2 := of_decide_eq_true (List.mem_filter.1 hy).2
  cases x; cases y
  simp only [De.mk.injEq]
  exact ⟨h1.trans h2.symm, e⟩
theorem kills_len (D : List De) (v : Vx) : (killsOf D v).length ≤ D.length := by
  unfold killsOf; rw [List.length_map]; exact List.length_filter_le _ _
theorem kills_snoc (D : List De) (v u : Vx) (h : Hs) : killsOf (D ++ [⟨v, h⟩]) u = killsOf D u ++ if v = u then [h] else [] := by
  unfold killsOf
  rw [List.filter_append, List.map_append]
  congr 1
  by_cases c : v = u
  · simp [c]
  · simp [c]
theorem kills_erase {D : List De} (hn : D.Nodup) {v : Vx} {h : Hs} (hm : (⟨v, h⟩ : De) ∈ D) (u : Vx) : killsOf (D.eraseIdx (placeG D ⟨v, h⟩).toNat) u = if v = u then (killsOf D v).eraseIdx (placeG (killsOf D v) h).toNat else killsOf D u := by
  rw [place_erase hn (placeG_nn hm)]
  by_cases c : v = u
  · subst c
    rw [if_pos rfl, place_erase (kills_nodup hn v) (placeG_nn (kills_mem.2 hm))]
    unfold killsOf
    rw [List.filter_filter, List.filter_map, List.filter_filter]
    congr 1
    refine List.filter_congr fun d hd => ?_
    rw [Bool.eq_iff_iff]; simp only [Bool.and_eq_true, decide_eq_true_eq, Function.comp]
    constructor
    · rintro ⟨a, b⟩
      refine ⟨fun e => b ?_, a⟩
      cases d; simp only at a e; rw [a, e]
    · rintro ⟨a, b⟩
      exact ⟨b, fun e => a (by rw [e])⟩
  · rw [if_neg c]
    unfold killsOf
    rw [List.filter_filter]
    congr 1
    refine List.filter_congr fun d hd => ?_
    rw [Bool.eq_iff_iff]; simp only [Bool.and_eq_true, decide_eq_true_eq]
    constructor
    · rintro ⟨a, _⟩; exact a
    · intro a; exact ⟨a, fun e => c (by rw [← a, e])⟩
section
variable {m : At} {q : Ps} {n : Int} {r : Rg}
theorem Rel.woundE (h : Rel m q n r) (v : Vx) : woundE m v = if endsB v = true then 2 else if hasG r v = true then 0 else 111 := by
  unfold Go.Proofs.YtolpkeajokjbjaaDoor.woundE; rw [h.has]
theorem Rel.setK {x : Ln} {v : Vx} {D : List De} (h : Rel m q n r) (hv : v ∈ m.map (·.1)) (hx : x = { atG m v with kills := killsOf D v }) (hD : ∀ u, u ≠ v → killsOf D u = killsOf r.D u) : Rel (setA m v x) q n ⟨r.L, D⟩ := by
  have hat : ∀ u, atG (setA m v x) u = { atG m u with kills := killsOf D u } := fun u => by
    rw [atG_set]
    by_cases c : v = u
    · subst c; rw [if_pos rfl, hx]
    · rw [if_neg c, hD u fun e => c e.symm, ← h.kills u]
  obtain ⟨z, z1, z2, z3, z4, z5⟩ := h.parts
  refine ⟨by rw [keys_set, if_pos hv]; exact h.keys, fun u => ?_, fun u => ?_, fun u => ?_, fun u => ?_, z, z1, z2, z3, z4, fun p hp u hu => ?_⟩
  · rw [hat]; exact h.next u
  · rw [hat]; exact h.prev u
  · rw [hat]; exact h.text u
  · rw [hat]
  · rw [hat]; exact z5 p hp u hu
theorem Rel.killE (h : Rel m q n r) (v : Vx) (b : Hs) : killE m v b = rkE r v b := by
  unfold Go.Proofs.YtolpkeajokjbjaaDoor.killE rkE
  rw [h.woundE, h.kills]
  by_cases c : endsB v = true
  · rw [if_pos c, if_pos c]; rfl
  · rw [if_neg c, if_neg c]
    cases hg : hasG r v with
    | false => rfl
    | true =>
      simp only [if_true]
      by_cases d : (⟨v, b⟩ : De) ∈ r.D
      · rw [if_neg (by decide), if_pos (kills_mem.2 d), if_neg (by decide), if_pos d]
      · rw [if_neg (by decide), if_neg (fun e => d (kills_mem.1 e)), if_neg (by decide), if_neg d]
theorem rkE_zero {v : Vx} {b : Hs} (h : rkE r v b = 0) : endsB v = false ∧ v ∈ idsG r.L ∧ (⟨v, b⟩ : De) ∉ r.D := by
  unfold rkE at h
  split at h
  · cases h
  · rename_i c
    split at h
    · cases h
    · rename_i d
      split at h
      · cases h
      · rename_i e
        have c' : endsB v = false := by simpa using c
        refine ⟨c', ?_, e⟩
        have d' : hasG r v = true := by simpa using d
        unfold hasG at d'
        rw [c'] at d'
        simpa using d'
theorem Rel.kill (h : Rel m q n r) (ho : Ok r) (v : Vx) (b : Hs) : Rel (killA m v b) q n (rkG r v b) := by
  unfold killA rkG
  rw [h.killE]
  by_cases c : rkE r v b = 0
  · rw [if_pos c, if_pos c]
    obtain ⟨h1, h2, h3⟩ := rkE_zero c
    refine h.setK ?_ ?_ fun u hu => ?_
    · exact h.keys.mem_iff.2 (List.mem_cons_of_mem _ (List.mem_cons_of_mem _ h2))
    · rw [kills_snoc, if_pos rfl, h.kills]
    · rw [kills_snoc, if_neg fun e => hu e.symm, List.append_nil]
  · rw [if_neg c, if_neg c]; exact h
theorem Ok.rkill (ho : Ok r) (v : Vx) (b : Hs) : Ok (rkG r v b) := by
  unfold rkG
  split
  · rename_i c
    obtain ⟨h1, h2, h3⟩ := rkE_zero c
    exact ⟨ho.nd, ho.ends, ho.ne, ho.inn, ho.acy, ho.end_, ho.len, fun d hd => by
      rcases List.mem_append.1 hd with e | e
      · exact ho.dv d e
      · rw [List.mem_singleton.1 e]; exact h2, nodup_snoc.2 ⟨ho.dn, h3⟩⟩
  · exact ho
theorem ukE_zero {v : Vx} {b : Hs} (h : ukE r v b = 0) : (⟨v, b⟩ : De) ∈ r.D := by
  unfold ukE at h
  split at h
  · cases h
  · split at h
    · assumption
    · cases h
theorem Rel.unkillE (h : Rel m q n r) (ho : Ok r) (v : Vx) (b : Hs) : unkillE m v b = ukE r v b := by
  unfold Go.Proofs.YtolpkeajokjbjaaDoor.unkillE ukE
  rw [h.woundE, h.kills]
  by_cases c : endsB v = true
  · rw [if_pos c, if_pos c]; rfl
  · rw [if_neg c, if_neg c]
    by_cases d : (⟨v, b⟩ : De) ∈ r.D
    · have hv : hasG r v = true := hasG_iff.2 (.inr (.inr (ho.dv _ d)))
      have hp := placeG_nn (kills_mem.2 d)
      rw [if_pos d, hv, if_pos rfl, if_neg (by decide), if_neg (by omega)]
    · have hp := placeG_neg.2 fun e => d (kills_mem.1 e)
      rw [if_neg d]
      cases hg : hasG r v with
      | false => rfl
      | true => rw [if_pos rfl, if_neg (by decide), if_pos hp]
theorem Rel.unkill (h : Rel m q n r) (ho : Ok r) (v : Vx) (b : Hs) : Rel (unkillA m v b) q n (ukG r v b) := by
  unfold unkillA ukG
  rw [h.unkillE ho]
  by_cases c : ukE r v b = 0
  · rw [if_pos c, if_pos c]
    have hd := ukE_zero c
    refine h.setK ?_ ?_ fun u hu => ?_
    · exact h.keys.mem_iff.2 (List.mem_cons_of_mem _ (List.mem_cons_of_mem _ (ho.dv _ hd)))
    · rw [kills_erase ho.dn hd, if_pos rfl, h.kills]
    · rw [kills_erase ho.dn hd, if_neg fun e => hu e.symm]
  · rw [if_neg c, if_neg c]; exact h
theorem Ok.runkill (ho : Ok r) (v : Vx) (b : Hs) : Ok (ukG r v b) := by
  unfold ukG
  split
  · exact ⟨ho.nd, ho.ends, ho.ne, ho.inn, ho.acy, ho.end_, ho.len, fun d hd => ho.dv d ((List.eraseIdx_sublist _ _).subset hd), (List.eraseIdx_sublist _ _).nodup ho.dn⟩
  · exact ho
end
/-- What a graph keeps. -/
structure St where
  ma : Nat
  mb : Nat
  n : Int
  m : At
  q : Ps
abbrev H4 (g : Nat) (s : St) : List Atom := [gC g s.ma s.mb s.n, gA s.ma s.m, gP s.mb s.q, kb]
structure StR (s : St) (r : Rg) (c : Nat) : Prop where
  rel : Rel s.m s.q s.n r
  ok : Ok r
  n0 : 0 ≤ s.n
  nc : s.n ≤ c
  dc : r.D.length ≤ c
theorem StR.mono {s : St} {r : Rg} {c d : Nat} (h : StR s r c) (hc : c ≤ d) : StR s r d := ⟨h.rel, h.ok, h.n0, by have := h.nc; omega, by have := h.dc; omega⟩
theorem StR.szl {s : St} {r : Rg} {c : Nat} (h : StR s r c) : SzL s.m 1025 := fun p hp => by
  have := h.rel.sz h.ok p.1
  unfold atG at this
  rw [mem_look (h.rel.knd h.ok) (show (p.1, p.2) ∈ s.m from hp)] at this
  exact this
theorem new_r : LCalls Tryd.prog 9 [] [kb] (fun x H' => ∃ g s, x = pt g ∧ H' = H4 g s ∧ StR s ⟨[], []⟩ 0) :=
  new_calls.mono fun x H' ⟨g, ma, mb, h1, h2⟩ => ⟨g, ⟨ma, mb, 0, stepA at0 topV botV, []⟩, h1, h2, ⟨rel0, ok0, Int.le_refl _, Int.le_refl _, Nat.le_refl _⟩⟩
end Go.Proofs.YtolpkeajokjbjaaDoor
namespace Go.Proofs.YtolpkeajokjbjaaDoor
open Go.RowKit Go.L Go.Lib
attribute [local irreducible] LL LW LO
section
variable {s : St} {r : Rg} {c : Nat}
theorem StR.mlen (hs : StR s r c) : s.m.length ≤ 514 := by have := hs.rel.mlen; have := hs.ok.len; omega
theorem add_r (g : Nat) (hs : StR s r c) (hc : c < 90000) (up down : Vx) (ids : List Vx) (ts : List (List UInt8)) (k1 k2 : Cap) (hi : ids.length < 100000) (hts : ts.length < 100000) :
    LCalls Tryd.prog 11 [pt g, .agg (vxL up), .agg (vxL down), Vxs ids k1, .sl 1 (strsL ts) k2] (H4 g s) (fun x H' => x = i64 (raddE r up down ids ts : Nat) ∧ ∃ s', H' = H4 g s' ∧ StR s' (raddG r up down ids ts) (c + 1)) := by
  have hml := hs.mlen
  have hn := hs.nc
  refine (add_calls g s.ma s.mb s.n s.m s.q up down ids ts k1 k2 (aheadG r up down) 1025 (hs.rel.alln hs.ok) (hs.rel.sz hs.ok) (by decide) (by omega) hs.n0 (by omega) hi hts (fun _ _ => by rw [hs.rel.nx]; exact hs.ok.ahead up down)).mono fun x H' ⟨h1, h2⟩ => ?_
  rw [hs.rel.addE] at h1 h2
  refine ⟨h1, ?_⟩
  by_cases e : raddE r up down ids ts = 0
  · rw [if_pos e] at h2
    have hG : raddG r up down ids ts = ⟨r.L ++ [⟨up, down, ids, ts⟩], r.D⟩ := by unfold raddG; rw [if_pos e]
    refine ⟨⟨s.ma, s.mb, s.n + 1, addM s.m (s.n + 1) up down ids ts, setA s.q (s.n + 1) ⟨up, down, ids⟩⟩, h2, hs.rel.add hs.ok hs.n0 e, hs.ok.radd up down ids ts, ?_, ?_, ?_⟩
    · show 0 ≤ s.n + 1; have := hs.n0; omega
    · show s.n + 1 ≤ ((c + 1 : Nat) : Int); omega
    · rw [hG]; have := hs.dc; show r.D.length ≤ c + 1; omega
  · rw [if_neg e] at h2
    have hG : raddG r up down ids ts = r := by unfold raddG; rw [if_neg e]
    exact ⟨s, h2, by rw [hG]; exact hs.mono (by omega)⟩
theorem drop_r (g : Nat) (hs : StR s r c) (ids : List Vx) (k1 : Cap) (hi : ids.length < 100000) :
    LCalls Tryd.prog 22 [pt g, Vxs ids k1] (H4 g s) (fun x H' => x = i64 (rdropE r ids : Nat) ∧ ∃ s', H' = H4 g s' ∧ StR s' (rdropG r ids) c) := by
  refine (drop_calls g s.ma s.mb s.n s.m s.q ids k1 1025 hs.szl (by decide) hi fun p hp => ?_).mono fun x H' ⟨h1, h2, h3⟩ => ?_
  · obtain ⟨z, z1, z2, z3, z4, z5⟩ := hs.rel.parts
    obtain ⟨p', hp', rfl⟩ := List.mem_map.1 (z2.mem_iff.1 hp)
    have haL : p'.2 ∈ r.L := by rw [z1]; exact List.mem_map.2 ⟨p', hp', rfl⟩
    show p'.2.ids.length < 100000
    have := nodup_len (hs.ok.idsOf haL) (l := idsG r.L) fun x hx => ids_mem.2 ⟨_, haL, hx⟩
    have := hs.ok.len
    omega
  · rw [hs.rel.dropE hs.ok] at h1 h2 h3
    refine ⟨h1, ?_⟩
    by_cases e : rdropE r ids = 0
    · obtain ⟨ks, k1, k2, k3⟩ := h3 e
      refine ⟨⟨s.ma, s.mb, s.n, (ks.foldl dropK (s.m, s.q)).1, (ks.foldl dropK (s.m, s.q)).2⟩, k3, hs.rel.drop hs.ok e k1 k2, hs.ok.rdrop ids, hs.n0, hs.nc, ?_⟩
      unfold rdropG
      rw [if_pos e]
      exact Nat.le_trans (List.length_filter_le _ _) hs.dc
    · have hG : rdropG r ids = r := by unfold rdropG; rw [if_neg e]
      exact ⟨s, h2 e, by rw [hG]; exact hs⟩
theorem kill_r (g : Nat) (hs : StR s r c) (hc : c < 90000) (v : Vx) (b : Hs) :
    LCalls Tryd.prog 10 [pt g, .agg (vxL v), .agg (hsL b)] (H4 g s) (fun x H' => x = i64 (rkE r v b : Nat) ∧ ∃ s', H' = H4 g s' ∧ StR s' (rkG r v b) (c + 1)) := by
  have hk := kills_len r.D v
  have hd := hs.dc
  refine (((kill_calls g s.ma s.mb s.n s.m v b (by rw [hs.rel.kills]; omega)).frame [gP s.mb s.q]).need (HSub.cons (HSub.cons (HSub.pick 1 rfl (HSub.refl _))))).give fun x H' ⟨H0, h0, h1, h2⟩ => ?_
  subst h2; subst h0
  refine ⟨H4 g ⟨s.ma, s.mb, s.n, killA s.m v b, s.q⟩, HSub.cons (HSub.cons (HSub.pick 1 rfl (HSub.refl _))), by rw [h1, hs.rel.killE], _, rfl, hs.rel.kill hs.ok v b, hs.ok.rkill v b, hs.n0, ?_, ?_⟩
  · have := hs.nc; show s.n ≤ ((c + 1 : Nat) : Int); omega
  · unfold rkG
    split
    · show (r.D ++ [_]).length ≤ c + 1
      rw [List.length_append, List.length_singleton]; omega
    · omega
theorem unkill_r (g : Nat) (hs : StR s r c) (hc : c < 90000) (v : Vx) (b : Hs) :
    LCalls Tryd.prog 24 [pt g, .agg (vxL v), .agg (hsL b)] (H4 g s) (fun x H' => x = i64 (ukE r v b : Nat) ∧ ∃ s', H' = H4 g s' ∧ StR s' (ukG r v b) c) := by
  have hk := kills_len r.D v
  have hd := hs.dc
  refine (((unkill_calls g s.ma s.mb s.n s.m v b (by rw [hs.rel.kills]; omega)).frame [gP s.mb s.q]).need (HSub.cons (HSub.cons (HSub.pick 1 rfl (HSub.refl _))))).give fun x H' ⟨H0, h0, h1, h2⟩ => ?_
  subst h2; subst h0
  refine ⟨H4 g ⟨s.ma, s.mb, s.n, unkillA s.m v b, s.q⟩, HSub.cons (HSub.cons (HSub.pick 1 rfl (HSub.refl _))), by rw [h1, hs.rel.unkillE hs.ok], _, rfl, hs.rel.unkill hs.ok v b, hs.ok.runkill v b, hs.n0, hs.nc, ?_⟩
  unfold ukG
  split
  · exact Nat.le_trans (List.length_eraseIdx_le _ _) hd
  · exact hd
theorem has_r (g : Nat) (hs : StR s r c) (v : Vx) : LCalls Tryd.prog 20 [pt g, .agg (vxL v)] [gC g s.ma s.mb s.n, gA s.ma s.m] (fun x H' => x = bl (hasG r v) ∧ H' = [gC g s.ma s.mb s.n, gA s.ma s.m]) := by
  rw [← hs.rel.has]; exact has_calls _ _ _ _ _ _
theorem ahead_r (g : Nat) (hs : StR s r c) (a b : Vx) : LCalls Tryd.prog 21 [pt g, .agg (vxL a), .agg (vxL b)] [gC g s.ma s.mb s.n, gA s.ma s.m] (fun x H' => x = bl (aheadG r a b) ∧ H' = [gC g s.ma s.mb s.n, gA s.ma s.m]) :=
  ahead_calls g s.ma s.mb s.n s.m a b (aheadG r a b) (hs.rel.alln hs.ok) (fun v => Nat.lt_of_le_of_lt (hs.rel.sz hs.ok v).1 (by decide)) (by
    rw [hs.rel.has, hs.rel.has, hs.rel.nx, hs.ok.ahead]
    exact ⟨fun e => ⟨(hs.ok.hasR e).1, (hs.ok.hasR e).2, e⟩, fun e => e.2.2⟩)
theorem len_r (g : Nat) (hs : StR s r c) : LCalls Tryd.prog 19 [pt g] [gC g s.ma s.mb s.n, gA s.ma s.m] (fun x H' => x = i64 ((idsG r.L).length : Nat) ∧ H' = [gC g s.ma s.mb s.n, gA s.ma s.m]) := by
  have hml := hs.mlen
  have := len_calls g s.ma s.mb s.n s.m (by omega)
  rw [hs.rel.mlen, show (((idsG r.L).length + 2 : Nat) : Int) - 2 = ((idsG r.L).length : Nat) by omega] at this
  exact this
end
end Go.Proofs.YtolpkeajokjbjaaDoor
namespace Go.Proofs.YtolpkeajokjbjaaDoor
open Go.RowKit Go.L Go.Lib
attribute [local irreducible] LL LW LO
theorem u8_tri (a b : UInt8) : a < b ∨ a = b ∨ b < a := by
  rcases Nat.lt_trichotomy a.toNat b.toNat with h | h | h
  · exact .inl (UInt8.lt_iff_toNat_lt.2 h)
  · exact .inr (.inl (UInt8.toNat_inj.1 h))
  · exact .inr (.inr (UInt8.lt_iff_toNat_lt.2 h))
theorem cb_eq : ∀ {x y : List UInt8}, compareBytes x y = 0 → x = y
  | [], [], _ => rfl
  | [], _ :: _, h => by simp [compareBytes] at h
  | _ :: _, [], h => by simp [compareBytes] at h
  | a :: x, b :: y, h => by
    rw [compareBytes] at h
    split at h
    · cases h
    · split at h
      · cases h
      · rename_i h1 h2
        rcases u8_tri a b with c | c | c
        · exact (h1 c).elim
        · rw [c, cb_eq h]
        · exact (h2 c).elim
theorem cb_trans : ∀ {x y z : List UInt8}, compareBytes x y < 0 → compareBytes y z < 0 → compareBytes x z < 0
  | [], [], _, h, _ => by simp [compareBytes] at h
  | [], _ :: _, [], _, h => by simp [compareBytes] at h
  | [], _ :: _, _ :: _, _, _ => by simp [compareBytes]
  | _ :: _, [], _, h, _ => by simp [compareBytes] at h
  | _ :: _, _ :: _, [], _, h => by simp [compareBytes] at h
  | a :: x, b :: y, c :: z, h, k => by
    rw [compareBytes] at h k ⊢
    rcases u8_tri a b with p | p | p
    · rcases u8_tri b c with q | q | q
      · rw [if_pos (UInt8.lt_trans p q)]; decide
      · subst q; rw [if_pos p]; decide
      · rw [if_neg (UInt8.lt_asymm q), if_pos q] at k; cases k
    · subst p
      rcases u8_tri a c with q | q | q
      · rw [if_pos q]; decide
      · subst q
        rw [if_neg (UInt8.lt_irrefl a), if_neg (UInt8.lt_irrefl a)] at h k ⊢
        exact cb_trans h k
      · rw [if_neg (UInt8.lt_asymm q), if_pos q] at k; cases k
    · rw [if_neg (UInt8.lt_asymm p), if_pos p] at h; cases h
theorem ltV_iff {a b : Vx} : ltV a b ↔ compareBytes a.p.1 b.p.1 < 0 ∨ (a.p = b.p ∧ a.n < b.n) := by
  unfold ltV cmpV
  by_cases c : compareBytes a.p.1 b.p.1 = 0
  · have hp : a.p = b.p := Subtype.ext (cb_eq c)
    rw [if_neg (fun d => d c)]
    unfold cmpI
    constructor
    · intro h
      split at h
      · exact .inr ⟨hp, by assumption⟩
      · split at h <;> omega
    · rintro (h | ⟨_, h⟩)
      · omega
      · rw [if_pos h]; decide
  · rw [if_pos c]
    constructor
    · exact .inl
    · rintro (h | ⟨h, _⟩)
      · exact h
      · exact absurd (by rw [h]; have := cmpB_anti b.p.1 b.p.1; omega) c
theorem ltV_trans {a b c : Vx} (h1 : ltV a b) (h2 : ltV b c) : ltV a c := by
  rw [ltV_iff] at *
  rcases h1 with h1 | ⟨h1, k1⟩ <;> rcases h2 with h2 | ⟨h2, k2⟩
  · exact .inl (cb_trans h1 h2)
  · rw [← h2]; exact .inl h1
  · rw [h1]; exact .inl h2
  · exact .inr ⟨h1.trans h2, by omega⟩
theorem ltV_tri (a b : Vx) : ltV a b ∨ a = b ∨ ltV b a := by
  simp only [ltV_iff]
  have := cmpB_anti a.p.1 b.p.1
  rcases Int.lt_trichotomy (compareBytes a.p.1 b.p.1) 0 with h | h | h
  · exact .inl (.inl h)
  · have hp : a.p = b.p := Subtype.ext (cb_eq h)
    rcases Int.lt_trichotomy a.n b.n with k | k | k
    · exact .inl (.inr ⟨hp, k⟩)
    · exact .inr (.inl (vx_ext hp k))
    · exact .inr (.inr (.inr ⟨hp.symm, k⟩))
  · exact .inr (.inr (.inl (by omega)))
theorem minV_spec : ∀ (l : List Vx) (a : Vx), minV a l ∈ a :: l ∧ ∀ w ∈ a :: l, w = minV a l ∨ ltV (minV a l) w
  | [], a => ⟨by simp [minV], fun w hw => .inl (List.mem_singleton.1 hw)⟩
  | x :: l, a => by
    obtain ⟨h1, h2⟩ := minV_spec l (if cmpV x a < 0 then x else a)
    rw [minV]
    by_cases c : cmpV x a < 0
    · rw [if_pos c] at h1 h2 ⊢
      refine ⟨List.mem_cons_of_mem _ h1, fun w hw => ?_⟩
      rcases List.mem_cons.1 hw with e | e
      · subst e
        rcases h2 x (by simp) with f | f
        · rw [← f]; exact .inr c
        · exact .inr (ltV_trans f c)
      · exact h2 w e
    · rw [if_neg c] at h1 h2 ⊢
      refine ⟨(List.mem_cons.1 h1).elim (fun e => by rw [e]; simp) fun e => List.mem_cons_of_mem _ (List.mem_cons_of_mem _ e), fun w hw => ?_⟩
      rcases List.mem_cons.1 hw with e | e
      · exact h2 w (by rw [e]; simp)
      · rcases List.mem_cons.1 e with f | f
        · subst f
          rcases h2 a (by simp) with g | g
          · rw [← g]
            rcases ltV_tri a w with k | k | k
            · exact .inr k
            · exact .inl k.symm
            · exact absurd k c
          · rcases ltV_tri a w with k | k | k
            · exact .inr (ltV_trans g k)
            · rw [← k]; exact .inr g
            · exact absurd k c
        · exact h2 w (List.mem_cons_of_mem _ f)
theorem minV_least {C : Vx → Prop} {a : Vx} {l : List Vx} (h : ∀ v, C v ↔ v ∈ a :: l) : Least C (minV a l) :=
  ⟨(h _).2 (minV_spec l a).1, fun w hw => (minV_spec l a).2 w ((h w).1 hw)⟩
abbrev Ee (r : Rg) : Vx → Vx → Prop := fun u v => v ∈ nxE (Er r) u
abbrev Ss (r : Rg) : Vx → Prop := fun v => v ∈ idsG r.L
def remE (r : Rg) (v : Vx) (P : List Vx) : Nat := (pvE (Er r) v).countP fun u => decide (u ∉ P)
theorem cnt_step {out : List Vx} {h : Vx} (hh : h ∉ out) : ∀ l : List Vx, l.countP (fun d => decide (d ∉ out)) = l.countP (fun d => decide (d ∉ out ++ [h])) + l.count h
  | [] => rfl
  | a :: l => by
    rw [List.countP_cons, List.countP_cons, List.count_cons, cnt_step hh l]
    by_cases c : a = h
    · subst c; simp [hh]; omega
    · have : (a ∉ out ++ [h]) ↔ a ∉ out := by simp [c]
      simp only [this, beq_eq_false_iff_ne.2 c]
      simp; omega
theorem remE_zero {r : Rg} {v : Vx} {P : List Vx} : remE r v P = 0 ↔ ∀ u, (u, v) ∈ Er r → u ∈ P := by
  unfold remE
  rw [List.countP_eq_zero]
  simp only [decide_eq_true_eq, Classical.not_not, pvE_mem]
theorem remE_le (r : Rg) (v : Vx) (P : List Vx) : remE r v P ≤ (pvE (Er r) v).length := List.countP_le_length
theorem last_snoc (o : List Vx) (v : Vx) : lastO (o ++ [v]) = v := by unfold lastO; simp
theorem snoc_ex {out : List Vx} (h : out ≠ []) : ∃ o v, out = o ++ [v] := ⟨out.dropLast, out.getLast h, (List.dropLast_concat_getLast h).symm⟩
theorem top_out (out : List Vx) : topV :: out = (topV :: out).dropLast ++ [lastO out] := by
  by_cases h : out = []
  · subst h; rfl
  · obtain ⟨o, v, rfl⟩ := snoc_ex h
    rw [last_snoc, ← List.cons_append, List.dropLast_concat]
theorem count_nodup {l : List Vx} (h : l.Nodup) (a : Vx) : l.count a = if a ∈ l then 1 else 0 := by
  by_cases c : a ∈ l
  · rw [if_pos c]
    have h1 := List.nodup_iff_count.1 h a
    have h2 := List.count_pos_iff.2 c
    omega
  · rw [if_neg c]; exact List.count_eq_zero.2 c
/-- Between two steps. -/
structure KO (r : Rg) (out : List Vx) (W : List (Vx × Int)) (R : List Vx) : Prop where
  nd : R.Nodup
  w : ∀ v ∈ topV :: botV :: idsG r.L, lookA W v = some ((remE r v (topV :: out).dropLast : Nat) : Int)
  r : ∀ y, y ∈ R ↔ y ∈ idsG r.L ∧ y ∉ out ∧ remE r y (topV :: out).dropLast = 0
/-- Within a step: of those behind the last one, B are still to be counted. -/
structure KI (r : Rg) (out B : List Vx) (W : List (Vx × Int)) (R : List Vx) : Prop where
  nd : R.Nodup
  w : ∀ v ∈ topV :: botV :: idsG r.L, lookA W v = some ((remE r v (topV :: out) + B.count v : Nat) : Int)
  r : ∀ y, y ∈ R ↔ y ∈ idsG r.L ∧ y ∉ out ∧ remE r y (topV :: out) + B.count y = 0
section
variable {r : Rg} {out : List Vx} {W : List (Vx × Int)} {R : List Vx}
theorem run_top (ho : Ok r) (hr : Run (Ee r) (Ss r) out) : (topV :: out).Nodup := List.nodup_cons.2 ⟨fun c => ho.top (hr.mem _ c), hr.nodup⟩
theorem KO.opened (k : KO r out W R) (ho : Ok r) (hr : Run (Ee r) (Ss r) out) : KI r out (nxE (Er r) (lastO out)) W R := by
  have hn := run_top ho hr
  have hto := top_out out
  have hl : lastO out ∉ (topV :: out).dropLast := by
    rw [hto] at hn
    exact (nodup_snoc.1 hn).2
  have hs : ∀ v, remE r v (topV :: out).dropLast = remE r v (topV :: out) + (nxE (Er r) (lastO out)).count v := fun v => by
    have := cnt_step hl (pvE (Er r) v)
    rw [← hto] at this
    unfold remE
    rw [this, count_nodup (pvE_nodup ho.end_ v), count_nodup (nxE_nodup ho.end_ _)]
    have : lastO out ∈ pvE (Er r) v ↔ v ∈ nxE (Er r) (lastO out) := by rw [pvE_mem, nxE_mem]
    by_cases c : lastO out ∈ pvE (Er r) v
    · rw [if_pos c, if_pos (this.1 c)]
    · rw [if_neg c, if_neg fun e => c (this.2 e)]
  exact ⟨k.nd, fun v hv => by rw [k.w v hv, hs], fun y => by rw [k.r, hs]⟩
theorem next_new (ho : Ok r) (hr : Run (Ee r) (Ss r) out) {w : Vx} (hw : w ∈ nxE (Er r) (lastO out)) : w ∉ out ∧ w ∈ topV :: botV :: idsG r.L := by
  refine ⟨fun c => ?_, ?_⟩
  · obtain ⟨i, hi⟩ := List.getElem?_of_mem c
    obtain ⟨o, v, rfl⟩ := snoc_ex (out := out) fun e => by rw [e] at c; cases c
    rw [last_snoc] at hw
    have hb := hr.before hi (hr.mem v (by simp)) hw
    have hil := (List.getElem?_eq_some_iff.1 hi).1
    rw [List.length_append, List.length_singleton] at hil
    rw [List.take_append_of_le_length (by omega)] at hb
    exact (nodup_snoc.1 hr.nodup).2 (List.mem_of_mem_take hb)
  · rcases ho.snd (nxE_mem.1 hw) with e | e
    · rw [e]; simp
    · exact List.mem_cons_of_mem _ (List.mem_cons_of_mem _ e)
theorem KI.step {w : Vx} {B : List Vx} (k : KI r out (w :: B) W R) (ho : Ok r) (hwo : w ∉ out) (hwk : w ∈ topV :: botV :: idsG r.L) (hwt : w ≠ topV) :
    lookA W w = some (((remE r w (topV :: out) + B.count w) + 1 : Nat) : Int) ∧ KI r out B (setA W w ((remE r w (topV :: out) + B.count w : Nat) : Int)) (if remE r w (topV :: out) + B.count w = 0 ∧ w ≠ botV then R ++ [w] else R) := by
  have hw := k.w w hwk
  rw [List.count_cons_self] at hw
  have hnR : w ∉ R := fun c => by
    obtain ⟨_, _, e⟩ := (k.r w).1 c
    rw [List.count_cons_self] at e
    omega
  have hcount : ∀ y, y ≠ w → (w :: B).count y = B.count y := fun y hy => List.count_cons_of_ne (Ne.symm hy)
  refine ⟨hw, ?_, fun v hv => ?_, fun y => ?_⟩
  · split
    · exact nodup_snoc.2 ⟨k.nd, hnR⟩
    · exact k.nd
  · rw [look_setA]
    by_cases c : w = v
    · subst c; rw [if_pos rfl]
    · rw [if_neg c, k.w v hv, hcount v fun e => c e.symm]
  · by_cases c : y = w
    · subst c
      have hS : y ∈ idsG r.L ↔ y ≠ botV := by
        constructor
        · intro e f; rw [f] at e; exact ho.bot e
        · intro e
          rcases List.mem_cons.1 hwk with f | f
          · exact absurd f hwt
          · rcases List.mem_cons.1 f with g | g
            · exact absurd g e
            · exact g
      rw [hS]
      split
      · rename_i e; exact ⟨fun _ => ⟨e.2, hwo, e.1⟩, fun _ => by simp⟩
      · rename_i e; exact ⟨fun c => absurd c hnR, fun c => absurd ⟨c.2.2, c.1⟩ e⟩
    · have hr2 : (y ∈ idsG r.L ∧ y ∉ out ∧ remE r y (topV :: out) + B.count y = 0) ↔ y ∈ R := by rw [k.r, hcount y c]
      rw [hr2]
      split
      · rw [List.mem_append, List.mem_singleton]; exact ⟨fun e => e.elim id fun e => absurd e c, .inl⟩
      · exact Iff.rfl
theorem KI.done (k : KI r out [] W R) (ho : Ok r) : ∀ y, y ∈ R ↔ Rdy (Ee r) (Ss r) out y := fun y => by
  rw [k.r]
  unfold Rdy
  refine and_congr_right fun hy => and_congr_right fun _ => ?_
  rw [List.count_nil, Nat.add_zero, remE_zero]
  constructor
  · intro h u hu he
    rcases List.mem_cons.1 (h u (nxE_mem.1 he)) with e | e
    · rw [e] at hu; exact absurd hu ho.top
    · exact e
  · intro h u he
    rcases ho.fst he with e | e
    · rw [e]; simp
    · exact List.mem_cons_of_mem _ (h u e (nxE_mem.2 he))
theorem KI.next (k : KI r out [] W R) {v : Vx} (hv : v ∈ R) {R2 : List Vx} (hn2 : R2.Nodup) (h2 : ∀ y, y ∈ R2 ↔ y ∈ R ∧ y ≠ v) : KO r (out ++ [v]) W R2 := by
  have hd : (topV :: (out ++ [v])).dropLast = topV :: out := by
    rw [← List.cons_append, List.dropLast_concat]
  refine ⟨hn2, fun u hu => by rw [hd, k.w u hu]; rfl, fun y => ?_⟩
  rw [hd, h2, k.r, List.mem_append, List.mem_singleton, not_or, List.count_nil, Nat.add_zero]
  constructor
  · rintro ⟨⟨a, b, c⟩, d⟩; exact ⟨a, ⟨b, d⟩, c⟩
  · rintro ⟨a, ⟨b, d⟩, c⟩; exact ⟨⟨a, b, c⟩, d⟩
theorem KO.first (ho : Ok r) (hw : ∀ v ∈ topV :: botV :: idsG r.L, lookA W v = some (((pvE (Er r) v).length : Nat) : Int)) : KO r [] W [] := by
  refine ⟨List.nodup_nil, fun v hv => ?_, fun y => ⟨(fun c => by cases c), fun ⟨a, _, c⟩ => ?_⟩⟩
  · rw [hw v hv]
    unfold remE
    simp
  · obtain ⟨u, hu⟩ := (ho.from_top y a).last
    have := remE_zero.1 c u (nxE_mem.1 hu)
    cases this
end
end Go.Proofs.YtolpkeajokjbjaaDoor
namespace Go.Proofs.YtolpkeajokjbjaaDoor
open Go.RowKit Go.L Go.Lib
attribute [local irreducible] LL LW LO LP LA
abbrev gW (b : Nat) (W : List (Vx × Int)) : Atom := .map b (mp vxV (encM iE W))
theorem gW_set (b : Nat) (W : List (Vx × Int)) (k : Vx) (n : Int) : Atom.map b (mp vxV (setM (encM iE W) k (i64 n))) = gW b (setA W k n) := congrArg (fun z => Atom.map b (mp vxV z)) (set_enc iE W k n)
theorem Is.rawvx (a : Vx) : Is (.raw (vxV a)) (.agg (vxL a)) := by
  have h : vxL a = raws (vxs1 a) := by
    unfold raws vxs1
    rw [List.map_append, List.map_map]; rfl
  rw [h]
  refine Is.raw_agg fun v hv => ?_
  rcases List.mem_append.1 hv with e | e
  · obtain ⟨x, _, rfl⟩ := List.mem_map.1 e; rfl
  · rw [List.mem_singleton.1 e]; rfl
theorem sliced0A (A : Option Nat) (off n c : Nat) : sliced (A.map fun b => (⟨b, off, none⟩ : Addr)) 0 n c 33 = .slice (A.map fun b => ⟨b, off, none⟩) n c := by
  cases A with
  | some b => exact sliced0 b off n c
  | none =>
    unfold sliced
    by_cases h : c = 0
    · rw [if_pos h]; simp
    · rw [if_neg h]; simp
theorem OwnS.cut0 {size : Nat} {es : List (List LV)} {A : Option Nat} {off n c : Nat} {xs : List LV} (h : OwnS size es A off n c xs) : OwnS size [] A off 0 c xs :=
  ⟨rfl, Nat.zero_le _, h.len, by simp, by simp, h.nil⟩
theorem flat_at {size : Nat} : ∀ {es : List (List LV)} {i : Nat} {e : List LV}, (∀ e ∈ es, e.length = size) → es[i]? = some e → (es.flatten.drop (i * size)).take size = e
  | [], i, e, _, h => by simp at h
  | a :: es, 0, e, hs, h => by
    obtain rfl := Option.some.inj (show some a = some e from h)
    rw [Nat.zero_mul, List.drop_zero, List.flatten_cons, List.take_left' (hs a (by simp))]
  | a :: es, i + 1, e, hs, h => by
    have ha := hs a (by simp)
    rw [List.flatten_cons, Nat.succ_mul, Nat.add_comm, ← List.drop_drop, List.drop_left' ha]
    exact flat_at (fun e he => hs e (List.mem_cons_of_mem _ he)) (by simpa using h)
theorem own_at {size : Nat} {es : List (List LV)} {A : Option Nat} {off n c : Nat} {xs : List LV} (h : OwnS size es A off n c xs) {i : Nat} {e : List LV} (hi : es[i]? = some e) : (xs.drop (off + i * size)).take size = e := by
  have hil := (List.getElem?_eq_some_iff.1 hi).1
  have hf := flat_at h.sz hi
  rw [← h.cells, List.drop_take, List.take_take, List.drop_drop] at hf
  have hle : i * size + size ≤ n * size := by
    rw [← Nat.succ_mul]
    exact Nat.mul_le_mul_right _ (by rw [← h.cnt]; exact hil)
  rw [Nat.min_eq_left (by omega)] at hf
  exact hf
theorem own_some {size : Nat} {es : List (List LV)} {A : Option Nat} {off n c : Nat} {xs : List LV} (h : OwnS size es A off n c xs) (hn : 0 < n) : ∃ b, A = some b := by
  cases A with
  | none => have := h.nil rfl; have := h.le; omega
  | some b => exact ⟨b, rfl⟩
theorem ownA_drop : ∀ (A : Option Nat) (te : TypeId) (xs : List LV) (R : List Atom), HSub (ownA A te xs ++ R) R
  | none, _, _, R => HSub.refl _
  | some _, _, _, R => HSub.drop (HSub.refl _)
theorem run_len {r : Rg} (ho : Ok r) {out : List Vx} (hr : Run (Ee r) (Ss r) out) : out.length ≤ (idsG r.L).length := nodup_len hr.nodup hr.mem
set_option maxHeartbeats 8000000 in
set_option maxRecDepth 100000 in
theorem order_calls (g ma mb : Nat) (n : Int) (m : At) (q : Ps) (r : Rg) (hrel : Rel m q n r) (ho : Ok r) : LCalls Tryd.prog 39 [pt g] [gC g ma mb n, gA ma m, kb] (fun x H' => ∃ out, x = Vxs out .unk ∧ H' = [gC g ma mb n, gA ma m, kb] ∧ OrdR r out) := by
  have hkn : (m.map (·.1)).Nodup := hrel.knd ho
  have hlen := ho.len
  have hsz := hrel.sz ho
  have hbl := vxL_len botV
  have hpm : ∀ (i : Nat) (p : Vx × Ln), m[i]? = some p → lookA m p.1 = some p.2 := fun i p h => mem_look hkn (List.mem_of_getElem? h)
  refine LCalls.of Tryd.func39 rfl Tryd.ntmps39 Tryd.results39 rfl (fun Rf => ?_)
  refine LW.seq ?_
  refine LW.region ?_
  refine X.u (LU.assign (Is.nil 33)) rfl ?_
  refine LL.nil (after_code ?_)
  refine LW.scope (fun i s h => by exact no_goto i s h) ?_
  refine LW.seq ?_
  refine LW.region ?_
  refine X.u (LU.assign (Is.nil 33)) rfl ?_
  refine X.u (LU.assignR Is.rfl') rfl ?_
  refine X.u (LU.assignR Is.rfl') rfl ?_
  refine LL.nil (after_code ?_)
  refine LW.seq ?_
  refine LW.region ?_
  refine X.act (LO.makeMap (st := ⟨_, _, _⟩) rfl (fun b15 => ?_))
  refine X.u (LU.assignR Is.rfl') rfl ?_
  refine LL.nil (after_code ?_)
  refine LW.seq ?_
  refine LW.seq ?_
  refine LW.region ?_
  refine X.u (LU.moveR Is.rfl') rfl ?_
  refine X.u (LU.nilCheck Is.rfl') rfl ?_
  refine X.u (LU.fieldO Tryd.underlying68 rfl Tryd.sizeOf65 (by decide) Is.rfl') rfl ?_
  refine X.u (LU.loadO 1 rfl ⟨Tryd.sizeOf65, Tryd.isAgg65⟩ Is.rfl' (Part.one rfl)) rfl ?_
  refine X.act (LO.rangeMap (st := ⟨_, _, _⟩) 2 rfl rfl Tryd.underlying65 Is.rfl' (fun b20 => ?_))
  refine LL.nil (after_code ?_)
  refine LW.block ?_
  refine X.loopK (α := List Nat × List (Vx × Int)) (fun ⟨seen, W⟩ => []) [0, 2, 3, 4, 5, 6, 20] (fun ⟨seen, W⟩ => .mapr ma b20 (mp vxV (encM lnE m)) seen :: gW b15 W :: gC g ma mb n :: kb :: Rf) (fun ⟨seen, W⟩ => (∀ i ∈ seen, i < m.length) ∧ ∀ i ∈ seen, ∀ p, m[i]? = some p → lookA W p.1 = some ((p.2.prev.length : Nat) : Int)) (fun ⟨seen, W⟩ => unseen m.length seen) (([], [])) (EnvLe.nil) (by repeat (exact HSub.refl _)) ?_ ?_
  · exact ⟨(fun i hi => by cases hi), (fun i hi => by cases hi)⟩
  · rintro ⟨seen, W⟩ hI
    obtain ⟨hsl, hsb⟩ := hI
    refine LW.seq ?_
    refine LW.region ?_
    refine X.act (LO.nextMap (st := ⟨_, _, _⟩) 0 rfl rfl Is.rfl' (fun i21 kv21 hi21 hn21 => ?_) (fun hall21 => ?_))
    · refine X.u (LU.extract Is.rfl' rfl) rfl ?_
      refine LL.nil (after_code ?_)
      refine LW.seq ?_
      refine X.condT rfl ?_ ?_
      · rfl
      refine LW.skip (after_code ?_)
      refine LW.block ?_
      refine LW.seq ?_
      obtain ⟨p, hp, rfl⟩ := ent_at hi21
      have hil2 := (List.getElem?_eq_some_iff.1 hp).1
      have hmu := unseen_lt hil2 hn21
      have hpl := vxL_len p.1
      have hp32 : p.1.p.1.length = 32 := p.1.p.2
      refine LW.region ?_
      refine X.u (LU.entryMap 0 rfl (by assumption) Is.rfl') rfl ?_
      refine X.u (LU.weak (LU.extract Is.rfl' rfl) (Is.rawvx p.1)) rfl ?_
      refine X.u (LU.extract Is.rfl' rfl) rfl ?_
      refine X.act (X.alloc rfl Tryd.zeroValue35 (by exact Cells.rawagg (by decide)) (fun b7 => ?_))
      refine X.act (X.alloc rfl Tryd.zeroValue73 (by exact Cells.rawagg (by decide)) (fun b8 => ?_))
      refine X.act (X.store 1 rfl Tryd.sizeOf35 Is.rfl' Is.rfl' (by exact Cells.agg) (by assumption) (by exact Nat.le_of_ble_eq_true rfl) ?_)
      refine X.act (X.store 1 rfl Tryd.sizeOf73 Is.rfl' Is.rfl' (by exact Cells.agg) (by (simp; done)) (by exact Nat.le_of_ble_eq_true rfl) ?_)
      refine LL.nil (after_code ?_)
      refine X.wcells (ys := lnL p.2) rfl ?_
      refine X.wghost (H' := .cells b8 73 (lnL p.2) :: .cells b7 35 (putAt (raws z35.cells.toList) 0 (vxL p.1)) :: .mapr ma b20 (mp vxV (encM lnE m)) (seen ++ [i21]) :: gW b15 W :: gC g ma mb n :: kb :: Rf) (by repeat (exact HSub.refl _)) ?_
      rw [putAt_all (by rw [hpl]; rfl)]
      refine LW.region ?_
      refine X.u (LU.moveR Is.rfl') rfl ?_
      refine X.u (LU.weak (LU.loadO 1 rfl ⟨Tryd.sizeOf35, Tryd.isAgg35⟩ Is.rfl' (Part.sub (by (simp; omega)))) (Is.of (y := .agg (vxL p.1)) (congrArg LV.agg (by rw [List.drop_zero, List.take_of_length_le (by rw [hpl]; exact Nat.le_refl _)])))) rfl ?_
      refine X.u (LU.fieldO Tryd.underlying73 rfl Tryd.sizeOf26 (by decide) Is.rfl') rfl ?_
      refine X.u (LU.loadO 0 rfl ⟨Tryd.sizeOf26, Tryd.isAgg26⟩ Is.rfl' (Part.one rfl)) rfl ?_
      refine X.u (LU.weak (LU.lenN Tryd.underlying26 Is.rfl' (by (simp only [Option.getD_some, Option.getD_none, byteEls_length, intEls_length, List.length_append, List.length_cons, List.length_nil, List.length_map, List.length_drop, List.length_take, Int.toNat_natCast]; rfl))) (Is.of (y := i64 ((p.2.prev.length : Nat) : Int)) (congrArg i64 (by rfl)))) rfl ?_
      refine X.act (LO.mapUpdate (st := ⟨_, _, _⟩) 3 (KeyOk.vx vxty) rfl Tryd.underlying87 Is.rfl' (by exact Is.vx _) Is.rfl' ?_)
      refine LL.nil (after_blk (after_rnd ?_))
      refine X.next ((seen ++ [i21], setA W p.1 ((p.2.prev.length : Nat) : Int))) rfl (EnvLe.nil) (Keeps.cons (by exact Eq.trans (b := .raw _) rfl rfl) (Keeps.cons (by exact Eq.trans (b := .sl _ _ _) rfl rfl) (Keeps.cons (by exact Eq.trans (b := .sl _ _ _) rfl rfl) (Keeps.cons (by exact Eq.trans (b := .raw _) rfl rfl) (Keeps.cons (by exact Eq.trans (b := .raw _) rfl rfl) (Keeps.cons (by exact Eq.trans (b := .raw _) rfl rfl) (Keeps.cons (by exact Eq.trans (b := .raw _) rfl rfl) (Keeps.nil)))))))) (by show L.HSub _ (.mapr ma b20 (mp vxV (encM lnE m)) (seen ++ [i21]) :: gW b15 (setA W p.1 ((p.2.prev.length : Nat) : Int)) :: gC g ma mb n :: kb :: Rf); rw [← gW_set]; exact (by repeat (first | exact HSub.refl _ | refine HSub.pick 0 rfl ?_ | refine HSub.pick 2 rfl ?_ | refine HSub.pick 3 rfl ?_ | refine HSub.drop ?_))) ?_ ?_
      · refine ⟨fun i hi => ?_, fun i hi p' hp' => ?_⟩
        · rcases List.mem_append.1 hi with h | h
          · exact hsl i h
          · rw [List.mem_singleton.1 h]; exact hil2
        · rw [look_setA]
          have h1 := hpm i p' hp'
          by_cases c : p.1 = p'.1
          · rw [if_pos c]
            have h2 := hpm _ p hp
            rw [c, h1] at h2
            rw [Option.some.inj h2]
          · rw [if_neg c]
            rcases List.mem_append.1 hi with h | h
            · exact hsb i h p' hp'
            · rw [List.mem_singleton.1 h, hp] at hp'
              exact absurd (by rw [Option.some.inj hp']) c
      · omega
    · refine X.u (LU.extract Is.rfl' rfl) rfl ?_
      refine LL.nil (after_code ?_)
      refine LW.seq ?_
      refine X.condF rfl ?_ ?_
      · rfl
      refine LW.exit (exit_code (exit_rnd (exit_blk (after_code ?_))))
      refine LW.seq ?_
      have hall : ∀ v ∈ topV :: botV :: idsG r.L, lookA W v = some (((pvE (Er r) v).length : Nat) : Int) := fun v hv => by
        obtain ⟨p, hp, rfl⟩ := List.mem_map.1 (hrel.keys.mem_iff.2 hv)
        obtain ⟨i, hi⟩ := List.getElem?_of_mem hp
        rw [hsb i (hall21 i (by rw [mp_len]; exact (List.getElem?_eq_some_iff.1 hi).1)) p hi, ← hrel.prev]
        unfold atG
        rw [hpm i p hi]; rfl
      have hKO0 := KO.first ho hall
      refine X.wghost (H' := gW b15 W :: gC g ma mb n :: gA ma m :: kb :: Rf) (HSub.trans (HSub.ranged _ _ _ _ _) (by repeat (first | exact HSub.refl _ | refine HSub.pick 1 rfl ?_))) ?_
      refine X.wweak (t := 3) (v := Vxs [] (.tok 0 0 0)) (Is.full_tok 0 0) ?_
      refine X.wghost (HSub.tail0 0 0 0 (Nat.le_refl _) _) ?_
      refine LW.region ?_
      refine X.u (LU.weak (LU.build (places := #[(0, 32), (32, 1)]) Tryd.underlying35 Tryd.zeroValue35 (ones rfl) (by intro w; simp [Tryd.sizeOf3, Tryd.sizeOf31]) Parts.nil rfl) (Is.of (y := .agg (vxL topV)) (rfl))) rfl ?_
      refine X.act (X.alloc rfl Tryd.zeroValue35 (by exact Cells.rawagg (by decide)) (fun b9 => ?_))
      refine X.act (X.store 0 rfl Tryd.sizeOf35 Is.rfl' Is.rfl' (by exact Cells.agg) (by (simp; done)) (by exact Nat.le_of_ble_eq_true rfl) ?_)
      refine LL.nil (after_code ?_)
      refine LW.seq ?_
      refine LW.label (after_code ?_)
      refine LW.seq ?_
      refine LW.block ?_
      rw [putAt_all (by rw [vxL_len]; rfl)]
      refine X.wghost (H' := .tail 0 0 0 :: gW b15 W :: .cells b9 35 (vxL topV) :: gC g ma mb n :: gA ma m :: kb :: Rf) (by repeat (first | exact HSub.refl _ | refine HSub.pick 1 rfl ?_)) ?_
      refine X.loopK (α := List Vx × List (Vx × Int) × List Vx × List Vx × Option Nat × TypeId × Nat × Nat × Nat × List LV × Option Nat × TypeId × Nat × Nat × Nat × List LV × Nat × Nat × Nat) (fun ⟨out, W0, R, Nr, An, ten, offn, nn, cn, xsn, Ar, ter, offr, nr, cr, xsr, b, o, e⟩ => [(3, Vxs out (.tok b o e)), (4, ownV Ar offr nr cr), (5, ownV An offn nn cn)]) [0, 2, 6, 9] (fun ⟨out, W0, R, Nr, An, ten, offn, nn, cn, xsn, Ar, ter, offr, nr, cr, xsr, b, o, e⟩ => .tail b o e :: gW b15 W0 :: .cells b9 35 (vxL (lastO out)) :: gC g ma mb n :: gA ma m :: kb :: (ownA An ten xsn ++ (ownA Ar ter xsr ++ Rf))) (fun ⟨out, W0, R, Nr, An, ten, offn, nn, cn, xsn, Ar, ter, offr, nr, cr, xsr, b, o, e⟩ => Run (Ee r) (Ss r) out ∧ KO r out W0 R ∧ OwnS 33 (vxs R) Ar offr nr cr xsr ∧ OwnS 33 (vxs Nr) An offn nn cn xsn) (fun ⟨out, W0, R, Nr, An, ten, offn, nn, cn, xsn, Ar, ter, offr, nr, cr, xsr, b, o, e⟩ => (idsG r.L).length - out.length) (([], W, [], [], none, 0, 0, 0, 0, [], none, 0, 0, 0, 0, [], 0, 0, 0)) (EnvLe.cons (by rfl) (EnvLe.cons (by rfl) (EnvLe.cons (by rfl) (EnvLe.nil)))) (by repeat (exact HSub.refl _)) ?_ ?_
      · exact ⟨Run.nil, hKO0, OwnS.none 33, OwnS.none 33⟩
      · rintro ⟨out, W0, R, Nr, An, ten, offn, nn, cn, xsn, Ar, ter, offr, nr, cr, xsr, b, o, e⟩ hI
        obtain ⟨hrun, hKO, owr, own⟩ := hI
        have hll := vxL_len (lastO out)
        have hl32 : (lastO out).p.1.length = 32 := (lastO out).p.2
        have hl32s : (out.getLast?.getD topV).p.1.length = 32 := (out.getLast?.getD topV).p.2
        have hol := run_len ho hrun
        have own0 : OwnS 33 (vxs []) An offn 0 cn xsn := OwnS.cut0 own
        have hnle := own.le
        obtain ⟨x, hx⟩ : ∃ x, x = atG m (lastO out) := ⟨_, rfl⟩
        have hxn : x.next = nxE (Er r) (lastO out) := by rw [hx]; exact hrel.next _
        have hxi : Is ((lookM (encM lnE m) (lastO out)).getD (.raw z73)) (lnE x) := by rw [hx]; exact at_is m _
        have hxl : x.next.length ≤ 1025 := by rw [hx]; exact (hsz _).1
        have hKI0 := hKO.opened ho hrun
        rw [← hxn] at hKI0
        refine LW.block ?_
        refine LW.seq ?_
        refine LW.region ?_
        refine X.u (LU.moveR Is.rfl') rfl ?_
        refine X.u (LU.weak (LU.sliceR (l := none) (h := some (0 : Int)) Tryd.sizeOf35 Tryd.underlying26 Is.rfl' trivial ⟨_, Is.rfl'⟩ (by simp) (by simp) (by simp) (by omega)) (Is.of (y := ownV An offn 0 cn) (congrArg LV.raw ((sliced0A An offn _ _).trans (by simp))))) rfl ?_
        refine X.u (LU.assignR Is.rfl') rfl ?_
        refine LL.nil (after_code ?_)
        refine LW.seq ?_
        refine LW.seq ?_
        refine X.drawM 9 rfl (by kernel_rfl) rfl ?_
        refine QD.u (LU.moveR Is.rfl') rfl ?_
        refine QD.u (LU.nilCheck Is.rfl') rfl ?_
        refine QD.u (LU.fieldO Tryd.underlying68 rfl Tryd.sizeOf65 (by decide) Is.rfl') rfl ?_
        refine QD.u (LU.loadO 3 rfl ⟨Tryd.sizeOf65, Tryd.isAgg65⟩ Is.rfl' (Part.one rfl)) rfl ?_
        refine QD.u (LU.loadO 2 rfl ⟨Tryd.sizeOf35, Tryd.isAgg35⟩ Is.rfl' (Part.whole (by assumption))) rfl ?_
        refine QD.u (LU.weak (LU.lookup 4 (KeyOk.vx vxty) rfl Tryd.underlying65 Tryd.zeroValue73 Is.rfl' (by exact Is.vx _)) (hxi)) rfl ?_
        refine QD.u (LU.field Tryd.underlying73 rfl ⟨Tryd.sizeOf26, Tryd.isAgg26⟩ Is.rfl' (Part.one rfl)) rfl ?_
        refine QD.u (LU.lenN Tryd.underlying26 Is.rfl' (by (simp only [Option.getD_some, Option.getD_none, byteEls_length, intEls_length, List.length_append, List.length_cons, List.length_nil, List.length_map, List.length_drop, List.length_take, Int.toNat_natCast]; rfl))) rfl ?_
        refine QD.u (LU.moveR Is.rfl') rfl ?_
        refine QD.nil ?_
        refine LL.nil (after_code ?_)
        refine LW.block ?_
        refine X.wghost (H' := gW b15 W0 :: .cells b9 35 (vxL (lastO out)) :: .tail b o e :: gC g ma mb n :: gA ma m :: kb :: (ownA An ten xsn ++ (ownA Ar ter xsr ++ Rf))) (by repeat (first | exact HSub.refl _ | refine HSub.pick 1 rfl ?_)) ?_
        refine X.loopK (α := Nat × List (Vx × Int) × List Vx × Option Nat × TypeId × Nat × Nat × Nat × List LV) (fun ⟨j, W2, R2, Ar2, ter2, offr2, nr2, cr2, xsr2⟩ => [(42, i64 j), (4, ownV Ar2 offr2 nr2 cr2)]) [0, 2, 3, 5, 6, 9, 40, 41] (fun ⟨j, W2, R2, Ar2, ter2, offr2, nr2, cr2, xsr2⟩ => gW b15 W2 :: .cells b9 35 (vxL (lastO out)) :: .tail b o e :: gC g ma mb n :: gA ma m :: kb :: (ownA An ten xsn ++ (ownA Ar2 ter2 xsr2 ++ Rf))) (fun ⟨j, W2, R2, Ar2, ter2, offr2, nr2, cr2, xsr2⟩ => j ≤ x.next.length ∧ KI r out (x.next.drop j) W2 R2 ∧ OwnS 33 (vxs R2) Ar2 offr2 nr2 cr2 xsr2) (fun ⟨j, W2, R2, Ar2, ter2, offr2, nr2, cr2, xsr2⟩ => x.next.length - j) ((0, W0, R, Ar, ter, offr, nr, cr, xsr)) (EnvLe.cons (by rfl) (EnvLe.cons (by rfl) (EnvLe.nil))) (by repeat (exact HSub.refl _)) ?_ ?_
        · exact ⟨Nat.zero_le _, hKI0, owr⟩
        · rintro ⟨j, W2, R2, Ar2, ter2, offr2, nr2, cr2, xsr2⟩ hI
          obtain ⟨hj, hKI, owr2⟩ := hI
          have hnR2 : R2.length = nr2 := by have := owr2.cnt; rwa [List.length_map] at this
          have hRl2 : R2.length ≤ 512 := Nat.le_trans (nodup_len hKI.nd fun y hy => ((hKI.r y).1 hy).1) hlen
          refine LW.seq ?_
          refine LW.region ?_
          refine X.u (LU.lss Is.rfl' Is.rfl') rfl ?_
          refine LL.nil (after_code ?_)
          refine LW.seq ?_
          refine X.cond rfl (fun h10 => ?_) (fun h10 => ?_)
          · try have h10 := of_decide_eq_true h10
            refine LW.skip (after_code ?_)
            refine LW.seq ?_
            refine LW.block ?_
            refine LW.seq ?_
            obtain ⟨w, hw⟩ := at_lt (show j < x.next.length by omega)
            have hwl := vxL_len w
            have hw32 : w.p.1.length = 32 := w.p.2
            have hwn : w ∈ nxE (Er r) (lastO out) := by rw [← hxn]; exact List.mem_of_getElem? hw
            obtain ⟨hwo, hwk⟩ := next_new ho hrun hwn
            have hwt : w ≠ topV := fun c => by rw [c] at hwn; exact ho.to_top (nxE_mem.1 hwn)
            rw [drop_at hw] at hKI
            obtain ⟨hw1, hKI2⟩ := hKI.step ho hwo hwk hwt
            have hw1l : remE r w (topV :: out) + (x.next.drop (j + 1)).count w ≤ 3000 := by
              have q1 := remE_le r w (topV :: out)
              have q2 := List.count_le_length (l := x.next.drop (j + 1)) (a := w)
              rw [List.length_drop] at q2
              have q3 := (hsz w).2
              rw [hrel.prev] at q3
              omega
            obtain ⟨w1, hw1d⟩ : ∃ w1, w1 = remE r w (topV :: out) + (x.next.drop (j + 1)).count w := ⟨_, rfl⟩
            rw [← hw1d] at hw1 hKI2 hw1l
            have hget : (lookM (encM iE W2) w).getD (.raw (.int .i64 0)) = i64 ((w1 + 1 : Nat) : Int) := by rw [look_enc, hw1]; rfl
            have hget2 : (lookM (encM iE (setA W2 w (w1 : Nat))) w).getD (.raw (.int .i64 0)) = i64 (w1 : Nat) := by rw [look_enc, look_setA, if_pos rfl]; rfl
            refine LW.region ?_
            refine X.u (LU.at Tryd.underlying26 ⟨Tryd.sizeOf35, Tryd.isAgg35⟩ Is.rfl' Is.rfl' (by omega) (vxs_at hw) (vx_ne w)) rfl ?_
            refine X.u (LU.weak (LU.load ⟨Tryd.sizeOf35, Tryd.isAgg35⟩ Is.rfl' (by assumption) (Part.whole (by assumption))) (Is.of (y := .agg (vxL w)) (rfl))) rfl ?_
            refine X.act (X.alloc rfl Tryd.zeroValue35 (by exact Cells.rawagg (by decide)) (fun b11 => ?_))
            refine X.act (X.store 0 rfl Tryd.sizeOf35 Is.rfl' Is.rfl' (by exact Cells.agg) (by assumption) (by exact Nat.le_of_ble_eq_true rfl) ?_)
            refine LL.nil (after_code ?_)
            refine LW.seq ?_
            refine X.wcells (ys := vxL w) (putAt_all (by rw [hwl]; rfl)) ?_
            refine X.wghost (H' := gW b15 W2 :: .cells b11 35 (vxL w) :: .cells b9 35 (vxL (lastO out)) :: .tail b o e :: gC g ma mb n :: gA ma m :: kb :: (ownA An ten xsn ++ (ownA Ar2 ter2 xsr2 ++ Rf))) (by repeat (first | exact HSub.refl _ | refine HSub.pick 1 rfl ?_)) ?_
            refine LW.invM (m := 6) (γ := Nat × Nat) [(0, 46), (1, 47), (2, 48), (3, 49), (4, 50), (5, 51)] (fun g_ d => match g_ with | ⟨s_, q_⟩ => match d with | 46 => .raw (.map (some b15)) | 47 => .agg (vxL w) | 48 => i64 ((w1 + 1 : Nat) : Int) | 49 => i64 (w1 : Nat) | 50 => .tup [i64 ((w1 + 1 : Nat) : Int), i64 (s_ : Nat)] | 51 => i64 (q_ : Nat) | _ => .any) (fun g_ f => match g_ with | ⟨s_, q_⟩ => cond (f 4) (.mape b15 (mp vxV (entM (encM iE W2) w (.raw (.int .i64 0)))) (entI (encM iE W2) w) (cond (f 5) q_ s_)) (gW b15 W2) :: .cells b11 35 (vxL w) :: .cells b9 35 (vxL (lastO out)) :: .tail b o e :: gC g ma mb n :: gA ma m :: kb :: (ownA An ten xsn ++ (ownA Ar2 ter2 xsr2 ++ Rf))) (0, 0) rfl (by kernel_rfl) rfl rfl ((HSub.refl _)) ?_ ?_
            · intro i hi f g_ hfi hdir hdown
              obtain ⟨s_, q_⟩ := g_
              have hc : i = 0 ∨ i = 1 ∨ i = 2 ∨ i = 3 ∨ i = 4 ∨ i = 5 := by omega
              rcases hc with rfl | rfl | rfl | rfl | rfl | rfl
              · refine ⟨_, rfl, ?_⟩
                refine A.u (LU.moveR Is.rfl') rfl ?_
                refine ⟨⟨s_, q_⟩, Weaker.mk' ?_ (HSub.refl _)⟩
                refine env_back0 (envS_hit (sl := [(0, 46), (1, 47), (2, 48), (3, 49), (4, 50), (5, 51)]) (j := 0) (d := 46) rfl (fun _ _ h => h))  (envS_next ?_)
                · intro p hp hne; simp only [List.mem_cons, List.not_mem_nil, or_false] at hp; rcases hp with rfl | rfl | rfl | rfl | rfl | rfl <;> first | exact absurd rfl hne | exact ⟨rfl, rfl⟩
              · refine ⟨_, rfl, ?_⟩
                refine A.u (LU.loadO 1 rfl ⟨Tryd.sizeOf35, Tryd.isAgg35⟩ Is.rfl' (Part.whole (by assumption))) rfl ?_
                refine ⟨⟨s_, q_⟩, Weaker.mk' ?_ (HSub.refl _)⟩
                refine env_back0 (envS_hit (sl := [(0, 46), (1, 47), (2, 48), (3, 49), (4, 50), (5, 51)]) (j := 1) (d := 47) rfl (fun _ _ h => h))  (envS_next ?_)
                · intro p hp hne; simp only [List.mem_cons, List.not_mem_nil, or_false] at hp; rcases hp with rfl | rfl | rfl | rfl | rfl | rfl <;> first | exact absurd rfl hne | exact ⟨rfl, rfl⟩
              · have d0 := hdir 0 (List.mem_of_elem_eq_true (by kernel_rfl))
                have d1 := hdir 1 (List.mem_of_elem_eq_true (by kernel_rfl))
                refine ⟨_, rfl, ?_⟩
                refine LP.weak (t := 46) (v := .raw (.map (some b15))) (envS_is (j := 0) rfl d0) ?_
                refine LP.weak (t := 47) (v := .agg (vxL w)) (envS_is (j := 1) rfl d1) ?_
                refine A.u (LU.weak (LU.lookupC 0 (KeyOk.vx vxty) rfl Tryd.underlying87 Tryd.zeroValue3 Is.rfl' (Is.vx _)) (Is.of (y := i64 ((w1 + 1 : Nat) : Int)) (hget))) rfl ?_
                refine ⟨⟨s_, q_⟩, Weaker.mk' ?_ (HSub.refl _)⟩
                refine env_back2 (envS_hit (sl := [(0, 46), (1, 47), (2, 48), (3, 49), (4, 50), (5, 51)]) (j := 2) (d := 48) rfl (fun _ _ h => h)) (envS_hit (sl := [(0, 46), (1, 47), (2, 48), (3, 49), (4, 50), (5, 51)]) (j := 1) (d := 47) rfl (fun _ _ h => h)) (envS_hit (sl := [(0, 46), (1, 47), (2, 48), (3, 49), (4, 50), (5, 51)]) (j := 0) (d := 46) rfl (fun _ _ h => h)) (envS_next ?_)
                · intro p hp hne; simp only [List.mem_cons, List.not_mem_nil, or_false] at hp; rcases hp with rfl | rfl | rfl | rfl | rfl | rfl <;> first | exact absurd rfl hne | exact ⟨rfl, rfl⟩
              · have d2 := hdir 2 (List.mem_of_elem_eq_true (by kernel_rfl))
                refine ⟨_, rfl, ?_⟩
                refine LP.weak (t := 48) (v := i64 ((w1 + 1 : Nat) : Int)) (envS_is (j := 2) rfl d2) ?_
                refine A.u (LU.weak (LU.sub Is.rfl' Is.rfl') (Is.of (y := i64 (w1 : Nat)) (congrArg i64 ((wrap_i64 (by omega) (by omega)).trans (by omega))))) rfl ?_
                refine ⟨⟨s_, q_⟩, Weaker.mk' ?_ (HSub.refl _)⟩
                refine env_back1 (envS_hit (sl := [(0, 46), (1, 47), (2, 48), (3, 49), (4, 50), (5, 51)]) (j := 3) (d := 49) rfl (fun _ _ h => h)) (envS_hit (sl := [(0, 46), (1, 47), (2, 48), (3, 49), (4, 50), (5, 51)]) (j := 2) (d := 48) rfl (fun _ _ h => h)) (envS_next ?_)
                · intro p hp hne; simp only [List.mem_cons, List.not_mem_nil, or_false] at hp; rcases hp with rfl | rfl | rfl | rfl | rfl | rfl <;> first | exact absurd rfl hne | exact ⟨rfl, rfl⟩
              · have d0 := hdir 0 (List.mem_of_elem_eq_true (by kernel_rfl))
                have d1 := hdir 1 (List.mem_of_elem_eq_true (by kernel_rfl))
                refine ⟨_, rfl, ?_⟩
                have h6 : f 5 = false := Bool.eq_false_iff.2 (fun h => by rw [hdown 5 (by omega) h 4 (List.mem_of_elem_eq_true (by kernel_rfl))] at hfi; cases hfi)
                refine LP.ghost (H' := gW b15 W2 :: .cells b11 35 (vxL w) :: .cells b9 35 (vxL (lastO out)) :: .tail b o e :: gC g ma mb n :: gA ma m :: kb :: (ownA An ten xsn ++ (ownA Ar2 ter2 xsr2 ++ Rf))) (by rw [hfi]; exact HSub.refl _) ?_
                refine LP.weak (t := 46) (v := .raw (.map (some b15))) (envS_is (j := 0) rfl d0) ?_
                refine LP.weak (t := 47) (v := .agg (vxL w)) (envS_is (j := 1) rfl d1) ?_
                refine A.act (LO.mapEntry (st := ⟨_, _, _⟩) 0 rfl (KeyOk.vx vxty) rfl Tryd.underlying87 Tryd.zeroValue3 Is.rfl' (by exact Is.vx _) (fun s50 => ?_))
                refine ⟨(s50, q_), Weaker.mk' ?_ (by show L.HSub _ (.mape b15 (mp vxV (entM (encM iE W2) w (.raw (.int .i64 0)))) (entI (encM iE W2) w) (cond (f 5) q_ s50) :: _); rw [h6]; exact HSub.refl _)⟩
                refine env_back2 (envS_hit (sl := [(0, 46), (1, 47), (2, 48), (3, 49), (4, 50), (5, 51)]) (j := 4) (d := 50) rfl (Is.of (congrArg (fun z => LV.tup [z, i64 (s50 : Nat)]) hget))) (envS_hit (sl := [(0, 46), (1, 47), (2, 48), (3, 49), (4, 50), (5, 51)]) (j := 1) (d := 47) rfl (fun _ _ h => h)) (envS_hit (sl := [(0, 46), (1, 47), (2, 48), (3, 49), (4, 50), (5, 51)]) (j := 0) (d := 46) rfl (fun _ _ h => h)) (envS_next ?_)
                · intro p hp hne; simp only [List.mem_cons, List.not_mem_nil, or_false] at hp; rcases hp with rfl | rfl | rfl | rfl | rfl | rfl <;> first | exact absurd rfl hne | exact ⟨rfl, rfl⟩
              · have d4 := hdir 4 (List.mem_of_elem_eq_true (by kernel_rfl))
                refine ⟨_, rfl, ?_⟩
                refine LP.weak (t := 50) (v := .tup [i64 ((w1 + 1 : Nat) : Int), i64 (s_ : Nat)]) (envS_is (j := 4) rfl d4) ?_
                refine A.u (LU.extract Is.rfl' rfl) rfl ?_
                refine ⟨(s_, s_), Weaker.mk' ?_ (by show L.HSub (cond (f 4) (.mape b15 (mp vxV (entM (encM iE W2) w (.raw (.int .i64 0)))) (entI (encM iE W2) w) (cond (f 5) q_ s_)) (gW b15 W2) :: _) (cond (f 4) (.mape b15 (mp vxV (entM (encM iE W2) w (.raw (.int .i64 0)))) (entI (encM iE W2) w) s_) (gW b15 W2) :: _); rw [hfi]; exact HSub.refl _)⟩
                refine env_back1 (envS_hit (sl := [(0, 46), (1, 47), (2, 48), (3, 49), (4, 50), (5, 51)]) (j := 5) (d := 51) rfl (fun _ _ h => h)) (envS_hit (sl := [(0, 46), (1, 47), (2, 48), (3, 49), (4, 50), (5, 51)]) (j := 4) (d := 50) rfl (fun _ _ h => h)) (envS_next ?_)
                · intro p hp hne; simp only [List.mem_cons, List.not_mem_nil, or_false] at hp; rcases hp with rfl | rfl | rfl | rfl | rfl | rfl <;> first | exact absurd rfl hne | exact ⟨rfl, rfl⟩
            · intro g_ f hf_
              obtain ⟨s_, q_⟩ := g_
              refine X.ghost (H' := .mape b15 (mp vxV (entM (encM iE W2) w (.raw (.int .i64 0)))) (entI (encM iE W2) w) q_ :: .cells b11 35 (vxL w) :: .cells b9 35 (vxL (lastO out)) :: .tail b o e :: gC g ma mb n :: gA ma m :: kb :: (ownA An ten xsn ++ (ownA Ar2 ter2 xsr2 ++ Rf))) (by show L.HSub (cond (f 4) (.mape b15 (mp vxV (entM (encM iE W2) w (.raw (.int .i64 0)))) (entI (encM iE W2) w) (cond (f 5) q_ s_)) _ :: _) _; rw [hf_ 4 (by omega), hf_ 5 (by omega)]; exact HSub.refl _) ?_
              refine X.act (X.entryStore 0 rfl Is.rfl' Is.rfl' Is.rfl' ?_)
              refine LL.nil (after_code ?_)
              refine LW.seq ?_
              refine X.wghost (H' := gW b15 (setA W2 w (w1 : Nat)) :: .cells b11 35 (vxL w) :: .cells b9 35 (vxL (lastO out)) :: .tail b o e :: gC g ma mb n :: gA ma m :: kb :: (ownA An ten xsn ++ (ownA Ar2 ter2 xsr2 ++ Rf))) (by rw [← gW_set]; exact (by repeat (exact HSub.refl _))) ?_
              refine LW.region ?_
              refine X.u (LU.moveR Is.rfl') rfl ?_
              refine X.u (LU.loadO 1 rfl ⟨Tryd.sizeOf35, Tryd.isAgg35⟩ Is.rfl' (Part.whole (by assumption))) rfl ?_
              refine X.u (LU.weak (LU.lookup 0 (KeyOk.vx vxty) rfl Tryd.underlying87 Tryd.zeroValue3 Is.rfl' (by exact Is.vx _)) (Is.of (y := i64 (w1 : Nat)) (hget2))) rfl ?_
              refine X.u (LU.eql Is.rfl' Is.rfl') rfl ?_
              refine X.u (LU.moveR Is.rfl') rfl ?_
              refine X.gT rfl rfl (fun hg => LU.loadO 1 rfl ⟨Tryd.sizeOf35, Tryd.isAgg35⟩ (by exact Is.rfl') (Part.whole (by assumption))) rfl ?_
              refine X.gT rfl rfl (fun hg => LU.loadK 6 rfl ⟨Tryd.sizeOf35, Tryd.isAgg35⟩ (by exact Is.rfl') (by decide) (by decide) (Part.whole (by (simp; done)))) rfl ?_
              refine X.gT rfl rfl (fun hg => LU.neqVx vxty (by exact Is.whenE hg) (by exact Is.whenE hg)) rfl ?_
              refine X.u (LU.pickAnd Is.rfl' (fun hq => (by exact Is.whenE hq)) Is.rfl') rfl ?_
              refine LL.nil (after_code ?_)
              refine X.cond rfl (fun h13 => ?_) (fun h13 => ?_)
              · have h13 : w1 = 0 ∧ w ≠ botV := by simpa using h13
                rw [if_pos h13] at hKI2
                refine LW.region ?_
                refine X.u (LU.moveR Is.rfl') rfl ?_
                refine X.u (LU.loadO 1 rfl ⟨Tryd.sizeOf35, Tryd.isAgg35⟩ Is.rfl' (Part.whole (by assumption))) rfl ?_
                refine X.u (LU.lits Tryd.underlying26 Tryd.sizeOf35 Tryd.zeroValue35 (ones rfl) rfl (by decide) (by decide) (Elems.cons Is.rfl' (by exact Cells.agg) Elems.nil) (by (simp; assumption)) rfl) rfl ?_
                refine X.act (X.appendR owr2 (hswap (ownA Ar2 ter2 xsr2) Rf ([gW b15 (setA W2 w (w1 : Nat)), .cells b11 35 (vxL w), .cells b9 35 (vxL (lastO out)), .tail b o e, gC g ma mb n, gA ma m, kb] ++ ownA An ten xsn)) rfl Tryd.underlying26 (El.of (P := Tryd.prog) (z := z35) (size := 33) (bytes := 40) rfl rfl rfl) (ones rfl) Is.rfl' Is.rfl' (SrcL.slice Tryd.underlying26 (by decide) (vxs_size [w])) (by simp) (by simp; omega) (by simp; omega) (fun b64 te64 off64 c64 xs64 ow64 => ?_))
                refine LL.ghost (H' := gW b15 (setA W2 w (w1 : Nat)) :: .cells b11 35 (vxL w) :: .cells b9 35 (vxL (lastO out)) :: .tail b o e :: gC g ma mb n :: gA ma m :: kb :: (ownA An ten xsn ++ (ownA (some b64) te64 xs64 ++ Rf))) (hpush _ Rf ([gW b15 (setA W2 w (w1 : Nat)), .cells b11 35 (vxL w), .cells b9 35 (vxL (lastO out)), .tail b o e, gC g ma mb n, gA ma m, kb] ++ ownA An ten xsn)) ?_
                refine X.u (LU.assignR Is.rfl') rfl ?_
                refine LL.nil (after_blk (after_code ?_))
                refine LW.region ?_
                refine X.u (LU.addN Is.rfl' Is.rfl' (wrap_i64 (by omega) (by omega))) rfl ?_
                refine X.u (LU.moveR Is.rfl') rfl ?_
                refine LL.nil (after_rnd ?_)
                refine X.next ((j + 1, setA W2 w (w1 : Nat), R2 ++ [w], some b64, te64, off64, nr2 + 1, c64, xs64)) rfl (EnvLe.cons (by rfl) (EnvLe.cons (by rfl) (EnvLe.nil))) (Keeps.cons (by exact Eq.trans (b := .raw _) rfl rfl) (Keeps.cons (by exact Eq.trans (b := .sl _ _ _) rfl rfl) (Keeps.cons (by exact Eq.trans (b := .sl _ _ _) rfl rfl) (Keeps.cons (by exact Eq.trans (b := .raw _) rfl rfl) (Keeps.cons (by exact Eq.trans (b := .raw _) rfl rfl) (Keeps.cons (by exact Eq.trans (b := .raw _) rfl rfl) (Keeps.cons (by exact Eq.trans (b := .sl _ _ _) rfl rfl) (Keeps.cons (by exact Eq.trans (b := .raw _) rfl rfl) (Keeps.nil))))))))) (by repeat (first | exact HSub.refl _ | refine HSub.pick 0 rfl ?_ | refine HSub.pick 1 rfl ?_ | refine HSub.drop ?_)) ?_ ?_
                · exact ⟨by omega, hKI2, by rw [← vxs_app]; exact ow64⟩
                · (simp; omega)
              · have h13 : ¬ (w1 = 0 ∧ w ≠ botV) := by simpa using h13
                rw [if_neg h13] at hKI2
                refine LW.skip (after_blk (after_code ?_))
                refine LW.region ?_
                refine X.u (LU.addN Is.rfl' Is.rfl' (wrap_i64 (by omega) (by omega))) rfl ?_
                refine X.u (LU.moveR Is.rfl') rfl ?_
                refine LL.nil (after_rnd ?_)
                refine X.next ((j + 1, setA W2 w (w1 : Nat), R2, Ar2, ter2, offr2, nr2, cr2, xsr2)) rfl (EnvLe.cons (by rfl) (EnvLe.cons (by rfl) (EnvLe.nil))) (Keeps.cons (by exact Eq.trans (b := .raw _) rfl rfl) (Keeps.cons (by exact Eq.trans (b := .sl _ _ _) rfl rfl) (Keeps.cons (by exact Eq.trans (b := .sl _ _ _) rfl rfl) (Keeps.cons (by exact Eq.trans (b := .raw _) rfl rfl) (Keeps.cons (by exact Eq.trans (b := .raw _) rfl rfl) (Keeps.cons (by exact Eq.trans (b := .raw _) rfl rfl) (Keeps.cons (by exact Eq.trans (b := .sl _ _ _) rfl rfl) (Keeps.cons (by exact Eq.trans (b := .raw _) rfl rfl) (Keeps.nil))))))))) (by repeat (first | exact HSub.refl _ | refine HSub.pick 0 rfl ?_ | refine HSub.pick 1 rfl ?_ | refine HSub.drop ?_)) ?_ ?_
                · exact ⟨by omega, hKI2, owr2⟩
                · (simp; omega)
          · try have h10 := of_decide_eq_false h10
            refine LW.exit (exit_code (exit_rnd (exit_blk (after_code ?_))))
            refine LW.seq ?_
            refine LW.seq ?_
            have hjl : j = x.next.length := by omega
            rw [hjl, List.drop_length] at hKI
            have hRdy := hKI.done ho
            refine X.wghost (H' := ownA Ar2 ter2 xsr2 ++ (gW b15 W2 :: .cells b9 35 (vxL (lastO out)) :: .tail b o e :: gC g ma mb n :: gA ma m :: kb :: (ownA An ten xsn ++ Rf))) (hswap (ownA Ar2 ter2 xsr2) Rf ([gW b15 W2, .cells b9 35 (vxL (lastO out)), .tail b o e, gC g ma mb n, gA ma m, kb] ++ ownA An ten xsn)) ?_
            refine LW.region ?_
            refine X.u (LU.moveR Is.rfl') rfl ?_
            refine X.u (LU.lenO Tryd.underlying26 Is.rfl') rfl ?_
            refine X.u (LU.moveR Is.rfl') rfl ?_
            refine LL.nil (after_code ?_)
            refine LW.block ?_
            refine X.loopK (α := Nat × List Vx × Option Nat × TypeId × Nat × Nat × Nat × List LV) (fun ⟨i, Nr2, An2, ten2, offn2, nn2, cn2, xsn2⟩ => [(68, i64 i), (5, ownV An2 offn2 nn2 cn2)]) [0, 2, 3, 4, 6, 9, 66, 67] (fun ⟨i, Nr2, An2, ten2, offn2, nn2, cn2, xsn2⟩ => ownA Ar2 ter2 xsr2 ++ (gW b15 W2 :: .cells b9 35 (vxL (lastO out)) :: .tail b o e :: gC g ma mb n :: gA ma m :: kb :: (ownA An2 ten2 xsn2 ++ Rf))) (fun ⟨i, Nr2, An2, ten2, offn2, nn2, cn2, xsn2⟩ => i ≤ R2.length ∧ Nr2 = (R2.take i).filter (fun y => decide (y ∈ x.next)) ∧ OwnS 33 (vxs Nr2) An2 offn2 nn2 cn2 xsn2) (fun ⟨i, Nr2, An2, ten2, offn2, nn2, cn2, xsn2⟩ => R2.length - i) ((0, [], An, ten, offn, 0, cn, xsn)) (EnvLe.cons (by rfl) (EnvLe.cons (by rfl) (EnvLe.nil))) (by repeat (exact HSub.refl _)) ?_ ?_
            · exact ⟨Nat.zero_le _, by simp, own0⟩
            · rintro ⟨i, Nr2, An2, ten2, offn2, nn2, cn2, xsn2⟩ hI
              obtain ⟨hi, hNr, own2⟩ := hI
              have hnN2 : Nr2.length = nn2 := by have := own2.cnt; rwa [List.length_map] at this
              have hNl2 : Nr2.length ≤ i := by
                rw [hNr]
                refine Nat.le_trans (List.length_filter_le _ _) ?_
                rw [List.length_take]; omega
              refine LW.seq ?_
              refine LW.region ?_
              refine X.u (LU.lss Is.rfl' Is.rfl') rfl ?_
              refine LL.nil (after_code ?_)
              refine LW.seq ?_
              refine X.cond rfl (fun h17 => ?_) (fun h17 => ?_)
              · try have h17 := of_decide_eq_true h17
                refine LW.skip (after_code ?_)
                refine LW.seq ?_
                refine LW.block ?_
                refine LW.seq ?_
                obtain ⟨w, hw⟩ := at_lt (show i < R2.length by omega)
                have hwl := vxL_len w
                have hw32 : w.p.1.length = 32 := w.p.2
                obtain ⟨bA, rfl⟩ := own_some owr2 (by omega)
                have hwa := own_at owr2 (show (vxs R2)[i]? = some (vxL w) by rw [List.getElem?_map, hw]; rfl)
                have howl := owr2.len
                have howle := owr2.le
                have hbd : offr2 + i * 33 + 33 ≤ xsr2.length := by omega
                refine LW.region ?_
                refine X.u (LU.atO Tryd.underlying26 Tryd.sizeOf35 Is.rfl' Is.rfl' (by omega) (by omega)) rfl ?_
                refine X.u (LU.weak (LU.loadO 0 rfl ⟨Tryd.sizeOf35, Tryd.isAgg35⟩ Is.rfl' (Part.sub (by (simp; omega)))) (Is.of (y := .agg (vxL w)) (congrArg LV.agg hwa))) rfl ?_
                refine X.act (X.alloc rfl Tryd.zeroValue35 (by exact Cells.rawagg (by decide)) (fun b13 => ?_))
                refine X.act (X.store 0 rfl Tryd.sizeOf35 Is.rfl' Is.rfl' (by exact Cells.agg) (by assumption) (by exact Nat.le_of_ble_eq_true rfl) ?_)
                refine LL.nil (after_code ?_)
                refine LW.seq ?_
                refine X.wcells (ys := vxL w) (putAt_all (by rw [hwl]; rfl)) ?_
                refine X.drawM 9 rfl (by kernel_rfl) rfl ?_
                refine QD.u (LU.moveR Is.rfl') rfl ?_
                refine QD.u (LU.nilCheck Is.rfl') rfl ?_
                refine QD.u (LU.fieldO Tryd.underlying68 rfl Tryd.sizeOf65 (by decide) Is.rfl') rfl ?_
                refine QD.u (LU.loadO 5 rfl ⟨Tryd.sizeOf65, Tryd.isAgg65⟩ Is.rfl' (Part.one rfl)) rfl ?_
                refine QD.u (LU.loadO 3 rfl ⟨Tryd.sizeOf35, Tryd.isAgg35⟩ Is.rfl' (Part.whole (by assumption))) rfl ?_
                refine QD.u (LU.weak (LU.lookup 6 (KeyOk.vx vxty) rfl Tryd.underlying65 Tryd.zeroValue73 Is.rfl' (by exact Is.vx _)) (hxi)) rfl ?_
                refine QD.u (LU.field Tryd.underlying73 rfl ⟨Tryd.sizeOf26, Tryd.isAgg26⟩ Is.rfl' (Part.one rfl)) rfl ?_
                refine QD.u (LU.loadO 0 rfl ⟨Tryd.sizeOf35, Tryd.isAgg35⟩ Is.rfl' (Part.whole (by assumption))) rfl ?_
                refine QD.u (LU.call (contains_calls x.next .unk w (by omega)) Tryd.func40 rfl rfl (Opds.cons Is.rfl' (Opds.cons Is.rfl' Opds.nil))) rfl ?_
                refine QD.nil ?_
                refine LL.nil (after_code ?_)
                refine X.cond rfl (fun h19 => ?_) (fun h19 => ?_)
                · have h19 : w ∈ x.next := by simpa using h19
                  have hz0 : (0 : Nat) = 0 := rfl
                  refine LW.region ?_
                  refine X.u (LU.moveR Is.rfl') rfl ?_
                  refine X.u (LU.loadO 0 rfl ⟨Tryd.sizeOf35, Tryd.isAgg35⟩ Is.rfl' (Part.whole (by assumption))) rfl ?_
                  refine X.u (LU.lits Tryd.underlying26 Tryd.sizeOf35 Tryd.zeroValue35 (ones rfl) rfl (by decide) (by decide) (Elems.cons Is.rfl' (by exact Cells.agg) Elems.nil) (by (simp; assumption)) rfl) rfl ?_
                  refine X.act (X.appendR own2 (hswap (ownA An2 ten2 xsn2) Rf [.cells b13 35 (vxL w), .cells bA ter2 xsr2, gW b15 W2, .cells b9 35 (vxL (lastO out)), .tail b o e, gC g ma mb n, gA ma m, kb]) rfl Tryd.underlying26 (El.of (P := Tryd.prog) (z := z35) (size := 33) (bytes := 40) rfl rfl rfl) (ones rfl) Is.rfl' Is.rfl' (SrcL.slice Tryd.underlying26 (by decide) (vxs_size [w])) (by simp) (by simp; omega) (by simp; omega) (fun b84 te84 off84 c84 xs84 ow84 => ?_))
                  refine LL.ghost (H' := .cells b13 35 (vxL w) :: .cells bA ter2 xsr2 :: gW b15 W2 :: .cells b9 35 (vxL (lastO out)) :: .tail b o e :: gC g ma mb n :: gA ma m :: kb :: (ownA (some b84) te84 xs84 ++ Rf)) (hpush _ Rf [.cells b13 35 (vxL w), .cells bA ter2 xsr2, gW b15 W2, .cells b9 35 (vxL (lastO out)), .tail b o e, gC g ma mb n, gA ma m, kb]) ?_
                  refine X.u (LU.assignR Is.rfl') rfl ?_
                  refine LL.nil (after_blk (after_code ?_))
                  refine LW.region ?_
                  refine X.u (LU.addN Is.rfl' Is.rfl' (wrap_i64 (by omega) (by omega))) rfl ?_
                  refine X.u (LU.moveR Is.rfl') rfl ?_
                  refine LL.nil (after_rnd ?_)
                  refine X.next ((i + 1, Nr2 ++ [w], some b84, te84, off84, nn2 + 1, c84, xs84)) rfl (EnvLe.cons (by rfl) (EnvLe.cons (by rfl) (EnvLe.nil))) (Keeps.cons (by exact Eq.trans (b := .raw _) rfl rfl) (Keeps.cons (by exact Eq.trans (b := .sl _ _ _) rfl rfl) (Keeps.cons (by exact Eq.trans (b := .sl _ _ _) rfl rfl) (Keeps.cons (by exact Eq.trans (b := .raw _) rfl rfl) (Keeps.cons (by exact Eq.trans (b := .raw _) rfl rfl) (Keeps.cons (by exact Eq.trans (b := .raw _) rfl rfl) (Keeps.cons (by exact Eq.trans (b := .raw _) rfl rfl) (Keeps.cons (by exact Eq.trans (b := .raw _) rfl rfl) (Keeps.nil))))))))) (by repeat (first | exact HSub.refl _ | refine HSub.pick 1 rfl ?_ | refine HSub.drop ?_)) ?_ ?_
                  · exact ⟨by omega, by rw [take_snoc hw, List.filter_append, ← hNr, List.filter_cons, if_pos (decide_eq_true h19)]; rfl, by rw [← vxs_app]; exact ow84⟩
                  · (simp; omega)
                · have h19 : w ∉ x.next := by simpa using h19
                  have hz0 : (0 : Nat) = 0 := rfl
                  refine LW.skip (after_blk (after_code ?_))
                  refine LW.region ?_
                  refine X.u (LU.addN Is.rfl' Is.rfl' (wrap_i64 (by omega) (by omega))) rfl ?_
                  refine X.u (LU.moveR Is.rfl') rfl ?_
                  refine LL.nil (after_rnd ?_)
                  refine X.next ((i + 1, Nr2, An2, ten2, offn2, nn2, cn2, xsn2)) rfl (EnvLe.cons (by rfl) (EnvLe.cons (by rfl) (EnvLe.nil))) (Keeps.cons (by exact Eq.trans (b := .raw _) rfl rfl) (Keeps.cons (by exact Eq.trans (b := .sl _ _ _) rfl rfl) (Keeps.cons (by exact Eq.trans (b := .sl _ _ _) rfl rfl) (Keeps.cons (by exact Eq.trans (b := .raw _) rfl rfl) (Keeps.cons (by exact Eq.trans (b := .raw _) rfl rfl) (Keeps.cons (by exact Eq.trans (b := .raw _) rfl rfl) (Keeps.cons (by exact Eq.trans (b := .raw _) rfl rfl) (Keeps.cons (by exact Eq.trans (b := .raw _) rfl rfl) (Keeps.nil))))))))) (by repeat (first | exact HSub.refl _ | refine HSub.pick 1 rfl ?_ | refine HSub.drop ?_)) ?_ ?_
                  · exact ⟨by omega, by rw [take_snoc hw, List.filter_append, ← hNr, List.filter_cons, if_neg (by simpa using h19)]; simp, own2⟩
                  · (simp; omega)
              · have hil : i = R2.length := by have := of_decide_eq_false h17; omega
                rw [hil, List.take_length] at hNr
                have hNea : ∀ v, Nea (Ee r) (Ss r) out v ↔ v ∈ Nr2 := fun v => by
                  unfold Nea
                  rw [hNr, List.mem_filter, decide_eq_true_eq, hRdy, hxn]
                refine LW.exit (exit_code (exit_rnd (exit_blk (after_code ?_))))
                refine X.meetK (α := Vx) (fun v => []) [0, 2, 3, 4, 5, 6, 9] (fun v => ownA Ar2 ter2 xsr2 ++ (gW b15 W2 :: .cells b9 35 (vxL v) :: .tail b o e :: gC g ma mb n :: gA ma m :: kb :: (ownA An2 ten2 xsn2 ++ Rf))) (fun v => Pick (Ee r) (Ss r) out v ∧ 0 < nr2) ?_ ?_
                · refine LW.block ?_
                  refine LW.seq ?_
                  refine LW.region ?_
                  refine X.u (LU.moveR Is.rfl') rfl ?_
                  refine X.u (LU.lenO Tryd.underlying26 Is.rfl') rfl ?_
                  refine X.u (LU.eql Is.rfl' Is.rfl') rfl ?_
                  refine X.u (LU.assignR Is.rfl') rfl ?_
                  refine LL.nil (after_code ?_)
                  refine X.cond rfl (fun h23 => ?_) (fun h23 => ?_)
                  · have h23 : nr2 = 0 := by simp at h23; omega
                    have hR0 : R2 = [] := List.eq_nil_of_length_eq_zero (by omega)
                    have hord : OrdR r out := ⟨hrun, fun v hv => by have := (hRdy v).2 hv; rw [hR0] at this; cases this⟩
                    refine LW.exit (exit_blk' rfl (exit_rnd (exit_blk' rfl (exit_rnd (exit_blk (after_code ?_))))))
                    refine LW.seq ?_
                    refine LW.region ?_
                    refine X.u (LU.moveS Is.rfl') rfl ?_
                    refine X.u (LU.assignS Is.rfl') rfl ?_
                    refine LL.nil (after_code ?_)
                    refine LW.ret (after_end ?_)
                    refine X.ret (H' := [gC g ma mb n, gA ma m, kb]) (Res.one (by exact IsS rfl)) (HSub.trans (ownA_drop Ar2 ter2 xsr2 _) (HSub.drop (HSub.drop (HSub.drop (HSub.cons (HSub.cons (HSub.cons (ownA_drop An2 ten2 xsn2 Rf)))))))) ?_
                    exact ⟨out, rfl, rfl, hord⟩
                  · have h23 : 0 < nr2 := by simp at h23; omega
                    obtain ⟨bA, rfl⟩ := own_some owr2 h23
                    have howl := owr2.len
                    have howle := owr2.le
                    have hlr : ∃ a l, R2 = a :: l := by
                      cases hq : R2 with
                      | nil => rw [hq] at hnR2; simp at hnR2; omega
                      | cons a l => exact ⟨a, l, rfl⟩
                    obtain ⟨ra, rl, hRa⟩ := hlr
                    have hrll : rl.length < 1000000 := by rw [hRa] at hRl2; simp at hRl2; omega
                    refine LW.seq ?_
                    refine LW.region ?_
                    refine X.u (LU.moveR Is.rfl') rfl ?_
                    refine X.u (LU.lenO Tryd.underlying26 Is.rfl') rfl ?_
                    refine X.u (LU.eql Is.rfl' Is.rfl') rfl ?_
                    refine X.u (LU.assignR Is.rfl') rfl ?_
                    refine LL.nil (after_code ?_)
                    refine X.cond rfl (fun h24 => ?_) (fun h24 => ?_)
                    · have h24 : nn2 = 0 := by simp at h24; omega
                      have hN0 : Nr2 = [] := List.eq_nil_of_length_eq_zero (by omega)
                      have hno : ¬ ∃ w, Nea (Ee r) (Ss r) out w := by
                        rintro ⟨w, hw⟩
                        have := (hNea w).1 hw
                        rw [hN0] at this; cases this
                      have hml := vxL_len (minV ra rl)
                      have hm32 : (minV ra rl).p.1.length = 32 := (minV ra rl).p.2
                      have hp1 : Pick (Ee r) (Ss r) out (minV ra rl) := ⟨fun c => absurd c hno, fun _ => minV_least fun v => by rw [← hRdy, hRa]⟩
                      refine LW.region ?_
                      refine X.u (LU.moveR Is.rfl') rfl ?_
                      refine X.u (LU.weak (LU.lend ((least_calls ra rl .unk hrll).isR (Is.vx _)) Tryd.func55 rfl rfl (OpdsL.cons (by exact IsL.cells (es := vxs (ra :: rl)) (size := 33) (b := bA) (off := offr2) (n := nr2) (c := cr2) 0 rfl Is.rfl' (vxs_size _) (by rw [← hRa]; exact owr2.cnt) (by omega) (by rw [← hRa]; exact owr2.cells.symm) owr2.le) OpdsL.nil)) (Is.rawvx (minV ra rl))) rfl ?_
                      refine X.act (X.store 2 rfl Tryd.sizeOf35 Is.rfl' Is.rfl' (by exact Cells.agg) (by assumption) (by (simp; omega)) ?_)
                      refine LL.nil (after_blk (after_rnd ?_))
                      refine X.meets (minV ra rl) rfl (EnvLe.nil) (Keeps.cons (by exact Eq.trans (b := .raw _) rfl rfl) (Keeps.cons (by exact Eq.trans (b := .sl _ _ _) rfl rfl) (Keeps.cons (by exact Eq.trans (b := .sl _ _ _) rfl rfl) (Keeps.cons (by exact Eq.trans (b := .raw _) rfl rfl) (Keeps.cons (by exact Eq.trans (b := .raw _) rfl rfl) (Keeps.cons (by exact Eq.trans (b := .raw _) rfl rfl) (Keeps.cons (by exact Eq.trans (b := .raw _) rfl rfl) (Keeps.nil)))))))) (by show L.HSub (.cells b9 _ (putAt (vxL (lastO out)) 0 (vxL _)) :: _) (.cells bA ter2 xsr2 :: gW b15 W2 :: .cells b9 _ _ :: _); rw [putAt_all (by rw [hll, vxL_len])]; exact (by repeat (first | exact HSub.refl _ | refine HSub.pick 1 rfl ?_))) ?_
                      exact ⟨hp1, h23⟩
                    · have h24 : 0 < nn2 := by simp at h24; omega
                      obtain ⟨bN, rfl⟩ := own_some own2 h24
                      have hownl := own2.len
                      have hownle := own2.le
                      have hln : ∃ a l, Nr2 = a :: l := by
                        cases hq : Nr2 with
                        | nil => rw [hq] at hnN2; simp at hnN2; omega
                        | cons a l => exact ⟨a, l, rfl⟩
                      obtain ⟨na, nl, hNa⟩ := hln
                      have hnll : nl.length < 1000000 := by rw [hNa] at hNl2; simp at hNl2; omega
                      have hml := vxL_len (minV na nl)
                      have hm32 : (minV na nl).p.1.length = 32 := (minV na nl).p.2
                      have hp1 : Pick (Ee r) (Ss r) out (minV na nl) := ⟨fun _ => minV_least fun v => by rw [hNea, hNa], fun c => absurd ⟨na, (hNea na).2 (by rw [hNa]; simp)⟩ c⟩
                      refine LW.region ?_
                      refine X.u (LU.moveR Is.rfl') rfl ?_
                      refine X.u (LU.weak (LU.lend ((least_calls na nl .unk hnll).isR (Is.vx _)) Tryd.func55 rfl rfl (OpdsL.cons (by exact IsL.cells (es := vxs (na :: nl)) (size := 33) (b := bN) (off := offn2) (n := nn2) (c := cn2) 7 rfl Is.rfl' (vxs_size _) (by rw [← hNa]; exact own2.cnt) (by omega) (by rw [← hNa]; exact own2.cells.symm) own2.le) OpdsL.nil)) (Is.rawvx (minV na nl))) rfl ?_
                      refine X.act (X.store 2 rfl Tryd.sizeOf35 Is.rfl' Is.rfl' (by exact Cells.agg) (by assumption) (by (simp; omega)) ?_)
                      refine LL.nil (after_blk (after_rnd ?_))
                      refine X.meets (minV na nl) rfl (EnvLe.nil) (Keeps.cons (by exact Eq.trans (b := .raw _) rfl rfl) (Keeps.cons (by exact Eq.trans (b := .sl _ _ _) rfl rfl) (Keeps.cons (by exact Eq.trans (b := .sl _ _ _) rfl rfl) (Keeps.cons (by exact Eq.trans (b := .raw _) rfl rfl) (Keeps.cons (by exact Eq.trans (b := .raw _) rfl rfl) (Keeps.cons (by exact Eq.trans (b := .raw _) rfl rfl) (Keeps.cons (by exact Eq.trans (b := .raw _) rfl rfl) (Keeps.nil)))))))) (by show L.HSub (.cells b9 _ (putAt (vxL (lastO out)) 0 (vxL _)) :: _) (.cells bA ter2 xsr2 :: gW b15 W2 :: .cells b9 _ _ :: _); rw [putAt_all (by rw [hll, vxL_len])]; exact (by repeat (first | exact HSub.refl _ | refine HSub.pick 1 rfl ?_))) ?_
                      exact ⟨hp1, h23⟩
                · rintro v hI
                  refine LW.seq ?_
                  obtain ⟨hpick, h23⟩ := hI
                  obtain ⟨bA, rfl⟩ := own_some owr2 h23
                  have howl := owr2.len
                  have howle := owr2.le
                  have hvl := vxL_len v
                  have hv32 : v.p.1.length = 32 := v.p.2
                  have hvR : v ∈ R2 := (hRdy v).2 hpick.rdy
                  have hp0 := placeG_nn hvR
                  have hpr := placeG_range R2 v
                  obtain ⟨ix, hix⟩ : ∃ ix : Nat, placeG R2 v = ix := ⟨(placeG R2 v).toNat, by omega⟩
                  have herase : R2.eraseIdx ix = R2.filter fun y => decide (y ≠ v) := by rw [← place_erase hKI.nd hp0, hix, Int.toNat_natCast]
                  have hov : out.length < (idsG r.L).length := by
                    have := run_len ho (hrun.snoc hpick)
                    rw [List.length_append, List.length_singleton] at this; omega
                  refine LW.region ?_
                  refine X.u (LU.moveR Is.rfl') rfl ?_
                  refine X.u (LU.loadO 2 rfl ⟨Tryd.sizeOf35, Tryd.isAgg35⟩ Is.rfl' (Part.whole (by assumption))) rfl ?_
                  refine X.u (LU.lend (index_calls R2 .unk v (by omega)) Tryd.func56 rfl rfl (OpdsL.cons (by exact IsL.cells (es := vxs R2) (size := 33) (b := bA) (off := offr2) (n := nr2) (c := cr2) 0 rfl Is.rfl' (vxs_size _) owr2.cnt (by omega) owr2.cells.symm owr2.le) (OpdsL.cons (by exact IsL.rfl') OpdsL.nil))) rfl ?_
                  refine X.u (LU.assignR Is.rfl') rfl ?_
                  refine LL.nil (after_code ?_)
                  refine LW.seq ?_
                  refine LW.region ?_
                  refine X.u (LU.moveR Is.rfl') rfl ?_
                  refine X.u (LU.weak (LU.moveR Is.rfl') (Is.of (y := i64 (ix : Nat)) (congrArg i64 hix))) rfl ?_
                  refine X.u (LU.moveR Is.rfl') rfl ?_
                  refine X.u (LU.weak (LU.addN Is.rfl' Is.rfl' (wrap_i64 (by omega) (by omega))) (Is.of (y := i64 ((ix + 1 : Nat) : Int)) (congrArg i64 (by rw [hix]; rfl)))) rfl ?_
                  refine X.act (X.call (delete_calls R2 bA offr2 nr2 cr2 ix ter2 xsr2 owr2 (by omega) (by omega)) Tryd.func57 rfl rfl rfl (by (refine HSub.pick 0 rfl ?_); exact HSub.refl _) (Opds.cons Is.rfl' (Opds.cons Is.rfl' (Opds.cons Is.rfl' Opds.nil))) ?_)
                  rintro r H' ⟨rfl, xsD, rfl, owD⟩
                  refine X.u (LU.assignR Is.rfl') rfl ?_
                  refine LL.nil (after_code ?_)
                  refine X.wghost (H' := .tail b o e :: gW b15 W2 :: .cells b9 35 (vxL v) :: gC g ma mb n :: gA ma m :: kb :: (ownA An2 ten2 xsn2 ++ (ownA (some bA) ter2 xsD ++ Rf))) (HSub.trans (B := [gW b15 W2, .cells b9 35 (vxL v), .tail b o e, gC g ma mb n, gA ma m, kb] ++ ownA An2 ten2 xsn2 ++ (.cells bA ter2 xsD :: Rf)) (hpush _ Rf ([gW b15 W2, .cells b9 35 (vxL v), .tail b o e, gC g ma mb n, gA ma m, kb] ++ ownA An2 ten2 xsn2)) (by repeat (first | exact HSub.refl _ | refine HSub.pick 2 rfl ?_))) ?_
                  refine LW.region ?_
                  refine X.u (LU.moveS Is.rfl') rfl ?_
                  refine X.u (LU.loadO 2 rfl ⟨Tryd.sizeOf35, Tryd.isAgg35⟩ Is.rfl' (Part.whole (by assumption))) rfl ?_
                  refine X.u (LU.lits Tryd.underlying26 Tryd.sizeOf35 Tryd.zeroValue35 (ones rfl) rfl (by decide) (by decide) (Elems.cons Is.rfl' (by exact Cells.agg) Elems.nil) (by (simp; assumption)) rfl) rfl ?_
                  refine X.act (X.append 0 rfl rfl Tryd.underlying26 (El.of (P := Tryd.prog) (z := (.agg #[(.int .u8 0), (.int .u8 0), (.int .u8 0), (.int .u8 0), (.int .u8 0), (.int .u8 0), (.int .u8 0), (.int .u8 0), (.int .u8 0), (.int .u8 0), (.int .u8 0), (.int .u8 0), (.int .u8 0), (.int .u8 0), (.int .u8 0), (.int .u8 0), (.int .u8 0), (.int .u8 0), (.int .u8 0), (.int .u8 0), (.int .u8 0), (.int .u8 0), (.int .u8 0), (.int .u8 0), (.int .u8 0), (.int .u8 0), (.int .u8 0), (.int .u8 0), (.int .u8 0), (.int .u8 0), (.int .u8 0), (.int .u8 0), (.int .i64 0)])) (size := 33) (bytes := 40) rfl rfl rfl) Is.rfl' Is.rfl' (SrcL.slice Tryd.underlying26 (by decide) (by intro e he; rw [List.mem_singleton.1 he]; exact hvl)) (by simp only [Option.getD_some, Option.getD_none, byteEls_length, intEls_length, List.length_append, List.length_cons, List.length_nil, List.length_map, List.length_drop, List.length_take, Int.toNat_natCast]; omega) (by simp only [Option.getD_some, Option.getD_none, byteEls_length, intEls_length, List.length_append, List.length_cons, List.length_nil, List.length_map, List.length_drop, List.length_take, Int.toNat_natCast]; omega) (fun b109 o109 c109 => X.weak (t := 109) (Is.of (y := Vxs (out ++ [v]) (.tok b109 o109 c109)) (congrArg (fun z => LV.sl 33 z (.tok b109 o109 c109)) (vxs_app out [v]))) ?_))
                  refine X.u (LU.assignS Is.rfl') rfl ?_
                  refine LL.nil (after_blk (after_rnd ?_))
                  refine X.next ((out ++ [v], W2, R2.eraseIdx ix, Nr2, An2, ten2, offn2, nn2, cn2, xsn2, some bA, ter2, offr2, nr2 - 1, cr2, xsD, b109, o109, c109)) rfl (EnvLe.cons (by rfl) (EnvLe.cons (by rfl) (EnvLe.cons (by rfl) (EnvLe.nil)))) (Keeps.cons (by exact Eq.trans (b := .raw _) rfl rfl) (Keeps.cons (by exact Eq.trans (b := .sl _ _ _) rfl rfl) (Keeps.cons (by exact Eq.trans (b := .raw _) rfl rfl) (Keeps.cons (by exact Eq.trans (b := .raw _) rfl rfl) (Keeps.nil))))) (by show L.HSub _ (.tail b109 o109 c109 :: gW b15 W2 :: .cells b9 35 (vxL (lastO (out ++ [v]))) :: gC g ma mb n :: gA ma m :: kb :: (ownA An2 ten2 xsn2 ++ (ownA (some bA) ter2 xsD ++ Rf))); rw [last_snoc]; exact (by repeat (exact HSub.refl _))) ?_ ?_
                  · refine ⟨hrun.snoc hpick, hKI.next hvR (by rw [herase]; exact List.filter_sublist.nodup hKI.nd) (fun y => by rw [herase, List.mem_filter, decide_eq_true_eq]), owD, own2⟩
                  · (simp; omega)
end Go.Proofs.YtolpkeajokjbjaaDoor
namespace Go.Proofs.YtolpkeajokjbjaaDoor
open Go.RowKit Go.L Go.Lib
attribute [local irreducible] LL LW LO LP LA
def rdyF (nx : Vx → List Vx) (S out : List Vx) : List Vx := S.filter fun v => decide (v ∉ out) && S.all fun u => !decide (v ∈ nx u) || decide (u ∈ out)
def ordF (nx : Vx → List Vx) (S : List Vx) : Nat → List Vx → List Vx
  | 0, out => out
  | n + 1, out => match (if ((rdyF nx S out).filter fun v => decide (v ∈ nx (lastO out))).isEmpty then rdyF nx S out else (rdyF nx S out).filter fun v => decide (v ∈ nx (lastO out))) with
    | [] => out
    | a :: l => ordF nx S n (out ++ [minV a l])
def orderG (r : Rg) : List Vx := ordF (nxE (Er r)) (idsG r.L) (idsG r.L).length []
theorem rdyF_mem {nx : Vx → List Vx} {S out : List Vx} {v : Vx} : v ∈ rdyF nx S out ↔ Rdy (fun u v => v ∈ nx u) (fun v => v ∈ S) out v := by
  unfold rdyF Rdy
  rw [List.mem_filter, Bool.and_eq_true, decide_eq_true_eq, List.all_eq_true]
  refine and_congr_right fun _ => and_congr_right fun _ => forall_congr' fun u => forall_congr' fun _ => ?_
  rw [Bool.or_eq_true, Bool.not_eq_true', decide_eq_false_iff_not, decide_eq_true_eq]
  exact ⟨fun h e => h.elim (fun c => absurd e c) id, fun h => Classical.byCases (fun e => .inr (h e)) .inl⟩
theorem ordF_ord {nx : Vx → List Vx} {S : List Vx} : ∀ (n : Nat) (out : List Vx), S.length ≤ n + out.length → Run (fun u v => v ∈ nx u) (fun v => v ∈ S) out → Ord (fun u v => v ∈ nx u) (fun v => v ∈ S) (ordF nx S n out)
  | 0, out, h, hr => show Ord _ _ out from ⟨hr, fun v hv => by
    have := nodup_len (List.nodup_cons.2 ⟨hv.2.1, hr.nodup⟩) (l := S) fun x hx => by
      rcases List.mem_cons.1 hx with e | e
      · rw [e]; exact hv.1
      · exact hr.mem x e
    rw [List.length_cons] at this
    omega⟩
  | n + 1, out, h, hr => by
    have hN : ∀ v, Nea (fun u v => v ∈ nx u) (fun v => v ∈ S) out v ↔ v ∈ (rdyF nx S out).filter fun v => decide (v ∈ nx (lastO out)) := fun v => by
      unfold Nea
      rw [List.mem_filter, rdyF_mem, decide_eq_true_eq]
    rw [ordF]
    cases hc : ((rdyF nx S out).filter fun v => decide (v ∈ nx (lastO out))) with
    | nil =>
      rw [hc] at hN
      simp only [List.isEmpty_nil, if_true]
      have hno : ¬ ∃ w, Nea (fun u v => v ∈ nx u) (fun v => v ∈ S) out w := fun ⟨w, hw⟩ => by have := (hN w).1 hw; cases this
      cases hq : rdyF nx S out with
      | nil => exact ⟨hr, fun v hv => by have := rdyF_mem.2 hv; rw [hq] at this; cases this⟩
      | cons a l => exact ordF_ord n _ (by rw [List.length_append, List.length_singleton]; omega) (hr.snoc ⟨fun c => absurd c hno, fun _ => minV_least fun v => by rw [← rdyF_mem, hq]⟩)
    | cons a l =>
      rw [hc] at hN
      rw [if_neg (by simp)]
      exact ordF_ord n _ (by rw [List.length_append, List.length_singleton]; omega) (hr.snoc ⟨fun _ => minV_least hN, fun c => absurd ⟨a, (hN a).2 (by simp)⟩ c⟩)
theorem orderG_ord (r : Rg) : OrdR r (orderG r) := ordF_ord _ [] (by simp) .nil
theorem OrdR.eq {r : Rg} {out : List Vx} (h : OrdR r out) : out = orderG r := Ord.uniq h (orderG_ord r)
structure Sh where
  v : Vx
  text : List UInt8
  kills : Nat
deriving DecidableEq
abbrev shL (x : Sh) : List LV := vxL x.v ++ [Str x.text, i64 (x.kills : Nat)]
abbrev shs (l : List Sh) : List (List LV) := l.map shL
theorem sh_len (x : Sh) : (shL x).length = 35 := by simp [x.v.p.2]
theorem sh_ne (x : Sh) : shL x ≠ [] := fun c => by have := sh_len x; rw [c] at this; cases this
theorem shs_at {l : List Sh} {i : Nat} {x : Sh} (h : l[i]? = some x) : (shs l)[(i : Int).toNat]? = some (shL x) := by
  rw [Int.toNat_natCast, List.getElem?_map, h]; rfl
theorem shs_app (a b : List Sh) : shs a ++ shs b = shs (a ++ b) := (List.map_append (f := shL) (l₁ := a) (l₂ := b)).symm
theorem sh_v (x : Sh) : ((shL x).drop 0).take 33 = vxL x.v := by rw [List.drop_zero, List.take_left' (vxL_len x.v)]
theorem sh_text (x : Sh) : (shL x)[33]? = some (Str x.text) := by
  rw [List.getElem?_append_right (by rw [vxL_len]; decide), vxL_len]; rfl
theorem sh_kills (x : Sh) : (shL x)[34]? = some (i64 (x.kills : Nat)) := by
  rw [List.getElem?_append_right (by rw [vxL_len]; decide), vxL_len]; rfl
def shG (r : Rg) (v : Vx) : Sh := ⟨v, textG r.L v, (killsOf r.D v).length⟩
def shownG (r : Rg) : List Sh := (orderG r).map (shG r)
theorem laid_sh {a zs : List LV} {b c : LV} (ha : a.length = 33) (hz : zs.length = 35) : laid (#[(0, 33), (33, 1), (34, 1)][·]?) zs [(0, a), (1, [b]), (2, [c])] = some (a ++ [b, c]) := by
  have h1 : putAt zs 0 a = a ++ zs.drop 33 := by simp [putAt, ha]
  have h2 : putAt (a ++ zs.drop 33) 33 [b] = a ++ ([b] ++ zs.drop 34) := by
    unfold putAt
    rw [List.take_left' ha, List.length_singleton, ← List.drop_drop (i := 1) (j := 33), List.drop_left' ha, List.drop_drop, List.append_assoc]
  have h3 : putAt (a ++ ([b] ++ zs.drop 34)) 34 [c] = a ++ [b, c] := by
    unfold putAt
    rw [show a ++ ([b] ++ zs.drop 34) = (a ++ [b]) ++ zs.drop 34 by simp, List.take_left' (by simp [ha]), List.drop_of_length_le (by simp [ha, hz])]
    simp
  have l1 : (a ++ zs.drop 33).length = 35 := by simp [ha, hz]
  have l2 : (a ++ ([b] ++ zs.drop 34)).length = 35 := by simp [ha, hz]
  show (bif (Nat.beq a.length 33 && Nat.ble (0 + a.length) zs.length) then laid _ (putAt zs 0 a) [(1, [b]), (2, [c])] else none) = _
  rw [ha, hz, h1]
  show (bif (Nat.beq 1 1 && Nat.ble (33 + 1) (a ++ zs.drop 33).length) then laid _ (putAt (a ++ zs.drop 33) 33 [b]) [(2, [c])] else none) = _
  rw [l1, h2]
  show (bif (Nat.beq 1 1 && Nat.ble (34 + 1) (a ++ ([b] ++ zs.drop 34)).length) then laid _ (putAt (a ++ ([b] ++ zs.drop 34)) 34 [c]) [] else none) = _
  rw [l2, h3]
  rfl
theorem order_len {r : Rg} (ho : Ok r) : (orderG r).length ≤ 512 := Nat.le_trans (run_len ho (orderG_ord r).1) ho.len
abbrev Shs (l : List Sh) (k : Cap) : LV := .sl 35 (shs l) k
set_option maxHeartbeats 2000000 in
set_option maxRecDepth 100000 in
theorem shown_calls (g ma mb : Nat) (n : Int) (m : At) (q : Ps) (r : Rg) (hrel : Rel m q n r) (ho : Ok r) (hD : r.D.length < 900000) : LCalls Tryd.prog 18 [pt g] [gC g ma mb n, gA ma m, kb] (fun x H' => x = Shs (shownG r) .unk ∧ H' = [gC g ma mb n, gA ma m, kb]) := by
  have hord := order_calls g ma mb n m q r hrel ho
  have hol := order_len ho
  have hord2 : LCalls Tryd.prog 39 [pt g] [gC g ma mb n, gA ma m, kb] (fun x H' => x = Vxs (orderG r) .unk ∧ H' = [gC g ma mb n, gA ma m, kb]) := hord.mono fun x H' ⟨out, h1, h2, h3⟩ => ⟨by rw [← h3.eq]; exact h1, h2⟩
  obtain ⟨O, hO⟩ : ∃ O, O = orderG r := ⟨_, rfl⟩
  have hS : shownG r = O.map (shG r) := by unfold shownG; rw [hO]
  rw [← hO] at hord2 hol
  rw [hS]
  refine LCalls.of Tryd.func18 rfl Tryd.ntmps18 Tryd.results18 rfl (fun Rf => ?_)
  refine LW.seq ?_
  refine LW.region ?_
  refine X.u (LU.assign (Is.nil 35)) rfl ?_
  refine LL.nil (after_code ?_)
  refine LW.seq ?_
  refine LW.seq ?_
  refine LW.region ?_
  refine X.u (LU.moveR Is.rfl') rfl ?_
  refine X.u (LU.call1 0 rfl (none_calls g ma mb n) Tryd.func33 rfl rfl (Opds.cons Is.rfl' Opds.nil)) rfl ?_
  refine LL.nil (after_code ?_)
  refine X.condF rfl ?_ ?_
  · rfl
  refine LW.skip (after_code ?_)
  refine LW.seq ?_
  refine LW.region ?_
  refine X.u (LU.assign (Is.nil 35)) rfl ?_
  refine LL.nil (after_code ?_)
  refine LW.seq ?_
  refine LW.seq ?_
  refine LW.region ?_
  refine X.u (LU.moveR Is.rfl') rfl ?_
  refine X.u (LU.callP (List.Perm.refl _) (hord2) Tryd.func39 rfl rfl (Opds.cons Is.rfl' Opds.nil)) rfl ?_
  refine X.u (LU.lenN Tryd.underlying26 Is.rfl' (by (simp only [Option.getD_some, Option.getD_none, byteEls_length, intEls_length, List.length_append, List.length_cons, List.length_nil, List.length_map, List.length_drop, List.length_take, Int.toNat_natCast]; rfl))) rfl ?_
  refine X.u (LU.moveR Is.rfl') rfl ?_
  refine LL.nil (after_code ?_)
  refine LW.block ?_
  refine X.wweak (t := 3) (v := Shs [] (.tok 0 0 0)) (Is.full_tok 0 0) ?_
  refine X.wghost (HSub.tail0 0 0 0 (Nat.le_refl _) _) ?_
  refine X.loopK (α := Nat × Nat × Nat × Nat) (fun ⟨i, b, o, c⟩ => [(12, i64 i), (3, Shs ((O.take i).map (shG r)) (.tok b o c))]) [0, 2, 10, 11] (fun ⟨i, b, o, c⟩ => .tail b o c :: gC g ma mb n :: gA ma m :: kb :: Rf) (fun ⟨i, b, o, c⟩ => i ≤ O.length) (fun ⟨i, b, o, c⟩ => O.length - i) ((0, 0, 0, 0)) (EnvLe.cons (by rfl) (EnvLe.cons (by rfl) (EnvLe.nil))) (by repeat (exact HSub.refl _)) ?_ ?_
  · exact Nat.zero_le _
  · rintro ⟨i, b, o, c⟩ hI
    refine LW.seq ?_
    refine LW.region ?_
    refine X.u (LU.lss Is.rfl' Is.rfl') rfl ?_
    refine LL.nil (after_code ?_)
    refine LW.seq ?_
    refine X.cond rfl (fun h5 => ?_) (fun h5 => ?_)
    · try have h5 := of_decide_eq_true h5
      refine LW.skip (after_code ?_)
      refine LW.seq ?_
      refine LW.block ?_
      refine LW.seq ?_
      obtain ⟨v, hv⟩ := at_lt (show i < O.length by omega)
      have hvl := vxL_len v
      have hv32 : v.p.1.length = 32 := v.p.2
      obtain ⟨x, hx⟩ : ∃ x, x = atG m v := ⟨_, rfl⟩
      have hxi : Is ((lookM (encM lnE m) v).getD (.raw z73)) (lnE x) := by rw [hx]; exact at_is m v
      have hxt : x.text = textG r.L v := by rw [hx]; exact hrel.text v
      have hxk : x.kills = killsOf r.D v := by rw [hx]; exact hrel.kills v
      have hxl : x.kills.length < 900000 := by rw [hxk]; have := kills_len r.D v; omega
      have hshl := sh_len (shG r v)
      have htk : ((O.take i).map (shG r)).length = i := by rw [List.length_map, List.length_take]; omega
      refine LW.region ?_
      refine X.u (LU.at Tryd.underlying26 ⟨Tryd.sizeOf35, Tryd.isAgg35⟩ Is.rfl' Is.rfl' (by omega) (vxs_at hv) (vx_ne v)) rfl ?_
      refine X.u (LU.weak (LU.load ⟨Tryd.sizeOf35, Tryd.isAgg35⟩ Is.rfl' (by assumption) (Part.whole (by assumption))) (Is.of (y := .agg (vxL v)) (rfl))) rfl ?_
      refine X.act (X.alloc rfl Tryd.zeroValue35 (by exact Cells.rawagg (by decide)) (fun b5 => ?_))
      refine X.act (X.store 0 rfl Tryd.sizeOf35 Is.rfl' Is.rfl' (by exact Cells.agg) (by assumption) (by exact Nat.le_of_ble_eq_true rfl) ?_)
      refine LL.nil (after_code ?_)
      refine LW.seq ?_
      refine X.wcells (ys := vxL v) (putAt_all (by rw [hvl]; rfl)) ?_
      refine LW.invM (m := 7) (γ := Nat × Nat) [(0, 16), (1, 17), (2, 18), (3, 19), (4, 20), (5, 21), (6, 6)] (fun g_ d => match g_ with | ⟨b_, z_⟩ => match d with | 16 => pt g | 17 => pt g | 18 => pt g | 19 => .raw (.map (some ma)) | 20 => .agg (vxL v) | 21 => lnE x | 6 => pt b_ | _ => .any) (fun g_ f => match g_ with | ⟨b_, z_⟩ => cond (f 6) (.cells b_ 73 (raws z73.cells.toList)) (.tail 0 0 0) :: .tail b o c :: .cells b5 35 (vxL v) :: gC g ma mb n :: gA ma m :: kb :: Rf) (0, 0) rfl (by kernel_rfl) rfl rfl ((HSub.trans (by repeat (first | exact HSub.refl _ | refine HSub.pick 1 rfl ?_)) (HSub.tail0 0 0 0 (Nat.le_refl _) _))) ?_ ?_
      · intro i hi f g_ hfi hdir hdown
        obtain ⟨b_, z_⟩ := g_
        have hc : i = 0 ∨ i = 1 ∨ i = 2 ∨ i = 3 ∨ i = 4 ∨ i = 5 ∨ i = 6 := by omega
        rcases hc with rfl | rfl | rfl | rfl | rfl | rfl | rfl
        · refine ⟨_, rfl, ?_⟩
          refine A.u (LU.moveR Is.rfl') rfl ?_
          refine ⟨⟨b_, z_⟩, Weaker.mk' ?_ (HSub.refl _)⟩
          refine env_back0 (envS_hit (sl := [(0, 16), (1, 17), (2, 18), (3, 19), (4, 20), (5, 21), (6, 6)]) (j := 0) (d := 16) rfl (fun _ _ h => h))  (envS_next ?_)
          · intro p hp hne; simp only [List.mem_cons, List.not_mem_nil, or_false] at hp; rcases hp with rfl | rfl | rfl | rfl | rfl | rfl | rfl <;> first | exact absurd rfl hne | exact ⟨rfl, rfl⟩
        · have d0 := hdir 0 (List.mem_of_elem_eq_true (by kernel_rfl))
          refine ⟨_, rfl, ?_⟩
          refine LP.weak (t := 16) (v := pt g) (envS_is (j := 0) rfl d0) ?_
          refine A.u (LU.nilCheck Is.rfl') rfl ?_
          refine ⟨⟨b_, z_⟩, Weaker.mk' ?_ (HSub.refl _)⟩
          refine env_back1 (envS_hit (sl := [(0, 16), (1, 17), (2, 18), (3, 19), (4, 20), (5, 21), (6, 6)]) (j := 1) (d := 17) rfl (fun _ _ h => h)) (envS_hit (sl := [(0, 16), (1, 17), (2, 18), (3, 19), (4, 20), (5, 21), (6, 6)]) (j := 0) (d := 16) rfl (fun _ _ h => h)) (envS_next ?_)
          · intro p hp hne; simp only [List.mem_cons, List.not_mem_nil, or_false] at hp; rcases hp with rfl | rfl | rfl | rfl | rfl | rfl | rfl <;> first | exact absurd rfl hne | exact ⟨rfl, rfl⟩
        · have d1 := hdir 1 (List.mem_of_elem_eq_true (by kernel_rfl))
          refine ⟨_, rfl, ?_⟩
          refine LP.weak (t := 17) (v := pt g) (envS_is (j := 1) rfl d1) ?_
          refine A.u (LU.fieldO Tryd.underlying68 rfl Tryd.sizeOf65 (by decide) Is.rfl') rfl ?_
          refine ⟨⟨b_, z_⟩, Weaker.mk' ?_ (HSub.refl _)⟩
          refine env_back1 (envS_hit (sl := [(0, 16), (1, 17), (2, 18), (3, 19), (4, 20), (5, 21), (6, 6)]) (j := 2) (d := 18) rfl (fun _ _ h => h)) (envS_hit (sl := [(0, 16), (1, 17), (2, 18), (3, 19), (4, 20), (5, 21), (6, 6)]) (j := 1) (d := 17) rfl (fun _ _ h => h)) (envS_next ?_)
          · intro p hp hne; simp only [List.mem_cons, List.not_mem_nil, or_false] at hp; rcases hp with rfl | rfl | rfl | rfl | rfl | rfl | rfl <;> first | exact absurd rfl hne | exact ⟨rfl, rfl⟩
        · have d2 := hdir 2 (List.mem_of_elem_eq_true (by kernel_rfl))
          refine ⟨_, rfl, ?_⟩
          refine LP.weak (t := 18) (v := pt g) (envS_is (j := 2) rfl d2) ?_
          refine A.u (LU.loadO 3 rfl ⟨Tryd.sizeOf65, Tryd.isAgg65⟩ Is.rfl' (Part.one rfl)) rfl ?_
          refine ⟨⟨b_, z_⟩, Weaker.mk' ?_ (HSub.refl _)⟩
          refine env_back1 (envS_hit (sl := [(0, 16), (1, 17), (2, 18), (3, 19), (4, 20), (5, 21), (6, 6)]) (j := 3) (d := 19) rfl (fun _ _ h => h)) (envS_hit (sl := [(0, 16), (1, 17), (2, 18), (3, 19), (4, 20), (5, 21), (6, 6)]) (j := 2) (d := 18) rfl (fun _ _ h => h)) (envS_next ?_)
          · intro p hp hne; simp only [List.mem_cons, List.not_mem_nil, or_false] at hp; rcases hp with rfl | rfl | rfl | rfl | rfl | rfl | rfl <;> first | exact absurd rfl hne | exact ⟨rfl, rfl⟩
        · refine ⟨_, rfl, ?_⟩
          refine A.u (LU.loadO 2 rfl ⟨Tryd.sizeOf35, Tryd.isAgg35⟩ Is.rfl' (Part.whole (by assumption))) rfl ?_
          refine ⟨⟨b_, z_⟩, Weaker.mk' ?_ (HSub.refl _)⟩
          refine env_back0 (envS_hit (sl := [(0, 16), (1, 17), (2, 18), (3, 19), (4, 20), (5, 21), (6, 6)]) (j := 4) (d := 20) rfl (fun _ _ h => h))  (envS_next ?_)
          · intro p hp hne; simp only [List.mem_cons, List.not_mem_nil, or_false] at hp; rcases hp with rfl | rfl | rfl | rfl | rfl | rfl | rfl <;> first | exact absurd rfl hne | exact ⟨rfl, rfl⟩
        · have d3 := hdir 3 (List.mem_of_elem_eq_true (by kernel_rfl))
          have d4 := hdir 4 (List.mem_of_elem_eq_true (by kernel_rfl))
          refine ⟨_, rfl, ?_⟩
          refine LP.weak (t := 19) (v := .raw (.map (some ma))) (envS_is (j := 3) rfl d3) ?_
          refine LP.weak (t := 20) (v := .agg (vxL v)) (envS_is (j := 4) rfl d4) ?_
          refine A.u (LU.weak (LU.lookup 4 (KeyOk.vx vxty) rfl Tryd.underlying65 Tryd.zeroValue73 Is.rfl' (by exact Is.vx _)) (hxi)) rfl ?_
          refine ⟨⟨b_, z_⟩, Weaker.mk' ?_ (HSub.refl _)⟩
          refine env_back2 (envS_hit (sl := [(0, 16), (1, 17), (2, 18), (3, 19), (4, 20), (5, 21), (6, 6)]) (j := 5) (d := 21) rfl (fun _ _ h => h)) (envS_hit (sl := [(0, 16), (1, 17), (2, 18), (3, 19), (4, 20), (5, 21), (6, 6)]) (j := 4) (d := 20) rfl (fun _ _ h => h)) (envS_hit (sl := [(0, 16), (1, 17), (2, 18), (3, 19), (4, 20), (5, 21), (6, 6)]) (j := 3) (d := 19) rfl (fun _ _ h => h)) (envS_next ?_)
          · intro p hp hne; simp only [List.mem_cons, List.not_mem_nil, or_false] at hp; rcases hp with rfl | rfl | rfl | rfl | rfl | rfl | rfl <;> first | exact absurd rfl hne | exact ⟨rfl, rfl⟩
        · refine ⟨_, rfl, ?_⟩
          refine A.act (X.alloc rfl Tryd.zeroValue73 (by exact Cells.rawagg (by decide)) (fun b6 => ?_))
          refine ⟨(b6, 0), Weaker.mk' ?_ (by show L.HSub (_ :: cond (f 6) _ (.tail 0 0 0) :: _) _; rw [hfi]; exact HSub.cons (HSub.drop (HSub.refl _)))⟩
          refine env_back0 (envS_hit (sl := [(0, 16), (1, 17), (2, 18), (3, 19), (4, 20), (5, 21), (6, 6)]) (j := 6) (d := 6) rfl (fun _ _ h => h))  (envS_next ?_)
          · intro p hp hne; simp only [List.mem_cons, List.not_mem_nil, or_false] at hp; rcases hp with rfl | rfl | rfl | rfl | rfl | rfl | rfl <;> first | exact absurd rfl hne | exact ⟨rfl, rfl⟩
      · intro g_ f hf_
        obtain ⟨b_, z_⟩ := g_
        refine X.ghost (H' := .cells b_ 73 (raws z73.cells.toList) :: .tail b o c :: .cells b5 35 (vxL v) :: gC g ma mb n :: gA ma m :: kb :: Rf) (by show L.HSub (cond (f 6) _ (.tail 0 0 0) :: _) _; rw [hf_ 6 (by omega)]; exact HSub.refl _) ?_
        refine X.act (X.store 0 rfl Tryd.sizeOf73 Is.rfl' Is.rfl' (by exact Cells.agg) (by (simp; done)) (by exact Nat.le_of_ble_eq_true rfl) ?_)
        refine LL.nil (after_code ?_)
        refine X.wcells (ys := lnL x) rfl ?_
        refine X.wghost (H' := .tail b o c :: .cells b_ 73 (lnL x) :: .cells b5 35 (vxL v) :: gC g ma mb n :: gA ma m :: kb :: Rf) (by repeat (first | exact HSub.refl _ | refine HSub.pick 1 rfl ?_)) ?_
        refine LW.region ?_
        refine X.u (LU.moveS Is.rfl') rfl ?_
        refine X.u (LU.loadO 2 rfl ⟨Tryd.sizeOf35, Tryd.isAgg35⟩ Is.rfl' (Part.whole (by assumption))) rfl ?_
        refine X.u (LU.fieldO Tryd.underlying73 rfl Tryd.sizeOf9 (by decide) Is.rfl') rfl ?_
        refine X.u (LU.loadO 1 rfl ⟨Tryd.sizeOf9, Tryd.isAgg9⟩ Is.rfl' (Part.one rfl)) rfl ?_
        refine X.u (LU.fieldO Tryd.underlying73 rfl Tryd.sizeOf71 (by decide) Is.rfl') rfl ?_
        refine X.u (LU.loadO 1 rfl ⟨Tryd.sizeOf71, Tryd.isAgg71⟩ Is.rfl' (Part.one rfl)) rfl ?_
        refine X.u (LU.weak (LU.lenN Tryd.underlying71 Is.rfl' (by (simp only [Option.getD_some, Option.getD_none, byteEls_length, intEls_length, List.length_append, List.length_cons, List.length_nil, List.length_map, List.length_drop, List.length_take, Int.toNat_natCast]; rfl))) (Is.of (y := i64 ((killsOf r.D v).length : Nat)) (congrArg i64 (by rw [← hxk]; try first | rfl | simp)))) rfl ?_
        refine X.u (LU.weak (LU.build (places := #[(0, 33), (33, 1), (34, 1)]) Tryd.underlying49 Tryd.zeroValue49 (ones rfl) (by intro w; simp [Tryd.sizeOf3, Tryd.sizeOf35, Tryd.sizeOf9]) (Parts.cons Is.rfl' (by exact Cells.agg) (Parts.cons Is.rfl' (by exact Cells.raw rfl) (Parts.cons Is.rfl' (by exact Cells.raw rfl) Parts.nil))) (laid_sh hvl rfl)) (Is.of (y := .agg (shL (shG r v))) (congrArg LV.agg (by rw [hxt]; rfl)))) rfl ?_
        refine X.u (LU.lits Tryd.underlying45 Tryd.sizeOf49 Tryd.zeroValue49 (ones rfl) rfl (by decide) (by decide) (Elems.cons Is.rfl' (by exact Cells.agg) Elems.nil) (by (simp; assumption)) rfl) rfl ?_
        refine X.act (X.append 0 rfl rfl Tryd.underlying45 (El.of (P := Tryd.prog) (z := (.agg #[(.int .u8 0), (.int .u8 0), (.int .u8 0), (.int .u8 0), (.int .u8 0), (.int .u8 0), (.int .u8 0), (.int .u8 0), (.int .u8 0), (.int .u8 0), (.int .u8 0), (.int .u8 0), (.int .u8 0), (.int .u8 0), (.int .u8 0), (.int .u8 0), (.int .u8 0), (.int .u8 0), (.int .u8 0), (.int .u8 0), (.int .u8 0), (.int .u8 0), (.int .u8 0), (.int .u8 0), (.int .u8 0), (.int .u8 0), (.int .u8 0), (.int .u8 0), (.int .u8 0), (.int .u8 0), (.int .u8 0), (.int .u8 0), (.int .i64 0), (.string ByteArray.empty), (.int .i64 0)])) (size := 35) (bytes := 64) rfl rfl rfl) Is.rfl' Is.rfl' (SrcL.slice Tryd.underlying45 (by decide) (by intro e he; rw [List.mem_singleton.1 he]; exact sh_len _)) (by simp only [Option.getD_some, Option.getD_none, byteEls_length, intEls_length, List.length_append, List.length_cons, List.length_nil, List.length_map, List.length_drop, List.length_take, Int.toNat_natCast]; omega) (by simp only [Option.getD_some, Option.getD_none, byteEls_length, intEls_length, List.length_append, List.length_cons, List.length_nil, List.length_map, List.length_drop, List.length_take, Int.toNat_natCast]; omega) (fun b31 o31 c31 => X.weak (t := 31) (Is.of (y := Shs ((O.take (i + 1)).map (shG r)) (.tok b31 o31 c31)) (congrArg (fun z => LV.sl 35 z (.tok b31 o31 c31)) (by rw [take_snoc hv, List.map_append]; exact shs_app _ [shG r v]))) ?_))
        refine X.u (LU.assignS Is.rfl') rfl ?_
        refine LL.nil (after_blk (after_code ?_))
        refine LW.region ?_
        refine X.u (LU.addN Is.rfl' Is.rfl' (wrap_i64 (by omega) (by omega))) rfl ?_
        refine X.u (LU.moveR Is.rfl') rfl ?_
        refine LL.nil (after_rnd ?_)
        refine X.next ((i + 1, b31, o31, c31)) rfl (EnvLe.cons (by rfl) (EnvLe.cons (by rfl) (EnvLe.nil))) (Keeps.cons (by exact Eq.trans (b := .raw _) rfl rfl) (Keeps.cons (by exact Eq.trans (b := .sl _ _ _) rfl rfl) (Keeps.cons (by exact Eq.trans (b := .sl _ _ _) rfl rfl) (Keeps.cons (by exact Eq.trans (b := .raw _) rfl rfl) (Keeps.nil))))) (by repeat (first | exact HSub.refl _ | refine HSub.pick 0 rfl ?_ | refine HSub.pick 2 rfl ?_ | refine HSub.drop ?_)) ?_ ?_
        · omega
        · (simp; omega)
    · try have h5 := of_decide_eq_false h5
      refine LW.exit (exit_code (exit_rnd (exit_blk (after_code ?_))))
      refine LW.seq ?_
      refine LW.region ?_
      refine X.u (LU.moveS Is.rfl') rfl ?_
      refine X.u (LU.assignS Is.rfl') rfl ?_
      refine LL.nil (after_code ?_)
      refine LW.ret (after_end ?_)
      refine X.ret (H' := [gC g ma mb n, gA ma m, kb]) (Res.one (by exact IsS rfl)) (by repeat (first | exact HSub.refl _ | refine HSub.pick 1 rfl ?_ | refine HSub.drop ?_)) ?_
      exact ⟨by rw [List.take_of_length_le (by omega)], rfl⟩
end Go.Proofs.YtolpkeajokjbjaaDoor
namespace Go.Proofs.YtolpkeajokjbjaaDoor
open Go.RowKit Go.L Go.Lib
attribute [local irreducible] LL LW LO
def livF (l : List Sh) : List Sh := l.filter fun x => decide (x.kills = 0)
def textsG (r : Rg) : List (List UInt8) := (livF (shownG r)).map (·.text)
def liveG (r : Rg) : List Vx := (livF (shownG r)).map (·.v)
def conF (ah : Vx → Vx → Bool) : List Vx → Nat
  | [] => 0
  | v :: l => (l.filter fun w => !ah v w).length + conF ah l
def conflG (r : Rg) : Nat := conF (aheadG r) (liveG r)
theorem livF_snoc (l : List Sh) (x : Sh) : livF (l ++ [x]) = livF l ++ if x.kills = 0 then [x] else [] := by
  unfold livF
  rw [List.filter_append]
  congr 1
  by_cases c : x.kills = 0
  · simp [c]
  · simp [c]
theorem livF_len (l : List Sh) : (livF l).length ≤ l.length := List.length_filter_le _ _
theorem shown_len {r : Rg} (ho : Ok r) : (shownG r).length ≤ 512 := by unfold shownG; rw [List.length_map]; exact order_len ho
set_option maxHeartbeats 2000000 in
set_option maxRecDepth 100000 in
theorem text_calls (g ma mb : Nat) (n : Int) (m : At) (q : Ps) (r : Rg) (hrel : Rel m q n r) (ho : Ok r) (hD : r.D.length < 900000) : LCalls Tryd.prog 13 [pt g] [gC g ma mb n, gA ma m, kb] (fun x H' => x = .sl 1 (strsL (textsG r)) .unk ∧ H' = [gC g ma mb n, gA ma m, kb]) := by
  have hsc := shown_calls g ma mb n m q r hrel ho hD
  have hol := shown_len ho
  obtain ⟨O, hO⟩ : ∃ O, O = shownG r := ⟨_, rfl⟩
  have hS : textsG r = (livF O).map (·.text) := by unfold textsG; rw [hO]
  rw [← hO] at hsc hol
  rw [hS]
  refine LCalls.of Tryd.func13 rfl Tryd.ntmps13 Tryd.results13 rfl (fun Rf => ?_)
  refine LW.seq ?_
  refine LW.region ?_
  refine X.u (LU.assign (Is.nil 1)) rfl ?_
  refine LL.nil (after_code ?_)
  refine LW.seq ?_
  refine LW.region ?_
  refine X.u (LU.assign (Is.nil 1)) rfl ?_
  refine LL.nil (after_code ?_)
  refine LW.seq ?_
  refine LW.seq ?_
  refine LW.region ?_
  refine X.u (LU.moveR Is.rfl') rfl ?_
  refine X.u (LU.callP (List.Perm.refl _) (hsc) Tryd.func18 rfl rfl (Opds.cons Is.rfl' Opds.nil)) rfl ?_
  refine X.u (LU.lenN Tryd.underlying45 Is.rfl' (by (simp only [Option.getD_some, Option.getD_none, byteEls_length, intEls_length, List.length_append, List.length_cons, List.length_nil, List.length_map, List.length_drop, List.length_take, Int.toNat_natCast]; rfl))) rfl ?_
  refine X.u (LU.moveR Is.rfl') rfl ?_
  refine LL.nil (after_code ?_)
  refine LW.block ?_
  refine X.wweak (t := 3) (v := .sl 1 (strsL []) (.tok 0 0 0)) (Is.full_tok 0 0) ?_
  refine X.wghost (HSub.tail0 0 0 0 (Nat.le_refl _) _) ?_
  refine X.loopK (α := Nat × List (List UInt8) × Nat × Nat × Nat) (fun ⟨i, T, b, o, c⟩ => [(9, i64 i), (3, .sl 1 (strsL T) (.tok b o c))]) [2, 7, 8] (fun ⟨i, T, b, o, c⟩ => .tail b o c :: gC g ma mb n :: gA ma m :: kb :: Rf) (fun ⟨i, T, b, o, c⟩ => i ≤ O.length ∧ T = (livF (O.take i)).map (·.text)) (fun ⟨i, T, b, o, c⟩ => O.length - i) ((0, [], 0, 0, 0)) (EnvLe.cons (by rfl) (EnvLe.cons (by rfl) (EnvLe.nil))) (by repeat (exact HSub.refl _)) ?_ ?_
  · exact ⟨Nat.zero_le _, rfl⟩
  · rintro ⟨i, T, b, o, c⟩ hI
    obtain ⟨hi, hT⟩ := hI
    refine LW.seq ?_
    refine LW.region ?_
    refine X.u (LU.lss Is.rfl' Is.rfl') rfl ?_
    refine LL.nil (after_code ?_)
    refine LW.seq ?_
    refine X.cond rfl (fun h3 => ?_) (fun h3 => ?_)
    · try have h3 := of_decide_eq_true h3
      refine LW.skip (after_code ?_)
      refine LW.seq ?_
      refine LW.block ?_
      refine LW.seq ?_
      obtain ⟨x, hx⟩ := at_lt (show i < O.length by omega)
      have hxl := sh_len x
      have hv32 : x.v.p.1.length = 32 := x.v.p.2
      have htk : T.length ≤ i := by
        rw [hT, List.length_map]
        refine Nat.le_trans (livF_len _) ?_
        rw [List.length_take]; omega
      refine LW.region ?_
      refine X.u (LU.at Tryd.underlying45 ⟨Tryd.sizeOf49, Tryd.isAgg49⟩ Is.rfl' Is.rfl' (by omega) (shs_at hx) (sh_ne x)) rfl ?_
      refine X.u (LU.weak (LU.load ⟨Tryd.sizeOf49, Tryd.isAgg49⟩ Is.rfl' (by assumption) (Part.whole (by assumption))) (Is.of (y := .agg (shL x)) (rfl))) rfl ?_
      refine X.act (X.alloc rfl Tryd.zeroValue49 (by exact Cells.rawagg (by decide)) (fun b5 => ?_))
      refine X.act (X.store 0 rfl Tryd.sizeOf49 Is.rfl' Is.rfl' (by exact Cells.agg) (by assumption) (by exact Nat.le_of_ble_eq_true rfl) ?_)
      refine LL.nil (after_code ?_)
      refine LW.seq ?_
      refine X.wcells (ys := shL x) (putAt_all (by rw [hxl]; rfl)) ?_
      refine X.wghost (H' := .tail b o c :: .cells b5 49 (shL x) :: gC g ma mb n :: gA ma m :: kb :: Rf) (by repeat (first | exact HSub.refl _ | refine HSub.pick 1 rfl ?_)) ?_
      refine LW.region ?_
      refine X.u (LU.fieldO Tryd.underlying49 rfl Tryd.sizeOf3 (by decide) Is.rfl') rfl ?_
      refine X.u (LU.loadO 1 rfl ⟨Tryd.sizeOf3, Tryd.isAgg3⟩ Is.rfl' (Part.one ((show (shL x)[34]? = some (i64 (x.kills : Nat)) from sh_kills x)))) rfl ?_
      refine X.u (LU.eql Is.rfl' Is.rfl') rfl ?_
      refine LL.nil (after_code ?_)
      refine X.cond rfl (fun h5 => ?_) (fun h5 => ?_)
      · have h5 : x.kills = 0 := by simp at h5; omega
        have hz0 : (0 : Nat) = 0 := rfl
        refine LW.region ?_
        refine X.u (LU.moveS Is.rfl') rfl ?_
        refine X.u (LU.fieldO Tryd.underlying49 rfl Tryd.sizeOf9 (by decide) Is.rfl') rfl ?_
        refine X.u (LU.loadO 1 rfl ⟨Tryd.sizeOf9, Tryd.isAgg9⟩ Is.rfl' (Part.one ((show (shL x)[33]? = some (Str x.text) from sh_text x)))) rfl ?_
        refine X.u (LU.lits Tryd.underlying25 Tryd.sizeOf9 Tryd.zeroValue9 (ones rfl) rfl (by decide) (by decide) (Elems.cons Is.rfl' (by exact Cells.raw rfl) Elems.nil) (by (simp; done)) rfl) rfl ?_
        refine X.act (X.append 0 rfl rfl Tryd.underlying25 (El.of (P := Tryd.prog) (z := (.string ByteArray.empty)) (size := 1) (bytes := 16) rfl rfl rfl) Is.rfl' Is.rfl' (SrcL.slice Tryd.underlying25 (by decide) (by (intro e he; simp [chunks] at he; simp [he]; done))) (by simp only [Option.getD_some, Option.getD_none, byteEls_length, intEls_length, List.length_append, List.length_cons, List.length_nil, List.length_map, List.length_drop, List.length_take, Int.toNat_natCast]; omega) (by simp only [Option.getD_some, Option.getD_none, byteEls_length, intEls_length, List.length_append, List.length_cons, List.length_nil, List.length_map, List.length_drop, List.length_take, Int.toNat_natCast]; omega) (fun b20 o20 c20 => X.weak (t := 20) (Is.of (y := .sl 1 (strsL (T ++ [x.text])) (.tok b20 o20 c20)) (congrArg (fun z => LV.sl 1 z (.tok b20 o20 c20)) (by simp))) ?_))
        refine X.u (LU.assignS Is.rfl') rfl ?_
        refine LL.nil (after_blk (after_code ?_))
        refine LW.region ?_
        refine X.u (LU.addN Is.rfl' Is.rfl' (wrap_i64 (by omega) (by omega))) rfl ?_
        refine X.u (LU.moveR Is.rfl') rfl ?_
        refine LL.nil (after_rnd ?_)
        refine X.next ((i + 1, T ++ [x.text], b20, o20, c20)) rfl (EnvLe.cons (by rfl) (EnvLe.cons (by rfl) (EnvLe.nil))) (Keeps.cons (by exact Eq.trans (b := .sl _ _ _) rfl rfl) (Keeps.cons (by exact Eq.trans (b := .sl _ _ _) rfl rfl) (Keeps.cons (by exact Eq.trans (b := .raw _) rfl rfl) (Keeps.nil)))) (by repeat (first | exact HSub.refl _ | refine HSub.pick 0 rfl ?_ | refine HSub.pick 1 rfl ?_ | refine HSub.drop ?_)) ?_ ?_
        · exact ⟨by omega, by rw [take_snoc hx, livF_snoc, if_pos h5, List.map_append, ← hT]; rfl⟩
        · (simp; omega)
      · have h5 : ¬ x.kills = 0 := by simp at h5; omega
        have hz0 : (0 : Nat) = 0 := rfl
        refine LW.skip (after_blk (after_code ?_))
        refine LW.region ?_
        refine X.u (LU.addN Is.rfl' Is.rfl' (wrap_i64 (by omega) (by omega))) rfl ?_
        refine X.u (LU.moveR Is.rfl') rfl ?_
        refine LL.nil (after_rnd ?_)
        refine X.next ((i + 1, T, b, o, c)) rfl (EnvLe.cons (by rfl) (EnvLe.cons (by rfl) (EnvLe.nil))) (Keeps.cons (by exact Eq.trans (b := .sl _ _ _) rfl rfl) (Keeps.cons (by exact Eq.trans (b := .sl _ _ _) rfl rfl) (Keeps.cons (by exact Eq.trans (b := .raw _) rfl rfl) (Keeps.nil)))) (by repeat (first | exact HSub.refl _ | refine HSub.pick 0 rfl ?_ | refine HSub.pick 1 rfl ?_ | refine HSub.drop ?_)) ?_ ?_
        · exact ⟨by omega, by rw [take_snoc hx, livF_snoc, if_neg h5, List.append_nil, hT]⟩
        · (simp; omega)
    · try have h3 := of_decide_eq_false h3
      refine LW.exit (exit_code (exit_rnd (exit_blk (after_code ?_))))
      refine LW.seq ?_
      refine LW.region ?_
      refine X.u (LU.moveS Is.rfl') rfl ?_
      refine X.u (LU.assignS Is.rfl') rfl ?_
      refine LL.nil (after_code ?_)
      refine LW.ret (after_end ?_)
      refine X.ret (H' := [gC g ma mb n, gA ma m, kb]) (Res.one (by exact IsS rfl)) (by repeat (first | exact HSub.refl _ | refine HSub.pick 1 rfl ?_ | refine HSub.drop ?_)) ?_
      exact ⟨by rw [hT, List.take_of_length_le (by omega)], rfl⟩
theorem conF_le (ah : Vx → Vx → Bool) : ∀ l : List Vx, conF ah l ≤ l.length * l.length
  | [] => Nat.le_refl _
  | v :: l => by
    have h1 := List.length_filter_le (fun w => !ah v w) l
    have h2 := conF_le ah l
    rw [conF, List.length_cons, Nat.succ_mul, Nat.mul_succ]
    omega
theorem ahead_rel (g ma mb : Nat) (n : Int) (m : At) (q : Ps) (r : Rg) (hrel : Rel m q n r) (ho : Ok r) (a b : Vx) : LCalls Tryd.prog 21 [pt g, .agg (vxL a), .agg (vxL b)] [gC g ma mb n, gA ma m] (fun x H' => x = bl (aheadG r a b) ∧ H' = [gC g ma mb n, gA ma m]) :=
  ahead_calls g ma mb n m a b (aheadG r a b) (hrel.alln ho) (fun v => Nat.lt_of_le_of_lt (hrel.sz ho v).1 (by decide)) (by
    rw [hrel.has, hrel.has, hrel.nx, ho.ahead]
    exact ⟨fun e => ⟨(ho.hasR e).1, (ho.hasR e).2, e⟩, fun e => e.2.2⟩)
set_option maxHeartbeats 2000000 in
set_option maxRecDepth 100000 in
theorem conflicts_calls (g ma mb : Nat) (n : Int) (m : At) (q : Ps) (r : Rg) (hrel : Rel m q n r) (ho : Ok r) (hD : r.D.length < 900000) : LCalls Tryd.prog 14 [pt g] [gC g ma mb n, gA ma m, kb] (fun x H' => x = i64 (conflG r : Nat) ∧ H' = [gC g ma mb n, gA ma m, kb]) := by
  have hsc := shown_calls g ma mb n m q r hrel ho hD
  have hol := shown_len ho
  obtain ⟨O, hO⟩ : ∃ O, O = shownG r := ⟨_, rfl⟩
  obtain ⟨ah, hah⟩ : ∃ ah, ah = aheadG r := ⟨_, rfl⟩
  have hS : conflG r = conF ah ((livF O).map (·.v)) := by unfold conflG liveG; rw [hO, hah]
  have hac := fun a b => ahead_rel g ma mb n m q r hrel ho a b
  rw [← hah] at hac
  rw [← hO] at hsc hol
  rw [hS]
  refine LCalls.of Tryd.func14 rfl Tryd.ntmps14 Tryd.results14 rfl (fun Rf => ?_)
  refine LW.seq ?_
  refine LW.region ?_
  refine X.u (LU.assignR Is.rfl') rfl ?_
  refine LL.nil (after_code ?_)
  refine LW.seq ?_
  refine LW.region ?_
  refine X.u (LU.assign (Is.nil 33)) rfl ?_
  refine LL.nil (after_code ?_)
  refine LW.seq ?_
  refine LW.seq ?_
  refine LW.region ?_
  refine X.u (LU.moveR Is.rfl') rfl ?_
  refine X.u (LU.callP (List.Perm.refl _) (hsc) Tryd.func18 rfl rfl (Opds.cons Is.rfl' Opds.nil)) rfl ?_
  refine X.u (LU.lenN Tryd.underlying45 Is.rfl' (by (simp only [Option.getD_some, Option.getD_none, byteEls_length, intEls_length, List.length_append, List.length_cons, List.length_nil, List.length_map, List.length_drop, List.length_take, Int.toNat_natCast]; rfl))) rfl ?_
  refine X.u (LU.moveR Is.rfl') rfl ?_
  refine LL.nil (after_code ?_)
  refine LW.block ?_
  refine X.wweak (t := 3) (v := Vxs [] (.tok 0 0 0)) (Is.full_tok 0 0) ?_
  refine X.wghost (HSub.tail0 0 0 0 (Nat.le_refl _) _) ?_
  refine X.loopK (α := Nat × List Vx × Nat × Nat × Nat) (fun ⟨i, L, b, o, c⟩ => [(14, i64 i), (3, Vxs L (.tok b o c))]) [0, 2, 12, 13] (fun ⟨i, L, b, o, c⟩ => .tail b o c :: gC g ma mb n :: gA ma m :: kb :: Rf) (fun ⟨i, L, b, o, c⟩ => i ≤ O.length ∧ L = (livF (O.take i)).map (·.v)) (fun ⟨i, L, b, o, c⟩ => O.length - i) ((0, [], 0, 0, 0)) (EnvLe.cons (by rfl) (EnvLe.cons (by rfl) (EnvLe.nil))) (by repeat (exact HSub.refl _)) ?_ ?_
  · exact ⟨Nat.zero_le _, rfl⟩
  · rintro ⟨i, L, b, o, c⟩ hI
    obtain ⟨hi, hT⟩ := hI
    refine LW.seq ?_
    refine LW.region ?_
    refine X.u (LU.lss Is.rfl' Is.rfl') rfl ?_
    refine LL.nil (after_code ?_)
    refine LW.seq ?_
    refine X.cond rfl (fun h3 => ?_) (fun h3 => ?_)
    · try have h3 := of_decide_eq_true h3
      refine LW.skip (after_code ?_)
      refine LW.seq ?_
      refine LW.block ?_
      refine LW.seq ?_
      obtain ⟨x, hx⟩ := at_lt (show i < O.length by omega)
      have hxl := sh_len x
      have hv32 : x.v.p.1.length = 32 := x.v.p.2
      have hxvl := vxL_len x.v
      have htk : L.length ≤ i := by
        rw [hT, List.length_map]
        refine Nat.le_trans (livF_len _) ?_
        rw [List.length_take]; omega
      refine LW.region ?_
      refine X.u (LU.at Tryd.underlying45 ⟨Tryd.sizeOf49, Tryd.isAgg49⟩ Is.rfl' Is.rfl' (by omega) (shs_at hx) (sh_ne x)) rfl ?_
      refine X.u (LU.weak (LU.load ⟨Tryd.sizeOf49, Tryd.isAgg49⟩ Is.rfl' (by assumption) (Part.whole (by assumption))) (Is.of (y := .agg (shL x)) (rfl))) rfl ?_
      refine X.act (X.alloc rfl Tryd.zeroValue49 (by exact Cells.rawagg (by decide)) (fun b5 => ?_))
      refine X.act (X.store 0 rfl Tryd.sizeOf49 Is.rfl' Is.rfl' (by exact Cells.agg) (by assumption) (by exact Nat.le_of_ble_eq_true rfl) ?_)
      refine LL.nil (after_code ?_)
      refine LW.seq ?_
      refine X.wcells (ys := shL x) (putAt_all (by rw [hxl]; rfl)) ?_
      refine X.wghost (H' := .tail b o c :: .cells b5 49 (shL x) :: gC g ma mb n :: gA ma m :: kb :: Rf) (by repeat (first | exact HSub.refl _ | refine HSub.pick 1 rfl ?_)) ?_
      refine LW.region ?_
      refine X.u (LU.fieldO Tryd.underlying49 rfl Tryd.sizeOf3 (by decide) Is.rfl') rfl ?_
      refine X.u (LU.loadO 1 rfl ⟨Tryd.sizeOf3, Tryd.isAgg3⟩ Is.rfl' (Part.one ((show (shL x)[34]? = some (i64 (x.kills : Nat)) from sh_kills x)))) rfl ?_
      refine X.u (LU.eql Is.rfl' Is.rfl') rfl ?_
      refine LL.nil (after_code ?_)
      refine X.cond rfl (fun h5 => ?_) (fun h5 => ?_)
      · have h5 : x.kills = 0 := by simp at h5; omega
        have hz0 : (0 : Nat) = 0 := rfl
        refine LW.region ?_
        refine X.u (LU.moveS Is.rfl') rfl ?_
        refine X.u (LU.fieldO Tryd.underlying49 rfl Tryd.sizeOf35 (by decide) Is.rfl') rfl ?_
        refine X.u (LU.weak (LU.loadO 1 rfl ⟨Tryd.sizeOf35, Tryd.isAgg35⟩ Is.rfl' (Part.sub (by (simp; omega)))) (Is.of (y := .agg (vxL x.v)) (congrArg LV.agg (sh_v x)))) rfl ?_
        refine X.u (LU.lits Tryd.underlying26 Tryd.sizeOf35 Tryd.zeroValue35 (ones rfl) rfl (by decide) (by decide) (Elems.cons Is.rfl' (by exact Cells.agg) Elems.nil) (by (simp; assumption)) rfl) rfl ?_
        refine X.act (X.append 0 rfl rfl Tryd.underlying26 (El.of (P := Tryd.prog) (z := (.agg #[(.int .u8 0), (.int .u8 0), (.int .u8 0), (.int .u8 0), (.int .u8 0), (.int .u8 0), (.int .u8 0), (.int .u8 0), (.int .u8 0), (.int .u8 0), (.int .u8 0), (.int .u8 0), (.int .u8 0), (.int .u8 0), (.int .u8 0), (.int .u8 0), (.int .u8 0), (.int .u8 0), (.int .u8 0), (.int .u8 0), (.int .u8 0), (.int .u8 0), (.int .u8 0), (.int .u8 0), (.int .u8 0), (.int .u8 0), (.int .u8 0), (.int .u8 0), (.int .u8 0), (.int .u8 0), (.int .u8 0), (.int .u8 0), (.int .i64 0)])) (size := 33) (bytes := 40) rfl rfl rfl) Is.rfl' Is.rfl' (SrcL.slice Tryd.underlying26 (by decide) (by intro e he; rw [List.mem_singleton.1 he]; exact hxvl)) (by simp only [Option.getD_some, Option.getD_none, byteEls_length, intEls_length, List.length_append, List.length_cons, List.length_nil, List.length_map, List.length_drop, List.length_take, Int.toNat_natCast]; omega) (by simp only [Option.getD_some, Option.getD_none, byteEls_length, intEls_length, List.length_append, List.length_cons, List.length_nil, List.length_map, List.length_drop, List.length_take, Int.toNat_natCast]; omega) (fun b25 o25 c25 => X.weak (t := 25) (Is.of (y := Vxs (L ++ [x.v]) (.tok b25 o25 c25)) (congrArg (fun z => LV.sl 33 z (.tok b25 o25 c25)) (vxs_app L [x.v]))) ?_))
        refine X.u (LU.assignS Is.rfl') rfl ?_
        refine LL.nil (after_blk (after_code ?_))
        refine LW.region ?_
        refine X.u (LU.addN Is.rfl' Is.rfl' (wrap_i64 (by omega) (by omega))) rfl ?_
        refine X.u (LU.moveR Is.rfl') rfl ?_
        refine LL.nil (after_rnd ?_)
        refine X.next ((i + 1, L ++ [x.v], b25, o25, c25)) rfl (EnvLe.cons (by rfl) (EnvLe.cons (by rfl) (EnvLe.nil))) (Keeps.cons (by exact Eq.trans (b := .raw _) rfl rfl) (Keeps.cons (by exact Eq.trans (b := .raw _) rfl rfl) (Keeps.cons (by exact Eq.trans (b := .sl _ _ _) rfl rfl) (Keeps.cons (by exact Eq.trans (b := .raw _) rfl rfl) (Keeps.nil))))) (by repeat (first | exact HSub.refl _ | refine HSub.pick 0 rfl ?_ | refine HSub.pick 1 rfl ?_ | refine HSub.drop ?_)) ?_ ?_
        · exact ⟨by omega, by rw [take_snoc hx, livF_snoc, if_pos h5, List.map_append, ← hT]; rfl⟩
        · (simp; omega)
      · have h5 : ¬ x.kills = 0 := by simp at h5; omega
        have hz0 : (0 : Nat) = 0 := rfl
        refine LW.skip (after_blk (after_code ?_))
        refine LW.region ?_
        refine X.u (LU.addN Is.rfl' Is.rfl' (wrap_i64 (by omega) (by omega))) rfl ?_
        refine X.u (LU.moveR Is.rfl') rfl ?_
        refine LL.nil (after_rnd ?_)
        refine X.next ((i + 1, L, b, o, c)) rfl (EnvLe.cons (by rfl) (EnvLe.cons (by rfl) (EnvLe.nil))) (Keeps.cons (by exact Eq.trans (b := .raw _) rfl rfl) (Keeps.cons (by exact Eq.trans (b := .raw _) rfl rfl) (Keeps.cons (by exact Eq.trans (b := .sl _ _ _) rfl rfl) (Keeps.cons (by exact Eq.trans (b := .raw _) rfl rfl) (Keeps.nil))))) (by repeat (first | exact HSub.refl _ | refine HSub.pick 0 rfl ?_ | refine HSub.pick 1 rfl ?_ | refine HSub.drop ?_)) ?_ ?_
        · exact ⟨by omega, by rw [take_snoc hx, livF_snoc, if_neg h5, List.append_nil, hT]⟩
        · (simp; omega)
    · try have h3 := of_decide_eq_false h3
      refine LW.exit (exit_code (exit_rnd (exit_blk (after_code ?_))))
      refine LW.seq ?_
      rw [List.take_of_length_le (by omega)] at hT
      have hLl : L.length ≤ 512 := by
        rw [hT, List.length_map]
        exact Nat.le_trans (livF_len _) hol
      have hcl := conF_le ah L
      have hcl2 : L.length * L.length ≤ 512 * 512 := Nat.mul_le_mul hLl hLl
      refine LW.region ?_
      refine X.u (LU.assignR Is.rfl') rfl ?_
      refine LL.nil (after_code ?_)
      refine LW.seq ?_
      refine LW.seq ?_
      refine LW.region ?_
      refine X.u (LU.moveS Is.rfl') rfl ?_
      refine X.u (LU.lenN Tryd.underlying26 Is.rfl' (by (simp only [Option.getD_some, Option.getD_none, byteEls_length, intEls_length, List.length_append, List.length_cons, List.length_nil, List.length_map, List.length_drop, List.length_take, Int.toNat_natCast]; rfl))) rfl ?_
      refine X.u (LU.moveR Is.rfl') rfl ?_
      refine LL.nil (after_code ?_)
      refine LW.block ?_
      refine X.loopK (α := Nat × Nat) (fun ⟨i, k⟩ => [(29, i64 i), (6, i64 k)]) [0, 2, 3, 27, 28] (fun ⟨i, k⟩ => .tail b o c :: gC g ma mb n :: gA ma m :: kb :: Rf) (fun ⟨i, k⟩ => i ≤ L.length ∧ k + conF ah (L.drop i) = conF ah L) (fun ⟨i, k⟩ => L.length - i) ((0, 0)) (EnvLe.cons (by rfl) (EnvLe.cons (by rfl) (EnvLe.nil))) (by repeat (exact HSub.refl _)) ?_ ?_
      · exact ⟨Nat.zero_le _, by rw [List.drop_zero, Nat.zero_add]⟩
      · rintro ⟨i, k⟩ hI
        obtain ⟨hi, hk⟩ := hI
        refine LW.seq ?_
        refine LW.region ?_
        refine X.u (LU.lss Is.rfl' Is.rfl') rfl ?_
        refine LL.nil (after_code ?_)
        refine LW.seq ?_
        refine X.cond rfl (fun h10 => ?_) (fun h10 => ?_)
        · try have h10 := of_decide_eq_true h10
          refine LW.skip (after_code ?_)
          refine LW.seq ?_
          refine LW.block ?_
          refine LW.seq ?_
          obtain ⟨v, hv⟩ := at_lt (show i < L.length by omega)
          have hvl := vxL_len v
          have hv32 : v.p.1.length = 32 := v.p.2
          rw [drop_at hv, conF] at hk
          have hdl : (L.drop (i + 1)).length = L.length - (i + 1) := List.length_drop ..
          refine LW.region ?_
          refine X.u (LU.moveR Is.rfl') rfl ?_
          refine X.u (LU.at Tryd.underlying26 ⟨Tryd.sizeOf35, Tryd.isAgg35⟩ Is.rfl' Is.rfl' (by omega) (vxs_at hv) (vx_ne v)) rfl ?_
          refine X.u (LU.weak (LU.load ⟨Tryd.sizeOf35, Tryd.isAgg35⟩ Is.rfl' (by assumption) (Part.whole (by assumption))) (Is.of (y := .agg (vxL v)) (rfl))) rfl ?_
          refine X.act (X.alloc rfl Tryd.zeroValue35 (by exact Cells.rawagg (by decide)) (fun b8 => ?_))
          refine X.u (LU.assignR Is.rfl') rfl ?_
          refine X.act (X.store 0 rfl Tryd.sizeOf35 Is.rfl' Is.rfl' (by exact Cells.agg) (by assumption) (by exact Nat.le_of_ble_eq_true rfl) ?_)
          refine LL.nil (after_code ?_)
          refine LW.seq ?_
          refine X.wcells (ys := vxL v) (putAt_all (by rw [hvl]; rfl)) ?_
          refine LW.region ?_
          refine X.u (LU.moveS Is.rfl') rfl ?_
          refine X.u (LU.moveR Is.rfl') rfl ?_
          refine X.u (LU.weak (LU.addN Is.rfl' Is.rfl' (wrap_i64 (by omega) (by omega))) (Is.of (y := i64 ((i + 1 : Nat) : Int)) (rfl))) rfl ?_
          refine X.u (LU.weak (LU.slice (lo := some _) (hi := none) (l := some ((i + 1 : Nat) : Int)) (h := none) Tryd.sizeOf35 (by decide) Tryd.underlying26 Is.rfl' ⟨_, Is.rfl'⟩ trivial (by simp; omega) (by simp only [Option.getD_some, Option.getD_none, List.length_map]; omega) (by simp only [Option.getD_some, Option.getD_none, List.length_map]; try omega) .unk (.inl rfl)) (Is.of (y := Vxs (L.drop (i + 1)) .unk) (congrArg (fun z => LV.sl 33 z .unk) (by simp only [Option.getD_some, Option.getD_none, Int.toNat_natCast, vxs, List.map_drop, List.length_map]; rw [List.take_of_length_le (by simp)])))) rfl ?_
          refine X.u (LU.weak (LU.lenN Tryd.underlying26 Is.rfl' (by (simp only [Option.getD_some, Option.getD_none, byteEls_length, intEls_length, List.length_append, List.length_cons, List.length_nil, List.length_map, List.length_drop, List.length_take, Int.toNat_natCast]; rfl))) (Is.of (y := i64 ((L.drop (i + 1)).length : Nat)) (congrArg i64 (by simp)))) rfl ?_
          refine X.u (LU.moveR Is.rfl') rfl ?_
          refine LL.nil (after_code ?_)
          refine LW.block ?_
          refine X.loopK (α := Nat × Nat) (fun ⟨j, k2⟩ => [(39, i64 j), (6, i64 k2)]) [0, 2, 3, 8, 27, 28, 29, 37, 38] (fun ⟨j, k2⟩ => .cells b8 35 (vxL v) :: .tail b o c :: gC g ma mb n :: gA ma m :: kb :: Rf) (fun ⟨j, k2⟩ => j ≤ (L.drop (i + 1)).length ∧ k2 + (((L.drop (i + 1)).drop j).filter (fun w => !ah v w)).length + conF ah (L.drop (i + 1)) = conF ah L) (fun ⟨j, k2⟩ => (L.drop (i + 1)).length - j) ((0, k)) (EnvLe.cons (by rfl) (EnvLe.cons (by rfl) (EnvLe.nil))) (by repeat (exact HSub.refl _)) ?_ ?_
          · exact ⟨Nat.zero_le _, by rw [List.drop_zero]; omega⟩
          · rintro ⟨j, k2⟩ hI
            obtain ⟨hj, hk2⟩ := hI
            refine LW.seq ?_
            refine LW.region ?_
            refine X.u (LU.lss Is.rfl' Is.rfl') rfl ?_
            refine LL.nil (after_code ?_)
            refine LW.seq ?_
            refine X.cond rfl (fun h13 => ?_) (fun h13 => ?_)
            · try have h13 := of_decide_eq_true h13
              refine LW.skip (after_code ?_)
              refine LW.seq ?_
              refine LW.block ?_
              refine LW.seq ?_
              obtain ⟨w, hw⟩ := at_lt (show j < (L.drop (i + 1)).length by omega)
              have hwl := vxL_len w
              have hw32 : w.p.1.length = 32 := w.p.2
              rw [drop_at hw, List.filter_cons] at hk2
              refine LW.region ?_
              refine X.u (LU.at Tryd.underlying26 ⟨Tryd.sizeOf35, Tryd.isAgg35⟩ Is.rfl' Is.rfl' (by omega) (vxs_at hw) (vx_ne w)) rfl ?_
              refine X.u (LU.weak (LU.load ⟨Tryd.sizeOf35, Tryd.isAgg35⟩ Is.rfl' (by assumption) (Part.whole (by assumption))) (Is.of (y := .agg (vxL w)) (rfl))) rfl ?_
              refine X.act (X.alloc rfl Tryd.zeroValue35 (by exact Cells.rawagg (by decide)) (fun b10 => ?_))
              refine X.act (X.store 0 rfl Tryd.sizeOf35 Is.rfl' Is.rfl' (by exact Cells.agg) (by assumption) (by exact Nat.le_of_ble_eq_true rfl) ?_)
              refine LL.nil (after_code ?_)
              refine LW.seq ?_
              refine X.wcells (ys := vxL w) (putAt_all (by rw [hwl]; rfl)) ?_
              refine X.wghost (H' := .cells b10 35 (vxL w) :: .cells b8 35 (vxL v) :: .tail b o c :: gC g ma mb n :: gA ma m :: kb :: Rf) (by repeat (exact HSub.refl _)) ?_
              refine LW.region ?_
              refine X.u (LU.moveR Is.rfl') rfl ?_
              refine X.u (LU.loadO 1 rfl ⟨Tryd.sizeOf35, Tryd.isAgg35⟩ Is.rfl' (Part.whole (by assumption))) rfl ?_
              refine X.u (LU.loadO 0 rfl ⟨Tryd.sizeOf35, Tryd.isAgg35⟩ Is.rfl' (Part.whole (by assumption))) rfl ?_
              refine X.u (LU.callP (show List.Perm _ ([gC g ma mb n, gA ma m] ++ (.cells b10 35 (vxL w) :: .cells b8 35 (vxL v) :: .tail b o c :: kb :: Rf)) from perm_of fun x => (by simp only [List.count_append, List.count_cons, List.count_nil]; omega)) (hac v w) Tryd.func21 rfl rfl (Opds.cons Is.rfl' (Opds.cons Is.rfl' (Opds.cons Is.rfl' Opds.nil)))) rfl ?_
              refine X.u (LU.not Is.rfl') rfl ?_
              refine LL.nil (after_code ?_)
              refine X.cond rfl (fun h15 => ?_) (fun h15 => ?_)
              · have h15 : ah v w = false := by simpa using h15
                simp only [h15, Bool.not_false, if_true, List.length_cons] at hk2
                refine LW.region ?_
                refine X.u (LU.moveR Is.rfl') rfl ?_
                refine X.u (LU.addN Is.rfl' Is.rfl' (wrap_i64 (by omega) (by omega))) rfl ?_
                refine X.u (LU.assignR Is.rfl') rfl ?_
                refine LL.nil (after_blk (after_code ?_))
                refine LW.region ?_
                refine X.u (LU.addN Is.rfl' Is.rfl' (wrap_i64 (by omega) (by omega))) rfl ?_
                refine X.u (LU.moveR Is.rfl') rfl ?_
                refine LL.nil (after_rnd ?_)
                refine X.next ((j + 1, k2 + 1)) rfl (EnvLe.cons (by rfl) (EnvLe.cons (by rfl) (EnvLe.nil))) (Keeps.cons (by exact Eq.trans (b := .raw _) rfl rfl) (Keeps.cons (by exact Eq.trans (b := .raw _) rfl rfl) (Keeps.cons (by exact Eq.trans (b := .sl _ _ _) rfl rfl) (Keeps.cons (by exact Eq.trans (b := .raw _) rfl rfl) (Keeps.cons (by exact Eq.trans (b := .sl _ _ _) rfl rfl) (Keeps.cons (by exact Eq.trans (b := .raw _) rfl rfl) (Keeps.cons (by exact Eq.trans (b := .raw _) rfl rfl) (Keeps.cons (by exact Eq.trans (b := .sl _ _ _) rfl rfl) (Keeps.cons (by exact Eq.trans (b := .raw _) rfl rfl) (Keeps.nil)))))))))) (by repeat (first | exact HSub.refl _ | refine HSub.pick 1 rfl ?_ | refine HSub.drop ?_)) ?_ ?_
                · exact ⟨by omega, by omega⟩
                · (simp; omega)
              · have h15 : ah v w = true := by simpa using h15
                simp only [h15, Bool.not_true, Bool.false_eq_true, if_false] at hk2
                refine LW.skip (after_blk (after_code ?_))
                refine LW.region ?_
                refine X.u (LU.addN Is.rfl' Is.rfl' (wrap_i64 (by omega) (by omega))) rfl ?_
                refine X.u (LU.moveR Is.rfl') rfl ?_
                refine LL.nil (after_rnd ?_)
                refine X.next ((j + 1, k2)) rfl (EnvLe.cons (by rfl) (EnvLe.cons (by rfl) (EnvLe.nil))) (Keeps.cons (by exact Eq.trans (b := .raw _) rfl rfl) (Keeps.cons (by exact Eq.trans (b := .raw _) rfl rfl) (Keeps.cons (by exact Eq.trans (b := .sl _ _ _) rfl rfl) (Keeps.cons (by exact Eq.trans (b := .raw _) rfl rfl) (Keeps.cons (by exact Eq.trans (b := .sl _ _ _) rfl rfl) (Keeps.cons (by exact Eq.trans (b := .raw _) rfl rfl) (Keeps.cons (by exact Eq.trans (b := .raw _) rfl rfl) (Keeps.cons (by exact Eq.trans (b := .sl _ _ _) rfl rfl) (Keeps.cons (by exact Eq.trans (b := .raw _) rfl rfl) (Keeps.nil)))))))))) (by repeat (first | exact HSub.refl _ | refine HSub.pick 1 rfl ?_ | refine HSub.drop ?_)) ?_ ?_
                · exact ⟨by omega, by omega⟩
                · (simp; omega)
            · try have h13 := of_decide_eq_false h13
              refine LW.exit (exit_code (exit_rnd (exit_blk (after_blk (after_code ?_)))))
              refine LW.region ?_
              refine X.u (LU.addN Is.rfl' Is.rfl' (wrap_i64 (by omega) (by omega))) rfl ?_
              refine X.u (LU.moveR Is.rfl') rfl ?_
              refine LL.nil (after_rnd ?_)
              refine X.next ((i + 1, k2)) rfl (EnvLe.cons (by rfl) (EnvLe.cons (by rfl) (EnvLe.nil))) (Keeps.cons (by exact Eq.trans (b := .raw _) rfl rfl) (Keeps.cons (by exact Eq.trans (b := .raw _) rfl rfl) (Keeps.cons (by exact Eq.trans (b := .sl _ _ _) rfl rfl) (Keeps.cons (by exact Eq.trans (b := .sl _ _ _) rfl rfl) (Keeps.cons (by exact Eq.trans (b := .raw _) rfl rfl) (Keeps.nil)))))) (by repeat (first | exact HSub.refl _ | refine HSub.pick 1 rfl ?_ | refine HSub.drop ?_)) ?_ ?_
              · refine ⟨by omega, ?_⟩
                rw [List.drop_drop, List.drop_of_length_le (by omega)] at hk2
                simpa using hk2
              · (simp; omega)
        · try have h10 := of_decide_eq_false h10
          refine LW.exit (exit_code (exit_rnd (exit_blk (after_code ?_))))
          refine LW.seq ?_
          refine LW.region ?_
          refine X.u (LU.moveR Is.rfl') rfl ?_
          refine X.u (LU.assignR Is.rfl') rfl ?_
          refine LL.nil (after_code ?_)
          refine LW.ret (after_end ?_)
          refine X.ret (H' := [gC g ma mb n, gA ma m, kb]) (Res.one (by exact IsR rfl)) (by repeat (first | exact HSub.refl _ | refine HSub.pick 1 rfl ?_ | refine HSub.drop ?_)) ?_
          rw [List.drop_of_length_le (by omega)] at hk
          exact ⟨by rw [← hT, ← hk]; simp [conF], rfl⟩
end Go.Proofs.YtolpkeajokjbjaaDoor
namespace Go.Proofs.YtolpkeajokjbjaaDoor
open Go.RowKit Go.L Go.Lib
attribute [local irreducible] LL LW LO
structure Ac where
  kind : Int
  up : Vx
  down : Vx
  ids : List Vx
  texts : List (List UInt8)
  by_ : Hs
abbrev acL (a : Ac) : List LV := i64 a.kind :: (vxL a.up ++ (vxL a.down ++ ([Vxs a.ids .unk, .sl 1 (strsL a.texts) .unk] ++ hsL a.by_)))
abbrev acs (l : List Ac) : List (List LV) := l.map acL
abbrev Acs (l : List Ac) (k : Cap) : LV := .sl 101 (acs l) k
theorem ac_len (a : Ac) : (acL a).length = 101 := by simp [a.up.p.2, a.down.p.2, a.by_.2]
theorem ac_ne (a : Ac) : acL a ≠ [] := fun c => by cases c
theorem acs_at {l : List Ac} {i : Nat} {x : Ac} (h : l[i]? = some x) : (acs l)[(i : Int).toNat]? = some (acL x) := by
  rw [Int.toNat_natCast, List.getElem?_map, h]; rfl
theorem ac_kind (a : Ac) : (acL a)[0]? = some (i64 a.kind) := rfl
theorem ac_up (a : Ac) : ((acL a).drop 1).take 33 = vxL a.up := by
  rw [show (acL a).drop 1 = vxL a.up ++ _ from rfl, List.take_left' (vxL_len a.up)]
theorem ac_down (a : Ac) : ((acL a).drop 34).take 33 = vxL a.down := by
  rw [show (34 : Nat) = 1 + 33 from rfl, ← List.drop_drop, show (acL a).drop 1 = vxL a.up ++ _ from rfl, List.drop_left' (vxL_len a.up), List.take_left' (vxL_len a.down)]
theorem ac_d67 (a : Ac) : (acL a).drop 67 = [Vxs a.ids .unk, .sl 1 (strsL a.texts) .unk] ++ hsL a.by_ := by
  rw [show (67 : Nat) = 1 + 33 + 33 from rfl, ← List.drop_drop, ← List.drop_drop, show (acL a).drop 1 = vxL a.up ++ _ from rfl, List.drop_left' (vxL_len a.up), List.drop_left' (vxL_len a.down)]
theorem ac_ids (a : Ac) : (acL a)[67]? = some (Vxs a.ids .unk) := by
  have h := congrArg (fun l => l[0]?) (ac_d67 a)
  simp only [List.getElem?_drop] at h
  exact h
theorem ac_texts (a : Ac) : (acL a)[68]? = some (.sl 1 (strsL a.texts) .unk) := by
  have h := congrArg (fun l => l[1]?) (ac_d67 a)
  simp only [List.getElem?_drop] at h
  exact h
theorem ac_by (a : Ac) : ((acL a).drop 69).take 32 = hsL a.by_ := by
  rw [show (69 : Nat) = 67 + 2 from rfl, ← List.drop_drop, ac_d67]
  exact List.take_of_length_le (by rw [show (([Vxs a.ids .unk, .sl 1 (strsL a.texts) .unk] ++ hsL a.by_).drop 2) = hsL a.by_ from rfl, hsL_len]; exact Nat.le_refl _)
def acW (a : Ac) : Nat := 1 + a.ids.length + a.texts.length
def sumW (l : List Ac) : Nat := (l.map acW).sum
def fewB (l : List Ac) : Bool := decide (sumW l ≤ 120)
theorem sumW_snoc (l : List Ac) (a : Ac) : sumW (l ++ [a]) = sumW l + acW a := by unfold sumW; simp
theorem sumW_take_le (l : List Ac) (i : Nat) : sumW (l.take i) ≤ sumW l := by
  unfold sumW
  rw [List.map_take]
  conv => rhs; rw [← List.take_append_drop i (l.map acW), List.sum_append]
  omega
theorem sumW_at {l : List Ac} {i : Nat} {a : Ac} (h : l[i]? = some a) : sumW (l.take i) + acW a ≤ sumW l := by
  have := sumW_take_le l (i + 1)
  rw [take_snoc h, sumW_snoc] at this
  exact this
/-- The lists are no longer than memory allows. -/
abbrev Fit (l : List Ac) : Prop := ∀ a ∈ l, a.ids.length < 140737488355328 ∧ a.texts.length < 140737488355328
set_option maxHeartbeats 1000000 in
set_option maxRecDepth 100000 in
theorem few_calls (l : List Ac) (k : Cap) (hl : l.length < 140737488355328) (hf : Fit l) : LCalls Tryd.prog 16 [Acs l k] [] (fun r H' => r = bl (fewB l) ∧ H' = []) := by
  refine LCalls.of Tryd.func16 rfl Tryd.ntmps16 Tryd.results16 rfl (fun Rf => ?_)
  refine LW.seq ?_
  refine LW.region ?_
  refine X.u (LU.assignR Is.rfl') rfl ?_
  refine LL.nil (after_code ?_)
  refine LW.seq ?_
  refine LW.region ?_
  refine X.u (LU.assignR Is.rfl') rfl ?_
  refine LL.nil (after_code ?_)
  refine LW.seq ?_
  refine LW.seq ?_
  refine LW.region ?_
  refine X.u (LU.moveS Is.rfl') rfl ?_
  refine X.u (LU.lenN Tryd.underlying42 Is.rfl' (by (simp only [Option.getD_some, Option.getD_none, byteEls_length, intEls_length, List.length_append, List.length_cons, List.length_nil, List.length_map, List.length_drop, List.length_take, Int.toNat_natCast]; rfl))) rfl ?_
  refine X.u (LU.moveR Is.rfl') rfl ?_
  refine LL.nil (after_code ?_)
  refine LW.block ?_
  refine X.loopK (α := Nat × Nat) (fun ⟨i, n⟩ => [(8, i64 i), (3, i64 n)]) [6, 7] (fun ⟨i, n⟩ => Rf) (fun ⟨i, n⟩ => i ≤ l.length ∧ n = sumW (l.take i) ∧ n ≤ 120) (fun ⟨i, n⟩ => l.length - i) ((0, 0)) (EnvLe.cons (by rfl) (EnvLe.cons (by rfl) (EnvLe.nil))) (by repeat (exact HSub.refl _)) ?_ ?_
  · exact ⟨Nat.zero_le _, by simp [sumW], by decide⟩
  · rintro ⟨i, n⟩ hI
    obtain ⟨hi, hn, hn2⟩ := hI
    refine LW.seq ?_
    refine LW.region ?_
    refine X.u (LU.lss Is.rfl' Is.rfl') rfl ?_
    refine LL.nil (after_code ?_)
    refine LW.seq ?_
    refine X.cond rfl (fun h3 => ?_) (fun h3 => ?_)
    · try have h3 := of_decide_eq_true h3
      refine LW.skip (after_code ?_)
      refine LW.seq ?_
      refine LW.block ?_
      refine LW.seq ?_
      obtain ⟨x, hx⟩ := at_lt (show i < l.length by omega)
      have hxl := ac_len x
      have hxu := x.up.p.2
      have hxd := x.down.p.2
      have hxb := x.by_.2
      obtain ⟨hf1, hf2⟩ := hf x (List.mem_of_getElem? hx)
      have hws := sumW_at hx
      have hw0 : acW x = 1 + x.ids.length + x.texts.length := rfl
      refine LW.region ?_
      refine X.u (LU.at Tryd.underlying42 ⟨Tryd.sizeOf52, Tryd.isAgg52⟩ Is.rfl' Is.rfl' (by omega) (acs_at hx) (ac_ne x)) rfl ?_
      refine X.u (LU.weak (LU.load ⟨Tryd.sizeOf52, Tryd.isAgg52⟩ Is.rfl' (by assumption) (Part.whole (by assumption))) (Is.of (y := .agg (acL x)) (rfl))) rfl ?_
      refine X.act (X.alloc rfl Tryd.zeroValue52 (by exact Cells.rawagg (by decide)) (fun b5 => ?_))
      refine X.act (X.store 0 rfl Tryd.sizeOf52 Is.rfl' Is.rfl' (by exact Cells.agg) (by assumption) (by exact Nat.le_of_ble_eq_true rfl) ?_)
      refine LL.nil (after_code ?_)
      refine LW.seq ?_
      refine X.wcells (ys := acL x) (putAt_all (by rw [hxl]; rfl)) ?_
      refine LW.region ?_
      refine X.u (LU.moveR Is.rfl') rfl ?_
      refine X.u (LU.fieldO Tryd.underlying52 rfl Tryd.sizeOf26 (by decide) Is.rfl') rfl ?_
      refine X.u (LU.loadO 0 rfl ⟨Tryd.sizeOf26, Tryd.isAgg26⟩ Is.rfl' (Part.one (ac_ids x))) rfl ?_
      refine X.u (LU.weak (LU.lenN Tryd.underlying26 Is.rfl' (by (simp only [Option.getD_some, Option.getD_none, byteEls_length, intEls_length, List.length_append, List.length_cons, List.length_nil, List.length_map, List.length_drop, List.length_take, Int.toNat_natCast]; rfl))) (Is.of (y := i64 (x.ids.length : Nat)) (congrArg i64 (by rfl)))) rfl ?_
      refine X.u (LU.addN Is.rfl' Is.rfl' (wrap_i64 (by omega) (by omega))) rfl ?_
      refine X.u (LU.fieldO Tryd.underlying52 rfl Tryd.sizeOf25 (by decide) Is.rfl') rfl ?_
      refine X.u (LU.loadO 0 rfl ⟨Tryd.sizeOf25, Tryd.isAgg25⟩ Is.rfl' (Part.one (ac_texts x))) rfl ?_
      refine X.u (LU.weak (LU.lenN Tryd.underlying25 Is.rfl' (by (simp only [Option.getD_some, Option.getD_none, byteEls_length, intEls_length, List.length_append, List.length_cons, List.length_nil, List.length_map, List.length_drop, List.length_take, Int.toNat_natCast]; rfl))) (Is.of (y := i64 (x.texts.length : Nat)) (congrArg i64 (by rfl)))) rfl ?_
      refine X.u (LU.addN Is.rfl' Is.rfl' (wrap_i64 (by omega) (by omega))) rfl ?_
      refine X.u (LU.weak (LU.addN Is.rfl' Is.rfl' (wrap_i64 (by omega) (by omega))) (Is.of (y := i64 ((n + acW x : Nat) : Int)) (congrArg i64 (by rw [hw0]; omega)))) rfl ?_
      refine X.u (LU.assignR Is.rfl') rfl ?_
      refine LL.nil (after_code ?_)
      refine LW.seq ?_
      refine LW.region ?_
      refine X.u (LU.moveR Is.rfl') rfl ?_
      refine X.u (LU.gtr Is.rfl' Is.rfl') rfl ?_
      refine LL.nil (after_code ?_)
      refine X.cond rfl (fun h6 => ?_) (fun h6 => ?_)
      · have h6 : 120 < n + acW x := by have := of_decide_eq_true h6; omega
        have hz0 : (0 : Nat) = 0 := rfl
        refine LW.seq ?_
        refine LW.region ?_
        refine X.u (LU.assignR Is.rfl') rfl ?_
        refine LL.nil (after_code ?_)
        refine LW.ret (ret_blk (ret_code (ret_rnd (ret_blk (ret_code (after_end ?_))))))
        refine X.ret (H' := []) (Res.one (by exact IsR rfl)) (by repeat (first | exact HSub.refl _ | refine HSub.drop ?_)) ?_
        exact ⟨by unfold fewB; rw [decide_eq_false (by omega)], rfl⟩
      · have h6 : ¬ 120 < n + acW x := by have := of_decide_eq_false h6; omega
        have hz0 : (0 : Nat) = 0 := rfl
        refine LW.skip (after_blk (after_code ?_))
        refine LW.region ?_
        refine X.u (LU.addN Is.rfl' Is.rfl' (wrap_i64 (by omega) (by omega))) rfl ?_
        refine X.u (LU.moveR Is.rfl') rfl ?_
        refine LL.nil (after_rnd ?_)
        refine X.next ((i + 1, n + acW x)) rfl (EnvLe.cons (by rfl) (EnvLe.cons (by rfl) (EnvLe.nil))) (Keeps.cons (by exact Eq.trans (b := .sl _ _ _) rfl rfl) (Keeps.cons (by exact Eq.trans (b := .raw _) rfl rfl) (Keeps.nil))) (by repeat (first | exact HSub.refl _ | refine HSub.drop ?_)) ?_ ?_
        · exact ⟨by omega, by rw [take_snoc hx, sumW_snoc, hn], by omega⟩
        · (simp; omega)
    · try have h3 := of_decide_eq_false h3
      refine LW.exit (exit_code (exit_rnd (exit_blk (after_code ?_))))
      refine LW.seq ?_
      refine LW.region ?_
      refine X.u (LU.assignR Is.rfl') rfl ?_
      refine LL.nil (after_code ?_)
      refine LW.ret (after_end ?_)
      refine X.ret (H' := []) (Res.one (by exact IsR rfl)) (by repeat (exact HSub.refl _)) ?_
      have hil : i = l.length := by omega
      rw [hil, List.take_length] at hn
      exact ⟨by unfold fewB; rw [decide_eq_true (by omega)], rfl⟩
set_option maxRecDepth 100000 in
theorem texts_calls (a b : List (List UInt8)) (k1 k2 : Cap) (ha : a.length < 140737488355328) (hb : b.length < 140737488355328) : LCalls Tryd.prog 12 [.sl 1 (strsL a) k1, .sl 1 (strsL b) k2] [] (fun r H' => r = bl (decide (a = b)) ∧ H' = []) := by
  refine LCalls.of Tryd.func12 rfl Tryd.ntmps12 Tryd.results12 rfl (fun Rf => ?_)
  refine LW.seq ?_
  refine LW.region ?_
  refine X.u (LU.assignR Is.rfl') rfl ?_
  refine LL.nil (after_code ?_)
  refine LW.seq ?_
  refine LW.seq ?_
  refine LW.region ?_
  refine X.u (LU.moveS Is.rfl') rfl ?_
  refine X.u (LU.lenN Tryd.underlying25 Is.rfl' (by (simp only [Option.getD_some, Option.getD_none, byteEls_length, intEls_length, List.length_append, List.length_cons, List.length_nil, List.length_map, List.length_drop, List.length_take, Int.toNat_natCast]; rfl))) rfl ?_
  refine X.u (LU.moveS Is.rfl') rfl ?_
  refine X.u (LU.lenN Tryd.underlying25 Is.rfl' (by (simp only [Option.getD_some, Option.getD_none, byteEls_length, intEls_length, List.length_append, List.length_cons, List.length_nil, List.length_map, List.length_drop, List.length_take, Int.toNat_natCast]; rfl))) rfl ?_
  refine X.u (LU.neq Is.rfl' Is.rfl') rfl ?_
  refine LL.nil (after_code ?_)
  refine X.cond rfl (fun h1 => ?_) (fun h1 => ?_)
  · have h1 : a.length ≠ b.length := by have := h1; simp at this; omega
    have hz0 : (0 : Nat) = 0 := rfl
    refine LW.seq ?_
    refine LW.region ?_
    refine X.u (LU.assignR Is.rfl') rfl ?_
    refine LL.nil (after_code ?_)
    refine LW.ret (ret_code (after_end ?_))
    refine X.ret (H' := []) (Res.one (by exact IsR rfl)) (by repeat (exact HSub.refl _)) ?_
    exact ⟨by rw [decide_eq_false fun e => h1 (congrArg List.length e)], rfl⟩
  · have h1 : a.length = b.length := by have := h1; simp at this; omega
    have hz0 : (0 : Nat) = 0 := rfl
    refine LW.skip (after_code ?_)
    refine LW.seq ?_
    refine LW.seq ?_
    refine LW.region ?_
    refine X.u (LU.assignR Is.rfl') rfl ?_
    refine LL.nil (after_code ?_)
    refine LW.block ?_
    refine X.loopK (α := Nat) (fun i => [(5, i64 i)]) [0, 1] (fun i => Rf) (fun i => i ≤ a.length ∧ a.take i = b.take i) (fun i => a.length - i) (0) (EnvLe.cons (by rfl) (EnvLe.nil)) (by repeat (exact HSub.refl _)) ?_ ?_
    · exact ⟨Nat.zero_le _, by simp⟩
    · rintro i hI
      obtain ⟨hi, he⟩ := hI
      refine LW.seq ?_
      refine LW.seq ?_
      refine LW.region ?_
      refine X.u (LU.moveR Is.rfl') rfl ?_
      refine X.u (LU.moveS Is.rfl') rfl ?_
      refine X.u (LU.lenN Tryd.underlying25 Is.rfl' (by (simp only [Option.getD_some, Option.getD_none, byteEls_length, intEls_length, List.length_append, List.length_cons, List.length_nil, List.length_map, List.length_drop, List.length_take, Int.toNat_natCast]; rfl))) rfl ?_
      refine X.u (LU.lss Is.rfl' Is.rfl') rfl ?_
      refine LL.nil (after_code ?_)
      refine X.cond rfl (fun h4 => ?_) (fun h4 => ?_)
      · try have h4 := of_decide_eq_true h4
        refine LW.skip (after_code ?_)
        refine LW.seq ?_
        refine LW.block ?_
        refine LW.seq ?_
        obtain ⟨x, hx⟩ := at_lt (show i < a.length by omega)
        obtain ⟨y, hy⟩ := at_lt (show i < b.length by omega)
        refine X.drawM 9 rfl (by kernel_rfl) rfl ?_
        refine QD.u (LU.moveS Is.rfl') rfl ?_
        refine QD.u (LU.moveR Is.rfl') rfl ?_
        refine QD.u (LU.at Tryd.underlying25 ⟨Tryd.sizeOf9, Tryd.isAgg9⟩ Is.rfl' Is.rfl' (by omega) (strsL_at hx) (by simp)) rfl ?_
        refine QD.u (LU.load ⟨Tryd.sizeOf9, Tryd.isAgg9⟩ Is.rfl' (by (simp; done)) (Part.one rfl)) rfl ?_
        refine QD.u (LU.moveS Is.rfl') rfl ?_
        refine QD.u (LU.moveR Is.rfl') rfl ?_
        refine QD.u (LU.at Tryd.underlying25 ⟨Tryd.sizeOf9, Tryd.isAgg9⟩ Is.rfl' Is.rfl' (by omega) (strsL_at hy) (by simp)) rfl ?_
        refine QD.u (LU.load ⟨Tryd.sizeOf9, Tryd.isAgg9⟩ Is.rfl' (by (simp; done)) (Part.one rfl)) rfl ?_
        refine QD.u (LU.strneN Is.rfl' Is.rfl') rfl ?_
        refine QD.nil ?_
        refine LL.nil (after_code ?_)
        refine X.cond rfl (fun h6 => ?_) (fun h6 => ?_)
        · have h6 : x ≠ y := by simpa using h6
          have hz0 : (0 : Nat) = 0 := rfl
          refine LW.seq ?_
          refine LW.region ?_
          refine X.u (LU.assignR Is.rfl') rfl ?_
          refine LL.nil (after_code ?_)
          refine LW.ret (ret_blk (ret_code (ret_rnd (ret_blk (ret_code (after_end ?_))))))
          refine X.ret (H' := []) (Res.one (by exact IsR rfl)) (by repeat (exact HSub.refl _)) ?_
          exact ⟨by rw [decide_eq_false fun e => h6 (by rw [e, hy] at hx; exact (Option.some.inj hx).symm)], rfl⟩
        · have h6 : x = y := by simpa using h6
          have hz0 : (0 : Nat) = 0 := rfl
          refine LW.skip (after_blk (after_code ?_))
          refine LW.region ?_
          refine X.u (LU.moveR Is.rfl') rfl ?_
          refine X.u (LU.addN Is.rfl' Is.rfl' (wrap_i64 (by omega) (by omega))) rfl ?_
          refine X.u (LU.assignR Is.rfl') rfl ?_
          refine LL.nil (after_rnd ?_)
          refine X.next (i + 1) rfl (EnvLe.cons (by rfl) (EnvLe.nil)) (Keeps.cons (by exact Eq.trans (b := .sl _ _ _) rfl rfl) (Keeps.cons (by exact Eq.trans (b := .sl _ _ _) rfl rfl) (Keeps.nil))) (by repeat (exact HSub.refl _)) ?_ ?_
          · exact ⟨by omega, by rw [take_snoc hx, take_snoc hy, he, h6]⟩
          · omega
      · try have h4 := of_decide_eq_false h4
        refine LW.exit (exit_code (exit_rnd (exit_blk (after_code ?_))))
        refine LW.seq ?_
        refine LW.region ?_
        refine X.u (LU.assignR Is.rfl') rfl ?_
        refine LL.nil (after_code ?_)
        refine LW.ret (after_end ?_)
        refine X.ret (H' := []) (Res.one (by exact IsR rfl)) (by repeat (exact HSub.refl _)) ?_
        rw [List.take_of_length_le (by omega), List.take_of_length_le (by omega)] at he
        exact ⟨by rw [decide_eq_true he], rfl⟩
end Go.Proofs.YtolpkeajokjbjaaDoor
namespace Go.Proofs.YtolpkeajokjbjaaDoor
open Go.RowKit Go.L Go.Lib
attribute [local irreducible] LL LW LO
abbrev h1 : Hs := ⟨1 :: List.replicate 31 0, rfl⟩
abbrev idV (n : Int) : Vx := ⟨h1, n⟩
set_option maxRecDepth 100000 in
theorem id_calls (n : Int) : LCalls Tryd.prog 38 [i64 n] [] (fun r H' => r = .agg (vxL (idV n)) ∧ H' = []) := by
  have hl := vxL_len (idV n)
  refine LCalls.of Tryd.func38 rfl Tryd.ntmps38 Tryd.results38 rfl (fun Rf => ?_)
  refine LW.seq ?_
  refine LW.region ?_
  refine X.act (X.alloc rfl Tryd.zeroValue35 (by exact Cells.rawagg (by decide)) (fun b2 => ?_))
  refine LL.nil (after_code ?_)
  refine LW.seq ?_
  refine LW.region ?_
  refine X.u (LU.weak (LU.buildA Tryd.underlying31 Tryd.sizeOf5 Tryd.zeroValue31 (ones rfl) (Parts.cons Is.rfl' (by exact Cells.raw rfl) Parts.nil) rfl) (Is.of (y := .agg (hsL h1)) (rfl))) rfl ?_
  refine X.u (LU.moveR Is.rfl') rfl ?_
  refine X.u (LU.weak (LU.build (places := #[(0, 32), (32, 1)]) Tryd.underlying35 Tryd.zeroValue35 (ones rfl) (by intro w; simp [Tryd.sizeOf3, Tryd.sizeOf31]) (Parts.cons Is.rfl' (by exact Cells.agg) (Parts.cons Is.rfl' (by exact Cells.raw rfl) Parts.nil)) rfl) (Is.of (y := .agg (vxL (idV n))) (rfl))) rfl ?_
  refine X.act (X.store 0 rfl Tryd.sizeOf35 Is.rfl' Is.rfl' (by exact Cells.agg) (by (simp; done)) (by exact Nat.le_of_ble_eq_true rfl) ?_)
  refine LL.nil (after_code ?_)
  refine LW.ret (after_end ?_)
  rw [putAt_all (by rw [hl]; rfl)]
  refine X.ret (H' := []) (Res.cell1 0 rfl rfl ⟨Tryd.sizeOf35, Tryd.isAgg35⟩ (Part.whole hl) (IsA rfl)) (by repeat (first | exact HSub.refl _ | refine HSub.drop ?_)) ?_
  exact ⟨rfl, rfl⟩
def acE (r : Rg) (a : Ac) : Nat := if a.kind = 0 then raddE r a.up a.down a.ids a.texts else if a.kind = 1 then rdropE r a.ids else if a.kind = 2 then rkE r a.up a.by_ else ukE r a.up a.by_
def acG (r : Rg) (a : Ac) : Rg := if a.kind = 0 then raddG r a.up a.down a.ids a.texts else if a.kind = 1 then rdropG r a.ids else if a.kind = 2 then rkG r a.up a.by_ else ukG r a.up a.by_
set_option maxHeartbeats 1000000 in
set_option maxRecDepth 100000 in
theorem do_calls (g : Nat) (s : St) (r : Rg) (c : Nat) (a : Ac) (hs : StR s r c) (hc : c < 90000) (hi : a.ids.length < 100000) (ht : a.texts.length < 100000) : LCalls Tryd.prog 27 [pt g, .agg (acL a)] (H4 g s) (fun x H' => x = i64 (acE r a : Nat) ∧ ∃ s', H' = H4 g s' ∧ StR s' (acG r a) (c + 1)) := by
  have hal := ac_len a
  have hau := a.up.p.2
  have had := a.down.p.2
  have hab := a.by_.2
  have hil := vxs_size a.ids
  have hadd := add_r g hs hc a.up a.down a.ids a.texts .unk .unk hi ht
  have hdrop := drop_r g hs a.ids .unk hi
  have hkill := kill_r g hs hc a.up a.by_
  have hunk := unkill_r g hs hc a.up a.by_
  refine LCalls.of Tryd.func27 rfl Tryd.ntmps27 Tryd.results27 rfl (fun Rf => ?_)
  refine LW.seq ?_
  refine LW.region ?_
  refine X.act (X.box rfl Is.rfl' (by exact Cells.agg) (fun b3 => ?_))
  refine X.u (LU.assignR Is.rfl') rfl ?_
  refine LL.nil (after_code ?_)
  refine LW.seq ?_
  refine LW.seq ?_
  refine LW.region ?_
  refine X.u (LU.fieldO Tryd.underlying52 rfl Tryd.sizeOf3 (by decide) Is.rfl') rfl ?_
  refine X.u (LU.loadO 0 rfl ⟨Tryd.sizeOf3, Tryd.isAgg3⟩ Is.rfl' (Part.one (ac_kind a))) rfl ?_
  refine LL.nil (after_code ?_)
  refine LW.block ?_
  refine LW.seq ?_
  refine LW.region ?_
  refine X.u (LU.eql Is.rfl' Is.rfl') rfl ?_
  refine X.u (LU.assignR Is.rfl') rfl ?_
  refine LL.nil (after_code ?_)
  refine X.cond rfl (fun h2 => ?_) (fun h2 => ?_)
  · have h2 : a.kind = 0 := by simpa using h2
    have hz0 : (0 : Nat) = 0 := rfl
    refine LW.seq ?_
    refine X.drawM 13 rfl (by kernel_rfl) rfl ?_
    refine QD.u (LU.moveR Is.rfl') rfl ?_
    refine QD.u (LU.fieldO Tryd.underlying52 rfl Tryd.sizeOf35 (by decide) Is.rfl') rfl ?_
    refine QD.u (LU.weak (LU.loadO 0 rfl ⟨Tryd.sizeOf35, Tryd.isAgg35⟩ Is.rfl' (Part.sub (by (simp; omega)))) (Is.of (y := .agg (vxL a.up)) (congrArg LV.agg (ac_up a)))) rfl ?_
    refine QD.u (LU.fieldO Tryd.underlying52 rfl Tryd.sizeOf35 (by decide) Is.rfl') rfl ?_
    refine QD.u (LU.weak (LU.loadO 0 rfl ⟨Tryd.sizeOf35, Tryd.isAgg35⟩ Is.rfl' (Part.sub (by (simp; omega)))) (Is.of (y := .agg (vxL a.down)) (congrArg LV.agg (ac_down a)))) rfl ?_
    refine QD.u (LU.lits Tryd.underlying26 Tryd.sizeOf35 Tryd.zeroValue35 (ones rfl) rfl (by decide) (by decide) Elems.nil (by intro e he; cases he) rfl) rfl ?_
    refine QD.u (LU.fieldO Tryd.underlying52 rfl Tryd.sizeOf26 (by decide) Is.rfl') rfl ?_
    refine QD.u (LU.loadO 0 rfl ⟨Tryd.sizeOf26, Tryd.isAgg26⟩ Is.rfl' (Part.one (ac_ids a))) rfl ?_
    refine QD.u (LU.weak (LU.append Tryd.underlying26 (El.of (P := Tryd.prog) (z := (.agg #[(.int .u8 0), (.int .u8 0), (.int .u8 0), (.int .u8 0), (.int .u8 0), (.int .u8 0), (.int .u8 0), (.int .u8 0), (.int .u8 0), (.int .u8 0), (.int .u8 0), (.int .u8 0), (.int .u8 0), (.int .u8 0), (.int .u8 0), (.int .u8 0), (.int .u8 0), (.int .u8 0), (.int .u8 0), (.int .u8 0), (.int .u8 0), (.int .u8 0), (.int .u8 0), (.int .u8 0), (.int .u8 0), (.int .u8 0), (.int .u8 0), (.int .u8 0), (.int .u8 0), (.int .u8 0), (.int .u8 0), (.int .u8 0), (.int .i64 0)])) (size := 33) (bytes := 40) rfl rfl rfl) Is.rfl' Is.rfl' (SrcL.slice Tryd.underlying26 (by decide) hil) (by simp only [Option.getD_some, Option.getD_none, byteEls_length, intEls_length, List.length_append, List.length_cons, List.length_nil, List.length_map, List.length_drop, List.length_take, Int.toNat_natCast]; omega) (by simp only [Option.getD_some, Option.getD_none, byteEls_length, intEls_length, List.length_append, List.length_cons, List.length_nil, List.length_map, List.length_drop, List.length_take, Int.toNat_natCast]; omega)) (Is.of (y := Vxs a.ids .unk) (rfl))) rfl ?_
    refine QD.u (LU.lits Tryd.underlying25 Tryd.sizeOf9 Tryd.zeroValue9 (ones rfl) rfl (by decide) (by decide) Elems.nil (by intro e he; cases he) rfl) rfl ?_
    refine QD.u (LU.fieldO Tryd.underlying52 rfl Tryd.sizeOf25 (by decide) Is.rfl') rfl ?_
    refine QD.u (LU.loadO 0 rfl ⟨Tryd.sizeOf25, Tryd.isAgg25⟩ Is.rfl' (Part.one (ac_texts a))) rfl ?_
    refine QD.u (LU.weak (LU.append Tryd.underlying25 (El.of (P := Tryd.prog) (z := (.string ByteArray.empty)) (size := 1) (bytes := 16) rfl rfl rfl) Is.rfl' Is.rfl' (SrcL.slice Tryd.underlying25 (by decide) (by simp)) (by simp only [Option.getD_some, Option.getD_none, byteEls_length, intEls_length, List.length_append, List.length_cons, List.length_nil, List.length_map, List.length_drop, List.length_take, Int.toNat_natCast]; omega) (by simp only [Option.getD_some, Option.getD_none, byteEls_length, intEls_length, List.length_append, List.length_cons, List.length_nil, List.length_map, List.length_drop, List.length_take, Int.toNat_natCast]; omega)) (Is.of (y := .sl 1 (strsL a.texts) .unk) (rfl))) rfl ?_
    refine QD.nil ?_
    refine X.act (X.call (hadd) Tryd.func11 rfl rfl rfl (by (refine HSub.pick 1 rfl ?_); (refine HSub.pick 1 rfl ?_); (refine HSub.pick 1 rfl ?_); (refine HSub.pick 1 rfl ?_); exact HSub.refl _) (Opds.cons Is.rfl' (Opds.cons Is.rfl' (Opds.cons Is.rfl' (Opds.cons Is.rfl' (Opds.cons Is.rfl' Opds.nil))))) ?_)
    rintro r H' ⟨rfl, s', rfl, hs'⟩
    refine X.u (LU.assignR Is.rfl') rfl ?_
    refine LL.nil (after_code ?_)
    refine LW.ret (ret_blk (ret_code (after_end ?_)))
    refine X.ret (H' := H4 g s') (Res.one (by exact IsR rfl)) (by repeat (first | exact HSub.refl _ | refine HSub.pick 0 rfl ?_ | refine HSub.drop ?_)) ?_
    exact ⟨by unfold acE; rw [if_pos h2], s', rfl, by unfold acG; rw [if_pos h2]; exact hs'⟩
  · have h2 : a.kind ≠ 0 := by simpa using h2
    have hz0 : (0 : Nat) = 0 := rfl
    refine LW.seq ?_
    refine LW.region ?_
    refine X.u (LU.eql Is.rfl' Is.rfl') rfl ?_
    refine X.u (LU.assignR Is.rfl') rfl ?_
    refine LL.nil (after_code ?_)
    refine X.cond rfl (fun h4 => ?_) (fun h4 => ?_)
    · have h4 : a.kind = 1 := by simpa using h4
      have hz0 : (0 : Nat) = 0 := rfl
      refine LW.seq ?_
      refine LW.region ?_
      refine X.u (LU.moveR Is.rfl') rfl ?_
      refine X.u (LU.lits Tryd.underlying26 Tryd.sizeOf35 Tryd.zeroValue35 (ones rfl) rfl (by decide) (by decide) Elems.nil (by intro e he; cases he) rfl) rfl ?_
      refine X.u (LU.fieldO Tryd.underlying52 rfl Tryd.sizeOf26 (by decide) Is.rfl') rfl ?_
      refine X.u (LU.loadO 0 rfl ⟨Tryd.sizeOf26, Tryd.isAgg26⟩ Is.rfl' (Part.one (ac_ids a))) rfl ?_
      refine X.u (LU.weak (LU.append Tryd.underlying26 (El.of (P := Tryd.prog) (z := (.agg #[(.int .u8 0), (.int .u8 0), (.int .u8 0), (.int .u8 0), (.int .u8 0), (.int .u8 0), (.int .u8 0), (.int .u8 0), (.int .u8 0), (.int .u8 0), (.int .u8 0), (.int .u8 0), (.int .u8 0), (.int .u8 0), (.int .u8 0), (.int .u8 0), (.int .u8 0), (.int .u8 0), (.int .u8 0), (.int .u8 0), (.int .u8 0), (.int .u8 0), (.int .u8 0), (.int .u8 0), (.int .u8 0), (.int .u8 0), (.int .u8 0), (.int .u8 0), (.int .u8 0), (.int .u8 0), (.int .u8 0), (.int .u8 0), (.int .i64 0)])) (size := 33) (bytes := 40) rfl rfl rfl) Is.rfl' Is.rfl' (SrcL.slice Tryd.underlying26 (by decide) hil) (by simp only [Option.getD_some, Option.getD_none, byteEls_length, intEls_length, List.length_append, List.length_cons, List.length_nil, List.length_map, List.length_drop, List.length_take, Int.toNat_natCast]; omega) (by simp only [Option.getD_some, Option.getD_none, byteEls_length, intEls_length, List.length_append, List.length_cons, List.length_nil, List.length_map, List.length_drop, List.length_take, Int.toNat_natCast]; omega)) (Is.of (y := Vxs a.ids .unk) (rfl))) rfl ?_
      refine X.act (X.call (hdrop) Tryd.func22 rfl rfl rfl (by (refine HSub.pick 1 rfl ?_); (refine HSub.pick 1 rfl ?_); (refine HSub.pick 1 rfl ?_); (refine HSub.pick 1 rfl ?_); exact HSub.refl _) (Opds.cons Is.rfl' (Opds.cons Is.rfl' Opds.nil)) ?_)
      rintro r H' ⟨rfl, s', rfl, hs'⟩
      refine X.u (LU.assignR Is.rfl') rfl ?_
      refine LL.nil (after_code ?_)
      refine LW.ret (ret_blk (ret_code (after_end ?_)))
      refine X.ret (H' := H4 g s') (Res.one (by exact IsR rfl)) (by repeat (first | exact HSub.refl _ | refine HSub.pick 0 rfl ?_ | refine HSub.drop ?_)) ?_
      exact ⟨by unfold acE; rw [if_neg h2, if_pos h4], s', rfl, by unfold acG; rw [if_neg h2, if_pos h4]; exact hs'.mono (by omega)⟩
    · have h4 : a.kind ≠ 1 := by simpa using h4
      have hz0 : (0 : Nat) = 0 := rfl
      refine LW.seq ?_
      refine LW.region ?_
      refine X.u (LU.eql Is.rfl' Is.rfl') rfl ?_
      refine X.u (LU.assignR Is.rfl') rfl ?_
      refine LL.nil (after_code ?_)
      refine X.cond rfl (fun h6 => ?_) (fun h6 => ?_)
      · have h6 : a.kind = 2 := by simpa using h6
        have hz0 : (0 : Nat) = 0 := rfl
        refine LW.seq ?_
        refine LW.region ?_
        refine X.u (LU.moveR Is.rfl') rfl ?_
        refine X.u (LU.fieldO Tryd.underlying52 rfl Tryd.sizeOf35 (by decide) Is.rfl') rfl ?_
        refine X.u (LU.weak (LU.loadO 0 rfl ⟨Tryd.sizeOf35, Tryd.isAgg35⟩ Is.rfl' (Part.sub (by (simp; omega)))) (Is.of (y := .agg (vxL a.up)) (congrArg LV.agg (ac_up a)))) rfl ?_
        refine X.u (LU.fieldO Tryd.underlying52 rfl Tryd.sizeOf31 (by decide) Is.rfl') rfl ?_
        refine X.u (LU.weak (LU.loadO 0 rfl ⟨Tryd.sizeOf31, Tryd.isAgg31⟩ Is.rfl' (Part.sub (by (simp; omega)))) (Is.of (y := .agg (hsL a.by_)) (congrArg LV.agg (ac_by a)))) rfl ?_
        refine X.act (X.call (hkill) Tryd.func10 rfl rfl rfl (by (refine HSub.pick 1 rfl ?_); (refine HSub.pick 1 rfl ?_); (refine HSub.pick 1 rfl ?_); (refine HSub.pick 1 rfl ?_); exact HSub.refl _) (Opds.cons Is.rfl' (Opds.cons Is.rfl' (Opds.cons Is.rfl' Opds.nil))) ?_)
        rintro r H' ⟨rfl, s', rfl, hs'⟩
        refine X.u (LU.assignR Is.rfl') rfl ?_
        refine LL.nil (after_code ?_)
        refine LW.ret (ret_blk (ret_code (after_end ?_)))
        refine X.ret (H' := H4 g s') (Res.one (by exact IsR rfl)) (by repeat (first | exact HSub.refl _ | refine HSub.pick 0 rfl ?_ | refine HSub.drop ?_)) ?_
        exact ⟨by unfold acE; rw [if_neg h2, if_neg h4, if_pos h6], s', rfl, by unfold acG; rw [if_neg h2, if_neg h4, if_pos h6]; exact hs'⟩
      · have h6 : a.kind ≠ 2 := by simpa using h6
        have hz0 : (0 : Nat) = 0 := rfl
        refine LW.skip (after_blk (after_code ?_))
        refine LW.seq ?_
        refine LW.region ?_
        refine X.u (LU.moveR Is.rfl') rfl ?_
        refine X.u (LU.fieldO Tryd.underlying52 rfl Tryd.sizeOf35 (by decide) Is.rfl') rfl ?_
        refine X.u (LU.weak (LU.loadO 0 rfl ⟨Tryd.sizeOf35, Tryd.isAgg35⟩ Is.rfl' (Part.sub (by (simp; omega)))) (Is.of (y := .agg (vxL a.up)) (congrArg LV.agg (ac_up a)))) rfl ?_
        refine X.u (LU.fieldO Tryd.underlying52 rfl Tryd.sizeOf31 (by decide) Is.rfl') rfl ?_
        refine X.u (LU.weak (LU.loadO 0 rfl ⟨Tryd.sizeOf31, Tryd.isAgg31⟩ Is.rfl' (Part.sub (by (simp; omega)))) (Is.of (y := .agg (hsL a.by_)) (congrArg LV.agg (ac_by a)))) rfl ?_
        refine X.act (X.call (hunk) Tryd.func24 rfl rfl rfl (by (refine HSub.pick 1 rfl ?_); (refine HSub.pick 1 rfl ?_); (refine HSub.pick 1 rfl ?_); (refine HSub.pick 1 rfl ?_); exact HSub.refl _) (Opds.cons Is.rfl' (Opds.cons Is.rfl' (Opds.cons Is.rfl' Opds.nil))) ?_)
        rintro r H' ⟨rfl, s', rfl, hs'⟩
        refine X.u (LU.assignR Is.rfl') rfl ?_
        refine LL.nil (after_code ?_)
        refine LW.ret (after_end ?_)
        refine X.ret (H' := H4 g s') (Res.one (by exact IsR rfl)) (by repeat (first | exact HSub.refl _ | refine HSub.pick 0 rfl ?_ | refine HSub.drop ?_)) ?_
        exact ⟨by unfold acE; rw [if_neg h2, if_neg h4, if_neg h6], s', rfl, by unfold acG; rw [if_neg h2, if_neg h4, if_neg h6]; exact hs'.mono (by omega)⟩
abbrev rg0 : Rg := ⟨[], []⟩
end Go.Proofs.YtolpkeajokjbjaaDoor
namespace Go.Proofs.YtolpkeajokjbjaaDoor
open Go.RowKit Go.L Go.Lib
attribute [local irreducible] LL LW LO
def lv1 : Rg := raddG rg0 topV botV [idV 5] [[97]]
def lv2 : Rg := raddG lv1 topV (idV 5) [idV 6] [[98]]
def lv3 : Rg := raddG lv2 (idV 5) botV [idV 7] [[99]]
def lv4 : Rg := raddG lv3 (idV 5) botV [idV 8] [[100]]
set_option maxRecDepth 100000 in
theorem lv_facts : raddE rg0 topV botV [idV 5] [[97]] = 0 ∧ raddE lv1 topV (idV 5) [idV 6] [[98]] = 0 ∧ raddE lv2 (idV 5) botV [idV 7] [[99]] = 0 ∧ raddE lv3 (idV 5) botV [idV 8] [[100]] = 0 ∧ textsG lv4 = [[98], [97], [99], [100]] ∧ conflG lv4 = 1 ∧ (idsG lv4.L).length = 4 := by decide +kernel
set_option maxHeartbeats 2000000 in
set_option maxRecDepth 100000 in
theorem lives_calls : LCalls Tryd.prog 15 [] [kb] (fun x H' => x = bl true ∧ H' = [kb]) := by
  obtain ⟨f1, f2, f3, f4, f5, f6, f7⟩ := lv_facts
  have htl := vxL_len topV
  have hbl := vxL_len botV
  have hi5 := vxL_len (idV 5)
  have hi6 := vxL_len (idV 6)
  have hi7 := vxL_len (idV 7)
  have hi8 := vxL_len (idV 8)
  refine LCalls.of Tryd.func15 rfl Tryd.ntmps15 Tryd.results15 rfl (fun Rf => ?_)
  refine LW.seq ?_
  refine LW.region ?_
  refine X.u (LU.assignR Is.rfl') rfl ?_
  refine LL.nil (after_code ?_)
  refine LW.seq ?_
  refine LW.region ?_
  refine X.act (X.call (new_r) Tryd.func9 rfl rfl rfl (by (refine HSub.pick 0 rfl ?_); exact HSub.refl _) Opds.nil ?_)
  rintro r H' ⟨g, s0, rfl, rfl, hs0⟩
  refine X.u (LU.assignR Is.rfl') rfl ?_
  refine LL.nil (after_code ?_)
  refine LW.seq ?_
  refine LW.region ?_
  refine X.u (LU.weak (LU.build (places := #[(0, 32), (32, 1)]) Tryd.underlying35 Tryd.zeroValue35 (ones rfl) (by intro w; simp [Tryd.sizeOf3, Tryd.sizeOf31]) Parts.nil rfl) (Is.of (y := .agg (vxL topV)) (rfl))) rfl ?_
  refine X.u (LU.weak (LU.build (places := #[(0, 32), (32, 1)]) Tryd.underlying35 Tryd.zeroValue35 (ones rfl) (by intro w; simp [Tryd.sizeOf3, Tryd.sizeOf31]) (Parts.cons Is.rfl' (by exact Cells.raw rfl) Parts.nil) rfl) (Is.of (y := .agg (vxL botV)) (rfl))) rfl ?_
  refine X.act (X.alloc rfl Tryd.zeroValue35 (by exact Cells.rawagg (by decide)) (fun b2 => ?_))
  refine X.act (X.alloc rfl Tryd.zeroValue35 (by exact Cells.rawagg (by decide)) (fun b3 => ?_))
  refine X.act (X.store 1 rfl Tryd.sizeOf35 Is.rfl' Is.rfl' (by exact Cells.agg) (by (simp; done)) (by exact Nat.le_of_ble_eq_true rfl) ?_)
  refine X.act (X.store 1 rfl Tryd.sizeOf35 Is.rfl' Is.rfl' (by exact Cells.agg) (by (simp; done)) (by exact Nat.le_of_ble_eq_true rfl) ?_)
  refine LL.nil (after_code ?_)
  refine LW.seq ?_
  refine X.wghost (H' := .cells b2 35 (vxL topV) :: .cells b3 35 (vxL botV) :: gC g s0.ma s0.mb s0.n :: gA s0.ma s0.m :: gP s0.mb s0.q :: kb :: Rf) (by repeat (first | exact HSub.refl _ | refine HSub.pick 1 rfl ?_)) ?_
  have ha1 := add_r g hs0 (by decide) topV botV [idV 5] [[97]] .full .full (by decide) (by decide)
  rw [f1] at ha1
  obtain ⟨R1, hR1⟩ : ∃ R1, R1 = raddG rg0 topV botV [idV 5] [[97]] := ⟨_, rfl⟩
  rw [← hR1] at ha1
  refine X.drawM 6 rfl (by kernel_rfl) rfl ?_
  refine QD.u (LU.moveR Is.rfl') rfl ?_
  refine QD.u (LU.weak (LU.loadO 0 rfl ⟨Tryd.sizeOf35, Tryd.isAgg35⟩ Is.rfl' (Part.whole (by (simp; done)))) (Is.of (y := .agg (vxL topV)) (rfl))) rfl ?_
  refine QD.u (LU.weak (LU.loadO 1 rfl ⟨Tryd.sizeOf35, Tryd.isAgg35⟩ Is.rfl' (Part.whole (by (simp; done)))) (Is.of (y := .agg (vxL botV)) (rfl))) rfl ?_
  refine QD.u (LU.call (id_calls 5) Tryd.func38 rfl rfl (Opds.cons Is.rfl' Opds.nil)) rfl ?_
  refine QD.u (LU.weak (LU.lits Tryd.underlying26 Tryd.sizeOf35 Tryd.zeroValue35 (ones rfl) rfl (by decide) (by decide) (Elems.cons Is.rfl' (by exact Cells.agg) Elems.nil) (by (simp; done)) rfl) (Is.of (y := Vxs [idV 5] .full) (rfl))) rfl ?_
  refine QD.u (LU.weak (LU.lits Tryd.underlying25 Tryd.sizeOf9 Tryd.zeroValue9 (ones rfl) rfl (by decide) (by decide) (Elems.cons Is.rfl' (by exact Cells.raw rfl) Elems.nil) (by (simp; done)) rfl) (Is.of (y := .sl 1 (strsL [[97]]) .full) (rfl))) rfl ?_
  refine QD.nil ?_
  refine X.act (X.call (ha1) Tryd.func11 rfl rfl rfl (by (refine HSub.pick 2 rfl ?_); (refine HSub.pick 2 rfl ?_); (refine HSub.pick 2 rfl ?_); (refine HSub.pick 2 rfl ?_); exact HSub.refl _) (Opds.cons Is.rfl' (Opds.cons Is.rfl' (Opds.cons Is.rfl' (Opds.cons Is.rfl' (Opds.cons Is.rfl' Opds.nil))))) ?_)
  rintro r H' ⟨rfl, s1, rfl, hs1⟩
  refine X.u (LU.assignR Is.rfl') rfl ?_
  refine LL.nil (after_code ?_)
  refine LW.seq ?_
  refine X.wghost (H' := .cells b2 35 (vxL topV) :: .cells b3 35 (vxL botV) :: gC g s1.ma s1.mb s1.n :: gA s1.ma s1.m :: gP s1.mb s1.q :: kb :: Rf) (by repeat (first | exact HSub.refl _ | refine HSub.pick 4 rfl ?_)) ?_
  rw [hR1, show raddG rg0 topV botV [idV 5] [[97]] = lv1 from rfl] at hs1
  have ha2 := add_r g hs1 (by decide) topV (idV 5) [idV 6] [[98]] .full .full (by decide) (by decide)
  rw [f2, show raddG lv1 topV (idV 5) [idV 6] [[98]] = lv2 from rfl] at ha2
  refine X.drawM 6 rfl (by kernel_rfl) rfl ?_
  refine QD.u (LU.moveR Is.rfl') rfl ?_
  refine QD.u (LU.weak (LU.loadO 0 rfl ⟨Tryd.sizeOf35, Tryd.isAgg35⟩ Is.rfl' (Part.whole (by (simp; done)))) (Is.of (y := .agg (vxL topV)) (rfl))) rfl ?_
  refine QD.u (LU.call (id_calls 5) Tryd.func38 rfl rfl (Opds.cons Is.rfl' Opds.nil)) rfl ?_
  refine QD.u (LU.call (id_calls 6) Tryd.func38 rfl rfl (Opds.cons Is.rfl' Opds.nil)) rfl ?_
  refine QD.u (LU.weak (LU.lits Tryd.underlying26 Tryd.sizeOf35 Tryd.zeroValue35 (ones rfl) rfl (by decide) (by decide) (Elems.cons Is.rfl' (by exact Cells.agg) Elems.nil) (by (simp; done)) rfl) (Is.of (y := Vxs [idV 6] .full) (rfl))) rfl ?_
  refine QD.u (LU.weak (LU.lits Tryd.underlying25 Tryd.sizeOf9 Tryd.zeroValue9 (ones rfl) rfl (by decide) (by decide) (Elems.cons Is.rfl' (by exact Cells.raw rfl) Elems.nil) (by (simp; done)) rfl) (Is.of (y := .sl 1 (strsL [[98]]) .full) (rfl))) rfl ?_
  refine QD.nil ?_
  refine X.act (X.call (ha2) Tryd.func11 rfl rfl rfl (by (refine HSub.pick 2 rfl ?_); (refine HSub.pick 2 rfl ?_); (refine HSub.pick 2 rfl ?_); (refine HSub.pick 2 rfl ?_); exact HSub.refl _) (Opds.cons Is.rfl' (Opds.cons Is.rfl' (Opds.cons Is.rfl' (Opds.cons Is.rfl' (Opds.cons Is.rfl' Opds.nil))))) ?_)
  rintro r H' ⟨rfl, s2, rfl, hs2⟩
  refine X.u (LU.assignR Is.rfl') rfl ?_
  refine LL.nil (after_code ?_)
  refine LW.seq ?_
  refine X.wghost (H' := .cells b2 35 (vxL topV) :: .cells b3 35 (vxL botV) :: gC g s2.ma s2.mb s2.n :: gA s2.ma s2.m :: gP s2.mb s2.q :: kb :: Rf) (by repeat (first | exact HSub.refl _ | refine HSub.pick 4 rfl ?_)) ?_
  have ha3 := add_r g hs2 (by decide) (idV 5) botV [idV 7] [[99]] .full .full (by decide) (by decide)
  rw [f3, show raddG lv2 (idV 5) botV [idV 7] [[99]] = lv3 from rfl] at ha3
  refine X.drawM 6 rfl (by kernel_rfl) rfl ?_
  refine QD.u (LU.moveR Is.rfl') rfl ?_
  refine QD.u (LU.call (id_calls 5) Tryd.func38 rfl rfl (Opds.cons Is.rfl' Opds.nil)) rfl ?_
  refine QD.u (LU.weak (LU.loadO 1 rfl ⟨Tryd.sizeOf35, Tryd.isAgg35⟩ Is.rfl' (Part.whole (by (simp; done)))) (Is.of (y := .agg (vxL botV)) (rfl))) rfl ?_
  refine QD.u (LU.call (id_calls 7) Tryd.func38 rfl rfl (Opds.cons Is.rfl' Opds.nil)) rfl ?_
  refine QD.u (LU.weak (LU.lits Tryd.underlying26 Tryd.sizeOf35 Tryd.zeroValue35 (ones rfl) rfl (by decide) (by decide) (Elems.cons Is.rfl' (by exact Cells.agg) Elems.nil) (by (simp; done)) rfl) (Is.of (y := Vxs [idV 7] .full) (rfl))) rfl ?_
  refine QD.u (LU.weak (LU.lits Tryd.underlying25 Tryd.sizeOf9 Tryd.zeroValue9 (ones rfl) rfl (by decide) (by decide) (Elems.cons Is.rfl' (by exact Cells.raw rfl) Elems.nil) (by (simp; done)) rfl) (Is.of (y := .sl 1 (strsL [[99]]) .full) (rfl))) rfl ?_
  refine QD.nil ?_
  refine X.act (X.call (ha3) Tryd.func11 rfl rfl rfl (by (refine HSub.pick 2 rfl ?_); (refine HSub.pick 2 rfl ?_); (refine HSub.pick 2 rfl ?_); (refine HSub.pick 2 rfl ?_); exact HSub.refl _) (Opds.cons Is.rfl' (Opds.cons Is.rfl' (Opds.cons Is.rfl' (Opds.cons Is.rfl' (Opds.cons Is.rfl' Opds.nil))))) ?_)
  rintro r H' ⟨rfl, s3, rfl, hs3⟩
  refine X.u (LU.assignR Is.rfl') rfl ?_
  refine LL.nil (after_code ?_)
  refine LW.seq ?_
  refine X.wghost (H' := .cells b2 35 (vxL topV) :: .cells b3 35 (vxL botV) :: gC g s3.ma s3.mb s3.n :: gA s3.ma s3.m :: gP s3.mb s3.q :: kb :: Rf) (by repeat (first | exact HSub.refl _ | refine HSub.pick 4 rfl ?_)) ?_
  have ha4 := add_r g hs3 (by decide) (idV 5) botV [idV 8] [[100]] .full .full (by decide) (by decide)
  rw [f4, show raddG lv3 (idV 5) botV [idV 8] [[100]] = lv4 from rfl] at ha4
  refine X.drawM 6 rfl (by kernel_rfl) rfl ?_
  refine QD.u (LU.moveR Is.rfl') rfl ?_
  refine QD.u (LU.call (id_calls 5) Tryd.func38 rfl rfl (Opds.cons Is.rfl' Opds.nil)) rfl ?_
  refine QD.u (LU.weak (LU.loadO 1 rfl ⟨Tryd.sizeOf35, Tryd.isAgg35⟩ Is.rfl' (Part.whole (by (simp; done)))) (Is.of (y := .agg (vxL botV)) (rfl))) rfl ?_
  refine QD.u (LU.call (id_calls 8) Tryd.func38 rfl rfl (Opds.cons Is.rfl' Opds.nil)) rfl ?_
  refine QD.u (LU.weak (LU.lits Tryd.underlying26 Tryd.sizeOf35 Tryd.zeroValue35 (ones rfl) rfl (by decide) (by decide) (Elems.cons Is.rfl' (by exact Cells.agg) Elems.nil) (by (simp; done)) rfl) (Is.of (y := Vxs [idV 8] .full) (rfl))) rfl ?_
  refine QD.u (LU.weak (LU.lits Tryd.underlying25 Tryd.sizeOf9 Tryd.zeroValue9 (ones rfl) rfl (by decide) (by decide) (Elems.cons Is.rfl' (by exact Cells.raw rfl) Elems.nil) (by (simp; done)) rfl) (Is.of (y := .sl 1 (strsL [[100]]) .full) (rfl))) rfl ?_
  refine QD.nil ?_
  refine X.act (X.call (ha4) Tryd.func11 rfl rfl rfl (by (refine HSub.pick 2 rfl ?_); (refine HSub.pick 2 rfl ?_); (refine HSub.pick 2 rfl ?_); (refine HSub.pick 2 rfl ?_); exact HSub.refl _) (Opds.cons Is.rfl' (Opds.cons Is.rfl' (Opds.cons Is.rfl' (Opds.cons Is.rfl' (Opds.cons Is.rfl' Opds.nil))))) ?_)
  rintro r H' ⟨rfl, s4, rfl, hs4⟩
  refine X.u (LU.assignR Is.rfl') rfl ?_
  refine LL.nil (after_code ?_)
  refine LW.seq ?_
  refine X.wghost (H' := gC g s4.ma s4.mb s4.n :: gA s4.ma s4.m :: kb :: gP s4.mb s4.q :: .cells b2 35 (vxL topV) :: .cells b3 35 (vxL botV) :: Rf) (by repeat (first | exact HSub.refl _ | refine HSub.pick 0 rfl ?_ | refine HSub.pick 1 rfl ?_)) ?_
  have hD : lv4.D.length < 900000 := by have := hs4.dc; omega
  have htc := text_calls g s4.ma s4.mb s4.n s4.m s4.q lv4 hs4.rel hs4.ok hD
  rw [f5] at htc
  have hcc := conflicts_calls g s4.ma s4.mb s4.n s4.m s4.q lv4 hs4.rel hs4.ok hD
  rw [f6] at hcc
  have hlc := len_r g hs4
  rw [f7] at hlc
  refine LW.region ?_
  refine X.u (LU.moveR Is.rfl') rfl ?_
  refine X.u (LU.eql Is.rfl' Is.rfl') rfl ?_
  refine X.u (LU.moveR Is.rfl') rfl ?_
  refine X.doT rfl rfl (LU.moveR (by exact Is.rfl')) rfl ?_
  refine X.doT rfl rfl (LU.eql (by exact Is.rfl') (by exact Is.rfl')) rfl ?_
  refine X.u (LU.pickT Is.rfl' (by exact Is.rfl')) rfl ?_
  refine X.u (LU.moveR Is.rfl') rfl ?_
  refine X.doT rfl rfl (LU.moveR (by exact Is.rfl')) rfl ?_
  refine X.doT rfl rfl (LU.eql (by exact Is.rfl') (by exact Is.rfl')) rfl ?_
  refine X.u (LU.pickT Is.rfl' (by exact Is.rfl')) rfl ?_
  refine X.u (LU.moveR Is.rfl') rfl ?_
  refine X.doT rfl rfl (LU.moveR (by exact Is.rfl')) rfl ?_
  refine X.doT rfl rfl (LU.eql (by exact Is.rfl') (by exact Is.rfl')) rfl ?_
  refine X.u (LU.pickT Is.rfl' (by exact Is.rfl')) rfl ?_
  refine X.u (LU.moveR Is.rfl') rfl ?_
  refine X.doT rfl rfl (LU.moveR (by exact Is.rfl')) rfl ?_
  refine X.doT rfl rfl (LU.callP (List.Perm.refl _) (htc) Tryd.func13 rfl rfl (Opds.cons (by exact Is.rfl') Opds.nil)) rfl ?_
  refine X.doT rfl rfl (LU.weak (LU.lits Tryd.underlying25 Tryd.sizeOf9 Tryd.zeroValue9 (ones rfl) rfl (by decide) (by decide) (Elems.cons (by exact Is.rfl') (by exact Cells.raw rfl) (Elems.cons (by exact Is.rfl') (by exact Cells.raw rfl) (Elems.cons (by exact Is.rfl') (by exact Cells.raw rfl) (Elems.cons (by exact Is.rfl') (by exact Cells.raw rfl) Elems.nil)))) (by (simp; done)) rfl) (Is.of (y := .sl 1 (strsL [[98], [97], [99], [100]]) .full) (rfl))) rfl ?_
  refine X.doT rfl rfl (LU.call (texts_calls [[98], [97], [99], [100]] [[98], [97], [99], [100]] .unk .full (by decide) (by decide)) Tryd.func12 rfl rfl (Opds.cons (by exact Is.rfl') (Opds.cons (by exact Is.rfl') Opds.nil))) rfl ?_
  refine X.u (LU.pickT Is.rfl' (by exact Is.rfl')) rfl ?_
  refine X.u (LU.moveR Is.rfl') rfl ?_
  refine X.doT rfl rfl (LU.moveR (by exact Is.rfl')) rfl ?_
  refine X.doT rfl rfl (LU.callP (List.Perm.refl _) (hcc) Tryd.func14 rfl rfl (Opds.cons (by exact Is.rfl') Opds.nil)) rfl ?_
  refine X.doT rfl rfl (LU.eql (by exact Is.rfl') (by exact Is.rfl')) rfl ?_
  refine X.u (LU.pickT Is.rfl' (by exact Is.rfl')) rfl ?_
  refine X.u (LU.moveR Is.rfl') rfl ?_
  refine X.doT rfl rfl (LU.moveR (by exact Is.rfl')) rfl ?_
  refine X.doT rfl rfl (LU.callP (List.Perm.refl _) (hlc) Tryd.func19 rfl rfl (Opds.cons (by exact Is.rfl') Opds.nil)) rfl ?_
  refine X.doT rfl rfl (LU.eql (by exact Is.rfl') (by exact Is.rfl')) rfl ?_
  refine X.u (LU.pickT Is.rfl' (by exact Is.rfl')) rfl ?_
  refine X.u (LU.moveR Is.rfl') rfl ?_
  refine X.u (LU.pickT Is.rfl' (by exact Is.rfl')) rfl ?_
  refine X.u (LU.assignR Is.rfl') rfl ?_
  refine LL.nil (after_code ?_)
  refine LW.ret (after_end ?_)
  refine X.ret (H' := [kb]) (Res.one (by exact IsR rfl)) (by repeat (first | exact HSub.refl _ | refine HSub.pick 2 rfl ?_ | refine HSub.drop ?_)) ?_
  exact ⟨rfl, rfl⟩
end Go.Proofs.YtolpkeajokjbjaaDoor
