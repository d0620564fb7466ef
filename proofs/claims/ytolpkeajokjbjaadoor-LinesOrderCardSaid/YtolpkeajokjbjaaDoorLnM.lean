/- Lines: vertices compared; the least one. -/
import Derived.Test.YtolpkeajokjbjaaDoorLnL
import Derived.Test.YtolpkeajokjbjaaDoorLgD
set_option linter.unusedVariables false
set_option linter.unusedSimpArgs false
namespace Go.Proofs.YtolpkeajokjbjaaDoor
open Go.RowKit Go.L Go.Lib
attribute [local irreducible] LL LW LO
theorem bc1 : (Tryd.f75.name == "runtime.NumGoroutine") = false := by kernel_rfl
theorem bc2 : Tryd.f75.body.isNone = true := by kernel_rfl
theorem bc3 : Extern.findNext Tryd.f75 = none := by kernel_rfl
theorem bc4 : Extern.find Tryd.f75 = some Extern.BytealgCompare.compare := by kernel_rfl
set_option maxRecDepth 100000 in
theorem bcmp_calls (a b : List UInt8) (ka kb : Cap) (ha : a ≠ []) (hb : b ≠ []) : LCalls Tryd.prog 69 [.sl 1 (byteEls a) ka, .sl 1 (byteEls b) kb] [] (fun r H' => r = i64 (compareBytes a b) ∧ H' = []) := by
  refine LCalls.of Tryd.func69 rfl Tryd.ntmps69 Tryd.results69 rfl (fun Rf => ?_)
  refine LW.seq ?_
  refine LW.region ?_
  refine X.u (LU.assignR Is.rfl') rfl ?_
  refine LL.nil (after_code ?_)
  refine LW.seq ?_
  refine LW.region ?_
  refine X.u (LU.moveS Is.rfl') rfl ?_
  refine X.u (LU.moveS Is.rfl') rfl ?_
  refine X.u (LU.bcmp Tryd.func75 bc1 bc2 bc3 bc4 ha hb Is.rfl' Is.rfl') rfl ?_
  refine X.u (LU.assignR Is.rfl') rfl ?_
  refine LL.nil (after_code ?_)
  refine LW.ret (after_end ?_)
  refine X.ret (H' := []) (Res.one (by exact IsR rfl)) (by repeat (exact HSub.refl _)) ?_
  exact ⟨rfl, rfl⟩
def cmpI (x y : Int) : Int := if x < y then -1 else if y < x then 1 else 0
set_option maxRecDepth 100000 in
theorem isnan_calls (x : Int) : LCalls Tryd.prog 76 [i64 x] [] (fun r H' => r = bl false ∧ H' = []) := by
  refine LCalls.of Tryd.func76 rfl Tryd.ntmps76 Tryd.results76 rfl (fun Rf => ?_)
  refine LW.seq ?_
  refine LW.region ?_
  refine X.u (LU.assignR Is.rfl') rfl ?_
  refine LL.nil (after_code ?_)
  refine LW.seq ?_
  refine LW.region ?_
  refine X.u (LU.moveR Is.rfl') rfl ?_
  refine X.u (LU.moveR Is.rfl') rfl ?_
  refine X.u (LU.neq Is.rfl' Is.rfl') rfl ?_
  refine X.u (LU.assignR Is.rfl') rfl ?_
  refine LL.nil (after_code ?_)
  refine LW.ret (after_end ?_)
  refine X.ret (H' := []) (Res.one (by exact IsR rfl)) (by repeat (exact HSub.refl _)) ?_
  exact ⟨by simp, rfl⟩
set_option maxRecDepth 100000 in
theorem cmpi_calls (x y : Int) : LCalls Tryd.prog 70 [i64 x, i64 y] [] (fun r H' => r = i64 (cmpI x y) ∧ H' = []) := by
  refine LCalls.of Tryd.func70 rfl Tryd.ntmps70 Tryd.results70 rfl (fun Rf => ?_)
  refine LW.seq ?_
  refine LW.region ?_
  refine X.u (LU.assignR Is.rfl') rfl ?_
  refine LL.nil (after_code ?_)
  refine LW.seq ?_
  refine LW.region ?_
  refine X.u (LU.moveR Is.rfl') rfl ?_
  refine X.u (LU.call (isnan_calls x) Tryd.func76 rfl rfl (Opds.cons Is.rfl' Opds.nil)) rfl ?_
  refine X.u (LU.assignR Is.rfl') rfl ?_
  refine LL.nil (after_code ?_)
  refine LW.seq ?_
  refine LW.region ?_
  refine X.u (LU.moveR Is.rfl') rfl ?_
  refine X.u (LU.call (isnan_calls y) Tryd.func76 rfl rfl (Opds.cons Is.rfl' Opds.nil)) rfl ?_
  refine X.u (LU.assignR Is.rfl') rfl ?_
  refine LL.nil (after_code ?_)
  refine LW.seq ?_
  refine LW.seq ?_
  refine LW.region ?_
  refine X.u (LU.moveR Is.rfl') rfl ?_
  refine LL.nil (after_code ?_)
  refine X.condF rfl ?_ ?_
  · rfl
  refine LW.skip (after_code ?_)
  refine LW.seq ?_
  refine LW.seq ?_
  refine LW.region ?_
  refine X.u (LU.moveR Is.rfl') rfl ?_
  refine LL.nil (after_code ?_)
  refine X.condF rfl ?_ ?_
  · rfl
  refine LW.skip (after_code ?_)
  refine LW.seq ?_
  refine LW.seq ?_
  refine LW.region ?_
  refine X.u (LU.moveR Is.rfl') rfl ?_
  refine X.u (LU.moveR Is.rfl') rfl ?_
  refine X.u (LU.lss Is.rfl' Is.rfl') rfl ?_
  refine LL.nil (after_code ?_)
  refine X.cond rfl (fun h9 => ?_) (fun h9 => ?_)
  · have h9 : x < y := of_decide_eq_true h9
    have hz0 : (0 : Nat) = 0 := rfl
    refine LW.seq ?_
    refine LW.region ?_
    refine X.u (LU.assignR Is.rfl') rfl ?_
    refine LL.nil (after_code ?_)
    refine LW.ret (ret_code (after_end ?_))
    refine X.ret (H' := []) (Res.one (by exact IsR rfl)) (by repeat (exact HSub.refl _)) ?_
    exact ⟨by unfold cmpI; rw [if_pos h9], rfl⟩
  · have h9 : ¬ x < y := of_decide_eq_false h9
    have hz0 : (0 : Nat) = 0 := rfl
    refine LW.skip (after_code ?_)
    refine LW.seq ?_
    refine LW.seq ?_
    refine LW.region ?_
    refine X.u (LU.moveR Is.rfl') rfl ?_
    refine X.u (LU.moveR Is.rfl') rfl ?_
    refine X.u (LU.gtr Is.rfl' Is.rfl') rfl ?_
    refine LL.nil (after_code ?_)
    refine X.cond rfl (fun h11 => ?_) (fun h11 => ?_)
    · have h11 : y < x := of_decide_eq_true h11
      have hz0 : (0 : Nat) = 0 := rfl
      refine LW.seq ?_
      refine LW.region ?_
      refine X.u (LU.assignR Is.rfl') rfl ?_
      refine LL.nil (after_code ?_)
      refine LW.ret (ret_code (after_end ?_))
      refine X.ret (H' := []) (Res.one (by exact IsR rfl)) (by repeat (exact HSub.refl _)) ?_
      exact ⟨by unfold cmpI; rw [if_neg h9, if_pos h11], rfl⟩
    · have h11 : ¬ y < x := of_decide_eq_false h11
      have hz0 : (0 : Nat) = 0 := rfl
      refine LW.skip (after_code ?_)
      refine LW.seq ?_
      refine LW.region ?_
      refine X.u (LU.assignR Is.rfl') rfl ?_
      refine LL.nil (after_code ?_)
      refine LW.ret (after_end ?_)
      refine X.ret (H' := []) (Res.one (by exact IsR rfl)) (by repeat (exact HSub.refl _)) ?_
      exact ⟨by unfold cmpI; rw [if_neg h9, if_neg h11], rfl⟩
def cmpV (a b : Vx) : Int := if compareBytes a.p.1 b.p.1 ≠ 0 then compareBytes a.p.1 b.p.1 else cmpI a.n b.n
theorem vx_els (a : Vx) : singles (((vxL a).drop 0).take 32) = byteEls a.p.1 := by
  rw [List.drop_zero, List.take_left' (hsL_len a.p)]
  show (a.p.1.map _).map _ = _
  rw [List.map_map]; rfl
theorem vx_num (a : Vx) : (vxL a)[32]? = some (i64 a.n) := by
  rw [List.getElem?_append_right (by rw [hsL_len]; exact Nat.le_refl _), hsL_len]; rfl
theorem hs_nonnil (a : Hs) : a.1 ≠ [] := fun c => by have := a.2; rw [c] at this; cases this
set_option maxHeartbeats 1000000 in
set_option maxRecDepth 100000 in
theorem cmpv_calls (a b : Vx) : LCalls Tryd.prog 68 [.agg (vxL a), .agg (vxL b)] [] (fun r H' => r = i64 (cmpV a b) ∧ H' = []) := by
  have hal := vxL_len a
  have hbl := vxL_len b
  have ha32 : a.p.1.length = 32 := a.p.2
  have hb32 : b.p.1.length = 32 := b.p.2
  refine LCalls.of Tryd.func68 rfl Tryd.ntmps68 Tryd.results68 rfl (fun Rf => ?_)
  refine LW.seq ?_
  refine LW.region ?_
  refine X.act (X.box rfl Is.rfl' (by exact Cells.agg) (fun b2 => ?_))
  refine X.act (X.box rfl Is.rfl' (by exact Cells.agg) (fun b3 => ?_))
  refine X.u (LU.assignR Is.rfl') rfl ?_
  refine LL.nil (after_code ?_)
  refine LW.seq ?_
  refine LW.seq ?_
  refine LW.know 0 rfl ?_
  refine LW.know 1 rfl ?_
  refine X.drawM 6 rfl (by kernel_rfl) rfl ?_
  refine QD.u (LU.fieldO Tryd.underlying35 rfl Tryd.sizeOf31 (by decide) Is.rfl') rfl ?_
  refine QD.u (LU.weak (LU.sliceKA 0 rfl Tryd.underlying31 Tryd.sizeOf5 Is.rfl' (by (rw [vxL_len]; decide))) (Is.of (y := .sl 1 (byteEls a.p.1) .full) (congrArg (fun z => LV.sl 1 z .full) (vx_els a)))) rfl ?_
  refine QD.u (LU.fieldO Tryd.underlying35 rfl Tryd.sizeOf31 (by decide) Is.rfl') rfl ?_
  refine QD.u (LU.weak (LU.sliceKA 1 rfl Tryd.underlying31 Tryd.sizeOf5 Is.rfl' (by (rw [vxL_len]; decide))) (Is.of (y := .sl 1 (byteEls b.p.1) .full) (congrArg (fun z => LV.sl 1 z .full) (vx_els b)))) rfl ?_
  refine QD.u (LU.call (bcmp_calls a.p.1 b.p.1 .full .full (hs_nonnil a.p) (hs_nonnil b.p)) Tryd.func69 rfl rfl (Opds.cons Is.rfl' (Opds.cons Is.rfl' Opds.nil))) rfl ?_
  refine QD.u (LU.assignR Is.rfl') rfl ?_
  refine QD.nil ?_
  refine LL.nil (after_code ?_)
  refine LW.seq ?_
  refine LW.region ?_
  refine X.u (LU.moveR Is.rfl') rfl ?_
  refine X.u (LU.neq Is.rfl' Is.rfl') rfl ?_
  refine LL.nil (after_code ?_)
  refine X.cond rfl (fun h2 => ?_) (fun h2 => ?_)
  · have h2 : compareBytes a.p.1 b.p.1 ≠ 0 := by simpa using h2
    refine LW.seq ?_
    refine LW.region ?_
    refine X.u (LU.moveR Is.rfl') rfl ?_
    refine X.u (LU.assignR Is.rfl') rfl ?_
    refine LL.nil (after_code ?_)
    refine LW.ret (ret_code (after_end ?_))
    refine X.ret (H' := []) (Res.one (by exact IsR rfl)) (by repeat (first | exact HSub.refl _ | refine HSub.drop ?_)) ?_
    exact ⟨by unfold cmpV; rw [if_pos h2], rfl⟩
  · have h2 : ¬ compareBytes a.p.1 b.p.1 ≠ 0 := by simpa using h2
    refine LW.skip (after_code ?_)
    refine LW.seq ?_
    refine LW.region ?_
    refine X.u (LU.fieldO Tryd.underlying35 rfl Tryd.sizeOf3 (by decide) Is.rfl') rfl ?_
    refine X.u (LU.loadK 0 rfl ⟨Tryd.sizeOf3, Tryd.isAgg3⟩ Is.rfl' (by decide) (by (simp; omega)) (Part.one (vx_num a))) rfl ?_
    refine X.u (LU.fieldO Tryd.underlying35 rfl Tryd.sizeOf3 (by decide) Is.rfl') rfl ?_
    refine X.u (LU.loadK 1 rfl ⟨Tryd.sizeOf3, Tryd.isAgg3⟩ Is.rfl' (by decide) (by (simp; omega)) (Part.one (vx_num b))) rfl ?_
    refine X.u (LU.call (cmpi_calls a.n b.n) Tryd.func70 rfl rfl (Opds.cons Is.rfl' (Opds.cons Is.rfl' Opds.nil))) rfl ?_
    refine X.u (LU.assignR Is.rfl') rfl ?_
    refine LL.nil (after_code ?_)
    refine LW.ret (after_end ?_)
    refine X.ret (H' := []) (Res.one (by exact IsR rfl)) (by repeat (first | exact HSub.refl _ | refine HSub.drop ?_)) ?_
    exact ⟨by unfold cmpV; rw [if_neg h2], rfl⟩
def minV : Vx → List Vx → Vx
  | a, [] => a
  | a, x :: l => minV (if cmpV x a < 0 then x else a) l
end Go.Proofs.YtolpkeajokjbjaaDoor
