/- The chapter's example; a copy. -/
import Derived.Test.YtlkkajflgpmacaaDoorHsH
import Derived.Test.YtlkkajflgpmacaaDoorLogM
set_option linter.unusedVariables false
set_option linter.unusedSimpArgs false
namespace Go.Proofs.YtlkkajflgpmacaaDoor
open Go.RowKit Go.L
theorem sha_nil : (sha []).getD 0 0 = 227 ∧ (sha []).getD 31 0 = 85 := by decide +kernel
theorem sha_abc : (sha [97, 98, 99]).getD 0 0 = 186 ∧ (sha [97, 98, 99]).getD 31 0 = 173 := by decide +kernel
set_option maxRecDepth 100000 in
theorem lives_calls : LCalls Tryd.prog 13 [] [kw] (fun r H' => r = bl true ∧ H' = [kw]) := by
  obtain ⟨x, hx⟩ : ∃ x, x = sha [] := ⟨_, rfl⟩
  obtain ⟨y, hy⟩ : ∃ y, y = sha [97, 98, 99] := ⟨_, rfl⟩
  have hxl : x.length = 32 := by rw [hx, sha_len]
  have hyl : y.length = 32 := by rw [hy, sha_len]
  have hx0 := sha_nil
  have hy0 := sha_abc
  have hcx := hash_calls [] .full (by simp)
  have hcy := hash_calls [97, 98, 99] .unk (by simp)
  rw [← hx] at hx0 hcx
  rw [← hy] at hy0 hcy
  clear hx hy
  refine LCalls.of Tryd.func13 rfl Tryd.ntmps13 Tryd.results13 rfl (fun Rf => ?_)
  refine LW.seq ?_
  refine LW.region ?_
  refine X.u (LU.assignR Is.rfl') rfl ?_
  refine LL.nil (after_code ?_)
  refine LW.seq ?_
  refine LW.region ?_
  refine X.u (LU.call1 0 rfl (hcx) Tryd.func14 rfl rfl (Opds.cons (Is.nil 1) Opds.nil)) rfl ?_
  refine X.act (X.litO rfl Tryd.underlying22 Tryd.sizeOf5 Tryd.zeroValue5 (ones rfl) rfl (by decide) (by decide) (Elems.cons Is.rfl' (by exact Cells.raw rfl) (Elems.cons Is.rfl' (by exact Cells.raw rfl) (Elems.cons Is.rfl' (by exact Cells.raw rfl) Elems.nil))) (by simp) rfl (fun b4 => ?_))
  refine X.act (X.mark (size := 1) 0 rfl rfl Tryd.underlying22 Tryd.underlying5 Is.rfl' (by simp) rfl (Nat.le_refl _) ?_)
  refine X.u (LU.call1 0 rfl (hcy) Tryd.func14 rfl rfl (Opds.cons Is.rfl' Opds.nil)) rfl ?_
  refine X.act (X.alloc rfl Tryd.zeroValue25 (by exact Cells.rawagg (by decide)) (fun b1 => ?_))
  refine X.act (X.alloc rfl Tryd.zeroValue25 (by exact Cells.rawagg (by decide)) (fun b2 => ?_))
  refine X.act (X.store 1 rfl Tryd.sizeOf25 Is.rfl' Is.rfl' (by exact Cells.agg) (by (simp; omega)) (by exact Nat.le_of_ble_eq_true rfl) ?_)
  refine X.act (X.store 1 rfl Tryd.sizeOf25 Is.rfl' Is.rfl' (by exact Cells.agg) (by (simp; omega)) (by exact Nat.le_of_ble_eq_true rfl) ?_)
  refine LL.nil (after_code ?_)
  refine LW.seq ?_
  rw [putAt_all (by simp [raws, hyl]), putAt_all (by simp [raws, hxl])]
  refine LW.region ?_
  refine X.u (LU.atA Tryd.underlying25 Tryd.sizeOf5 Is.rfl' Is.rfl' (by omega) (by omega)) rfl ?_
  refine X.u (LU.loadO 1 rfl ⟨Tryd.sizeOf5, Tryd.isAgg5⟩ Is.rfl' (Part.one (map_atN 0 (by omega) (by omega)))) rfl ?_
  refine X.u (LU.eql Is.rfl' Is.rfl') rfl ?_
  refine X.u (LU.moveR Is.rfl') rfl ?_
  refine X.gT rfl rfl (fun hg => LU.atA Tryd.underlying25 Tryd.sizeOf5 (by exact Is.rfl') (by exact Is.rfl') (by omega) (by omega)) rfl ?_
  refine X.gT rfl rfl (fun hg => LU.loadO 1 rfl ⟨Tryd.sizeOf5, Tryd.isAgg5⟩ (by exact Is.whenE hg) (Part.one (map_atN 31 (by omega) (by omega)))) rfl ?_
  refine X.gT rfl rfl (fun hg => LU.eql (by exact Is.whenE hg) (by exact Is.rfl')) rfl ?_
  refine X.u (LU.pickAnd Is.rfl' (fun hq => (by exact Is.whenE hq)) Is.rfl') rfl ?_
  refine X.u (LU.moveR Is.rfl') rfl ?_
  refine X.gT rfl rfl (fun hg => LU.atA Tryd.underlying25 Tryd.sizeOf5 (by exact Is.rfl') (by exact Is.rfl') (by omega) (by omega)) rfl ?_
  refine X.gT rfl rfl (fun hg => LU.loadO 0 rfl ⟨Tryd.sizeOf5, Tryd.isAgg5⟩ (by exact Is.whenE hg) (Part.one (map_atN 0 (by omega) (by omega)))) rfl ?_
  refine X.gT rfl rfl (fun hg => LU.eql (by exact Is.whenE hg) (by exact Is.rfl')) rfl ?_
  refine X.u (LU.pickAnd Is.rfl' (fun hq => (by exact Is.whenE hq)) Is.rfl') rfl ?_
  refine X.u (LU.moveR Is.rfl') rfl ?_
  refine X.gT rfl rfl (fun hg => LU.atA Tryd.underlying25 Tryd.sizeOf5 (by exact Is.rfl') (by exact Is.rfl') (by omega) (by omega)) rfl ?_
  refine X.gT rfl rfl (fun hg => LU.loadO 0 rfl ⟨Tryd.sizeOf5, Tryd.isAgg5⟩ (by exact Is.whenE hg) (Part.one (map_atN 31 (by omega) (by omega)))) rfl ?_
  refine X.gT rfl rfl (fun hg => LU.eql (by exact Is.whenE hg) (by exact Is.rfl')) rfl ?_
  refine X.u (LU.pickAnd Is.rfl' (fun hq => (by exact Is.whenE hq)) Is.rfl') rfl ?_
  refine X.u (LU.moveR Is.rfl') rfl ?_
  refine X.u (LU.pickOr Is.rfl' Is.rfl' (fun hq => (by exact Is.rfl'))) rfl ?_
  refine X.u (LU.assignR Is.rfl') rfl ?_
  refine LL.nil (after_code ?_)
  refine LW.ret (after_end ?_)
  refine X.ret (H' := [kw]) (Res.one (by exact IsR rfl)) (by repeat (first | exact HSub.refl _ | refine HSub.pick 0 rfl ?_ | refine HSub.pick 1 rfl ?_ | refine HSub.pick 2 rfl ?_ | refine HSub.pick 3 rfl ?_ | refine HSub.pick 4 rfl ?_ | refine HSub.drop ?_)) ?_
  exact ⟨by rw [hx0.1, hx0.2, hy0.1, hy0.2]; rfl, rfl⟩
end Go.Proofs.YtlkkajflgpmacaaDoor
