/- The digest of bytes. -/
import Derived.Test.YtnfeepmgdahmgaaDoorHsF
set_option linter.unusedVariables false
set_option linter.unusedSimpArgs false
namespace Go.Proofs.YtnfeepmgdahmgaaDoor
open Go.RowKit Go.L
attribute [local irreducible] LL LW LO
abbrev D32 (l : List Nat) : LV := .agg (l.map u8)
@[simp] theorem fin_len (s : S8) (r : List UInt8) (n : Nat) : (fin s r n).length = 32 := obs_len _ _ (by omega)
@[simp] theorem sha_len (b : List UInt8) : (sha b).length = 32 := obs_len _ _ (by omega)
set_option maxRecDepth 100000 in
theorem hash_calls (b : List UInt8) (k : Cap) (hb : b.length < 1099511627776) : LCalls Tryd.prog 103 [Bytes b k] [kw] (fun r H' => r = D32 (sha b) ∧ H' = [kw]) := by
  refine LCalls.of Tryd.func103 rfl Tryd.ntmps103 Tryd.results103 rfl (fun Rf => ?_)
  refine LW.seq ?_
  refine LW.region ?_
  refine X.act (X.alloc rfl Tryd.zeroValue95 (by exact Cells.rawagg (by decide)) (fun b2 => ?_))
  refine LL.nil (after_code ?_)
  refine LW.seq ?_
  rw [show raws _ = (obs st0 0).map u8 by rw [obs_0]; rfl]
  refine LW.region ?_
  refine X.act (X.call (new_calls) Tryd.func85 rfl rfl rfl (HSub.refl _) Opds.nil ?_)
  rintro r H' ⟨g, rfl, rfl⟩
  refine X.u (LU.assignR Is.rfl') rfl ?_
  refine LL.nil (after_code ?_)
  refine LW.seq ?_
  refine LW.region ?_
  refine X.u (LU.moveR Is.rfl') rfl ?_
  refine X.u (LU.moveS Is.rfl') rfl ?_
  refine X.act (X.call (write_calls g st0 [] b k 0 0 0 0 (by omega) (by simp)) Tryd.func86 rfl rfl rfl (R := .cells b2 95 ((obs st0 0).map u8) :: Rf) (HSub.pick 0 rfl (HSub.pick 0 rfl (HSub.pick 1 rfl (HSub.refl _)))) (Opds.cons Is.rfl' (Opds.cons Is.rfl' Opds.nil)) ?_)
  rintro r H' ⟨rfl, tb, to, tc, rfl⟩
  refine LL.nil (after_code ?_)
  refine LW.seq ?_
  refine LW.region ?_
  refine X.u (LU.moveR Is.rfl') rfl ?_
  refine X.act (X.call (sum_calls g _ _ _ tb to tc (by omega) (by simp; omega)) Tryd.func87 rfl rfl rfl (HSub.pick 0 rfl (HSub.pick 1 rfl (HSub.refl _))) (Opds.cons Is.rfl' Opds.nil) ?_)
  rintro r H' ⟨rfl, rfl⟩
  refine X.act (X.store 3 rfl Tryd.sizeOf95 Is.rfl' Is.rfl' (by exact Cells.agg) (by (simp; done)) (by (simp; done)) ?_)
  refine LL.nil (after_code ?_)
  refine LW.ret (after_end ?_)
  rw [putAt_all (by simp)]
  refine X.ret (H' := [kw]) (by exact Res.cell1 0 rfl rfl ⟨Tryd.sizeOf95, Tryd.isAgg95⟩ (Part.whole (by (simp; done))) (by exact IsA rfl)) (by repeat (first | exact HSub.refl _ | refine HSub.pick 2 rfl ?_ | refine HSub.drop ?_)) ?_
  exact ⟨by rw [List.nil_append, Nat.zero_add, ← fin_took b]; rfl, rfl⟩
end Go.Proofs.YtnfeepmgdahmgaaDoor
