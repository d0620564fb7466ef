/- A block, in the program. -/
import Derived.Test.YtnfeepmgdahmgaaDoorHsA
set_option linter.unusedVariables false
set_option linter.unusedSimpArgs false
namespace Go.Proofs.YtnfeepmgdahmgaaDoor
open Go.RowKit Go.L
attribute [local irreducible] LL LW LO
set_option maxRecDepth 100000 in
theorem spread_calls (b : List UInt8) (k : Cap) (hb : 64 ≤ b.length) : LCalls Tryd.prog 118 [Bytes b k] [] (fun r H' => r = .agg ((sch b 48).map u32) ∧ H' = []) := by
  refine LCalls.of Tryd.func118 rfl Tryd.ntmps118 Tryd.results118 rfl (fun Rf => ?_)
  refine LW.seq ?_
  refine LW.region ?_
  refine X.act (X.alloc rfl Tryd.zeroValue155 (by exact Cells.rawagg (by decide)) (fun b2 => ?_))
  refine LL.nil (after_code ?_)
  refine LW.seq ?_
  refine LW.region ?_
  refine X.act (X.alloc rfl Tryd.zeroValue155 (by exact Cells.rawagg (by decide)) (fun b3 => ?_))
  refine LL.nil (after_code ?_)
  refine LW.seq ?_
  refine LW.seq ?_
  rw [show raws _ = (ws16 b 0).map u32 by rw [ws16_0]; rfl]
  refine LW.region ?_
  refine X.u (LU.moveR Is.rfl') rfl ?_
  refine LL.nil (after_code ?_)
  refine LW.block ?_
  refine X.loopK (α := Nat) (fun t => [(10, i64 t)]) [0, 2, 3] (fun t => .cells b3 155 ((ws16 b t).map u32) :: .cells b2 155 ((ws16 b 0).map u32) :: Rf) (fun t => t ≤ 16) (fun t => 16 - t) (0) (EnvLe.cons (by rfl) (EnvLe.nil)) (by repeat (exact HSub.refl _)) ?_ ?_
  · omega
  · rintro t hI
    refine LW.seq ?_
    refine LW.region ?_
    refine X.u (LU.lss Is.rfl' Is.rfl') rfl ?_
    refine LL.nil (after_code ?_)
    refine LW.seq ?_
    refine X.cond rfl (fun h3 => ?_) (fun h3 => ?_)
    · try have h3 := of_decide_eq_true h3
      refine LW.skip (after_code ?_)
      refine LW.seq ?_
      refine LW.block ?_
      refine LW.seq ?_
      refine LW.region ?_
      refine X.u (LU.moveR Is.rfl') rfl ?_
      refine X.u (LU.assignR Is.rfl') rfl ?_
      refine LL.nil (after_code ?_)
      have hwl : (ws16 b t).length = 64 := ws16_len b t (by omega)
      refine X.drawM 35 rfl (by kernel_rfl) rfl ?_
      refine QD.u (LU.moveR Is.rfl') rfl ?_
      refine QD.u (LU.moveS Is.rfl') rfl ?_
      refine QD.u (LU.moveR Is.rfl') rfl ?_
      refine QD.u (LU.mulN Is.rfl' Is.rfl' (wrap_i64 (by omega) (by omega))) rfl ?_
      refine QD.u (LU.at Tryd.underlying22 ⟨Tryd.sizeOf5, Tryd.isAgg5⟩ Is.rfl' Is.rfl' (by omega) ((byteEls_D (4 * t) (by omega) (by omega))) (by simp)) rfl ?_
      refine QD.u (LU.load ⟨Tryd.sizeOf5, Tryd.isAgg5⟩ Is.rfl' (by (simp; done)) (Part.one rfl)) rfl ?_
      refine QD.u (LU.of8 Tryd.underlying5 Tryd.underlying153 Is.rfl') rfl ?_
      refine QD.u (LU.shl32 Is.rfl' Is.rfl' (by omega)) rfl ?_
      refine QD.u (LU.moveS Is.rfl') rfl ?_
      refine QD.u (LU.moveR Is.rfl') rfl ?_
      refine QD.u (LU.mulN Is.rfl' Is.rfl' (wrap_i64 (by omega) (by omega))) rfl ?_
      refine QD.u (LU.addN Is.rfl' Is.rfl' (wrap_i64 (by omega) (by omega))) rfl ?_
      refine QD.u (LU.at Tryd.underlying22 ⟨Tryd.sizeOf5, Tryd.isAgg5⟩ Is.rfl' Is.rfl' (by omega) ((byteEls_D (4 * t + 1) (by omega) (by omega))) (by simp)) rfl ?_
      refine QD.u (LU.load ⟨Tryd.sizeOf5, Tryd.isAgg5⟩ Is.rfl' (by (simp; done)) (Part.one rfl)) rfl ?_
      refine QD.u (LU.of8 Tryd.underlying5 Tryd.underlying153 Is.rfl') rfl ?_
      refine QD.u (LU.shl32 Is.rfl' Is.rfl' (by omega)) rfl ?_
      refine QD.u (LU.or32 Is.rfl' Is.rfl') rfl ?_
      refine QD.u (LU.moveS Is.rfl') rfl ?_
      refine QD.u (LU.moveR Is.rfl') rfl ?_
      refine QD.u (LU.mulN Is.rfl' Is.rfl' (wrap_i64 (by omega) (by omega))) rfl ?_
      refine QD.u (LU.addN Is.rfl' Is.rfl' (wrap_i64 (by omega) (by omega))) rfl ?_
      refine QD.u (LU.at Tryd.underlying22 ⟨Tryd.sizeOf5, Tryd.isAgg5⟩ Is.rfl' Is.rfl' (by omega) ((byteEls_D (4 * t + 2) (by omega) (by omega))) (by simp)) rfl ?_
      refine QD.u (LU.load ⟨Tryd.sizeOf5, Tryd.isAgg5⟩ Is.rfl' (by (simp; done)) (Part.one rfl)) rfl ?_
      refine QD.u (LU.of8 Tryd.underlying5 Tryd.underlying153 Is.rfl') rfl ?_
      refine QD.u (LU.shl32 Is.rfl' Is.rfl' (by omega)) rfl ?_
      refine QD.u (LU.or32 Is.rfl' Is.rfl') rfl ?_
      refine QD.u (LU.moveS Is.rfl') rfl ?_
      refine QD.u (LU.moveR Is.rfl') rfl ?_
      refine QD.u (LU.mulN Is.rfl' Is.rfl' (wrap_i64 (by omega) (by omega))) rfl ?_
      refine QD.u (LU.addN Is.rfl' Is.rfl' (wrap_i64 (by omega) (by omega))) rfl ?_
      refine QD.u (LU.at Tryd.underlying22 ⟨Tryd.sizeOf5, Tryd.isAgg5⟩ Is.rfl' Is.rfl' (by omega) ((byteEls_D (4 * t + 3) (by omega) (by omega))) (by simp)) rfl ?_
      refine QD.u (LU.load ⟨Tryd.sizeOf5, Tryd.isAgg5⟩ Is.rfl' (by (simp; done)) (Part.one rfl)) rfl ?_
      refine QD.u (LU.of8 Tryd.underlying5 Tryd.underlying153 Is.rfl') rfl ?_
      refine QD.u (LU.or32 Is.rfl' Is.rfl') rfl ?_
      refine QD.u (LU.atA Tryd.underlying155 Tryd.sizeOf153 Is.rfl' Is.rfl' (by omega) (by omega)) rfl ?_
      refine QD.nil ?_
      refine X.act (X.store 0 rfl Tryd.sizeOf153 Is.rfl' Is.rfl' (by exact Cells.raw rfl) (by (simp; done)) (by (simp; omega)) ?_)
      refine LL.nil (after_blk (after_code ?_))
      refine X.wput (ws16_set b t (by omega)) (by simp) (by rw [ws16_len b t (by omega)]; omega) ?_
      refine LW.region ?_
      refine X.u (LU.addN Is.rfl' Is.rfl' (wrap_i64 (by omega) (by omega))) rfl ?_
      refine X.u (LU.moveR Is.rfl') rfl ?_
      refine LL.nil (after_rnd ?_)
      refine X.next (t + 1) rfl (EnvLe.cons (by rfl) (EnvLe.nil)) (Keeps.cons (by exact Eq.trans (b := .sl _ _ _) rfl rfl) (Keeps.cons (by exact Eq.trans (b := .raw _) rfl rfl) (Keeps.cons (by exact Eq.trans (b := .raw _) rfl rfl) (Keeps.nil)))) (by repeat (exact HSub.refl _)) ?_ ?_
      · omega
      · omega
    · try have h3 := of_decide_eq_false h3
      obtain rfl : t = 16 := by omega
      rw [← sch_0]
      refine LW.exit (exit_code (exit_rnd (exit_blk (after_code ?_))))
      refine LW.seq ?_
      refine LW.seq ?_
      refine LW.region ?_
      refine X.u (LU.assignR Is.rfl') rfl ?_
      refine LL.nil (after_code ?_)
      refine LW.block ?_
      refine X.loopK (α := Nat) (fun k => [(5, i64 (16 + k))]) [2, 3] (fun k => .cells b3 155 ((sch b k).map u32) :: .cells b2 155 ((ws16 b 0).map u32) :: Rf) (fun k => k ≤ 48) (fun k => 48 - k) (0) (EnvLe.cons (by rfl) (EnvLe.nil)) (by repeat (exact HSub.refl _)) ?_ ?_
      · omega
      · rintro k hI
        refine LW.seq ?_
        refine LW.seq ?_
        refine LW.region ?_
        refine X.u (LU.moveR Is.rfl') rfl ?_
        refine X.u (LU.lss Is.rfl' Is.rfl') rfl ?_
        refine LL.nil (after_code ?_)
        refine X.cond rfl (fun h8 => ?_) (fun h8 => ?_)
        · try have h8 := of_decide_eq_true h8
          refine LW.skip (after_code ?_)
          refine LW.seq ?_
          refine LW.block ?_
          refine LW.seq ?_
          refine X.drawM 10 rfl (by kernel_rfl) rfl ?_
          refine QD.u (LU.moveR Is.rfl') rfl ?_
          refine QD.u (LU.subN Is.rfl' Is.rfl' (wrap_i64 (by omega) (by omega))) rfl ?_
          refine QD.u (LU.atA Tryd.underlying155 Tryd.sizeOf153 Is.rfl' Is.rfl' (by omega) (by omega)) rfl ?_
          refine QD.u (LU.loadO 0 rfl ⟨Tryd.sizeOf153, Tryd.isAgg153⟩ Is.rfl' (Part.one (map_atN (k + 16 - 2) (by omega) (by rw [sch_len]; omega)))) rfl ?_
          refine QD.u (LU.moveR Is.rfl') rfl ?_
          refine QD.u (LU.subN Is.rfl' Is.rfl' (wrap_i64 (by omega) (by omega))) rfl ?_
          refine QD.u (LU.atA Tryd.underlying155 Tryd.sizeOf153 Is.rfl' Is.rfl' (by omega) (by omega)) rfl ?_
          refine QD.u (LU.loadO 0 rfl ⟨Tryd.sizeOf153, Tryd.isAgg153⟩ Is.rfl' (Part.one (map_atN (k + 16 - 15) (by omega) (by rw [sch_len]; omega)))) rfl ?_
          refine QD.u (LU.assignR Is.rfl') rfl ?_
          refine QD.u (LU.assignR Is.rfl') rfl ?_
          refine QD.nil ?_
          refine LL.nil (after_code ?_)
          refine LW.seq ?_
          refine LW.region ?_
          refine X.u (LU.moveR Is.rfl') rfl ?_
          refine X.u (LU.call (turn_calls _ 17 (by decide)) Tryd.func119 rfl rfl (Opds.cons Is.rfl' (Opds.cons Is.rfl' Opds.nil))) rfl ?_
          refine X.u (LU.moveR Is.rfl') rfl ?_
          refine X.u (LU.call (turn_calls _ 19 (by decide)) Tryd.func119 rfl rfl (Opds.cons Is.rfl' (Opds.cons Is.rfl' Opds.nil))) rfl ?_
          refine X.u (LU.xor32 Is.rfl' Is.rfl') rfl ?_
          refine X.u (LU.moveR Is.rfl') rfl ?_
          refine X.u (LU.shr32 Is.rfl' Is.rfl' (by omega)) rfl ?_
          refine X.u (LU.xor32 Is.rfl' Is.rfl') rfl ?_
          refine X.u (LU.assignR Is.rfl') rfl ?_
          refine LL.nil (after_code ?_)
          refine LW.seq ?_
          refine LW.region ?_
          refine X.u (LU.moveR Is.rfl') rfl ?_
          refine X.u (LU.call (turn_calls _ 7 (by decide)) Tryd.func119 rfl rfl (Opds.cons Is.rfl' (Opds.cons Is.rfl' Opds.nil))) rfl ?_
          refine X.u (LU.moveR Is.rfl') rfl ?_
          refine X.u (LU.call (turn_calls _ 18 (by decide)) Tryd.func119 rfl rfl (Opds.cons Is.rfl' (Opds.cons Is.rfl' Opds.nil))) rfl ?_
          refine X.u (LU.xor32 Is.rfl' Is.rfl') rfl ?_
          refine X.u (LU.moveR Is.rfl') rfl ?_
          refine X.u (LU.shr32 Is.rfl' Is.rfl' (by omega)) rfl ?_
          refine X.u (LU.xor32 Is.rfl' Is.rfl') rfl ?_
          refine X.u (LU.assignR Is.rfl') rfl ?_
          refine LL.nil (after_code ?_)
          refine X.drawM 15 rfl (by kernel_rfl) rfl ?_
          refine QD.u (LU.moveR Is.rfl') rfl ?_
          refine QD.u (LU.moveR Is.rfl') rfl ?_
          refine QD.u (LU.moveR Is.rfl') rfl ?_
          refine QD.u (LU.subN Is.rfl' Is.rfl' (wrap_i64 (by omega) (by omega))) rfl ?_
          refine QD.u (LU.atA Tryd.underlying155 Tryd.sizeOf153 Is.rfl' Is.rfl' (by omega) (by omega)) rfl ?_
          refine QD.u (LU.loadO 0 rfl ⟨Tryd.sizeOf153, Tryd.isAgg153⟩ Is.rfl' (Part.one (map_atN (k + 16 - 7) (by omega) (by rw [sch_len]; omega)))) rfl ?_
          refine QD.u (LU.add32 Is.rfl' Is.rfl') rfl ?_
          refine QD.u (LU.moveR Is.rfl') rfl ?_
          refine QD.u (LU.add32 Is.rfl' Is.rfl') rfl ?_
          refine QD.u (LU.moveR Is.rfl') rfl ?_
          refine QD.u (LU.subN Is.rfl' Is.rfl' (wrap_i64 (by omega) (by omega))) rfl ?_
          refine QD.u (LU.atA Tryd.underlying155 Tryd.sizeOf153 Is.rfl' Is.rfl' (by omega) (by omega)) rfl ?_
          refine QD.u (LU.loadO 0 rfl ⟨Tryd.sizeOf153, Tryd.isAgg153⟩ Is.rfl' (Part.one (map_atN (k + 16 - 16) (by omega) (by rw [sch_len]; omega)))) rfl ?_
          refine QD.u (LU.add32 Is.rfl' Is.rfl') rfl ?_
          refine QD.u (LU.atA Tryd.underlying155 Tryd.sizeOf153 Is.rfl' Is.rfl' (by omega) (by omega)) rfl ?_
          refine QD.nil ?_
          refine X.act (X.store 0 rfl Tryd.sizeOf153 Is.rfl' Is.rfl' (by exact Cells.raw rfl) (by (simp; done)) (by (simp; omega)) ?_)
          refine LL.nil (after_blk (after_code ?_))
          refine X.wput (sch_set b k) (by omega) (by rw [sch_len]; omega) ?_
          refine LW.region ?_
          refine X.u (LU.moveR Is.rfl') rfl ?_
          refine X.u (LU.addN Is.rfl' Is.rfl' (wrap_i64 (by omega) (by omega))) rfl ?_
          refine X.u (LU.assignR Is.rfl') rfl ?_
          refine LL.nil (after_rnd ?_)
          refine X.next (k + 1) rfl (EnvLe.cons (by rfl) (EnvLe.nil)) (Keeps.cons (by exact Eq.trans (b := .raw _) rfl rfl) (Keeps.cons (by exact Eq.trans (b := .raw _) rfl rfl) (Keeps.nil))) (by repeat (exact HSub.refl _)) ?_ ?_
          · omega
          · omega
        · try have h8 := of_decide_eq_false h8
          obtain rfl : k = 48 := by omega
          refine LW.exit (exit_code (exit_rnd (exit_blk (after_code ?_))))
          refine LW.seq ?_
          refine LW.region ?_
          refine X.u (LU.loadO 0 rfl ⟨Tryd.sizeOf155, Tryd.isAgg155⟩ Is.rfl' (Part.whole (by simp))) rfl ?_
          refine X.act (X.store 1 rfl Tryd.sizeOf155 Is.rfl' Is.rfl' (by exact Cells.agg) (by (simp; done)) (by (simp; done)) ?_)
          refine LL.nil (after_code ?_)
          refine LW.ret (after_end ?_)
          rw [putAt_all (by simp [ws16_len])]
          refine X.ret (H' := []) (by exact Res.cell1 0 rfl rfl ⟨Tryd.sizeOf155, Tryd.isAgg155⟩ (Part.whole (by (simp; done))) (by exact IsA rfl)) (by repeat (first | exact HSub.refl _ | refine HSub.drop ?_)) ?_
          exact ⟨rfl, rfl⟩
end Go.Proofs.YtnfeepmgdahmgaaDoor
