/- A block, in the document's words. -/
import Derived.Test.YtnfeepmgdahmgaaDoorHsC
set_option linter.unusedVariables false
set_option linter.unusedSimpArgs false
namespace Go.Proofs.YtnfeepmgdahmgaaDoor
open Go.RowKit Go.L
attribute [local irreducible] LL LW LO
set_option maxRecDepth 100000 in
theorem refblock_callsK (K : List Nat) (hK : K.length = 64) (s : S8) (b : List UInt8) (k : Cap) (hb : 64 ≤ b.length) : LCalls Tryd.prog 89 [W8 s, Bytes b k, .agg (K.map u32)] [] (fun r H' => r = W8 (mix (rs K (sch b 48) s 64) s) ∧ H' = []) := by
  refine LCalls.of Tryd.func89 rfl Tryd.ntmps89 Tryd.results89 rfl (fun Rf => ?_)
  refine LW.seq ?_
  refine LW.region ?_
  refine X.act (X.box rfl Is.rfl' (by exact Cells.agg) (fun b3 => ?_))
  refine X.act (X.box rfl Is.rfl' (by exact Cells.agg) (fun b5 => ?_))
  refine X.act (X.alloc rfl Tryd.zeroValue154 (by exact Cells.rawagg (by decide)) (fun b6 => ?_))
  refine LL.nil (after_code ?_)
  refine LW.seq ?_
  refine LW.region ?_
  refine X.u (LU.buildA Tryd.underlying155 Tryd.sizeOf153 Tryd.zeroValue155 (ones rfl) Parts.nil rfl) rfl ?_
  refine X.act (X.alloc rfl Tryd.zeroValue155 (by exact Cells.rawagg (by decide)) (fun b7 => ?_))
  refine X.act (X.store 0 rfl Tryd.sizeOf155 Is.rfl' Is.rfl' (by exact Cells.agg) (by rfl) (by exact Nat.le_of_ble_eq_true rfl) ?_)
  refine LL.nil (after_code ?_)
  refine LW.seq ?_
  refine LW.seq ?_
  rw [show (putAt (raws _) 0 (raws _)) = (ws16 b 0).map u32 by rw [ws16_0]; rfl]
  refine LW.region ?_
  refine X.u (LU.assignR Is.rfl') rfl ?_
  refine LL.nil (after_code ?_)
  refine LW.block ?_
  refine X.loopK (α := Nat) (fun t => [(8, i64 t)]) [1, 3, 5, 6, 7] (fun t => .cells b7 155 ((ws16 b t).map u32) :: .cells b6 154 ((List.replicate 8 0).map u32) :: .cells b5 155 (K.map u32) :: .cells b3 154 (s.l.map u32) :: Rf) (fun t => t ≤ 16) (fun t => 16 - t) (0) (EnvLe.cons (by rfl) (EnvLe.nil)) (by repeat (exact HSub.refl _)) ?_ ?_
  · omega
  · rintro t hI
    refine LW.seq ?_
    refine LW.seq ?_
    refine LW.region ?_
    refine X.u (LU.moveR Is.rfl') rfl ?_
    refine X.u (LU.lss Is.rfl' Is.rfl') rfl ?_
    refine LL.nil (after_code ?_)
    refine X.cond rfl (fun h3 => ?_) (fun h3 => ?_)
    · try have h3 := of_decide_eq_true h3
      refine LW.skip (after_code ?_)
      refine LW.seq ?_
      refine LW.block ?_
      have hwl : (ws16 b t).length = 64 := ws16_len b t (by omega)
      refine X.drawM 35 rfl (by kernel_rfl) rfl ?_
      refine QD.u (LU.moveR Is.rfl') rfl ?_
      refine QD.u (LU.moveS Is.rfl') rfl ?_
      refine QD.u (LU.moveR Is.rfl') rfl ?_
      refine QD.u (LU.mulN Is.rfl' Is.rfl' (wrap_i64 (by omega) (by omega))) rfl ?_
      refine QD.u (LU.at Tryd.underlying22 ⟨Tryd.sizeOf5, Tryd.isAgg5⟩ Is.rfl' Is.rfl' (by omega) ((byteEls_D (4 * t) (by omega) (by omega))) (by simp)) rfl ?_
      refine QD.u (LU.load ⟨Tryd.sizeOf5, Tryd.isAgg5⟩ Is.rfl' (by (simp; done)) (Part.one rfl)) rfl ?_
      refine QD.u (LU.of8 Tryd.underlying5 Tryd.underlying153 Is.rfl') rfl ?_
      refine QD.u (LU.shl32 Is.rfl' Is.rfl' (by omega)) rfl ?_
      refine QD.u (LU.moveS Is.rfl') rfl ?_
      refine QD.u (LU.moveR Is.rfl') rfl ?_
      refine QD.u (LU.mulN Is.rfl' Is.rfl' (wrap_i64 (by omega) (by omega))) rfl ?_
      refine QD.u (LU.addN Is.rfl' Is.rfl' (wrap_i64 (by omega) (by omega))) rfl ?_
      refine QD.u (LU.at Tryd.underlying22 ⟨Tryd.sizeOf5, Tryd.isAgg5⟩ Is.rfl' Is.rfl' (by omega) ((byteEls_D (4 * t + 1) (by omega) (by omega))) (by simp)) rfl ?_
      refine QD.u (LU.load ⟨Tryd.sizeOf5, Tryd.isAgg5⟩ Is.rfl' (by (simp; done)) (Part.one rfl)) rfl ?_
      refine QD.u (LU.of8 Tryd.underlying5 Tryd.underlying153 Is.rfl') rfl ?_
      refine QD.u (LU.shl32 Is.rfl' Is.rfl' (by omega)) rfl ?_
      refine QD.u (LU.add32 Is.rfl' Is.rfl') rfl ?_
      refine QD.u (LU.moveS Is.rfl') rfl ?_
      refine QD.u (LU.moveR Is.rfl') rfl ?_
      refine QD.u (LU.mulN Is.rfl' Is.rfl' (wrap_i64 (by omega) (by omega))) rfl ?_
      refine QD.u (LU.addN Is.rfl' Is.rfl' (wrap_i64 (by omega) (by omega))) rfl ?_
      refine QD.u (LU.at Tryd.underlying22 ⟨Tryd.sizeOf5, Tryd.isAgg5⟩ Is.rfl' Is.rfl' (by omega) ((byteEls_D (4 * t + 2) (by omega) (by omega))) (by simp)) rfl ?_
      refine QD.u (LU.load ⟨Tryd.sizeOf5, Tryd.isAgg5⟩ Is.rfl' (by (simp; done)) (Part.one rfl)) rfl ?_
      refine QD.u (LU.of8 Tryd.underlying5 Tryd.underlying153 Is.rfl') rfl ?_
      refine QD.u (LU.shl32 Is.rfl' Is.rfl' (by omega)) rfl ?_
      refine QD.u (LU.add32 Is.rfl' Is.rfl') rfl ?_
      refine QD.u (LU.moveS Is.rfl') rfl ?_
      refine QD.u (LU.moveR Is.rfl') rfl ?_
      refine QD.u (LU.mulN Is.rfl' Is.rfl' (wrap_i64 (by omega) (by omega))) rfl ?_
      refine QD.u (LU.addN Is.rfl' Is.rfl' (wrap_i64 (by omega) (by omega))) rfl ?_
      refine QD.u (LU.at Tryd.underlying22 ⟨Tryd.sizeOf5, Tryd.isAgg5⟩ Is.rfl' Is.rfl' (by omega) ((byteEls_D (4 * t + 3) (by omega) (by omega))) (by simp)) rfl ?_
      refine QD.u (LU.load ⟨Tryd.sizeOf5, Tryd.isAgg5⟩ Is.rfl' (by (simp; done)) (Part.one rfl)) rfl ?_
      refine QD.u (LU.of8 Tryd.underlying5 Tryd.underlying153 Is.rfl') rfl ?_
      refine QD.u (LU.weak (LU.add32 Is.rfl' Is.rfl') (Is.of (y := u32 (wd b t)) (congrArg u32 (wd_add b t)))) rfl ?_
      refine QD.u (LU.atA Tryd.underlying155 Tryd.sizeOf153 Is.rfl' Is.rfl' (by omega) (by omega)) rfl ?_
      refine QD.nil ?_
      refine X.act (X.store 0 rfl Tryd.sizeOf153 Is.rfl' Is.rfl' (by exact Cells.raw rfl) (by (simp; done)) (by (simp; omega)) ?_)
      refine LL.nil (after_blk (after_code ?_))
      refine X.wput (ws16_set b t (by omega)) (by simp) (by rw [ws16_len b t (by omega)]; omega) ?_
      refine LW.region ?_
      refine X.u (LU.moveR Is.rfl') rfl ?_
      refine X.u (LU.addN Is.rfl' Is.rfl' (wrap_i64 (by omega) (by omega))) rfl ?_
      refine X.u (LU.assignR Is.rfl') rfl ?_
      refine LL.nil (after_rnd ?_)
      refine X.next (t + 1) rfl (EnvLe.cons (by rfl) (EnvLe.nil)) (Keeps.cons (by exact Eq.trans (b := .sl _ _ _) rfl rfl) (Keeps.cons (by exact Eq.trans (b := .raw _) rfl rfl) (Keeps.cons (by exact Eq.trans (b := .raw _) rfl rfl) (Keeps.cons (by exact Eq.trans (b := .raw _) rfl rfl) (Keeps.cons (by exact Eq.trans (b := .raw _) rfl rfl) (Keeps.nil)))))) (by repeat (exact HSub.refl _)) ?_ ?_
      · omega
      · omega
    · try have h3 := of_decide_eq_false h3
      obtain rfl : t = 16 := by omega
      rw [← sch_0]
      refine LW.exit (exit_code (exit_rnd (exit_blk (after_code ?_))))
      refine LW.seq ?_
      refine LW.seq ?_
      refine LW.region ?_
      refine X.u (LU.assignR Is.rfl') rfl ?_
      refine LL.nil (after_code ?_)
      refine LW.block ?_
      refine X.loopK (α := Nat) (fun k => [(9, i64 (16 + k))]) [3, 5, 6, 7] (fun k => .cells b7 155 ((sch b k).map u32) :: .cells b6 154 ((List.replicate 8 0).map u32) :: .cells b5 155 (K.map u32) :: .cells b3 154 (s.l.map u32) :: Rf) (fun k => k ≤ 48) (fun k => 48 - k) (0) (EnvLe.cons (by rfl) (EnvLe.nil)) (by repeat (exact HSub.refl _)) ?_ ?_
      · omega
      · rintro k hI
        refine LW.seq ?_
        refine LW.seq ?_
        refine LW.region ?_
        refine X.u (LU.moveR Is.rfl') rfl ?_
        refine X.u (LU.lss Is.rfl' Is.rfl') rfl ?_
        refine LL.nil (after_code ?_)
        refine X.cond rfl (fun h7 => ?_) (fun h7 => ?_)
        · try have h7 := of_decide_eq_true h7
          refine LW.skip (after_code ?_)
          refine LW.seq ?_
          refine LW.block ?_
          refine LW.seq ?_
          refine LW.region ?_
          refine X.u (LU.moveR Is.rfl') rfl ?_
          refine X.u (LU.subN Is.rfl' Is.rfl' (wrap_i64 (by omega) (by omega))) rfl ?_
          refine X.u (LU.atA Tryd.underlying155 Tryd.sizeOf153 Is.rfl' Is.rfl' (by omega) (by omega)) rfl ?_
          refine X.u (LU.loadO 0 rfl ⟨Tryd.sizeOf153, Tryd.isAgg153⟩ Is.rfl' (Part.one (map_atN (k + 16 - 2) (by omega) (by rw [sch_len]; omega)))) rfl ?_
          refine X.u (LU.assignR Is.rfl') rfl ?_
          refine LL.nil (after_code ?_)
          refine LW.seq ?_
          refine LW.region ?_
          refine X.u (LU.moveR Is.rfl') rfl ?_
          refine X.u (LU.subN Is.rfl' Is.rfl' (wrap_i64 (by omega) (by omega))) rfl ?_
          refine X.u (LU.atA Tryd.underlying155 Tryd.sizeOf153 Is.rfl' Is.rfl' (by omega) (by omega)) rfl ?_
          refine X.u (LU.loadO 0 rfl ⟨Tryd.sizeOf153, Tryd.isAgg153⟩ Is.rfl' (Part.one (map_atN (k + 16 - 15) (by omega) (by rw [sch_len]; omega)))) rfl ?_
          refine X.u (LU.assignR Is.rfl') rfl ?_
          refine LL.nil (after_code ?_)
          refine X.drawM 29 rfl (by kernel_rfl) rfl ?_
          refine QD.u (LU.moveR Is.rfl') rfl ?_
          refine QD.u (LU.moveR Is.rfl') rfl ?_
          refine QD.u (LU.call (rot_calls _ 17 (by decide)) Tryd.func106 rfl rfl (Opds.cons Is.rfl' (Opds.cons Is.rfl' Opds.nil))) rfl ?_
          refine QD.u (LU.moveR Is.rfl') rfl ?_
          refine QD.u (LU.call (rot_calls _ 19 (by decide)) Tryd.func106 rfl rfl (Opds.cons Is.rfl' (Opds.cons Is.rfl' Opds.nil))) rfl ?_
          refine QD.u (LU.xor32 Is.rfl' Is.rfl') rfl ?_
          refine QD.u (LU.moveR Is.rfl') rfl ?_
          refine QD.u (LU.shr32 Is.rfl' Is.rfl' (by omega)) rfl ?_
          refine QD.u (LU.xor32 Is.rfl' Is.rfl') rfl ?_
          refine QD.u (LU.moveR Is.rfl') rfl ?_
          refine QD.u (LU.subN Is.rfl' Is.rfl' (wrap_i64 (by omega) (by omega))) rfl ?_
          refine QD.u (LU.atA Tryd.underlying155 Tryd.sizeOf153 Is.rfl' Is.rfl' (by omega) (by omega)) rfl ?_
          refine QD.u (LU.loadO 0 rfl ⟨Tryd.sizeOf153, Tryd.isAgg153⟩ Is.rfl' (Part.one (map_atN (k + 16 - 7) (by omega) (by rw [sch_len]; omega)))) rfl ?_
          refine QD.u (LU.add32 Is.rfl' Is.rfl') rfl ?_
          refine QD.u (LU.moveR Is.rfl') rfl ?_
          refine QD.u (LU.call (rot_calls _ 7 (by decide)) Tryd.func106 rfl rfl (Opds.cons Is.rfl' (Opds.cons Is.rfl' Opds.nil))) rfl ?_
          refine QD.u (LU.moveR Is.rfl') rfl ?_
          refine QD.u (LU.call (rot_calls _ 18 (by decide)) Tryd.func106 rfl rfl (Opds.cons Is.rfl' (Opds.cons Is.rfl' Opds.nil))) rfl ?_
          refine QD.u (LU.xor32 Is.rfl' Is.rfl') rfl ?_
          refine QD.u (LU.moveR Is.rfl') rfl ?_
          refine QD.u (LU.shr32 Is.rfl' Is.rfl' (by omega)) rfl ?_
          refine QD.u (LU.xor32 Is.rfl' Is.rfl') rfl ?_
          refine QD.u (LU.add32 Is.rfl' Is.rfl') rfl ?_
          refine QD.u (LU.moveR Is.rfl') rfl ?_
          refine QD.u (LU.subN Is.rfl' Is.rfl' (wrap_i64 (by omega) (by omega))) rfl ?_
          refine QD.u (LU.atA Tryd.underlying155 Tryd.sizeOf153 Is.rfl' Is.rfl' (by omega) (by omega)) rfl ?_
          refine QD.u (LU.loadO 0 rfl ⟨Tryd.sizeOf153, Tryd.isAgg153⟩ Is.rfl' (Part.one (map_atN (k + 16 - 16) (by omega) (by rw [sch_len]; omega)))) rfl ?_
          refine QD.u (LU.add32 Is.rfl' Is.rfl') rfl ?_
          refine QD.u (LU.atA Tryd.underlying155 Tryd.sizeOf153 Is.rfl' Is.rfl' (by omega) (by omega)) rfl ?_
          refine QD.nil ?_
          refine X.act (X.store 0 rfl Tryd.sizeOf153 Is.rfl' Is.rfl' (by exact Cells.raw rfl) (by (simp; done)) (by (simp; omega)) ?_)
          refine LL.nil (after_blk (after_code ?_))
          refine X.wput (sch_set b k) (by omega) (by rw [sch_len]; omega) ?_
          refine LW.region ?_
          refine X.u (LU.moveR Is.rfl') rfl ?_
          refine X.u (LU.addN Is.rfl' Is.rfl' (wrap_i64 (by omega) (by omega))) rfl ?_
          refine X.u (LU.assignR Is.rfl') rfl ?_
          refine LL.nil (after_rnd ?_)
          refine X.next (k + 1) rfl (EnvLe.cons (by rfl) (EnvLe.nil)) (Keeps.cons (by exact Eq.trans (b := .raw _) rfl rfl) (Keeps.cons (by exact Eq.trans (b := .raw _) rfl rfl) (Keeps.cons (by exact Eq.trans (b := .raw _) rfl rfl) (Keeps.cons (by exact Eq.trans (b := .raw _) rfl rfl) (Keeps.nil))))) (by repeat (exact HSub.refl _)) ?_ ?_
          · omega
          · omega
        · try have h7 := of_decide_eq_false h7
          obtain rfl : k = 48 := by omega
          obtain ⟨W, hW⟩ : ∃ W, W = sch b 48 := ⟨_, rfl⟩
          have hWl : W.length = 64 := by rw [hW, sch_len]
          rw [← hW]
          clear hW
          refine LW.exit (exit_code (exit_rnd (exit_blk (after_code ?_))))
          refine LW.seq ?_
          refine LW.region ?_
          refine X.u (LU.loadO 3 rfl ⟨Tryd.sizeOf154, Tryd.isAgg154⟩ Is.rfl' (Part.whole (by simp))) rfl ?_
          refine X.act (X.alloc rfl Tryd.zeroValue154 (by exact Cells.rawagg (by decide)) (fun b12 => ?_))
          refine X.act (X.store 0 rfl Tryd.sizeOf154 Is.rfl' Is.rfl' (by exact Cells.agg) (by (simp; done)) (by exact Nat.le_of_ble_eq_true rfl) ?_)
          refine LL.nil (after_code ?_)
          refine LW.seq ?_
          refine LW.seq ?_
          refine X.wcells (ys := (rs K W s 0).l.map u32) (by rw [putAt_all (by simp [raws]), rs_0]) ?_
          refine LW.region ?_
          refine X.u (LU.assignR Is.rfl') rfl ?_
          refine LL.nil (after_code ?_)
          refine LW.block ?_
          refine X.loopK (α := Nat) (fun t => [(13, i64 t)]) [3, 5, 6, 7, 12] (fun t => .cells b12 154 ((rs K W s t).l.map u32) :: .cells b7 155 (W.map u32) :: .cells b6 154 ((List.replicate 8 0).map u32) :: .cells b5 155 (K.map u32) :: .cells b3 154 (s.l.map u32) :: Rf) (fun t => t ≤ 64) (fun t => 64 - t) (0) (EnvLe.cons (by rfl) (EnvLe.nil)) (by repeat (exact HSub.refl _)) ?_ ?_
          · omega
          · rintro t hI
            obtain ⟨S, hS⟩ : ∃ S, S = rs K W s t := ⟨_, rfl⟩
            rw [← hS]
            refine LW.seq ?_
            refine LW.seq ?_
            refine LW.region ?_
            refine X.u (LU.moveR Is.rfl') rfl ?_
            refine X.u (LU.lss Is.rfl' Is.rfl') rfl ?_
            refine LL.nil (after_code ?_)
            refine X.cond rfl (fun h14 => ?_) (fun h14 => ?_)
            · try have h14 := of_decide_eq_true h14
              refine LW.skip (after_code ?_)
              refine LW.seq ?_
              refine LW.block ?_
              refine LW.seq ?_
              refine X.drawM 36 rfl (by kernel_rfl) rfl ?_
              refine QD.u (LU.atA Tryd.underlying154 Tryd.sizeOf153 Is.rfl' Is.rfl' (by omega) (by omega)) rfl ?_
              refine QD.u (LU.loadO 0 rfl ⟨Tryd.sizeOf153, Tryd.isAgg153⟩ Is.rfl' (Part.one rfl)) rfl ?_
              refine QD.u (LU.atA Tryd.underlying154 Tryd.sizeOf153 Is.rfl' Is.rfl' (by omega) (by omega)) rfl ?_
              refine QD.u (LU.loadO 0 rfl ⟨Tryd.sizeOf153, Tryd.isAgg153⟩ Is.rfl' (Part.one rfl)) rfl ?_
              refine QD.u (LU.call (rot_calls _ 6 (by decide)) Tryd.func106 rfl rfl (Opds.cons Is.rfl' (Opds.cons Is.rfl' Opds.nil))) rfl ?_
              refine QD.u (LU.atA Tryd.underlying154 Tryd.sizeOf153 Is.rfl' Is.rfl' (by omega) (by omega)) rfl ?_
              refine QD.u (LU.loadO 0 rfl ⟨Tryd.sizeOf153, Tryd.isAgg153⟩ Is.rfl' (Part.one rfl)) rfl ?_
              refine QD.u (LU.call (rot_calls _ 11 (by decide)) Tryd.func106 rfl rfl (Opds.cons Is.rfl' (Opds.cons Is.rfl' Opds.nil))) rfl ?_
              refine QD.u (LU.xor32 Is.rfl' Is.rfl') rfl ?_
              refine QD.u (LU.atA Tryd.underlying154 Tryd.sizeOf153 Is.rfl' Is.rfl' (by omega) (by omega)) rfl ?_
              refine QD.u (LU.loadO 0 rfl ⟨Tryd.sizeOf153, Tryd.isAgg153⟩ Is.rfl' (Part.one rfl)) rfl ?_
              refine QD.u (LU.call (rot_calls _ 25 (by decide)) Tryd.func106 rfl rfl (Opds.cons Is.rfl' (Opds.cons Is.rfl' Opds.nil))) rfl ?_
              refine QD.u (LU.xor32 Is.rfl' Is.rfl') rfl ?_
              refine QD.u (LU.add32 Is.rfl' Is.rfl') rfl ?_
              refine QD.u (LU.atA Tryd.underlying154 Tryd.sizeOf153 Is.rfl' Is.rfl' (by omega) (by omega)) rfl ?_
              refine QD.u (LU.loadO 0 rfl ⟨Tryd.sizeOf153, Tryd.isAgg153⟩ Is.rfl' (Part.one rfl)) rfl ?_
              refine QD.u (LU.atA Tryd.underlying154 Tryd.sizeOf153 Is.rfl' Is.rfl' (by omega) (by omega)) rfl ?_
              refine QD.u (LU.loadO 0 rfl ⟨Tryd.sizeOf153, Tryd.isAgg153⟩ Is.rfl' (Part.one rfl)) rfl ?_
              refine QD.u (LU.and32 Is.rfl' Is.rfl') rfl ?_
              refine QD.u (LU.atA Tryd.underlying154 Tryd.sizeOf153 Is.rfl' Is.rfl' (by omega) (by omega)) rfl ?_
              refine QD.u (LU.loadO 0 rfl ⟨Tryd.sizeOf153, Tryd.isAgg153⟩ Is.rfl' (Part.one rfl)) rfl ?_
              refine QD.u (LU.not32 Is.rfl') rfl ?_
              refine QD.u (LU.atA Tryd.underlying154 Tryd.sizeOf153 Is.rfl' Is.rfl' (by omega) (by omega)) rfl ?_
              refine QD.u (LU.loadO 0 rfl ⟨Tryd.sizeOf153, Tryd.isAgg153⟩ Is.rfl' (Part.one rfl)) rfl ?_
              refine QD.u (LU.and32 Is.rfl' Is.rfl') rfl ?_
              refine QD.u (LU.xor32 Is.rfl' Is.rfl') rfl ?_
              refine QD.u (LU.add32 Is.rfl' Is.rfl') rfl ?_
              refine QD.u (LU.moveR Is.rfl') rfl ?_
              refine QD.u (LU.atA Tryd.underlying155 Tryd.sizeOf153 Is.rfl' Is.rfl' (by omega) (by omega)) rfl ?_
              refine QD.u (LU.loadO 3 rfl ⟨Tryd.sizeOf153, Tryd.isAgg153⟩ Is.rfl' (Part.one (map_atN t (by omega) (by omega)))) rfl ?_
              refine QD.u (LU.add32 Is.rfl' Is.rfl') rfl ?_
              refine QD.u (LU.moveR Is.rfl') rfl ?_
              refine QD.u (LU.atA Tryd.underlying155 Tryd.sizeOf153 Is.rfl' Is.rfl' (by omega) (by omega)) rfl ?_
              refine QD.u (LU.loadO 1 rfl ⟨Tryd.sizeOf153, Tryd.isAgg153⟩ Is.rfl' (Part.one (map_atN t (by omega) (by omega)))) rfl ?_
              refine QD.u (LU.weak (LU.add32 Is.rfl' Is.rfl') (Is.of (y := u32 (rx (K.getD t 0) (W.getD t 0) S)) (rfl))) rfl ?_
              refine QD.u (LU.assignR Is.rfl') rfl ?_
              refine QD.nil ?_
              refine LL.nil (after_code ?_)
              refine LW.seq ?_
              refine X.drawM 30 rfl (by kernel_rfl) rfl ?_
              refine QD.u (LU.atA Tryd.underlying154 Tryd.sizeOf153 Is.rfl' Is.rfl' (by omega) (by omega)) rfl ?_
              refine QD.u (LU.loadO 0 rfl ⟨Tryd.sizeOf153, Tryd.isAgg153⟩ Is.rfl' (Part.one rfl)) rfl ?_
              refine QD.u (LU.call (rot_calls _ 2 (by decide)) Tryd.func106 rfl rfl (Opds.cons Is.rfl' (Opds.cons Is.rfl' Opds.nil))) rfl ?_
              refine QD.u (LU.atA Tryd.underlying154 Tryd.sizeOf153 Is.rfl' Is.rfl' (by omega) (by omega)) rfl ?_
              refine QD.u (LU.loadO 0 rfl ⟨Tryd.sizeOf153, Tryd.isAgg153⟩ Is.rfl' (Part.one rfl)) rfl ?_
              refine QD.u (LU.call (rot_calls _ 13 (by decide)) Tryd.func106 rfl rfl (Opds.cons Is.rfl' (Opds.cons Is.rfl' Opds.nil))) rfl ?_
              refine QD.u (LU.xor32 Is.rfl' Is.rfl') rfl ?_
              refine QD.u (LU.atA Tryd.underlying154 Tryd.sizeOf153 Is.rfl' Is.rfl' (by omega) (by omega)) rfl ?_
              refine QD.u (LU.loadO 0 rfl ⟨Tryd.sizeOf153, Tryd.isAgg153⟩ Is.rfl' (Part.one rfl)) rfl ?_
              refine QD.u (LU.call (rot_calls _ 22 (by decide)) Tryd.func106 rfl rfl (Opds.cons Is.rfl' (Opds.cons Is.rfl' Opds.nil))) rfl ?_
              refine QD.u (LU.xor32 Is.rfl' Is.rfl') rfl ?_
              refine QD.u (LU.atA Tryd.underlying154 Tryd.sizeOf153 Is.rfl' Is.rfl' (by omega) (by omega)) rfl ?_
              refine QD.u (LU.loadO 0 rfl ⟨Tryd.sizeOf153, Tryd.isAgg153⟩ Is.rfl' (Part.one rfl)) rfl ?_
              refine QD.u (LU.atA Tryd.underlying154 Tryd.sizeOf153 Is.rfl' Is.rfl' (by omega) (by omega)) rfl ?_
              refine QD.u (LU.loadO 0 rfl ⟨Tryd.sizeOf153, Tryd.isAgg153⟩ Is.rfl' (Part.one rfl)) rfl ?_
              refine QD.u (LU.and32 Is.rfl' Is.rfl') rfl ?_
              refine QD.u (LU.atA Tryd.underlying154 Tryd.sizeOf153 Is.rfl' Is.rfl' (by omega) (by omega)) rfl ?_
              refine QD.u (LU.loadO 0 rfl ⟨Tryd.sizeOf153, Tryd.isAgg153⟩ Is.rfl' (Part.one rfl)) rfl ?_
              refine QD.u (LU.atA Tryd.underlying154 Tryd.sizeOf153 Is.rfl' Is.rfl' (by omega) (by omega)) rfl ?_
              refine QD.u (LU.loadO 0 rfl ⟨Tryd.sizeOf153, Tryd.isAgg153⟩ Is.rfl' (Part.one rfl)) rfl ?_
              refine QD.u (LU.and32 Is.rfl' Is.rfl') rfl ?_
              refine QD.u (LU.xor32 Is.rfl' Is.rfl') rfl ?_
              refine QD.u (LU.atA Tryd.underlying154 Tryd.sizeOf153 Is.rfl' Is.rfl' (by omega) (by omega)) rfl ?_
              refine QD.u (LU.loadO 0 rfl ⟨Tryd.sizeOf153, Tryd.isAgg153⟩ Is.rfl' (Part.one rfl)) rfl ?_
              refine QD.u (LU.atA Tryd.underlying154 Tryd.sizeOf153 Is.rfl' Is.rfl' (by omega) (by omega)) rfl ?_
              refine QD.u (LU.loadO 0 rfl ⟨Tryd.sizeOf153, Tryd.isAgg153⟩ Is.rfl' (Part.one rfl)) rfl ?_
              refine QD.u (LU.and32 Is.rfl' Is.rfl') rfl ?_
              refine QD.u (LU.xor32 Is.rfl' Is.rfl') rfl ?_
              refine QD.u (LU.weak (LU.add32 Is.rfl' Is.rfl') (Is.of (y := u32 (ry S)) (rfl))) rfl ?_
              refine QD.u (LU.assignR Is.rfl') rfl ?_
              refine QD.nil ?_
              refine LL.nil (after_code ?_)
              refine LW.region ?_
              refine X.u (LU.moveR Is.rfl') rfl ?_
              refine X.u (LU.moveR Is.rfl') rfl ?_
              refine X.u (LU.add32 Is.rfl' Is.rfl') rfl ?_
              refine X.u (LU.atA Tryd.underlying154 Tryd.sizeOf153 Is.rfl' Is.rfl' (by omega) (by omega)) rfl ?_
              refine X.u (LU.loadO 0 rfl ⟨Tryd.sizeOf153, Tryd.isAgg153⟩ Is.rfl' (Part.one rfl)) rfl ?_
              refine X.u (LU.atA Tryd.underlying154 Tryd.sizeOf153 Is.rfl' Is.rfl' (by omega) (by omega)) rfl ?_
              refine X.u (LU.loadO 0 rfl ⟨Tryd.sizeOf153, Tryd.isAgg153⟩ Is.rfl' (Part.one rfl)) rfl ?_
              refine X.u (LU.atA Tryd.underlying154 Tryd.sizeOf153 Is.rfl' Is.rfl' (by omega) (by omega)) rfl ?_
              refine X.u (LU.loadO 0 rfl ⟨Tryd.sizeOf153, Tryd.isAgg153⟩ Is.rfl' (Part.one rfl)) rfl ?_
              refine X.u (LU.atA Tryd.underlying154 Tryd.sizeOf153 Is.rfl' Is.rfl' (by omega) (by omega)) rfl ?_
              refine X.u (LU.loadO 0 rfl ⟨Tryd.sizeOf153, Tryd.isAgg153⟩ Is.rfl' (Part.one rfl)) rfl ?_
              refine X.u (LU.moveR Is.rfl') rfl ?_
              refine X.u (LU.add32 Is.rfl' Is.rfl') rfl ?_
              refine X.u (LU.atA Tryd.underlying154 Tryd.sizeOf153 Is.rfl' Is.rfl' (by omega) (by omega)) rfl ?_
              refine X.u (LU.loadO 0 rfl ⟨Tryd.sizeOf153, Tryd.isAgg153⟩ Is.rfl' (Part.one rfl)) rfl ?_
              refine X.u (LU.atA Tryd.underlying154 Tryd.sizeOf153 Is.rfl' Is.rfl' (by omega) (by omega)) rfl ?_
              refine X.u (LU.loadO 0 rfl ⟨Tryd.sizeOf153, Tryd.isAgg153⟩ Is.rfl' (Part.one rfl)) rfl ?_
              refine X.u (LU.atA Tryd.underlying154 Tryd.sizeOf153 Is.rfl' Is.rfl' (by omega) (by omega)) rfl ?_
              refine X.u (LU.loadO 0 rfl ⟨Tryd.sizeOf153, Tryd.isAgg153⟩ Is.rfl' (Part.one rfl)) rfl ?_
              refine X.u (LU.buildA1 (vs := [_, _, _, _, _, _, _, _]) Tryd.underlying154 Tryd.sizeOf153 Tryd.zeroValue154 (ones rfl) (Parts.cons Is.rfl' (by exact Cells.raw rfl) (Parts.cons Is.rfl' (by exact Cells.raw rfl) (Parts.cons Is.rfl' (by exact Cells.raw rfl) (Parts.cons Is.rfl' (by exact Cells.raw rfl) (Parts.cons Is.rfl' (by exact Cells.raw rfl) (Parts.cons Is.rfl' (by exact Cells.raw rfl) (Parts.cons Is.rfl' (by exact Cells.raw rfl) (Parts.cons Is.rfl' (by exact Cells.raw rfl) Parts.nil)))))))) rfl) rfl ?_
              refine X.act (X.store 0 rfl Tryd.sizeOf154 Is.rfl' Is.rfl' (by exact Cells.agg) (by (simp; done)) (by (simp; done)) ?_)
              refine LL.nil (after_blk (after_code ?_))
              refine X.wcells (ys := (rs K W s (t + 1)).l.map u32) (by rw [← rs_step, ← hS]; exact rnd_c _ _ S) ?_
              refine LW.region ?_
              refine X.u (LU.moveR Is.rfl') rfl ?_
              refine X.u (LU.addN Is.rfl' Is.rfl' (wrap_i64 (by omega) (by omega))) rfl ?_
              refine X.u (LU.assignR Is.rfl') rfl ?_
              refine LL.nil (after_rnd ?_)
              refine X.next (t + 1) rfl (EnvLe.cons (by rfl) (EnvLe.nil)) (Keeps.cons (by exact Eq.trans (b := .raw _) rfl rfl) (Keeps.cons (by exact Eq.trans (b := .raw _) rfl rfl) (Keeps.cons (by exact Eq.trans (b := .raw _) rfl rfl) (Keeps.cons (by exact Eq.trans (b := .raw _) rfl rfl) (Keeps.cons (by exact Eq.trans (b := .raw _) rfl rfl) (Keeps.nil)))))) (by repeat (exact HSub.refl _)) ?_ ?_
              · omega
              · omega
            · try have h14 := of_decide_eq_false h14
              obtain rfl : t = 64 := by omega
              subst hS
              obtain ⟨A, hA⟩ : ∃ A, A = rs K W s 64 := ⟨_, rfl⟩
              rw [← hA]
              clear hA
              rw [← mix_0 A s]
              refine LW.exit (exit_code (exit_rnd (exit_blk (after_code ?_))))
              refine LW.seq ?_
              refine LW.seq ?_
              refine LW.region ?_
              refine X.u (LU.assignR Is.rfl') rfl ?_
              refine LL.nil (after_code ?_)
              refine LW.block ?_
              refine X.loopK (α := Nat) (fun i => [(16, i64 i)]) [3, 6, 12] (fun i => .cells b12 154 ((mixL A s i).map u32) :: .cells b7 155 (W.map u32) :: .cells b6 154 ((List.replicate 8 0).map u32) :: .cells b5 155 (K.map u32) :: .cells b3 154 (s.l.map u32) :: Rf) (fun i => i ≤ 8) (fun i => 8 - i) (0) (EnvLe.cons (by rfl) (EnvLe.nil)) (by repeat (exact HSub.refl _)) ?_ ?_
              · omega
              · rintro i hI
                have hml := mix_len A s i hI
                refine LW.seq ?_
                refine LW.seq ?_
                refine LW.region ?_
                refine X.u (LU.moveR Is.rfl') rfl ?_
                refine X.u (LU.lss Is.rfl' Is.rfl') rfl ?_
                refine LL.nil (after_code ?_)
                refine X.cond rfl (fun h20 => ?_) (fun h20 => ?_)
                · try have h20 := of_decide_eq_true h20
                  refine LW.skip (after_code ?_)
                  refine LW.seq ?_
                  refine LW.block ?_
                  refine X.drawM 9 rfl (by kernel_rfl) rfl ?_
                  refine QD.u (LU.moveR Is.rfl') rfl ?_
                  refine QD.u (LU.moveR Is.rfl') rfl ?_
                  refine QD.u (LU.atA Tryd.underlying154 Tryd.sizeOf153 Is.rfl' Is.rfl' (by omega) (by omega)) rfl ?_
                  refine QD.u (LU.loadO 0 rfl ⟨Tryd.sizeOf153, Tryd.isAgg153⟩ Is.rfl' (Part.one (map_atN i (by omega) (by omega)))) rfl ?_
                  refine QD.u (LU.moveR Is.rfl') rfl ?_
                  refine QD.u (LU.atA Tryd.underlying154 Tryd.sizeOf153 Is.rfl' Is.rfl' (by omega) (by omega)) rfl ?_
                  refine QD.u (LU.loadO 4 rfl ⟨Tryd.sizeOf153, Tryd.isAgg153⟩ Is.rfl' (Part.one (map_atN i (by omega) (by rw [S8.len]; omega)))) rfl ?_
                  refine QD.u (LU.add32 Is.rfl' Is.rfl') rfl ?_
                  refine QD.u (LU.atA Tryd.underlying154 Tryd.sizeOf153 Is.rfl' Is.rfl' (by omega) (by omega)) rfl ?_
                  refine QD.nil ?_
                  refine X.act (X.store 0 rfl Tryd.sizeOf153 Is.rfl' Is.rfl' (by exact Cells.raw rfl) (by (simp; done)) (by (simp; omega)) ?_)
                  refine LL.nil (after_blk (after_code ?_))
                  refine X.wput (mix_set _ _ i (by omega)) (by omega) (by omega) ?_
                  refine LW.region ?_
                  refine X.u (LU.moveR Is.rfl') rfl ?_
                  refine X.u (LU.addN Is.rfl' Is.rfl' (wrap_i64 (by omega) (by omega))) rfl ?_
                  refine X.u (LU.assignR Is.rfl') rfl ?_
                  refine LL.nil (after_rnd ?_)
                  refine X.next (i + 1) rfl (EnvLe.cons (by rfl) (EnvLe.nil)) (Keeps.cons (by exact Eq.trans (b := .raw _) rfl rfl) (Keeps.cons (by exact Eq.trans (b := .raw _) rfl rfl) (Keeps.cons (by exact Eq.trans (b := .raw _) rfl rfl) (Keeps.nil)))) (by repeat (exact HSub.refl _)) ?_ ?_
                  · omega
                  · omega
                · try have h20 := of_decide_eq_false h20
                  obtain rfl : i = 8 := by omega
                  rw [mix_end]
                  refine LW.exit (exit_code (exit_rnd (exit_blk (after_code ?_))))
                  refine LW.seq ?_
                  refine LW.region ?_
                  refine X.u (LU.loadO 0 rfl ⟨Tryd.sizeOf154, Tryd.isAgg154⟩ Is.rfl' (Part.whole (by simp))) rfl ?_
                  refine X.act (X.store 2 rfl Tryd.sizeOf154 Is.rfl' Is.rfl' (by exact Cells.agg) (by (simp; done)) (by (simp; done)) ?_)
                  refine LL.nil (after_code ?_)
                  refine LW.ret (after_end ?_)
                  rw [putAt_all (by simp)]
                  refine X.ret (H' := []) (by exact Res.cell1 0 rfl rfl ⟨Tryd.sizeOf154, Tryd.isAgg154⟩ (Part.whole (by rfl)) (by exact IsA rfl)) (by repeat (first | exact HSub.refl _ | refine HSub.drop ?_)) ?_
                  exact ⟨rfl, rfl⟩
theorem refblock_calls (s : S8) (b : List UInt8) (k : Cap) (hb : 64 ≤ b.length) : LCalls Tryd.prog 89 [W8 s, Bytes b k, .agg (Kw.map u32)] [] (fun r H' => r = W8 (blk s b) ∧ H' = []) := refblock_callsK Kw Kw_len s b k hb
end Go.Proofs.YtnfeepmgdahmgaaDoor
