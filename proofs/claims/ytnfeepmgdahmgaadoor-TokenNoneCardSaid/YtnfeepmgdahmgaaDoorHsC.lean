/- A block, in the program. -/
import Derived.Test.YtnfeepmgdahmgaaDoorHsB
set_option linter.unusedVariables false
set_option linter.unusedSimpArgs false
namespace Go.Proofs.YtnfeepmgdahmgaaDoor
open Go.RowKit Go.L
attribute [local irreducible] LL LW LO
abbrev kwK (K : List Nat) : Atom := .known 2 (K.map u32)
abbrev kw : Atom := kwK Kw
set_option maxRecDepth 100000 in
theorem block_callsK (K : List Nat) (hK : K.length = 64) (s : S8) (b : List UInt8) (k : Cap) (hb : 64 ≤ b.length) : LCalls Tryd.prog 105 [W8 s, Bytes b k] [kwK K] (fun r H' => r = W8 (mix (rs K (sch b 48) s 64) s) ∧ H' = [kwK K]) := by
  obtain ⟨W, hW⟩ : ∃ W, W = sch b 48 := ⟨_, rfl⟩
  have hWl : W.length = 64 := by rw [hW, sch_len]
  have hsp := spread_calls b k hb
  rw [← hW] at hsp ⊢
  clear hW
  refine LCalls.of Tryd.func105 rfl Tryd.ntmps105 Tryd.results105 rfl (fun Rf => ?_)
  refine LW.seq ?_
  refine LW.region ?_
  refine X.act (X.box rfl Is.rfl' (by exact Cells.agg) (fun b2 => ?_))
  refine X.act (X.alloc rfl Tryd.zeroValue172 (by exact Cells.rawagg (by decide)) (fun b4 => ?_))
  refine LL.nil (after_code ?_)
  refine LW.seq ?_
  refine LW.region ?_
  refine X.u (LU.moveS Is.rfl') rfl ?_
  refine X.u (LU.call (hsp) Tryd.func118 rfl rfl (Opds.cons Is.rfl' Opds.nil)) rfl ?_
  refine X.act (X.alloc rfl Tryd.zeroValue155 (by exact Cells.rawagg (by decide)) (fun b5 => ?_))
  refine X.act (X.store 0 rfl Tryd.sizeOf155 Is.rfl' Is.rfl' (by exact Cells.agg) (by (simp; omega)) (by exact Nat.le_of_ble_eq_true rfl) ?_)
  refine LL.nil (after_code ?_)
  refine LW.seq ?_
  rw [putAt_all (by simp [raws, hWl])]
  refine LW.region ?_
  refine X.u (LU.loadO 2 rfl ⟨Tryd.sizeOf172, Tryd.isAgg172⟩ Is.rfl' (Part.whole (by simp))) rfl ?_
  refine X.act (X.alloc rfl Tryd.zeroValue172 (by exact Cells.rawagg (by decide)) (fun b6 => ?_))
  refine X.act (X.store 0 rfl Tryd.sizeOf172 Is.rfl' Is.rfl' (by exact Cells.agg) (by (simp; done)) (by exact Nat.le_of_ble_eq_true rfl) ?_)
  refine LL.nil (after_code ?_)
  refine LW.seq ?_
  refine LW.seq ?_
  refine X.wcells (ys := (rs K W s 0).l.map u32) (by rw [putAt_all (by simp [raws]), rs_0]) ?_
  refine LW.region ?_
  refine X.u (LU.moveR Is.rfl') rfl ?_
  refine LL.nil (after_code ?_)
  refine LW.block ?_
  refine X.loopK (α := Nat) (fun t => [(15, i64 t)]) [2, 4, 5, 6] (fun t => .cells b6 172 ((rs K W s t).l.map u32) :: .cells b5 155 (W.map u32) :: .cells b4 172 ((List.replicate 8 0).map u32) :: .cells b2 172 (s.l.map u32) :: kwK K :: Rf) (fun t => t ≤ 64) (fun t => 64 - t) (0) (EnvLe.cons (by rfl) (EnvLe.nil)) (by repeat (exact HSub.refl _)) ?_ ?_
  · omega
  · rintro t hI
    obtain ⟨S, hS⟩ : ∃ S, S = rs K W s t := ⟨_, rfl⟩
    rw [← hS]
    refine LW.seq ?_
    refine LW.region ?_
    refine X.u (LU.lss Is.rfl' Is.rfl') rfl ?_
    refine LL.nil (after_code ?_)
    refine LW.seq ?_
    refine X.cond rfl (fun h4 => ?_) (fun h4 => ?_)
    · try have h4 := of_decide_eq_true h4
      refine LW.skip (after_code ?_)
      refine LW.seq ?_
      refine LW.block ?_
      refine LW.seq ?_
      refine LW.region ?_
      refine X.u (LU.moveR Is.rfl') rfl ?_
      refine X.u (LU.assignR Is.rfl') rfl ?_
      refine LL.nil (after_code ?_)
      refine LW.seq ?_
      refine LW.region ?_
      refine X.u (LU.atA Tryd.underlying172 Tryd.sizeOf153 Is.rfl' Is.rfl' (by omega) (by omega)) rfl ?_
      refine X.u (LU.loadO 0 rfl ⟨Tryd.sizeOf153, Tryd.isAgg153⟩ Is.rfl' (Part.one rfl)) rfl ?_
      refine X.u (LU.assignR Is.rfl') rfl ?_
      refine LL.nil (after_code ?_)
      refine LW.seq ?_
      refine X.drawM 31 rfl (by kernel_rfl) rfl ?_
      refine QD.u (LU.atA Tryd.underlying172 Tryd.sizeOf153 Is.rfl' Is.rfl' (by omega) (by omega)) rfl ?_
      refine QD.u (LU.loadO 0 rfl ⟨Tryd.sizeOf153, Tryd.isAgg153⟩ Is.rfl' (Part.one rfl)) rfl ?_
      refine QD.u (LU.moveR Is.rfl') rfl ?_
      refine QD.u (LU.call (turn_calls _ 6 (by decide)) Tryd.func119 rfl rfl (Opds.cons Is.rfl' (Opds.cons Is.rfl' Opds.nil))) rfl ?_
      refine QD.u (LU.moveR Is.rfl') rfl ?_
      refine QD.u (LU.call (turn_calls _ 11 (by decide)) Tryd.func119 rfl rfl (Opds.cons Is.rfl' (Opds.cons Is.rfl' Opds.nil))) rfl ?_
      refine QD.u (LU.xor32 Is.rfl' Is.rfl') rfl ?_
      refine QD.u (LU.moveR Is.rfl') rfl ?_
      refine QD.u (LU.call (turn_calls _ 25 (by decide)) Tryd.func119 rfl rfl (Opds.cons Is.rfl' (Opds.cons Is.rfl' Opds.nil))) rfl ?_
      refine QD.u (LU.xor32 Is.rfl' Is.rfl') rfl ?_
      refine QD.u (LU.add32 Is.rfl' Is.rfl') rfl ?_
      refine QD.u (LU.moveR Is.rfl') rfl ?_
      refine QD.u (LU.atA Tryd.underlying172 Tryd.sizeOf153 Is.rfl' Is.rfl' (by omega) (by omega)) rfl ?_
      refine QD.u (LU.loadO 0 rfl ⟨Tryd.sizeOf153, Tryd.isAgg153⟩ Is.rfl' (Part.one rfl)) rfl ?_
      refine QD.u (LU.and32 Is.rfl' Is.rfl') rfl ?_
      refine QD.u (LU.moveR Is.rfl') rfl ?_
      refine QD.u (LU.not32 Is.rfl') rfl ?_
      refine QD.u (LU.atA Tryd.underlying172 Tryd.sizeOf153 Is.rfl' Is.rfl' (by omega) (by omega)) rfl ?_
      refine QD.u (LU.loadO 0 rfl ⟨Tryd.sizeOf153, Tryd.isAgg153⟩ Is.rfl' (Part.one rfl)) rfl ?_
      refine QD.u (LU.and32 Is.rfl' Is.rfl') rfl ?_
      refine QD.u (LU.xor32 Is.rfl' Is.rfl') rfl ?_
      refine QD.u (LU.add32 Is.rfl' Is.rfl') rfl ?_
      refine QD.u (LU.moveR Is.rfl') rfl ?_
      refine QD.u (LU.atA Tryd.underlying155 Tryd.sizeOf153 Is.rfl' Is.rfl' (by omega) (by omega)) rfl ?_
      refine QD.u (LU.loadK 4 rfl ⟨Tryd.sizeOf153, Tryd.isAgg153⟩ Is.rfl' (by decide) (by (simp; omega)) (Part.one (map_atN t (by omega) (by omega)))) rfl ?_
      refine QD.u (LU.add32 Is.rfl' Is.rfl') rfl ?_
      refine QD.u (LU.moveR Is.rfl') rfl ?_
      refine QD.u (LU.atA Tryd.underlying155 Tryd.sizeOf153 Is.rfl' Is.rfl' (by omega) (by omega)) rfl ?_
      refine QD.u (LU.loadO 1 rfl ⟨Tryd.sizeOf153, Tryd.isAgg153⟩ Is.rfl' (Part.one (map_atN t (by omega) (by omega)))) rfl ?_
      refine QD.u (LU.weak (LU.add32 Is.rfl' Is.rfl') (Is.of (y := u32 (rx (K.getD t 0) (W.getD t 0) S)) (rfl))) rfl ?_
      refine QD.u (LU.assignR Is.rfl') rfl ?_
      refine QD.nil ?_
      refine LL.nil (after_code ?_)
      refine LW.seq ?_
      refine X.drawM 30 rfl (by kernel_rfl) rfl ?_
      refine QD.u (LU.atA Tryd.underlying172 Tryd.sizeOf153 Is.rfl' Is.rfl' (by omega) (by omega)) rfl ?_
      refine QD.u (LU.loadO 0 rfl ⟨Tryd.sizeOf153, Tryd.isAgg153⟩ Is.rfl' (Part.one rfl)) rfl ?_
      refine QD.u (LU.call (turn_calls _ 2 (by decide)) Tryd.func119 rfl rfl (Opds.cons Is.rfl' (Opds.cons Is.rfl' Opds.nil))) rfl ?_
      refine QD.u (LU.atA Tryd.underlying172 Tryd.sizeOf153 Is.rfl' Is.rfl' (by omega) (by omega)) rfl ?_
      refine QD.u (LU.loadO 0 rfl ⟨Tryd.sizeOf153, Tryd.isAgg153⟩ Is.rfl' (Part.one rfl)) rfl ?_
      refine QD.u (LU.call (turn_calls _ 13 (by decide)) Tryd.func119 rfl rfl (Opds.cons Is.rfl' (Opds.cons Is.rfl' Opds.nil))) rfl ?_
      refine QD.u (LU.xor32 Is.rfl' Is.rfl') rfl ?_
      refine QD.u (LU.atA Tryd.underlying172 Tryd.sizeOf153 Is.rfl' Is.rfl' (by omega) (by omega)) rfl ?_
      refine QD.u (LU.loadO 0 rfl ⟨Tryd.sizeOf153, Tryd.isAgg153⟩ Is.rfl' (Part.one rfl)) rfl ?_
      refine QD.u (LU.call (turn_calls _ 22 (by decide)) Tryd.func119 rfl rfl (Opds.cons Is.rfl' (Opds.cons Is.rfl' Opds.nil))) rfl ?_
      refine QD.u (LU.xor32 Is.rfl' Is.rfl') rfl ?_
      refine QD.u (LU.atA Tryd.underlying172 Tryd.sizeOf153 Is.rfl' Is.rfl' (by omega) (by omega)) rfl ?_
      refine QD.u (LU.loadO 0 rfl ⟨Tryd.sizeOf153, Tryd.isAgg153⟩ Is.rfl' (Part.one rfl)) rfl ?_
      refine QD.u (LU.atA Tryd.underlying172 Tryd.sizeOf153 Is.rfl' Is.rfl' (by omega) (by omega)) rfl ?_
      refine QD.u (LU.loadO 0 rfl ⟨Tryd.sizeOf153, Tryd.isAgg153⟩ Is.rfl' (Part.one rfl)) rfl ?_
      refine QD.u (LU.and32 Is.rfl' Is.rfl') rfl ?_
      refine QD.u (LU.atA Tryd.underlying172 Tryd.sizeOf153 Is.rfl' Is.rfl' (by omega) (by omega)) rfl ?_
      refine QD.u (LU.loadO 0 rfl ⟨Tryd.sizeOf153, Tryd.isAgg153⟩ Is.rfl' (Part.one rfl)) rfl ?_
      refine QD.u (LU.atA Tryd.underlying172 Tryd.sizeOf153 Is.rfl' Is.rfl' (by omega) (by omega)) rfl ?_
      refine QD.u (LU.loadO 0 rfl ⟨Tryd.sizeOf153, Tryd.isAgg153⟩ Is.rfl' (Part.one rfl)) rfl ?_
      refine QD.u (LU.and32 Is.rfl' Is.rfl') rfl ?_
      refine QD.u (LU.xor32 Is.rfl' Is.rfl') rfl ?_
      refine QD.u (LU.atA Tryd.underlying172 Tryd.sizeOf153 Is.rfl' Is.rfl' (by omega) (by omega)) rfl ?_
      refine QD.u (LU.loadO 0 rfl ⟨Tryd.sizeOf153, Tryd.isAgg153⟩ Is.rfl' (Part.one rfl)) rfl ?_
      refine QD.u (LU.atA Tryd.underlying172 Tryd.sizeOf153 Is.rfl' Is.rfl' (by omega) (by omega)) rfl ?_
      refine QD.u (LU.loadO 0 rfl ⟨Tryd.sizeOf153, Tryd.isAgg153⟩ Is.rfl' (Part.one rfl)) rfl ?_
      refine QD.u (LU.and32 Is.rfl' Is.rfl') rfl ?_
      refine QD.u (LU.xor32 Is.rfl' Is.rfl') rfl ?_
      refine QD.u (LU.weak (LU.add32 Is.rfl' Is.rfl') (Is.of (y := u32 (ry S)) (rfl))) rfl ?_
      refine QD.u (LU.assignR Is.rfl') rfl ?_
      refine QD.nil ?_
      refine LL.nil (after_code ?_)
      refine LW.region ?_
      refine X.u (LU.moveR Is.rfl') rfl ?_
      refine X.u (LU.moveR Is.rfl') rfl ?_
      refine X.u (LU.add32 Is.rfl' Is.rfl') rfl ?_
      refine X.u (LU.atA Tryd.underlying172 Tryd.sizeOf153 Is.rfl' Is.rfl' (by omega) (by omega)) rfl ?_
      refine X.u (LU.loadO 0 rfl ⟨Tryd.sizeOf153, Tryd.isAgg153⟩ Is.rfl' (Part.one rfl)) rfl ?_
      refine X.u (LU.atA Tryd.underlying172 Tryd.sizeOf153 Is.rfl' Is.rfl' (by omega) (by omega)) rfl ?_
      refine X.u (LU.loadO 0 rfl ⟨Tryd.sizeOf153, Tryd.isAgg153⟩ Is.rfl' (Part.one rfl)) rfl ?_
      refine X.u (LU.atA Tryd.underlying172 Tryd.sizeOf153 Is.rfl' Is.rfl' (by omega) (by omega)) rfl ?_
      refine X.u (LU.loadO 0 rfl ⟨Tryd.sizeOf153, Tryd.isAgg153⟩ Is.rfl' (Part.one rfl)) rfl ?_
      refine X.u (LU.atA Tryd.underlying172 Tryd.sizeOf153 Is.rfl' Is.rfl' (by omega) (by omega)) rfl ?_
      refine X.u (LU.loadO 0 rfl ⟨Tryd.sizeOf153, Tryd.isAgg153⟩ Is.rfl' (Part.one rfl)) rfl ?_
      refine X.u (LU.moveR Is.rfl') rfl ?_
      refine X.u (LU.add32 Is.rfl' Is.rfl') rfl ?_
      refine X.u (LU.moveR Is.rfl') rfl ?_
      refine X.u (LU.atA Tryd.underlying172 Tryd.sizeOf153 Is.rfl' Is.rfl' (by omega) (by omega)) rfl ?_
      refine X.u (LU.loadO 0 rfl ⟨Tryd.sizeOf153, Tryd.isAgg153⟩ Is.rfl' (Part.one rfl)) rfl ?_
      refine X.u (LU.atA Tryd.underlying172 Tryd.sizeOf153 Is.rfl' Is.rfl' (by omega) (by omega)) rfl ?_
      refine X.u (LU.loadO 0 rfl ⟨Tryd.sizeOf153, Tryd.isAgg153⟩ Is.rfl' (Part.one rfl)) rfl ?_
      refine X.u (LU.buildA1 (vs := [_, _, _, _, _, _, _, _]) Tryd.underlying172 Tryd.sizeOf153 Tryd.zeroValue172 (ones rfl) (Parts.cons Is.rfl' (by exact Cells.raw rfl) (Parts.cons Is.rfl' (by exact Cells.raw rfl) (Parts.cons Is.rfl' (by exact Cells.raw rfl) (Parts.cons Is.rfl' (by exact Cells.raw rfl) (Parts.cons Is.rfl' (by exact Cells.raw rfl) (Parts.cons Is.rfl' (by exact Cells.raw rfl) (Parts.cons Is.rfl' (by exact Cells.raw rfl) (Parts.cons Is.rfl' (by exact Cells.raw rfl) Parts.nil)))))))) rfl) rfl ?_
      refine X.act (X.store 0 rfl Tryd.sizeOf172 Is.rfl' Is.rfl' (by exact Cells.agg) (by (simp; done)) (by (simp; done)) ?_)
      refine LL.nil (after_blk (after_code ?_))
      refine X.wcells (ys := (rs K W s (t + 1)).l.map u32) (by rw [← rs_step, ← hS]; exact rnd_c _ _ S) ?_
      refine LW.region ?_
      refine X.u (LU.addN Is.rfl' Is.rfl' (wrap_i64 (by omega) (by omega))) rfl ?_
      refine X.u (LU.moveR Is.rfl') rfl ?_
      refine LL.nil (after_rnd ?_)
      refine X.next (t + 1) rfl (EnvLe.cons (by rfl) (EnvLe.nil)) (Keeps.cons (by exact Eq.trans (b := .raw _) rfl rfl) (Keeps.cons (by exact Eq.trans (b := .raw _) rfl rfl) (Keeps.cons (by exact Eq.trans (b := .raw _) rfl rfl) (Keeps.cons (by exact Eq.trans (b := .raw _) rfl rfl) (Keeps.nil))))) (by repeat (exact HSub.refl _)) ?_ ?_
      · omega
      · omega
    · try have h4 := of_decide_eq_false h4
      obtain rfl : t = 64 := by omega
      subst hS
      obtain ⟨A, hA⟩ : ∃ A, A = rs K W s 64 := ⟨_, rfl⟩
      rw [← hA]
      clear hA
      rw [← mix_0 A s]
      refine LW.exit (exit_code (exit_rnd (exit_blk (after_code ?_))))
      refine LW.seq ?_
      refine LW.seq ?_
      refine LW.region ?_
      refine X.u (LU.moveR Is.rfl') rfl ?_
      refine LL.nil (after_code ?_)
      refine LW.block ?_
      refine X.loopK (α := Nat) (fun i => [(99, i64 i)]) [2, 4, 6] (fun i => .cells b6 172 ((mixL A s i).map u32) :: .cells b5 155 (W.map u32) :: .cells b4 172 ((List.replicate 8 0).map u32) :: .cells b2 172 (s.l.map u32) :: kwK K :: Rf) (fun i => i ≤ 8) (fun i => 8 - i) (0) (EnvLe.cons (by rfl) (EnvLe.nil)) (by repeat (exact HSub.refl _)) ?_ ?_
      · omega
      · rintro i hI
        have hml := mix_len A s i hI
        refine LW.seq ?_
        refine LW.region ?_
        refine X.u (LU.lss Is.rfl' Is.rfl') rfl ?_
        refine LL.nil (after_code ?_)
        refine LW.seq ?_
        refine X.cond rfl (fun h12 => ?_) (fun h12 => ?_)
        · try have h12 := of_decide_eq_true h12
          refine LW.skip (after_code ?_)
          refine LW.seq ?_
          refine LW.block ?_
          refine LW.seq ?_
          refine LW.region ?_
          refine X.u (LU.moveR Is.rfl') rfl ?_
          refine X.u (LU.assignR Is.rfl') rfl ?_
          refine LL.nil (after_code ?_)
          refine X.drawM 8 rfl (by kernel_rfl) rfl ?_
          refine QD.u (LU.moveR Is.rfl') rfl ?_
          refine QD.u (LU.atA Tryd.underlying172 Tryd.sizeOf153 Is.rfl' Is.rfl' (by omega) (by omega)) rfl ?_
          refine QD.u (LU.loadO 0 rfl ⟨Tryd.sizeOf153, Tryd.isAgg153⟩ Is.rfl' (Part.one (map_atN i (by omega) (by omega)))) rfl ?_
          refine QD.u (LU.moveR Is.rfl') rfl ?_
          refine QD.u (LU.atA Tryd.underlying172 Tryd.sizeOf153 Is.rfl' Is.rfl' (by omega) (by omega)) rfl ?_
          refine QD.u (LU.loadO 3 rfl ⟨Tryd.sizeOf153, Tryd.isAgg153⟩ Is.rfl' (Part.one (map_atN i (by omega) (by rw [S8.len]; omega)))) rfl ?_
          refine QD.u (LU.add32 Is.rfl' Is.rfl') rfl ?_
          refine QD.u (LU.atA Tryd.underlying172 Tryd.sizeOf153 Is.rfl' Is.rfl' (by omega) (by omega)) rfl ?_
          refine QD.nil ?_
          refine X.act (X.store 0 rfl Tryd.sizeOf153 Is.rfl' Is.rfl' (by exact Cells.raw rfl) (by (simp; done)) (by (simp; omega)) ?_)
          refine LL.nil (after_blk (after_code ?_))
          refine X.wput (mix_set _ _ i (by omega)) (by omega) (by omega) ?_
          refine LW.region ?_
          refine X.u (LU.addN Is.rfl' Is.rfl' (wrap_i64 (by omega) (by omega))) rfl ?_
          refine X.u (LU.moveR Is.rfl') rfl ?_
          refine LL.nil (after_rnd ?_)
          refine X.next (i + 1) rfl (EnvLe.cons (by rfl) (EnvLe.nil)) (Keeps.cons (by exact Eq.trans (b := .raw _) rfl rfl) (Keeps.cons (by exact Eq.trans (b := .raw _) rfl rfl) (Keeps.cons (by exact Eq.trans (b := .raw _) rfl rfl) (Keeps.nil)))) (by repeat (exact HSub.refl _)) ?_ ?_
          · omega
          · omega
        · try have h12 := of_decide_eq_false h12
          obtain rfl : i = 8 := by omega
          rw [mix_end]
          refine LW.exit (exit_code (exit_rnd (exit_blk (after_code ?_))))
          refine LW.seq ?_
          refine LW.region ?_
          refine X.u (LU.loadO 0 rfl ⟨Tryd.sizeOf172, Tryd.isAgg172⟩ Is.rfl' (Part.whole (by simp))) rfl ?_
          refine X.act (X.store 2 rfl Tryd.sizeOf172 Is.rfl' Is.rfl' (by exact Cells.agg) (by (simp; done)) (by (simp; done)) ?_)
          refine LL.nil (after_code ?_)
          refine LW.ret (after_end ?_)
          rw [putAt_all (by simp)]
          refine X.ret (H' := [kwK K]) (by exact Res.cell1 0 rfl rfl ⟨Tryd.sizeOf172, Tryd.isAgg172⟩ (Part.whole (by rfl)) (by exact IsA rfl)) (by repeat (first | exact HSub.refl _ | refine HSub.pick 4 rfl ?_ | refine HSub.drop ?_)) ?_
          exact ⟨rfl, rfl⟩
theorem block_calls (s : S8) (b : List UInt8) (k : Cap) (hb : 64 ≤ b.length) : LCalls Tryd.prog 105 [W8 s, Bytes b k] [kw] (fun r H' => r = W8 (blk s b) ∧ H' = [kw]) := block_callsK Kw Kw_len s b k hb
end Go.Proofs.YtnfeepmgdahmgaaDoor
