/- Lines: the document's small functions. -/
import Derived.Test.YtolpkeajokjbjaaDoorLnN
set_option linter.unusedVariables false
set_option linter.unusedSimpArgs false
namespace Go.Proofs.YtolpkeajokjbjaaDoor
open Go.RowKit Go.L Go.Lib
attribute [local irreducible] LL LW LO
set_option maxRecDepth 100000 in
theorem least_calls (a : Vx) (l : List Vx) (k : Cap) (hl : l.length < 1000000) : LCalls Tryd.prog 55 [Vxs (a :: l) k] [] (fun r H' => r = .agg (vxL (minV a l)) ∧ H' = []) := by
  have hml := vxL_len (minV a l)
  refine LCalls.of Tryd.func55 rfl Tryd.ntmps55 Tryd.results55 rfl (fun Rf => ?_)
  refine LW.seq ?_
  refine LW.region ?_
  refine X.act (X.alloc rfl Tryd.zeroValue35 (by exact Cells.rawagg (by decide)) (fun b2 => ?_))
  refine LL.nil (after_code ?_)
  refine LW.seq ?_
  refine LW.region ?_
  refine X.u (LU.moveS Is.rfl') rfl ?_
  refine X.u (LU.call (minfunc_calls a l k hl) Tryd.func67 rfl rfl (Opds.cons Is.rfl' (Opds.cons Is.rfl' Opds.nil))) rfl ?_
  refine X.act (X.store 0 rfl Tryd.sizeOf35 Is.rfl' Is.rfl' (by exact Cells.agg) (by assumption) (by exact Nat.le_of_ble_eq_true rfl) ?_)
  refine LL.nil (after_code ?_)
  refine LW.ret (after_end ?_)
  rw [putAt_all (by rw [hml]; rfl)]
  refine X.ret (H' := []) (Res.cell1 0 rfl rfl ⟨Tryd.sizeOf35, Tryd.isAgg35⟩ (Part.whole hml) (IsA rfl)) (by repeat (first | exact HSub.refl _ | refine HSub.drop ?_)) ?_
  exact ⟨rfl, rfl⟩
set_option maxRecDepth 100000 in
theorem top_calls : LCalls Tryd.prog 71 [] [] (fun r H' => r = .agg (vxL topV) ∧ H' = []) := by
  refine LCalls.of Tryd.func71 rfl Tryd.ntmps71 Tryd.results71 rfl (fun Rf => ?_)
  refine LW.seq ?_
  refine LW.region ?_
  refine X.act (X.alloc rfl Tryd.zeroValue35 (by exact Cells.rawagg (by decide)) (fun b0 => ?_))
  refine LL.nil (after_code ?_)
  refine LW.seq ?_
  refine LW.region ?_
  refine X.u (LU.weak (LU.build (places := #[(0, 32), (32, 1)]) Tryd.underlying35 Tryd.zeroValue35 (ones rfl) (by intro w; simp [Tryd.sizeOf3, Tryd.sizeOf31]) Parts.nil rfl) (Is.of (y := .agg (vxL topV)) (rfl))) rfl ?_
  refine X.act (X.store 0 rfl Tryd.sizeOf35 Is.rfl' Is.rfl' (by exact Cells.agg) (by (simp; done)) (by exact Nat.le_of_ble_eq_true rfl) ?_)
  refine LL.nil (after_code ?_)
  refine LW.ret (after_end ?_)
  refine X.ret (H' := []) (by exact Res.cell1 0 rfl rfl ⟨Tryd.sizeOf35, Tryd.isAgg35⟩ (Part.whole (by rfl)) (by exact IsA rfl)) (by repeat (first | exact HSub.refl _ | refine HSub.drop ?_)) ?_
  exact ⟨rfl, rfl⟩
set_option maxRecDepth 100000 in
theorem bottom_calls : LCalls Tryd.prog 74 [] [] (fun r H' => r = .agg (vxL botV) ∧ H' = []) := by
  refine LCalls.of Tryd.func74 rfl Tryd.ntmps74 Tryd.results74 rfl (fun Rf => ?_)
  refine LW.seq ?_
  refine LW.region ?_
  refine X.act (X.alloc rfl Tryd.zeroValue35 (by exact Cells.rawagg (by decide)) (fun b0 => ?_))
  refine LL.nil (after_code ?_)
  refine LW.seq ?_
  refine LW.region ?_
  refine X.u (LU.weak (LU.build (places := #[(0, 32), (32, 1)]) Tryd.underlying35 Tryd.zeroValue35 (ones rfl) (by intro w; simp [Tryd.sizeOf3, Tryd.sizeOf31]) (Parts.cons Is.rfl' (by exact Cells.raw rfl) Parts.nil) rfl) (Is.of (y := .agg (vxL botV)) (rfl))) rfl ?_
  refine X.act (X.store 0 rfl Tryd.sizeOf35 Is.rfl' Is.rfl' (by exact Cells.agg) (by (simp; done)) (by exact Nat.le_of_ble_eq_true rfl) ?_)
  refine LL.nil (after_code ?_)
  refine LW.ret (after_end ?_)
  refine X.ret (H' := []) (by exact Res.cell1 0 rfl rfl ⟨Tryd.sizeOf35, Tryd.isAgg35⟩ (Part.whole (by rfl)) (by exact IsA rfl)) (by repeat (first | exact HSub.refl _ | refine HSub.drop ?_)) ?_
  exact ⟨rfl, rfl⟩
set_option maxRecDepth 100000 in
theorem rends_calls (v : Vx) : LCalls Tryd.prog 64 [.agg (vxL v)] [] (fun r H' => r = bl (endsB v) ∧ H' = []) := by
  have hvl := vxL_len v
  refine LCalls.of Tryd.func64 rfl Tryd.ntmps64 Tryd.results64 rfl (fun Rf => ?_)
  refine LW.seq ?_
  refine LW.region ?_
  refine X.act (X.box rfl Is.rfl' (by exact Cells.agg) (fun b1 => ?_))
  refine X.u (LU.assignR Is.rfl') rfl ?_
  refine LL.nil (after_code ?_)
  refine LW.seq ?_
  refine X.drawM 9 rfl (by kernel_rfl) rfl ?_
  refine QD.u (LU.loadO 0 rfl ⟨Tryd.sizeOf35, Tryd.isAgg35⟩ Is.rfl' (Part.whole (by assumption))) rfl ?_
  refine QD.u (LU.call (top_calls) Tryd.func71 rfl rfl Opds.nil) rfl ?_
  refine QD.u (LU.eqlVx vxty Is.rfl' Is.rfl') rfl ?_
  refine QD.u (LU.moveR Is.rfl') rfl ?_
  refine QD.gF rfl rfl (fun hg => LU.loadO 0 rfl ⟨Tryd.sizeOf35, Tryd.isAgg35⟩ (by exact Is.rfl') (Part.whole (by assumption))) rfl ?_
  refine QD.gF rfl rfl (fun hg => LU.call (bottom_calls) Tryd.func74 rfl rfl Opds.nil) rfl ?_
  refine QD.gF rfl rfl (fun hg => LU.eqlVx vxty (by exact Is.whenN hg) (by exact Is.whenN hg)) rfl ?_
  refine QD.u (LU.pickOr Is.rfl' Is.rfl' (fun hq => (by exact Is.whenN hq))) rfl ?_
  refine QD.u (LU.assignR Is.rfl') rfl ?_
  refine QD.nil ?_
  refine LL.nil (after_code ?_)
  refine LW.ret (after_end ?_)
  refine X.ret (H' := []) (Res.one (by exact IsR rfl)) (by repeat (first | exact HSub.refl _ | refine HSub.drop ?_)) ?_
  exact ⟨by unfold endsB; rfl, rfl⟩
set_option maxHeartbeats 1000000 in
set_option maxRecDepth 100000 in
theorem rwrong_calls (l : List Vx) (k : Cap) (hl : l.length < 1000000) : LCalls Tryd.prog 65 [Vxs l k] [] (fun r H' => r = bl (wrongB l) ∧ H' = []) := by
  refine LCalls.of Tryd.func65 rfl Tryd.ntmps65 Tryd.results65 rfl (fun Rf => ?_)
  refine LW.seq ?_
  refine LW.region ?_
  refine X.u (LU.assignR Is.rfl') rfl ?_
  refine LL.nil (after_code ?_)
  refine LW.seq ?_
  refine LW.seq ?_
  refine LW.region ?_
  refine X.u (LU.assignR Is.rfl') rfl ?_
  refine LL.nil (after_code ?_)
  refine LW.block ?_
  refine X.loopK (α := Nat) (fun i => [(3, i64 i)]) [0] (fun _ => _) (fun i => i ≤ l.length ∧ (l.take i).Nodup ∧ ∀ v ∈ l.take i, endsB v = false) (fun i => l.length - i) (0) (EnvLe.cons (by rfl) (EnvLe.nil)) (HSub.refl _) ?_ ?_
  · exact ⟨Nat.zero_le _, by simp, by simp⟩
  · rintro i hI
    obtain ⟨hi, hn, he⟩ := hI
    refine LW.seq ?_
    refine LW.seq ?_
    refine LW.region ?_
    refine X.u (LU.moveR Is.rfl') rfl ?_
    refine X.u (LU.moveS Is.rfl') rfl ?_
    refine X.u (LU.lenN Tryd.underlying26 Is.rfl' (by (simp only [Option.getD_some, Option.getD_none, byteEls_length, intEls_length, List.length_append, List.length_cons, List.length_nil, List.length_map, List.length_drop, List.length_take, Int.toNat_natCast]; rfl))) rfl ?_
    refine X.u (LU.lss Is.rfl' Is.rfl') rfl ?_
    refine LL.nil (after_code ?_)
    refine X.cond rfl (fun h2 => ?_) (fun h2 => ?_)
    · try have h2 := of_decide_eq_true h2
      refine LW.skip (after_code ?_)
      refine LW.seq ?_
      refine LW.block ?_
      refine LW.seq ?_
      obtain ⟨v, hv⟩ := at_lt (show i < l.length by omega)
      have hvl := vxL_len v
      refine X.drawM 16 rfl (by kernel_rfl) rfl ?_
      refine QD.u (LU.moveS Is.rfl') rfl ?_
      refine QD.u (LU.moveR Is.rfl') rfl ?_
      refine QD.u (LU.at Tryd.underlying26 ⟨Tryd.sizeOf35, Tryd.isAgg35⟩ Is.rfl' Is.rfl' (by omega) (vxs_at hv) (vx_ne v)) rfl ?_
      refine QD.u (LU.load ⟨Tryd.sizeOf35, Tryd.isAgg35⟩ Is.rfl' (by assumption) (Part.whole (by assumption))) rfl ?_
      refine QD.u (LU.call (rends_calls v) Tryd.func64 rfl rfl (Opds.cons Is.rfl' Opds.nil)) rfl ?_
      refine QD.u (LU.moveR Is.rfl') rfl ?_
      refine QD.gF rfl rfl (fun hg => LU.moveS (by exact Is.rfl')) rfl ?_
      refine QD.gF rfl rfl (fun hg => LU.moveR (by exact Is.rfl')) rfl ?_
      refine QD.gF rfl rfl (fun hg => LU.weak (LU.slice (lo := none) (hi := some _) (l := none) (h := some ((i : Nat) : Int)) Tryd.sizeOf35 (by decide) Tryd.underlying26 (by exact Is.whenN hg) trivial ⟨_, (by exact Is.whenN hg)⟩ (by simp) (by simp) (by simp only [Option.getD_some, Option.getD_none, List.length_map]; try omega) .unk (.inl rfl)) (Is.of (y := Vxs (l.take i) .unk) (congrArg (fun z => LV.sl 33 z .unk) (by simp only [Option.getD_some, Option.getD_none, Int.toNat_natCast, Int.toNat_zero, List.drop_zero, Nat.sub_zero, vxs, List.map_take] <;> (try rfl))))) rfl ?_
      refine QD.gF rfl rfl (fun hg => LU.moveS (by exact Is.rfl')) rfl ?_
      refine QD.gF rfl rfl (fun hg => LU.moveR (by exact Is.rfl')) rfl ?_
      refine QD.gF rfl rfl (fun hg => LU.at Tryd.underlying26 ⟨Tryd.sizeOf35, Tryd.isAgg35⟩ (by exact Is.whenN hg) (by exact Is.whenN hg) (by omega) (vxs_at hv) (vx_ne v)) rfl ?_
      refine QD.gF rfl rfl (fun hg => LU.load ⟨Tryd.sizeOf35, Tryd.isAgg35⟩ (by exact Is.whenN hg) (by assumption) (Part.whole (by assumption))) rfl ?_
      refine QD.gF rfl rfl (fun hg => LU.call (place_calls (l.take i) .unk v (by rw [List.length_take]; omega)) Tryd.func63 rfl rfl (Opds.cons (by exact Is.whenN hg) (Opds.cons (by exact Is.whenN hg) Opds.nil))) rfl ?_
      refine QD.gF rfl rfl (fun hg => LU.geq (by exact Is.whenN hg) (by exact Is.rfl')) rfl ?_
      refine QD.u (LU.weak (LU.pickOr Is.rfl' Is.rfl' (fun hq => (by exact Is.whenN hq))) (Is.of (y := bl (endsB v || decide (v ∈ l.take i))) (by rw [← placeG_in]; try (cases endsB v <;> rfl)))) rfl ?_
      refine QD.nil ?_
      refine LL.nil (after_code ?_)
      refine X.cond rfl (fun h4 => ?_) (fun h4 => ?_)
      · have hw := wrong_bad hv h4
        refine LW.seq ?_
        refine LW.region ?_
        refine X.u (LU.assignR Is.rfl') rfl ?_
        refine LL.nil (after_code ?_)
        refine LW.ret (ret_blk (ret_code (ret_rnd (ret_blk (ret_code (after_end ?_))))))
        refine X.ret (H' := []) (Res.one (by exact IsR rfl)) (by repeat (exact HSub.refl _)) ?_
        exact ⟨by rw [hw], rfl⟩
      · have h4 : endsB v = false ∧ v ∉ l.take i := by simpa using h4
        have hz0 : (0 : Nat) = 0 := rfl
        refine LW.skip (after_blk (after_code ?_))
        refine LW.region ?_
        refine X.u (LU.moveR Is.rfl') rfl ?_
        refine X.u (LU.addN Is.rfl' Is.rfl' (wrap_i64 (by omega) (by omega))) rfl ?_
        refine X.u (LU.assignR Is.rfl') rfl ?_
        refine LL.nil (after_rnd ?_)
        refine X.next (i + 1) rfl (EnvLe.cons (by rfl) (EnvLe.nil)) (Keeps.cons (by exact Eq.trans (b := .sl _ _ _) rfl rfl) (Keeps.nil)) (HSub.refl _) ?_ ?_
        · refine ⟨by omega, ?_, fun y hy => ?_⟩
          · rw [take_snoc hv]; exact nodup_snoc.2 ⟨hn, h4.2⟩
          · rw [take_snoc hv, List.mem_append, List.mem_singleton] at hy
            rcases hy with e | e
            · exact he y e
            · rw [e]; exact h4.1
        · omega
    · try have h2 := of_decide_eq_false h2
      refine LW.exit (exit_code (exit_rnd (exit_blk (after_code ?_))))
      refine LW.seq ?_
      refine LW.region ?_
      refine X.u (LU.moveS Is.rfl') rfl ?_
      refine X.u (LU.lenN Tryd.underlying26 Is.rfl' (by (simp only [Option.getD_some, Option.getD_none, byteEls_length, intEls_length, List.length_append, List.length_cons, List.length_nil, List.length_map, List.length_drop, List.length_take, Int.toNat_natCast]; rfl))) rfl ?_
      refine X.u (LU.eql Is.rfl' Is.rfl') rfl ?_
      refine X.u (LU.assignR Is.rfl') rfl ?_
      refine LL.nil (after_code ?_)
      refine LW.ret (after_end ?_)
      refine X.ret (H' := []) (Res.one (by exact IsR rfl)) (by repeat (exact HSub.refl _)) ?_
      have hil : i = l.length := by omega
      rw [hil, List.take_length] at hn he
      refine ⟨?_, rfl⟩
      rw [wrong_end hn he]
      congr 2
      exact decide_eq_decide.2 ⟨fun c => by omega, fun c => by omega⟩
end Go.Proofs.YtolpkeajokjbjaaDoor
