/- Any bytes are told to the base 16, and any text is read so, or refused. -/
import Derived.Test.YtnfeepmgdahmgaaDoorHsO
set_option linter.unusedVariables false
set_option linter.unusedSimpArgs false
namespace Go.Proofs.YtnfeepmgdahmgaaDoor
open Go.RowKit Go.L
attribute [local irreducible] LL LW LO
theorem snocB (l : List UInt8) (n : Nat) (h : n < 256) (k : Cap) : LV.sl 1 (byteEls l ++ [[.raw (.int .u8 n)]]) k = Bytes (l ++ [UInt8.ofNat n]) k := by
  have : (UInt8.ofNat n).toNat = n := UInt8.toNat_ofNat_of_lt' h
  simp [byteEls, Nat.mod_eq_of_lt h]
theorem dgI_ok {n : Nat} (h : ¬ dgI n < 0) : dgI n = hv n ∧ hv n < 16 := by
  have := hv_le n
  unfold dgI at h ⊢
  split
  · rename_i h1; rw [if_pos h1] at h; omega
  · exact ⟨rfl, by omega⟩
theorem dgI_bad {n : Nat} (h : dgI n < 0) : ¬ hv n < 16 := by
  unfold dgI at h
  split at h <;> omega
theorem sub_hx : ∀ i : Fin 16, (hxL.drop i.val).take (i.val + 1 - i.val) = [hxL.getD i.val 0] := by decide +kernel
set_option maxRecDepth 100000 in
theorem rhex_calls (b : List UInt8) (hb : b.length < 1099511627776) : LCalls Tryd.prog 50 [Bytes b .unk] [] (fun r H' => r = Str (hexB b) ∧ H' = []) := by
  refine LCalls.of Tryd.func50 rfl Tryd.ntmps50 Tryd.results50 rfl (fun Rf => ?_)
  refine LW.seq ?_
  refine LW.region ?_
  refine X.u (LU.assignR Is.rfl') rfl ?_
  refine LL.nil (after_code ?_)
  refine LW.seq ?_
  refine LW.region ?_
  refine X.u (LU.assignR Is.rfl') rfl ?_
  refine LL.nil (after_code ?_)
  refine LW.seq ?_
  refine LW.seq ?_
  refine LW.region ?_
  refine X.u (LU.assignR Is.rfl') rfl ?_
  refine LL.nil (after_code ?_)
  refine LW.block ?_
  refine X.wweak (t := 3) (v := Str (hexB (b.take 0))) (by rw [List.take_zero]; exact Is.rfl') ?_
  refine X.loopK (α := Nat) (fun i => [(4, i64 i), (3, Str (hexB (b.take i)))]) [0, 2] (fun _ => _) (fun i => i ≤ b.length) (fun i => b.length - i) (0) (EnvLe.cons (by rfl) (EnvLe.cons (by rfl) (EnvLe.nil))) (HSub.refl _) ?_ ?_
  · exact Nat.zero_le _
  · rintro i hI
    have hll := hexB_len (b.take i)
    rw [List.length_take] at hll
    have hx := UInt8.toNat_lt (b.getD i 0)
    refine LW.seq ?_
    refine LW.seq ?_
    refine LW.region ?_
    refine X.u (LU.moveR Is.rfl') rfl ?_
    refine X.u (LU.moveS Is.rfl') rfl ?_
    refine X.u (LU.lenN Tryd.underlying22 Is.rfl' (by (simp only [Option.getD_some, Option.getD_none, byteEls_length, intEls_length, List.length_append, List.length_cons, List.length_nil, List.length_map, List.length_drop, List.length_take, Int.toNat_natCast]; rfl))) rfl ?_
    refine X.u (LU.lss Is.rfl' Is.rfl') rfl ?_
    refine LL.nil (after_code ?_)
    refine X.cond rfl (fun h3 => ?_) (fun h3 => ?_)
    · try have h3 := of_decide_eq_true h3
      refine LW.skip (after_code ?_)
      refine LW.seq ?_
      refine LW.block ?_
      refine LW.seq ?_
      refine LW.region ?_
      refine X.u (LU.moveS Is.rfl') rfl ?_
      refine X.u (LU.moveR Is.rfl') rfl ?_
      refine X.u (LU.at Tryd.underlying22 ⟨Tryd.sizeOf5, Tryd.isAgg5⟩ Is.rfl' Is.rfl' (by omega) (byteEls_D i (by omega) (by omega)) (by simp)) rfl ?_
      refine X.u (LU.load ⟨Tryd.sizeOf5, Tryd.isAgg5⟩ Is.rfl' (by (simp; done)) (Part.one rfl)) rfl ?_
      refine X.u (LU.weak (LU.quo Is.rfl' Is.rfl' (by omega)) (asI (b := (((b.getD i 0).toNat / 16 : Nat) : Int)) rfl (by rw [Int.tdiv_eq_ediv_of_nonneg (by omega), wrap_u8 (by omega) (by omega)]; omega))) rfl ?_
      refine X.u (LU.convN Tryd.underlying5 Tryd.underlying3 Is.rfl' (wrap_i64 (by omega) (by omega))) rfl ?_
      refine X.u (LU.assignR Is.rfl') rfl ?_
      refine LL.nil (after_code ?_)
      refine LW.seq ?_
      refine LW.region ?_
      refine X.u (LU.moveS Is.rfl') rfl ?_
      refine X.u (LU.moveR Is.rfl') rfl ?_
      refine X.u (LU.at Tryd.underlying22 ⟨Tryd.sizeOf5, Tryd.isAgg5⟩ Is.rfl' Is.rfl' (by omega) (byteEls_D i (by omega) (by omega)) (by simp)) rfl ?_
      refine X.u (LU.load ⟨Tryd.sizeOf5, Tryd.isAgg5⟩ Is.rfl' (by (simp; done)) (Part.one rfl)) rfl ?_
      refine X.u (LU.weak (LU.rem Is.rfl' Is.rfl' (by omega)) (asI (b := (((b.getD i 0).toNat % 16 : Nat) : Int)) rfl (by rw [Int.tmod_eq_emod_of_nonneg (by omega)]; omega))) rfl ?_
      refine X.u (LU.convN Tryd.underlying5 Tryd.underlying3 Is.rfl' (wrap_i64 (by omega) (by omega))) rfl ?_
      refine X.u (LU.assignR Is.rfl') rfl ?_
      refine LL.nil (after_code ?_)
      refine X.drawM 12 rfl (by kernel_rfl) rfl ?_
      refine QD.u (LU.moveR Is.rfl') rfl ?_
      refine QD.u (LU.moveR Is.rfl') rfl ?_
      refine QD.u (LU.moveR Is.rfl') rfl ?_
      refine QD.u (LU.addN Is.rfl' Is.rfl' (wrap_i64 (by omega) (by omega))) rfl ?_
      refine QD.u (LU.weak (LU.strsliceN (s := hxL) (l := some _) (h := some _) Tryd.underlying9 ⟨_, Is.rfl'⟩ ⟨_, Is.rfl'⟩ (by simp only [Option.getD_some]; omega) (by simp only [Option.getD_some]; omega) (by simp only [Option.getD_some, hxL_len]; omega) Is.rfl') (Is.of (y := Str [hxL.getD ((b.getD i 0).toNat / 16) 0]) (by simp only [Option.getD_some]; rw [show ((((b.getD i 0).toNat / 16 : Nat) : Int) + 1).toNat = (b.getD i 0).toNat / 16 + 1 by omega, Int.toNat_natCast]; exact congrArg Str (sub_hx ⟨(b.getD i 0).toNat / 16, by omega⟩)))) rfl ?_
      refine QD.u (LU.strcatN Is.rfl' Is.rfl' (by (simp; omega))) rfl ?_
      refine QD.u (LU.moveR Is.rfl') rfl ?_
      refine QD.u (LU.moveR Is.rfl') rfl ?_
      refine QD.u (LU.addN Is.rfl' Is.rfl' (wrap_i64 (by omega) (by omega))) rfl ?_
      refine QD.u (LU.weak (LU.strsliceN (s := hxL) (l := some _) (h := some _) Tryd.underlying9 ⟨_, Is.rfl'⟩ ⟨_, Is.rfl'⟩ (by simp only [Option.getD_some]; omega) (by simp only [Option.getD_some]; omega) (by simp only [Option.getD_some, hxL_len]; omega) Is.rfl') (Is.of (y := Str [hxL.getD ((b.getD i 0).toNat % 16) 0]) (by simp only [Option.getD_some]; rw [show ((((b.getD i 0).toNat % 16 : Nat) : Int) + 1).toNat = (b.getD i 0).toNat % 16 + 1 by omega, Int.toNat_natCast]; exact congrArg Str (sub_hx ⟨(b.getD i 0).toNat % 16, by omega⟩)))) rfl ?_
      refine QD.u (LU.weak (LU.strcatN Is.rfl' Is.rfl' (by (simp; omega))) (Is.of (y := Str (hexB (b.take (i + 1)))) (by rw [hexB_succ (by omega)]; simp))) rfl ?_
      refine QD.u (LU.assignR Is.rfl') rfl ?_
      refine QD.nil ?_
      refine LL.nil (after_blk (after_code ?_))
      refine LW.region ?_
      refine X.u (LU.moveR Is.rfl') rfl ?_
      refine X.u (LU.addN Is.rfl' Is.rfl' (wrap_i64 (by omega) (by omega))) rfl ?_
      refine X.u (LU.assignR Is.rfl') rfl ?_
      refine LL.nil (after_rnd ?_)
      refine X.next (i + 1) rfl (EnvLe.cons (by rfl) (EnvLe.cons (by rfl) (EnvLe.nil))) (Keeps.cons (by exact Eq.trans (b := .sl _ _ _) rfl rfl) (Keeps.cons (by exact Eq.trans (b := .raw _) rfl rfl) (Keeps.nil))) (HSub.refl _) ?_ ?_
      · omega
      · omega
    · try have h3 := of_decide_eq_false h3
      obtain rfl : i = b.length := by omega
      refine LW.exit (exit_code (exit_rnd (exit_blk (after_code ?_))))
      refine LW.seq ?_
      refine LW.region ?_
      refine X.u (LU.moveR Is.rfl') rfl ?_
      refine X.u (LU.assignR Is.rfl') rfl ?_
      refine LL.nil (after_code ?_)
      refine LW.ret (after_end ?_)
      refine X.ret (H' := []) (Res.one (by exact IsR rfl)) (by repeat (exact HSub.refl _)) ?_
      exact ⟨by rw [List.take_of_length_le (Nat.le_refl _)], rfl⟩
end Go.Proofs.YtnfeepmgdahmgaaDoor
