/- A digest: made; bytes put behind. -/
import Derived.Test.YtnfeepmgdahmgaaDoorHsD
set_option linter.unusedVariables false
set_option linter.unusedSimpArgs false
namespace Go.Proofs.YtnfeepmgdahmgaaDoor
open Go.RowKit Go.L
attribute [local irreducible] LL LW LO
abbrev pt (g : Nat) : LV := .raw (.pointer (some ⟨g, 0, none⟩))
abbrev u64 (n : Nat) : LV := .raw (.int .u64 n)
abbrev dg (g : Nat) (s : S8) (rest : List UInt8) (n b o c : Nat) : Atom := .cells g 175 (dgL s (Bytes rest (.tok b o c)) (u64 n))
set_option maxRecDepth 100000 in
theorem new_calls : LCalls Tryd.prog 85 [] [] (fun r H' => ∃ g, r = pt g ∧ H' = [dg g st0 [] 0 0 0 0, .tail 0 0 0]) := by
  refine LCalls.of Tryd.func85 rfl Tryd.ntmps85 Tryd.results85 rfl (fun Rf => ?_)
  refine LW.seq ?_
  refine LW.region ?_
  refine X.u (LU.assignR Is.rfl') rfl ?_
  refine LL.nil (after_code ?_)
  refine LW.seq ?_
  refine LW.region ?_
  refine X.u (LU.call (start_calls) Tryd.func104 rfl rfl Opds.nil) rfl ?_
  refine X.u (LU.build (places := #[(0, 1), (1, 8), (9, 1), (10, 1)]) Tryd.underlying175 Tryd.zeroValue175 (ones rfl) (by intro w; simp [Tryd.sizeOf152, Tryd.sizeOf172, Tryd.sizeOf22, Tryd.sizeOf4]) (Parts.cons Is.rfl' (by exact Cells.raw rfl) (Parts.cons Is.rfl' (by exact Cells.agg) Parts.nil)) rfl) rfl ?_
  refine X.act (X.box rfl Is.rfl' (by exact Cells.agg) (fun b3 => ?_))
  refine X.u (LU.assignR Is.rfl') rfl ?_
  refine LL.nil (after_code ?_)
  refine LW.ret (after_end ?_)
  refine X.ret (H' := [dg b3 st0 [] 0 0 0 0, .tail 0 0 0]) (Res.one (by exact IsR rfl)) (HSub.trans (HSub.cell 9 rfl ((Is.nil 1).trans (Is.full_tok 0 0))) (HSub.trans (HSub.tail0 0 0 0 (Nat.le_refl _) _) (HSub.pick 1 rfl (HSub.refl _)))) ?_
  exact ⟨b3, rfl, rfl⟩
set_option maxRecDepth 100000 in
theorem write_calls (g : Nat) (s : S8) (rest bs : List UInt8) (k : Cap) (n b o c : Nat) (hn : n + bs.length < 1099511627776) (hr : rest.length < 1099511627776) : LCalls Tryd.prog 86 [pt g, Bytes bs k] [dg g s rest n b o c, .tail b o c, kw]
    (fun r H' => r = i64 0 ∧ ∃ b' o' c', H' = [dg g (eat ((rest ++ bs).length / 64) s (rest ++ bs)) ((rest ++ bs).drop (64 * ((rest ++ bs).length / 64))) (n + bs.length) b' o' c', .tail b' o' c', kw]) := by
  have hbs : bs.length < 1099511627776 := by omega
  obtain ⟨m, hm⟩ : ∃ m, m = rest ++ bs := ⟨_, rfl⟩
  have hml : m.length = rest.length + bs.length := by rw [hm]; simp
  rw [← hm]
  refine LCalls.of Tryd.func86 rfl Tryd.ntmps86 Tryd.results86 rfl (fun Rf => ?_)
  refine LW.seq ?_
  refine LW.region ?_
  refine X.u (LU.assignR Is.rfl') rfl ?_
  refine LL.nil (after_code ?_)
  refine LW.seq ?_
  refine LW.seq ?_
  refine LW.region ?_
  refine X.u (LU.moveR Is.rfl') rfl ?_
  refine X.u (LU.nilEqS Tryd.underlying147 Is.rfl' Is.rfl') rfl ?_
  refine X.u (LU.moveR Is.rfl') rfl ?_
  refine X.doF rfl rfl (LU.moveR (by exact Is.rfl')) rfl ?_
  refine X.doF rfl rfl (LU.nilCheck (by exact Is.rfl')) rfl ?_
  refine X.doF rfl rfl (LU.fieldO Tryd.underlying175 rfl Tryd.sizeOf4 (by decide) (by exact Is.rfl')) rfl ?_
  refine X.doF rfl rfl (LU.loadO 0 rfl ⟨Tryd.sizeOf4, Tryd.isAgg4⟩ (by exact Is.rfl') (Part.one rfl)) rfl ?_
  refine X.doF rfl rfl (LU.not (by exact Is.rfl')) rfl ?_
  refine X.u (LU.pickF Is.rfl' (by exact Is.rfl')) rfl ?_
  refine LL.nil (after_code ?_)
  refine X.condF rfl ?_ ?_
  · rfl
  refine LW.skip (after_code ?_)
  refine LW.seq ?_
  refine LW.region ?_
  refine X.u (LU.moveR Is.rfl') rfl ?_
  refine X.u (LU.nilCheck Is.rfl') rfl ?_
  refine X.u (LU.fieldO Tryd.underlying175 rfl Tryd.sizeOf152 (by decide) Is.rfl') rfl ?_
  refine X.u (LU.loadO 0 rfl ⟨Tryd.sizeOf152, Tryd.isAgg152⟩ Is.rfl' (Part.one rfl)) rfl ?_
  refine X.u (LU.moveS Is.rfl') rfl ?_
  refine X.u (LU.lenN Tryd.underlying22 Is.rfl' (by (simp only [Option.getD_some, Option.getD_none, byteEls_length, intEls_length, List.length_append, List.length_cons, List.length_nil, List.length_map, List.length_drop, List.length_take, Int.toNat_natCast]; rfl))) rfl ?_
  refine X.u (LU.convN Tryd.underlying3 Tryd.underlying152 Is.rfl' (wrap_u64 (by omega) (by omega))) rfl ?_
  refine X.u (LU.weak (LU.add Is.rfl' Is.rfl') (Is.of (y := u64 (n + bs.length)) (by rw [wrap_u64 (by omega) (by omega)]; rfl))) rfl ?_
  refine X.u (LU.nilCheck Is.rfl') rfl ?_
  refine X.u (LU.fieldO Tryd.underlying175 rfl Tryd.sizeOf152 (by decide) Is.rfl') rfl ?_
  refine X.act (X.store 0 rfl Tryd.sizeOf152 Is.rfl' Is.rfl' (by exact Cells.raw rfl) (by (simp; done)) (by (simp; done)) ?_)
  refine LL.nil (after_code ?_)
  refine LW.seq ?_
  refine X.wcells (dg_z _ _ _ _) ?_
  refine LW.region ?_
  refine X.u (LU.moveR Is.rfl') rfl ?_
  refine X.u (LU.moveR Is.rfl') rfl ?_
  refine X.u (LU.nilCheck Is.rfl') rfl ?_
  refine X.u (LU.fieldO Tryd.underlying175 rfl Tryd.sizeOf22 (by decide) Is.rfl') rfl ?_
  refine X.u (LU.loadO 0 rfl ⟨Tryd.sizeOf22, Tryd.isAgg22⟩ Is.rfl' (Part.one rfl)) rfl ?_
  refine X.u (LU.moveS Is.rfl') rfl ?_
  refine X.act (X.append 1 rfl rfl Tryd.underlying22 (El.of (P := Tryd.prog) (z := (.int .u8 0)) (size := 1) (bytes := 1) rfl rfl rfl) Is.rfl' Is.rfl' (SrcL.slice Tryd.underlying22 (by decide) (by exact byteEls_size _)) (by simp only [Option.getD_some, Option.getD_none, byteEls_length, intEls_length, List.length_append, List.length_cons, List.length_nil, List.length_map, List.length_drop, List.length_take, Int.toNat_natCast]; omega) (by simp only [Option.getD_some, Option.getD_none, byteEls_length, intEls_length, List.length_append, List.length_cons, List.length_nil, List.length_map, List.length_drop, List.length_take, Int.toNat_natCast]; omega) (fun b30 o30 c30 => X.weak (t := 30) (Is.of (y := Bytes m (.tok b30 o30 c30)) (congrArg (fun z => LV.sl 1 z (.tok b30 o30 c30)) ((byteEls_append rest bs).symm.trans (congrArg byteEls hm.symm)))) ?_))
  refine X.u (LU.nilCheck Is.rfl') rfl ?_
  refine X.u (LU.fieldO Tryd.underlying175 rfl Tryd.sizeOf22 (by decide) Is.rfl') rfl ?_
  refine X.act (X.store 1 rfl Tryd.sizeOf22 Is.rfl' Is.rfl' (by exact Cells.sl) (by (simp; done)) (by (simp; done)) ?_)
  refine LL.nil (after_code ?_)
  refine LW.seq ?_
  refine LW.block ?_
  refine X.wcells (ys := dgL (eat 0 s m) (Bytes (m.drop (64 * 0)) (.tok b30 o30 c30)) (u64 (n + bs.length))) ((dg_r _ _ _ _).trans (by rw [eat_0]; rfl)) ?_
  refine X.loopK (α := Nat) (fun j => []) [0, 4] (fun j => [dg g (eat j s m) (m.drop (64 * j)) (n + bs.length) b30 o30 c30, .tail b30 o30 c30, kw] ++ Rf) (fun j => j ≤ m.length / 64) (fun j => m.length / 64 - j) (0) (EnvLe.nil) (by repeat (exact HSub.refl _)) ?_ ?_
  · exact Nat.zero_le _
  · rintro j hI
    refine LW.seq ?_
    refine LW.seq ?_
    refine LW.region ?_
    refine X.u (LU.moveR Is.rfl') rfl ?_
    refine X.u (LU.nilCheck Is.rfl') rfl ?_
    refine X.u (LU.fieldO Tryd.underlying175 rfl Tryd.sizeOf22 (by decide) Is.rfl') rfl ?_
    refine X.u (LU.loadO 0 rfl ⟨Tryd.sizeOf22, Tryd.isAgg22⟩ Is.rfl' (Part.one rfl)) rfl ?_
    refine X.u (LU.lenN Tryd.underlying22 Is.rfl' (by (simp only [Option.getD_some, Option.getD_none, byteEls_length, intEls_length, List.length_append, List.length_cons, List.length_nil, List.length_map, List.length_drop, List.length_take, Int.toNat_natCast]; rfl))) rfl ?_
    refine X.u (LU.geq Is.rfl' Is.rfl') rfl ?_
    refine LL.nil (after_code ?_)
    refine X.cond rfl (fun h5 => ?_) (fun h5 => ?_)
    · try have h5 := of_decide_eq_true h5
      refine LW.skip (after_code ?_)
      refine LW.block ?_
      refine LW.seq ?_
      refine X.drawM 13 rfl (by kernel_rfl) rfl ?_
      refine QD.u (LU.moveR Is.rfl') rfl ?_
      refine QD.u (LU.moveR Is.rfl') rfl ?_
      refine QD.u (LU.nilCheck Is.rfl') rfl ?_
      refine QD.u (LU.fieldO Tryd.underlying175 rfl Tryd.sizeOf172 (by decide) Is.rfl') rfl ?_
      refine QD.u (LU.weak (LU.loadO 0 rfl ⟨Tryd.sizeOf172, Tryd.isAgg172⟩ Is.rfl' (Part.sub (by (simp; done)))) (Is.of (y := W8 (eat j s m)) (by simp [S8.l]))) rfl ?_
      refine QD.u (LU.moveR Is.rfl') rfl ?_
      refine QD.u (LU.nilCheck Is.rfl') rfl ?_
      refine QD.u (LU.fieldO Tryd.underlying175 rfl Tryd.sizeOf22 (by decide) Is.rfl') rfl ?_
      refine QD.u (LU.loadO 0 rfl ⟨Tryd.sizeOf22, Tryd.isAgg22⟩ Is.rfl' (Part.one rfl)) rfl ?_
      refine QD.u (LU.sliceB (i := none) (j := some 64) Tryd.sizeOf5 Tryd.underlying22 Is.rfl' trivial ⟨_, Is.rfl'⟩ (by simp) (by simp) (by simp; omega) (m := (m.drop (64 * j)).take 64) (by simp)) rfl ?_
      refine QD.u (LU.call1 2 rfl (block_calls (eat j s m) ((m.drop (64 * j)).take 64) _ (by simp; omega)) Tryd.func105 rfl rfl (Opds.cons Is.rfl' (Opds.cons Is.rfl' Opds.nil))) rfl ?_
      refine QD.u (LU.nilCheck Is.rfl') rfl ?_
      refine QD.u (LU.fieldO Tryd.underlying175 rfl Tryd.sizeOf172 (by decide) Is.rfl') rfl ?_
      refine QD.nil ?_
      refine X.act (X.store 0 rfl Tryd.sizeOf172 Is.rfl' Is.rfl' (by exact Cells.agg) (by (simp; done)) (by (simp; done)) ?_)
      refine LL.nil (after_code ?_)
      refine X.wcells (dg_s _ (blk (eat j s m) ((m.drop (64 * j)).take 64)) _ _) ?_
      rw [← eat_snoc]
      refine LW.region ?_
      refine X.u (LU.moveR Is.rfl') rfl ?_
      refine X.u (LU.moveR Is.rfl') rfl ?_
      refine X.u (LU.nilCheck Is.rfl') rfl ?_
      refine X.u (LU.fieldO Tryd.underlying175 rfl Tryd.sizeOf22 (by decide) Is.rfl') rfl ?_
      refine X.u (LU.loadO 0 rfl ⟨Tryd.sizeOf22, Tryd.isAgg22⟩ Is.rfl' (Part.one rfl)) rfl ?_
      refine X.u (LU.sliceT Tryd.sizeOf5 Tryd.underlying22 Is.rfl' Is.rfl' (n := 64) (by simp; omega)) rfl ?_
      refine X.u (LU.nilCheck Is.rfl') rfl ?_
      refine X.u (LU.fieldO Tryd.underlying175 rfl Tryd.sizeOf22 (by decide) Is.rfl') rfl ?_
      refine X.act (X.store 0 rfl Tryd.sizeOf22 Is.rfl' Is.rfl' (by exact Cells.sl) (by (simp; done)) (by (simp; done)) ?_)
      refine LL.nil (after_blk (after_rnd ?_))
      refine X.ncells (dg_r _ _ _ _) ?_
      rw [List.drop_drop, show 64 * j + 64 = 64 * (j + 1) by omega]
      refine X.next (j + 1) rfl (EnvLe.nil) (Keeps.cons (by exact Eq.trans (b := .raw _) rfl rfl) (Keeps.cons (by exact Eq.trans (b := .raw _) rfl rfl) (Keeps.nil))) (by repeat (exact HSub.refl _)) ?_ ?_
      · omega
      · omega
    · try have h5 := of_decide_eq_false h5
      obtain rfl : j = m.length / 64 := by omega
      refine LW.exit (exit_code (exit_rnd (exit_blk (after_code ?_))))
      refine LW.seq ?_
      refine LW.region ?_
      refine X.u (LU.assignR Is.rfl') rfl ?_
      refine LL.nil (after_code ?_)
      refine LW.ret (after_end ?_)
      refine X.ret (H' := [dg g (eat (m.length / 64) s m) (m.drop (64 * (m.length / 64))) (n + bs.length) b30 o30 c30, .tail b30 o30 c30, kw]) (Res.one (by exact IsR rfl)) (by repeat (exact HSub.refl _)) ?_
      exact ⟨rfl, b30, o30, c30, rfl⟩
end Go.Proofs.YtnfeepmgdahmgaaDoor
