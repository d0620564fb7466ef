/- A log that no call made notes nothing. -/
import Derived.Test.YtpcfpkfchoelcaaDoorAuJ
set_option linter.unusedVariables false
set_option linter.unusedSimpArgs false
namespace Go.Proofs.YtpcfpkfchoelcaaDoor
open Go.RowKit Go.L
attribute [local irreducible] LL LW LO
abbrev nilp : LV := .raw (.pointer none)
abbrev zl (g : Nat) : Atom := .cells g 39 (raws [.slice none 0 0, .nilFunc])
set_option maxRecDepth 100000 in
theorem append_nil (tick : Int) (who what : List UInt8) : LCalls Tryd.prog 16 [nilp, i64 tick, Str who, Str what] [] (fun r H' => r = .tup [.agg (entL zeroE), i64 1] ∧ H' = []) := by
  refine LCalls.of Tryd.func16 rfl Tryd.ntmps16 Tryd.results16 rfl (fun Rf => ?_)
  refine LW.seq ?_
  refine LW.region ?_
  refine X.act (X.alloc rfl Tryd.zeroValue28 (by exact Cells.rawagg (by decide)) (fun b8 => ?_))
  refine X.u (LU.assignR Is.rfl') rfl ?_
  refine LL.nil (after_code ?_)
  refine LW.seq ?_
  refine LW.seq ?_
  refine LW.region ?_
  refine X.u (LU.moveR Is.rfl') rfl ?_
  refine X.u (LU.nilEqN Tryd.underlying36 Is.rfl' Is.rfl') rfl ?_
  refine X.u (LU.moveR Is.rfl') rfl ?_
  refine X.skipF rfl rfl rfl ?_
  refine X.skipF rfl rfl rfl ?_
  refine X.skipF rfl rfl rfl ?_
  refine X.skipF rfl rfl rfl ?_
  refine X.skipF rfl rfl rfl ?_
  refine X.u (LU.pickT Is.rfl' (by exact Is.rfl')) rfl ?_
  refine LL.nil (after_code ?_)
  refine X.condT rfl ?_ ?_
  · rfl
  refine LW.seq ?_
  refine LW.region ?_
  refine X.u (LU.weak (LU.build (places := #[(0, 1), (1, 1), (2, 1), (3, 1), (4, 32)]) Tryd.underlying28 Tryd.zeroValue28 (ones rfl) (by intro w; simp [Tryd.sizeOf26, Tryd.sizeOf3, Tryd.sizeOf9]) Parts.nil rfl) (Is.of (y := .agg (entL zeroE)) (rfl))) rfl ?_
  refine X.act (X.store 0 rfl Tryd.sizeOf28 Is.rfl' Is.rfl' (by exact Cells.agg) (by rfl) (by exact Nat.le_of_ble_eq_true rfl) ?_)
  refine X.u (LU.assignR Is.rfl') rfl ?_
  refine LL.nil (after_code ?_)
  refine LW.ret (ret_code (after_end ?_))
  rw [putAt_all (by simp [raws, zeroE, zero32])]
  refine X.ret (H' := []) (by exact Res.cell2 0 rfl rfl ⟨Tryd.sizeOf28, Tryd.isAgg28⟩ (Part.whole (by rfl)) (by exact IsA rfl) (by exact IsR rfl)) (by repeat (first | exact HSub.refl _ | refine HSub.drop ?_)) ?_
  exact ⟨rfl, rfl⟩
set_option maxRecDepth 100000 in
theorem append_zero (g : Nat) (tick : Int) (who what : List UInt8) : LCalls Tryd.prog 16 [pt g, i64 tick, Str who, Str what] [zl g] (fun r H' => r = .tup [.agg (entL zeroE), i64 1] ∧ H' = [zl g]) := by
  refine LCalls.of Tryd.func16 rfl Tryd.ntmps16 Tryd.results16 rfl (fun Rf => ?_)
  refine LW.seq ?_
  refine LW.region ?_
  refine X.act (X.alloc rfl Tryd.zeroValue28 (by exact Cells.rawagg (by decide)) (fun b8 => ?_))
  refine X.u (LU.assignR Is.rfl') rfl ?_
  refine LL.nil (after_code ?_)
  refine LW.seq ?_
  refine LW.seq ?_
  refine LW.region ?_
  refine X.u (LU.moveR Is.rfl') rfl ?_
  refine X.u (LU.nilEqS Tryd.underlying36 Is.rfl' Is.rfl') rfl ?_
  refine X.u (LU.moveR Is.rfl') rfl ?_
  refine X.doF rfl rfl (LU.moveR (by exact Is.rfl')) rfl ?_
  refine X.doF rfl rfl (LU.nilCheck (by exact Is.rfl')) rfl ?_
  refine X.doF rfl rfl (LU.fieldO Tryd.underlying39 rfl Tryd.sizeOf37 (by decide) (by exact Is.rfl')) rfl ?_
  refine X.doF rfl rfl (LU.loadO 1 rfl ⟨Tryd.sizeOf37, Tryd.isAgg37⟩ (by exact Is.rfl') (Part.one rfl)) rfl ?_
  refine X.doF rfl rfl (LU.nilFEqN Tryd.underlying37 (by exact Is.rfl') (by exact Is.rfl')) rfl ?_
  refine X.u (LU.pickF Is.rfl' (by exact Is.rfl')) rfl ?_
  refine LL.nil (after_code ?_)
  refine X.condT rfl ?_ ?_
  · rfl
  refine LW.seq ?_
  refine LW.region ?_
  refine X.u (LU.weak (LU.build (places := #[(0, 1), (1, 1), (2, 1), (3, 1), (4, 32)]) Tryd.underlying28 Tryd.zeroValue28 (ones rfl) (by intro w; simp [Tryd.sizeOf26, Tryd.sizeOf3, Tryd.sizeOf9]) Parts.nil rfl) (Is.of (y := .agg (entL zeroE)) (rfl))) rfl ?_
  refine X.act (X.store 0 rfl Tryd.sizeOf28 Is.rfl' Is.rfl' (by exact Cells.agg) (by rfl) (by exact Nat.le_of_ble_eq_true rfl) ?_)
  refine X.u (LU.assignR Is.rfl') rfl ?_
  refine LL.nil (after_code ?_)
  refine LW.ret (ret_code (after_end ?_))
  rw [putAt_all (by simp [raws, zeroE, zero32])]
  refine X.ret (H' := [zl g]) (by exact Res.cell2 0 rfl rfl ⟨Tryd.sizeOf28, Tryd.isAgg28⟩ (Part.whole (by rfl)) (by exact IsA rfl) (by exact IsR rfl)) (by repeat (first | exact HSub.refl _ | refine HSub.pick 1 rfl ?_ | refine HSub.drop ?_)) ?_
  exact ⟨rfl, rfl⟩
set_option maxRecDepth 100000 in
theorem head_nil : LCalls Tryd.prog 18 [nilp] [] (fun r H' => r = H32 zero32 ∧ H' = []) := by
  refine LCalls.of Tryd.func18 rfl Tryd.ntmps18 Tryd.results18 rfl (fun Rf => ?_)
  refine LW.seq ?_
  refine LW.region ?_
  refine X.act (X.alloc rfl Tryd.zeroValue26 (by exact Cells.rawagg (by decide)) (fun b2 => ?_))
  refine LL.nil (after_code ?_)
  refine LW.seq ?_
  refine LW.seq ?_
  refine LW.region ?_
  refine X.u (LU.moveR Is.rfl') rfl ?_
  refine X.u (LU.nilEqN Tryd.underlying36 Is.rfl' Is.rfl') rfl ?_
  refine X.u (LU.moveR Is.rfl') rfl ?_
  refine X.skipF rfl rfl rfl ?_
  refine X.skipF rfl rfl rfl ?_
  refine X.skipF rfl rfl rfl ?_
  refine X.skipF rfl rfl rfl ?_
  refine X.skipF rfl rfl rfl ?_
  refine X.u (LU.pickT Is.rfl' (by exact Is.rfl')) rfl ?_
  refine LL.nil (after_code ?_)
  refine X.condT rfl ?_ ?_
  · rfl
  refine LW.seq ?_
  refine LW.region ?_
  refine X.u (LU.weak (LU.buildA Tryd.underlying26 Tryd.sizeOf5 Tryd.zeroValue26 (ones rfl) Parts.nil rfl) (Is.of (y := H32 zero32) (rfl))) rfl ?_
  refine X.act (X.store 0 rfl Tryd.sizeOf26 Is.rfl' Is.rfl' (by exact Cells.agg) (by rfl) (by exact Nat.le_of_ble_eq_true rfl) ?_)
  refine LL.nil (after_code ?_)
  refine LW.ret (ret_code (after_end ?_))
  rw [putAt_all (by simp [raws, zero32])]
  refine X.ret (H' := []) (by exact Res.cell1 0 rfl rfl ⟨Tryd.sizeOf26, Tryd.isAgg26⟩ (Part.whole (by rfl)) (by exact IsA rfl)) (by repeat (first | exact HSub.refl _ | refine HSub.drop ?_)) ?_
  exact ⟨rfl, rfl⟩
set_option maxRecDepth 100000 in
theorem head_zero (g : Nat) : LCalls Tryd.prog 18 [pt g] [zl g] (fun r H' => r = H32 zero32 ∧ H' = [zl g]) := by
  refine LCalls.of Tryd.func18 rfl Tryd.ntmps18 Tryd.results18 rfl (fun Rf => ?_)
  refine LW.seq ?_
  refine LW.region ?_
  refine X.act (X.alloc rfl Tryd.zeroValue26 (by exact Cells.rawagg (by decide)) (fun b2 => ?_))
  refine LL.nil (after_code ?_)
  refine LW.seq ?_
  refine LW.seq ?_
  refine LW.region ?_
  refine X.u (LU.moveR Is.rfl') rfl ?_
  refine X.u (LU.nilEqS Tryd.underlying36 Is.rfl' Is.rfl') rfl ?_
  refine X.u (LU.moveR Is.rfl') rfl ?_
  refine X.doF rfl rfl (LU.moveR (by exact Is.rfl')) rfl ?_
  refine X.doF rfl rfl (LU.nilCheck (by exact Is.rfl')) rfl ?_
  refine X.doF rfl rfl (LU.fieldO Tryd.underlying39 rfl Tryd.sizeOf37 (by decide) (by exact Is.rfl')) rfl ?_
  refine X.doF rfl rfl (LU.loadO 1 rfl ⟨Tryd.sizeOf37, Tryd.isAgg37⟩ (by exact Is.rfl') (Part.one rfl)) rfl ?_
  refine X.doF rfl rfl (LU.nilFEqN Tryd.underlying37 (by exact Is.rfl') (by exact Is.rfl')) rfl ?_
  refine X.u (LU.pickF Is.rfl' (by exact Is.rfl')) rfl ?_
  refine LL.nil (after_code ?_)
  refine X.condT rfl ?_ ?_
  · rfl
  refine LW.seq ?_
  refine LW.region ?_
  refine X.u (LU.weak (LU.buildA Tryd.underlying26 Tryd.sizeOf5 Tryd.zeroValue26 (ones rfl) Parts.nil rfl) (Is.of (y := H32 zero32) (rfl))) rfl ?_
  refine X.act (X.store 0 rfl Tryd.sizeOf26 Is.rfl' Is.rfl' (by exact Cells.agg) (by rfl) (by exact Nat.le_of_ble_eq_true rfl) ?_)
  refine LL.nil (after_code ?_)
  refine LW.ret (ret_code (after_end ?_))
  rw [putAt_all (by simp [raws, zero32])]
  refine X.ret (H' := [zl g]) (by exact Res.cell1 0 rfl rfl ⟨Tryd.sizeOf26, Tryd.isAgg26⟩ (Part.whole (by rfl)) (by exact IsA rfl)) (by repeat (first | exact HSub.refl _ | refine HSub.pick 1 rfl ?_ | refine HSub.drop ?_)) ?_
  exact ⟨rfl, rfl⟩
set_option maxRecDepth 100000 in
theorem entries_nil : LCalls Tryd.prog 17 [nilp] [] (fun r H' => r = .sl 36 [] .unk ∧ H' = []) := by
  refine LCalls.of Tryd.func17 rfl Tryd.ntmps17 Tryd.results17 rfl (fun Rf => ?_)
  refine LW.seq ?_
  refine LW.region ?_
  refine X.u (LU.assign (Is.nil 36)) rfl ?_
  refine LL.nil (after_code ?_)
  refine LW.seq ?_
  refine LW.seq ?_
  refine LW.region ?_
  refine X.u (LU.moveR Is.rfl') rfl ?_
  refine X.u (LU.nilEqN Tryd.underlying36 Is.rfl' Is.rfl') rfl ?_
  refine LL.nil (after_code ?_)
  refine X.condT rfl ?_ ?_
  · rfl
  refine LW.seq ?_
  refine LW.region ?_
  refine X.u (LU.assign (Is.nil 36)) rfl ?_
  refine LL.nil (after_code ?_)
  refine LW.ret (ret_code (after_end ?_))
  refine X.ret (H' := []) (Res.one (by exact IsS rfl)) (by repeat (exact HSub.refl _)) ?_
  exact ⟨rfl, rfl⟩
set_option maxRecDepth 100000 in
theorem entries_zero (g : Nat) : LCalls Tryd.prog 17 [pt g] [zl g] (fun r H' => r = .sl 36 [] .unk ∧ H' = [zl g]) := by
  refine LCalls.of Tryd.func17 rfl Tryd.ntmps17 Tryd.results17 rfl (fun Rf => ?_)
  refine LW.seq ?_
  refine LW.region ?_
  refine X.u (LU.assign (Is.nil 36)) rfl ?_
  refine LL.nil (after_code ?_)
  refine LW.seq ?_
  refine LW.seq ?_
  refine LW.region ?_
  refine X.u (LU.moveR Is.rfl') rfl ?_
  refine X.u (LU.nilEqS Tryd.underlying36 Is.rfl' Is.rfl') rfl ?_
  refine LL.nil (after_code ?_)
  refine X.condF rfl ?_ ?_
  · rfl
  refine LW.skip (after_code ?_)
  refine LW.seq ?_
  refine LW.region ?_
  refine X.u (LU.lits Tryd.underlying22 Tryd.sizeOf28 Tryd.zeroValue28 (ones rfl) rfl (by decide) (by decide) Elems.nil (by intro e he; cases he) rfl) rfl ?_
  refine X.u (LU.moveR Is.rfl') rfl ?_
  refine X.u (LU.nilCheck Is.rfl') rfl ?_
  refine X.u (LU.fieldO Tryd.underlying39 rfl Tryd.sizeOf22 (by decide) Is.rfl') rfl ?_
  refine X.u (LU.weak (LU.loadO 0 rfl ⟨Tryd.sizeOf22, Tryd.isAgg22⟩ Is.rfl' (Part.one rfl)) (Is.nil 36)) rfl ?_
  refine X.u (LU.weak (LU.append Tryd.underlying22 (El.of (P := Tryd.prog) (z := (.agg #[(.int .i64 0), (.int .i64 0), (.string ByteArray.empty), (.string ByteArray.empty), (.int .u8 0), (.int .u8 0), (.int .u8 0), (.int .u8 0), (.int .u8 0), (.int .u8 0), (.int .u8 0), (.int .u8 0), (.int .u8 0), (.int .u8 0), (.int .u8 0), (.int .u8 0), (.int .u8 0), (.int .u8 0), (.int .u8 0), (.int .u8 0), (.int .u8 0), (.int .u8 0), (.int .u8 0), (.int .u8 0), (.int .u8 0), (.int .u8 0), (.int .u8 0), (.int .u8 0), (.int .u8 0), (.int .u8 0), (.int .u8 0), (.int .u8 0), (.int .u8 0), (.int .u8 0), (.int .u8 0), (.int .u8 0)])) (size := 36) (bytes := 80) rfl rfl rfl) Is.rfl' Is.rfl' (SrcL.slice Tryd.underlying22 (by decide) (by simp)) (by simp only [Option.getD_some, Option.getD_none, byteEls_length, intEls_length, List.length_append, List.length_cons, List.length_nil, List.length_map, List.length_drop, List.length_take, Int.toNat_natCast]; omega) (by simp only [Option.getD_some, Option.getD_none, byteEls_length, intEls_length, List.length_append, List.length_cons, List.length_nil, List.length_map, List.length_drop, List.length_take, Int.toNat_natCast]; omega)) (Is.of (y := .sl 36 [] .unk) (rfl))) rfl ?_
  refine X.u (LU.assignS Is.rfl') rfl ?_
  refine LL.nil (after_code ?_)
  refine LW.ret (after_end ?_)
  refine X.ret (H' := [zl g]) (Res.one (by exact IsS rfl)) (by repeat (exact HSub.refl _)) ?_
  exact ⟨rfl, rfl⟩
set_option maxRecDepth 100000 in
theorem an_calls (a : Ac) : LCalls Tryd.prog 4 [.agg (acL a)] [kw] (fun r H' => r = bl true ∧ H' = [kw]) := by
  refine LCalls.of Tryd.func4 rfl Tryd.ntmps4 Tryd.results4 rfl (fun Rf => ?_)
  refine LW.seq ?_
  refine LW.region ?_
  refine X.act (X.box rfl Is.rfl' (by exact Cells.agg) (fun b1 => ?_))
  refine X.u (LU.assignR Is.rfl') rfl ?_
  refine LL.nil (after_code ?_)
  refine LW.seq ?_
  refine LW.seq ?_
  refine LW.region ?_
  refine X.u (LU.build (places := #[(0, 1), (1, 1)]) Tryd.underlying39 Tryd.zeroValue39 (ones rfl) (by intro w; simp [Tryd.sizeOf22, Tryd.sizeOf37]) Parts.nil rfl) rfl ?_
  refine X.act (X.box rfl Is.rfl' (by exact Cells.agg) (fun b8 => ?_))
  refine X.u (LU.lits Tryd.underlying40 Tryd.sizeOf36 Tryd.zeroValue36 (ones rfl) rfl (by decide) (by decide) (Elems.cons Is.rfl' (by exact Cells.raw rfl) (Elems.cons Is.rfl' (by exact Cells.raw rfl) Elems.nil)) (by (simp; done)) rfl) rfl ?_
  refine X.u (LU.lenN Tryd.underlying40 Is.rfl' (by (simp only [Option.getD_some, Option.getD_none, byteEls_length, intEls_length, List.length_append, List.length_cons, List.length_nil, List.length_map, List.length_drop, List.length_take, Int.toNat_natCast]; rfl))) rfl ?_
  refine X.u (LU.moveR Is.rfl') rfl ?_
  refine LL.nil (after_code ?_)
  refine LW.block ?_
  refine X.loopK (α := Nat) (fun i => [(11, i64 i)]) [1, 9, 10] (fun i => zl b8 :: .cells b1 35 (acL a) :: kw :: Rf) (fun i => i ≤ 2) (fun i => 2 - i) (0) (EnvLe.cons (by rfl) (EnvLe.nil)) (by repeat (exact HSub.refl _)) ?_ ?_
  · exact Nat.zero_le _
  · rintro i hI
    obtain rfl | rfl | rfl : i = 0 ∨ i = 1 ∨ i = 2 := by omega
    · refine LW.seq ?_
      refine LW.region ?_
      refine X.u (LU.lss Is.rfl' Is.rfl') rfl ?_
      refine LL.nil (after_code ?_)
      refine LW.seq ?_
      refine X.condT rfl ?_ ?_
      · rfl
      refine LW.skip (after_code ?_)
      refine LW.seq ?_
      refine LW.block ?_
      refine LW.seq ?_
      refine LW.region ?_
      refine X.u (LU.at Tryd.underlying40 ⟨Tryd.sizeOf36, Tryd.isAgg36⟩ Is.rfl' Is.rfl' (by omega) (rfl) (by simp)) rfl ?_
      refine X.u (LU.load ⟨Tryd.sizeOf36, Tryd.isAgg36⟩ Is.rfl' (by (simp; done)) (Part.one rfl)) rfl ?_
      refine X.u (LU.assignR Is.rfl') rfl ?_
      refine LL.nil (after_code ?_)
      refine LW.seq ?_
      refine LW.region ?_
      refine X.u (LU.moveR Is.rfl') rfl ?_
      refine X.u (LU.fieldO Tryd.underlying35 rfl Tryd.sizeOf3 (by decide) Is.rfl') rfl ?_
      refine X.u (LU.loadO 1 rfl ⟨Tryd.sizeOf3, Tryd.isAgg3⟩ Is.rfl' (Part.one rfl)) rfl ?_
      refine X.u (LU.fieldO Tryd.underlying35 rfl Tryd.sizeOf9 (by decide) Is.rfl') rfl ?_
      refine X.u (LU.loadO 1 rfl ⟨Tryd.sizeOf9, Tryd.isAgg9⟩ Is.rfl' (Part.one rfl)) rfl ?_
      refine X.u (LU.fieldO Tryd.underlying35 rfl Tryd.sizeOf9 (by decide) Is.rfl') rfl ?_
      refine X.u (LU.loadO 1 rfl ⟨Tryd.sizeOf9, Tryd.isAgg9⟩ Is.rfl' (Part.one rfl)) rfl ?_
      refine X.u (LU.call (append_nil a.tick a.who a.what) Tryd.func16 rfl rfl (Opds.cons Is.rfl' (Opds.cons Is.rfl' (Opds.cons Is.rfl' (Opds.cons Is.rfl' Opds.nil))))) rfl ?_
      refine X.u (LU.moveT Is.rfl') rfl ?_
      refine X.u (LU.extract Is.rfl' rfl) rfl ?_
      refine X.u (LU.extract Is.rfl' rfl) rfl ?_
      refine X.act (X.alloc rfl Tryd.zeroValue28 (by exact Cells.rawagg (by decide)) (fun b5 => ?_))
      refine X.act (X.store 0 rfl Tryd.sizeOf28 Is.rfl' Is.rfl' (by exact Cells.agg) (by rfl) (by exact Nat.le_of_ble_eq_true rfl) ?_)
      refine X.u (LU.assignR Is.rfl') rfl ?_
      refine LL.nil (after_code ?_)
      refine LW.seq ?_
      refine X.wcells (ys := entL zeroE) (putAt_all (by simp [raws, zeroE, zero32])) ?_
      refine LW.region ?_
      refine X.u (LU.loadO 0 rfl ⟨Tryd.sizeOf28, Tryd.isAgg28⟩ Is.rfl' (Part.whole (by rfl))) rfl ?_
      refine X.u (LU.weak (LU.build (places := #[(0, 1), (1, 1), (2, 1), (3, 1), (4, 32)]) Tryd.underlying28 Tryd.zeroValue28 (ones rfl) (by intro w; simp [Tryd.sizeOf26, Tryd.sizeOf3, Tryd.sizeOf9]) Parts.nil rfl) (Is.of (y := .agg (entL zeroE)) (rfl))) rfl ?_
      refine X.u (LU.weak (LU.neqEnt (show zeroE.prev.length = 32 from rfl) (show zeroE.prev.length = 32 from rfl) Is.rfl' Is.rfl') (asB (c := false) rfl (by simp))) rfl ?_
      refine X.u (LU.moveR Is.rfl') rfl ?_
      refine X.doF rfl rfl (LU.moveR (by exact Is.rfl')) rfl ?_
      refine X.doF rfl rfl (LU.weak (LU.neq (by exact Is.rfl') (by exact Is.rfl')) (asB (c := false) rfl (by rfl))) rfl ?_
      refine X.u (LU.pickF Is.rfl' (by exact Is.rfl')) rfl ?_
      refine X.u (LU.moveR Is.rfl') rfl ?_
      refine X.doF rfl rfl (LU.moveR (by exact Is.rfl')) rfl ?_
      refine X.doF rfl rfl (LU.call (entries_nil) Tryd.func17 rfl rfl (Opds.cons (by exact Is.rfl') Opds.nil)) rfl ?_
      refine X.doF rfl rfl (LU.lenN Tryd.underlying22 (by exact Is.rfl') (by (simp only [Option.getD_some, Option.getD_none, byteEls_length, intEls_length, List.length_append, List.length_cons, List.length_nil, List.length_map, List.length_drop, List.length_take, Int.toNat_natCast]; rfl))) rfl ?_
      refine X.doF rfl rfl (LU.weak (LU.neq (by exact Is.rfl') (by exact Is.rfl')) (asB (c := false) rfl (by rfl))) rfl ?_
      refine X.u (LU.pickF Is.rfl' (by exact Is.rfl')) rfl ?_
      refine X.u (LU.moveR Is.rfl') rfl ?_
      refine X.doF rfl rfl (LU.moveR (by exact Is.rfl')) rfl ?_
      refine X.doF rfl rfl (LU.call (head_nil) Tryd.func18 rfl rfl (Opds.cons (by exact Is.rfl') Opds.nil)) rfl ?_
      refine X.doF rfl rfl (LU.weak (LU.buildA Tryd.underlying26 Tryd.sizeOf5 Tryd.zeroValue26 (ones rfl) Parts.nil rfl) (Is.of (y := H32 zero32) (rfl))) rfl ?_
      refine X.doF rfl rfl (LU.weak (LU.neqH (show zero32.length = 32 from rfl) (show zero32.length = 32 from rfl) (by exact Is.rfl') (by exact Is.rfl')) (asB (c := false) rfl (by simp))) rfl ?_
      refine X.u (LU.pickF Is.rfl' (by exact Is.rfl')) rfl ?_
      refine LL.nil (after_code ?_)
      refine X.condF rfl ?_ ?_
      · rfl
      refine LW.skip (after_blk (after_code ?_))
      refine LW.region ?_
      refine X.u (LU.addN Is.rfl' Is.rfl' (wrap_i64 (by omega) (by omega))) rfl ?_
      refine X.u (LU.moveR Is.rfl') rfl ?_
      refine LL.nil (after_rnd ?_)
      refine X.next (1) rfl (EnvLe.cons (by rfl) (EnvLe.nil)) (Keeps.cons (by exact Eq.trans (b := .raw _) rfl rfl) (Keeps.cons (by exact Eq.trans (b := .sl _ _ _) rfl rfl) (Keeps.cons (by exact Eq.trans (b := .raw _) rfl rfl) (Keeps.nil)))) (by repeat (first | exact HSub.refl _ | refine HSub.pick 1 rfl ?_ | refine HSub.drop ?_)) ?_ ?_
      · omega
      · omega
    · refine LW.seq ?_
      refine LW.region ?_
      refine X.u (LU.lss Is.rfl' Is.rfl') rfl ?_
      refine LL.nil (after_code ?_)
      refine LW.seq ?_
      refine X.condT rfl ?_ ?_
      · rfl
      refine LW.skip (after_code ?_)
      refine LW.seq ?_
      refine LW.block ?_
      refine LW.seq ?_
      refine LW.region ?_
      refine X.u (LU.at Tryd.underlying40 ⟨Tryd.sizeOf36, Tryd.isAgg36⟩ Is.rfl' Is.rfl' (by omega) (rfl) (by simp)) rfl ?_
      refine X.u (LU.load ⟨Tryd.sizeOf36, Tryd.isAgg36⟩ Is.rfl' (by (simp; done)) (Part.one rfl)) rfl ?_
      refine X.u (LU.assignR Is.rfl') rfl ?_
      refine LL.nil (after_code ?_)
      refine LW.seq ?_
      refine LW.region ?_
      refine X.u (LU.moveR Is.rfl') rfl ?_
      refine X.u (LU.fieldO Tryd.underlying35 rfl Tryd.sizeOf3 (by decide) Is.rfl') rfl ?_
      refine X.u (LU.loadO 1 rfl ⟨Tryd.sizeOf3, Tryd.isAgg3⟩ Is.rfl' (Part.one rfl)) rfl ?_
      refine X.u (LU.fieldO Tryd.underlying35 rfl Tryd.sizeOf9 (by decide) Is.rfl') rfl ?_
      refine X.u (LU.loadO 1 rfl ⟨Tryd.sizeOf9, Tryd.isAgg9⟩ Is.rfl' (Part.one rfl)) rfl ?_
      refine X.u (LU.fieldO Tryd.underlying35 rfl Tryd.sizeOf9 (by decide) Is.rfl') rfl ?_
      refine X.u (LU.loadO 1 rfl ⟨Tryd.sizeOf9, Tryd.isAgg9⟩ Is.rfl' (Part.one rfl)) rfl ?_
      refine X.u (LU.call1 0 rfl (append_zero b8 a.tick a.who a.what) Tryd.func16 rfl rfl (Opds.cons Is.rfl' (Opds.cons Is.rfl' (Opds.cons Is.rfl' (Opds.cons Is.rfl' Opds.nil))))) rfl ?_
      refine X.u (LU.moveT Is.rfl') rfl ?_
      refine X.u (LU.extract Is.rfl' rfl) rfl ?_
      refine X.u (LU.extract Is.rfl' rfl) rfl ?_
      refine X.act (X.alloc rfl Tryd.zeroValue28 (by exact Cells.rawagg (by decide)) (fun b5 => ?_))
      refine X.act (X.store 0 rfl Tryd.sizeOf28 Is.rfl' Is.rfl' (by exact Cells.agg) (by rfl) (by exact Nat.le_of_ble_eq_true rfl) ?_)
      refine X.u (LU.assignR Is.rfl') rfl ?_
      refine LL.nil (after_code ?_)
      refine LW.seq ?_
      refine X.wcells (ys := entL zeroE) (putAt_all (by simp [raws, zeroE, zero32])) ?_
      refine LW.region ?_
      refine X.u (LU.loadO 0 rfl ⟨Tryd.sizeOf28, Tryd.isAgg28⟩ Is.rfl' (Part.whole (by rfl))) rfl ?_
      refine X.u (LU.weak (LU.build (places := #[(0, 1), (1, 1), (2, 1), (3, 1), (4, 32)]) Tryd.underlying28 Tryd.zeroValue28 (ones rfl) (by intro w; simp [Tryd.sizeOf26, Tryd.sizeOf3, Tryd.sizeOf9]) Parts.nil rfl) (Is.of (y := .agg (entL zeroE)) (rfl))) rfl ?_
      refine X.u (LU.weak (LU.neqEnt (show zeroE.prev.length = 32 from rfl) (show zeroE.prev.length = 32 from rfl) Is.rfl' Is.rfl') (asB (c := false) rfl (by simp))) rfl ?_
      refine X.u (LU.moveR Is.rfl') rfl ?_
      refine X.doF rfl rfl (LU.moveR (by exact Is.rfl')) rfl ?_
      refine X.doF rfl rfl (LU.weak (LU.neq (by exact Is.rfl') (by exact Is.rfl')) (asB (c := false) rfl (by rfl))) rfl ?_
      refine X.u (LU.pickF Is.rfl' (by exact Is.rfl')) rfl ?_
      refine X.u (LU.moveR Is.rfl') rfl ?_
      refine X.doF rfl rfl (LU.moveR (by exact Is.rfl')) rfl ?_
      refine X.doF rfl rfl (LU.call1 1 rfl (entries_zero b8) Tryd.func17 rfl rfl (Opds.cons (by exact Is.rfl') Opds.nil)) rfl ?_
      refine X.doF rfl rfl (LU.lenN Tryd.underlying22 (by exact Is.rfl') (by (simp only [Option.getD_some, Option.getD_none, byteEls_length, intEls_length, List.length_append, List.length_cons, List.length_nil, List.length_map, List.length_drop, List.length_take, Int.toNat_natCast]; rfl))) rfl ?_
      refine X.doF rfl rfl (LU.weak (LU.neq (by exact Is.rfl') (by exact Is.rfl')) (asB (c := false) rfl (by rfl))) rfl ?_
      refine X.u (LU.pickF Is.rfl' (by exact Is.rfl')) rfl ?_
      refine X.u (LU.moveR Is.rfl') rfl ?_
      refine X.doF rfl rfl (LU.moveR (by exact Is.rfl')) rfl ?_
      refine X.doF rfl rfl (LU.call1 1 rfl (head_zero b8) Tryd.func18 rfl rfl (Opds.cons (by exact Is.rfl') Opds.nil)) rfl ?_
      refine X.doF rfl rfl (LU.weak (LU.buildA Tryd.underlying26 Tryd.sizeOf5 Tryd.zeroValue26 (ones rfl) Parts.nil rfl) (Is.of (y := H32 zero32) (rfl))) rfl ?_
      refine X.doF rfl rfl (LU.weak (LU.neqH (show zero32.length = 32 from rfl) (show zero32.length = 32 from rfl) (by exact Is.rfl') (by exact Is.rfl')) (asB (c := false) rfl (by simp))) rfl ?_
      refine X.u (LU.pickF Is.rfl' (by exact Is.rfl')) rfl ?_
      refine LL.nil (after_code ?_)
      refine X.condF rfl ?_ ?_
      · rfl
      refine LW.skip (after_blk (after_code ?_))
      refine LW.region ?_
      refine X.u (LU.addN Is.rfl' Is.rfl' (wrap_i64 (by omega) (by omega))) rfl ?_
      refine X.u (LU.moveR Is.rfl') rfl ?_
      refine LL.nil (after_rnd ?_)
      refine X.next (2) rfl (EnvLe.cons (by rfl) (EnvLe.nil)) (Keeps.cons (by exact Eq.trans (b := .raw _) rfl rfl) (Keeps.cons (by exact Eq.trans (b := .sl _ _ _) rfl rfl) (Keeps.cons (by exact Eq.trans (b := .raw _) rfl rfl) (Keeps.nil)))) (by repeat (first | exact HSub.refl _ | refine HSub.pick 1 rfl ?_ | refine HSub.drop ?_)) ?_ ?_
      · omega
      · omega
    · refine LW.seq ?_
      refine LW.region ?_
      refine X.u (LU.lss Is.rfl' Is.rfl') rfl ?_
      refine LL.nil (after_code ?_)
      refine LW.seq ?_
      refine X.condF rfl ?_ ?_
      · rfl
      refine LW.exit (exit_code (exit_rnd (exit_blk (after_code ?_))))
      refine LW.seq ?_
      refine LW.region ?_
      refine X.u (LU.call1 2 rfl (lives19_calls) Tryd.func9 rfl rfl Opds.nil) rfl ?_
      refine X.u (LU.assignR Is.rfl') rfl ?_
      refine LL.nil (after_code ?_)
      refine LW.ret (after_end ?_)
      refine X.ret (H' := [kw]) (Res.one (by exact IsR rfl)) (by repeat (first | exact HSub.refl _ | refine HSub.pick 2 rfl ?_ | refine HSub.drop ?_)) ?_
      exact ⟨rfl, rfl⟩
theorem AuditNobody_row (x0 : List LV) (h0 : QAc x0) : LCalls Tryd.prog 4 [.agg x0] [kw] (fun r H' => r = bl true ∧ H' = [kw]) := by
  obtain ⟨a, rfl, _⟩ := of_ac h0
  exact an_calls a
end Go.Proofs.YtpcfpkfchoelcaaDoor
