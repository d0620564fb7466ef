/- A queue that no call made lets nothing wait. -/
import Derived.Test.YtpimalihpnfdkaaQuF
import Derived.Test.YtpimalihpnfdkaaLogR
set_option linter.unusedVariables false
set_option linter.unusedSimpArgs false
namespace Go.Proofs.Ytpimalihpnfdkaa
open Go.RowKit Go.L
attribute [local irreducible] LL LW LO
abbrev nilp : LV := .raw (.pointer none)
abbrev zq (g : Nat) : Atom := .cells g 77 (raws [.slice none 0 0, .slice none 0 0, .nilFunc, .bool false])
set_option maxRecDepth 100000 in
theorem none_nil21 : LCalls Try.prog 57 [nilp] [] (fun r H' => r = bl true ∧ H' = []) := by
  refine LCalls.of Try.func57 rfl Try.ntmps57 Try.results57 rfl (fun Rf => ?_)
  refine LW.seq ?_
  refine LW.region ?_
  refine X.u (LU.assignR Is.rfl') rfl ?_
  refine LL.nil (after_code ?_)
  refine LW.seq ?_
  refine LW.region ?_
  refine X.u (LU.moveR Is.rfl') rfl ?_
  refine X.u (LU.nilEqN Try.underlying51 Is.rfl' Is.rfl') rfl ?_
  refine X.u (LU.moveR Is.rfl') rfl ?_
  refine X.skipF rfl rfl rfl ?_
  refine X.skipF rfl rfl rfl ?_
  refine X.skipF rfl rfl rfl ?_
  refine X.skipF rfl rfl rfl ?_
  refine X.skipF rfl rfl rfl ?_
  refine X.u (LU.pickT Is.rfl' (by exact Is.rfl')) rfl ?_
  refine X.u (LU.assignR Is.rfl') rfl ?_
  refine LL.nil (after_code ?_)
  refine LW.ret (after_end ?_)
  refine X.ret (H' := []) (Res.one (by exact IsR rfl)) (by repeat (exact HSub.refl _)) ?_
  exact ⟨rfl, rfl⟩
set_option maxRecDepth 100000 in
theorem none_zero21 (g : Nat) : LCalls Try.prog 57 [pt g] [zq g] (fun r H' => r = bl true ∧ H' = [zq g]) := by
  refine LCalls.of Try.func57 rfl Try.ntmps57 Try.results57 rfl (fun Rf => ?_)
  refine LW.seq ?_
  refine LW.region ?_
  refine X.u (LU.assignR Is.rfl') rfl ?_
  refine LL.nil (after_code ?_)
  refine LW.seq ?_
  refine LW.region ?_
  refine X.u (LU.moveR Is.rfl') rfl ?_
  refine X.u (LU.nilEqS Try.underlying51 Is.rfl' Is.rfl') rfl ?_
  refine X.u (LU.moveR Is.rfl') rfl ?_
  refine X.doF rfl rfl (LU.moveR (by exact Is.rfl')) rfl ?_
  refine X.doF rfl rfl (LU.nilCheck (by exact Is.rfl')) rfl ?_
  refine X.doF rfl rfl (LU.fieldO Try.underlying77 rfl Try.sizeOf4 (by decide) (by exact Is.rfl')) rfl ?_
  refine X.doF rfl rfl (LU.loadO 0 rfl ⟨Try.sizeOf4, Try.isAgg4⟩ (by exact Is.rfl') (Part.one rfl)) rfl ?_
  refine X.doF rfl rfl (LU.not (by exact Is.rfl')) rfl ?_
  refine X.u (LU.pickF Is.rfl' (by exact Is.rfl')) rfl ?_
  refine X.u (LU.assignR Is.rfl') rfl ?_
  refine LL.nil (after_code ?_)
  refine LW.ret (after_end ?_)
  refine X.ret (H' := [zq g]) (Res.one (by exact IsR rfl)) (by repeat (exact HSub.refl _)) ?_
  exact ⟨rfl, rfl⟩
set_option maxRecDepth 100000 in
theorem step_nil (tv : Value) : LCalls Try.prog 33 [nilp, .raw tv] [] (fun r H' => r = .tup [.agg (edL (0, 0, 0)), i64 1] ∧ H' = []) := by
  refine LCalls.of Try.func33 rfl Try.ntmps33 Try.results33 rfl (fun Rf => ?_)
  refine LW.seq ?_
  refine LW.region ?_
  refine X.act (X.box rfl Is.rfl' (by exact Cells.raw rfl) (fun b2 => ?_))
  refine X.act (X.alloc rfl Try.zeroValue58 (by exact Cells.rawagg (by decide)) (fun b4 => ?_))
  refine X.u (LU.assignR Is.rfl') rfl ?_
  refine LL.nil (after_code ?_)
  refine LW.seq ?_
  refine LW.block ?_
  refine LW.seq ?_
  refine LW.region ?_
  refine X.u (LU.loadO 1 rfl ⟨Try.sizeOf51, Try.isAgg51⟩ Is.rfl' (Part.one rfl)) rfl ?_
  refine X.u (LU.call (none_nil21) Try.func57 rfl rfl (Opds.cons Is.rfl' Opds.nil)) rfl ?_
  refine X.u (LU.assignR Is.rfl') rfl ?_
  refine LL.nil (after_code ?_)
  refine X.condT rfl ?_ ?_
  · rfl
  refine LW.seq ?_
  refine LW.region ?_
  refine X.u (LU.weak (LU.build (places := #[(0, 1), (1, 1), (2, 1)]) Try.underlying58 Try.zeroValue58 (ones rfl) (by intro w; simp [Try.sizeOf26, Try.sizeOf3]) Parts.nil rfl) (Is.of (y := .agg (edL (0, 0, 0))) (rfl))) rfl ?_
  refine X.act (X.store 0 rfl Try.sizeOf58 Is.rfl' Is.rfl' (by exact Cells.agg) (by (simp; done)) (by exact Nat.le_of_ble_eq_true rfl) ?_)
  refine X.u (LU.assignR Is.rfl') rfl ?_
  refine LL.nil (after_code ?_)
  refine LW.ret (ret_blk (ret_code (after_end ?_)))
  refine X.ret (H' := []) (by exact Res.cell2 0 rfl rfl ⟨Try.sizeOf58, Try.isAgg58⟩ (Part.whole (by rfl)) (by exact IsA rfl) (by exact IsR rfl)) (by repeat (first | exact HSub.refl _ | refine HSub.drop ?_)) ?_
  exact ⟨rfl, rfl⟩
set_option maxRecDepth 100000 in
theorem step_zero (g : Nat) (tv : Value) : LCalls Try.prog 33 [pt g, .raw tv] [zq g] (fun r H' => r = .tup [.agg (edL (0, 0, 0)), i64 1] ∧ H' = [zq g]) := by
  refine LCalls.of Try.func33 rfl Try.ntmps33 Try.results33 rfl (fun Rf => ?_)
  refine LW.seq ?_
  refine LW.region ?_
  refine X.act (X.box rfl Is.rfl' (by exact Cells.raw rfl) (fun b2 => ?_))
  refine X.act (X.alloc rfl Try.zeroValue58 (by exact Cells.rawagg (by decide)) (fun b4 => ?_))
  refine X.u (LU.assignR Is.rfl') rfl ?_
  refine LL.nil (after_code ?_)
  refine LW.seq ?_
  refine LW.block ?_
  refine LW.seq ?_
  refine LW.region ?_
  refine X.u (LU.loadO 1 rfl ⟨Try.sizeOf51, Try.isAgg51⟩ Is.rfl' (Part.one rfl)) rfl ?_
  refine X.u (LU.call1 2 rfl (none_zero21 g) Try.func57 rfl rfl (Opds.cons Is.rfl' Opds.nil)) rfl ?_
  refine X.u (LU.assignR Is.rfl') rfl ?_
  refine LL.nil (after_code ?_)
  refine X.condT rfl ?_ ?_
  · rfl
  refine LW.seq ?_
  refine LW.region ?_
  refine X.u (LU.weak (LU.build (places := #[(0, 1), (1, 1), (2, 1)]) Try.underlying58 Try.zeroValue58 (ones rfl) (by intro w; simp [Try.sizeOf26, Try.sizeOf3]) Parts.nil rfl) (Is.of (y := .agg (edL (0, 0, 0))) (rfl))) rfl ?_
  refine X.act (X.store 0 rfl Try.sizeOf58 Is.rfl' Is.rfl' (by exact Cells.agg) (by (simp; done)) (by exact Nat.le_of_ble_eq_true rfl) ?_)
  refine X.u (LU.assignR Is.rfl') rfl ?_
  refine LL.nil (after_code ?_)
  refine LW.ret (ret_blk (ret_code (after_end ?_)))
  refine X.ret (H' := [zq g]) (by exact Res.cell2 0 rfl rfl ⟨Try.sizeOf58, Try.isAgg58⟩ (Part.whole (by rfl)) (by exact IsA rfl) (by exact IsR rfl)) (by repeat (first | exact HSub.refl _ | refine HSub.pick 2 rfl ?_ | refine HSub.drop ?_)) ?_
  exact ⟨rfl, rfl⟩
set_option maxRecDepth 100000 in
theorem put_nil (id : Int) : LCalls Try.prog 28 [nilp, i64 id] [] (fun r H' => r = i64 1 ∧ H' = []) := by
  refine LCalls.of Try.func28 rfl Try.ntmps28 Try.results28 rfl (fun Rf => ?_)
  refine LW.seq ?_
  refine LW.region ?_
  refine X.u (LU.assignR Is.rfl') rfl ?_
  refine LL.nil (after_code ?_)
  refine LW.seq ?_
  refine LW.block ?_
  refine LW.seq ?_
  refine LW.region ?_
  refine X.u (LU.moveR Is.rfl') rfl ?_
  refine X.u (LU.call (none_nil21) Try.func57 rfl rfl (Opds.cons Is.rfl' Opds.nil)) rfl ?_
  refine X.u (LU.assignR Is.rfl') rfl ?_
  refine LL.nil (after_code ?_)
  refine X.condT rfl ?_ ?_
  · rfl
  refine LW.seq ?_
  refine LW.region ?_
  refine X.u (LU.assignR Is.rfl') rfl ?_
  refine LL.nil (after_code ?_)
  refine LW.ret (ret_blk (ret_code (after_end ?_)))
  refine X.ret (H' := []) (Res.one (by exact IsR rfl)) (by repeat (exact HSub.refl _)) ?_
  exact ⟨rfl, rfl⟩
set_option maxRecDepth 100000 in
theorem put_zero (g : Nat) (id : Int) : LCalls Try.prog 28 [pt g, i64 id] [zq g] (fun r H' => r = i64 1 ∧ H' = [zq g]) := by
  refine LCalls.of Try.func28 rfl Try.ntmps28 Try.results28 rfl (fun Rf => ?_)
  refine LW.seq ?_
  refine LW.region ?_
  refine X.u (LU.assignR Is.rfl') rfl ?_
  refine LL.nil (after_code ?_)
  refine LW.seq ?_
  refine LW.block ?_
  refine LW.seq ?_
  refine LW.region ?_
  refine X.u (LU.moveR Is.rfl') rfl ?_
  refine X.u (LU.call1 0 rfl (none_zero21 g) Try.func57 rfl rfl (Opds.cons Is.rfl' Opds.nil)) rfl ?_
  refine X.u (LU.assignR Is.rfl') rfl ?_
  refine LL.nil (after_code ?_)
  refine X.condT rfl ?_ ?_
  · rfl
  refine LW.seq ?_
  refine LW.region ?_
  refine X.u (LU.assignR Is.rfl') rfl ?_
  refine LL.nil (after_code ?_)
  refine LW.ret (ret_blk (ret_code (after_end ?_)))
  refine X.ret (H' := [zq g]) (Res.one (by exact IsR rfl)) (by repeat (exact HSub.refl _)) ?_
  exact ⟨rfl, rfl⟩
set_option maxRecDepth 100000 in
theorem drop_nil (id : Int) : LCalls Try.prog 36 [nilp, i64 id] [] (fun r H' => r = i64 1 ∧ H' = []) := by
  refine LCalls.of Try.func36 rfl Try.ntmps36 Try.results36 rfl (fun Rf => ?_)
  refine LW.seq ?_
  refine LW.region ?_
  refine X.u (LU.assignR Is.rfl') rfl ?_
  refine LL.nil (after_code ?_)
  refine LW.seq ?_
  refine LW.seq ?_
  refine LW.region ?_
  refine X.u (LU.moveR Is.rfl') rfl ?_
  refine X.u (LU.call (none_nil21) Try.func57 rfl rfl (Opds.cons Is.rfl' Opds.nil)) rfl ?_
  refine LL.nil (after_code ?_)
  refine X.condT rfl ?_ ?_
  · rfl
  refine LW.seq ?_
  refine LW.region ?_
  refine X.u (LU.assignR Is.rfl') rfl ?_
  refine LL.nil (after_code ?_)
  refine LW.ret (ret_code (after_end ?_))
  refine X.ret (H' := []) (Res.one (by exact IsR rfl)) (by repeat (exact HSub.refl _)) ?_
  exact ⟨rfl, rfl⟩
set_option maxRecDepth 100000 in
theorem drop_zero (g : Nat) (id : Int) : LCalls Try.prog 36 [pt g, i64 id] [zq g] (fun r H' => r = i64 1 ∧ H' = [zq g]) := by
  refine LCalls.of Try.func36 rfl Try.ntmps36 Try.results36 rfl (fun Rf => ?_)
  refine LW.seq ?_
  refine LW.region ?_
  refine X.u (LU.assignR Is.rfl') rfl ?_
  refine LL.nil (after_code ?_)
  refine LW.seq ?_
  refine LW.seq ?_
  refine LW.region ?_
  refine X.u (LU.moveR Is.rfl') rfl ?_
  refine X.u (LU.call1 0 rfl (none_zero21 g) Try.func57 rfl rfl (Opds.cons Is.rfl' Opds.nil)) rfl ?_
  refine LL.nil (after_code ?_)
  refine X.condT rfl ?_ ?_
  · rfl
  refine LW.seq ?_
  refine LW.region ?_
  refine X.u (LU.assignR Is.rfl') rfl ?_
  refine LL.nil (after_code ?_)
  refine LW.ret (ret_code (after_end ?_))
  refine X.ret (H' := [zq g]) (Res.one (by exact IsR rfl)) (by repeat (exact HSub.refl _)) ?_
  exact ⟨rfl, rfl⟩
set_option maxRecDepth 100000 in
theorem drain_nil (tv : Value) : LCalls Try.prog 42 [nilp, .raw tv] [] (fun r H' => r = .sl 3 [] .unk ∧ H' = []) := by
  refine LCalls.of Try.func42 rfl Try.ntmps42 Try.results42 rfl (fun Rf => ?_)
  refine LW.seq ?_
  refine LW.region ?_
  refine X.u (LU.assign (Is.nil 3)) rfl ?_
  refine LL.nil (after_code ?_)
  refine LW.seq ?_
  refine LW.seq ?_
  refine LW.region ?_
  refine X.u (LU.moveR Is.rfl') rfl ?_
  refine X.u (LU.call (none_nil21) Try.func57 rfl rfl (Opds.cons Is.rfl' Opds.nil)) rfl ?_
  refine X.u (LU.moveR Is.rfl') rfl ?_
  refine X.skipF rfl rfl rfl ?_
  refine X.skipF rfl rfl rfl ?_
  refine X.u (LU.pickT Is.rfl' (by exact Is.rfl')) rfl ?_
  refine X.u (LU.moveR Is.rfl') rfl ?_
  refine X.skipF rfl rfl rfl ?_
  refine X.skipF rfl rfl rfl ?_
  refine X.skipF rfl rfl rfl ?_
  refine X.skipF rfl rfl rfl ?_
  refine X.skipF rfl rfl rfl ?_
  refine X.u (LU.pickT Is.rfl' (by exact Is.rfl')) rfl ?_
  refine LL.nil (after_code ?_)
  refine X.condT rfl ?_ ?_
  · rfl
  refine LW.seq ?_
  refine LW.region ?_
  refine X.u (LU.assign (Is.nil 3)) rfl ?_
  refine LL.nil (after_code ?_)
  refine LW.ret (ret_code (after_end ?_))
  refine X.ret (H' := []) (Res.one (by exact IsS rfl)) (by repeat (exact HSub.refl _)) ?_
  exact ⟨rfl, rfl⟩
set_option maxRecDepth 100000 in
theorem drain_zero (g : Nat) (tv : Value) : LCalls Try.prog 42 [pt g, .raw tv] [zq g] (fun r H' => r = .sl 3 [] .unk ∧ H' = [zq g]) := by
  refine LCalls.of Try.func42 rfl Try.ntmps42 Try.results42 rfl (fun Rf => ?_)
  refine LW.seq ?_
  refine LW.region ?_
  refine X.u (LU.assign (Is.nil 3)) rfl ?_
  refine LL.nil (after_code ?_)
  refine LW.seq ?_
  refine LW.seq ?_
  refine LW.region ?_
  refine X.u (LU.moveR Is.rfl') rfl ?_
  refine X.u (LU.call1 0 rfl (none_zero21 g) Try.func57 rfl rfl (Opds.cons Is.rfl' Opds.nil)) rfl ?_
  refine X.u (LU.moveR Is.rfl') rfl ?_
  refine X.skipF rfl rfl rfl ?_
  refine X.skipF rfl rfl rfl ?_
  refine X.u (LU.pickT Is.rfl' (by exact Is.rfl')) rfl ?_
  refine X.u (LU.moveR Is.rfl') rfl ?_
  refine X.skipF rfl rfl rfl ?_
  refine X.skipF rfl rfl rfl ?_
  refine X.skipF rfl rfl rfl ?_
  refine X.skipF rfl rfl rfl ?_
  refine X.skipF rfl rfl rfl ?_
  refine X.u (LU.pickT Is.rfl' (by exact Is.rfl')) rfl ?_
  refine LL.nil (after_code ?_)
  refine X.condT rfl ?_ ?_
  · rfl
  refine LW.seq ?_
  refine LW.region ?_
  refine X.u (LU.assign (Is.nil 3)) rfl ?_
  refine LL.nil (after_code ?_)
  refine LW.ret (ret_code (after_end ?_))
  refine X.ret (H' := [zq g]) (Res.one (by exact IsS rfl)) (by repeat (exact HSub.refl _)) ?_
  exact ⟨rfl, rfl⟩
set_option maxRecDepth 100000 in
theorem wait_nil : LCalls Try.prog 29 [nilp] [] (fun r H' => r = .sl 1 [] .unk ∧ H' = []) := by
  refine LCalls.of Try.func29 rfl Try.ntmps29 Try.results29 rfl (fun Rf => ?_)
  refine LW.seq ?_
  refine LW.region ?_
  refine X.u (LU.assign (Is.nil 1)) rfl ?_
  refine LL.nil (after_code ?_)
  refine LW.seq ?_
  refine LW.seq ?_
  refine LW.region ?_
  refine X.u (LU.moveR Is.rfl') rfl ?_
  refine X.u (LU.call (none_nil21) Try.func57 rfl rfl (Opds.cons Is.rfl' Opds.nil)) rfl ?_
  refine LL.nil (after_code ?_)
  refine X.condT rfl ?_ ?_
  · rfl
  refine LW.seq ?_
  refine LW.region ?_
  refine X.u (LU.assign (Is.nil 1)) rfl ?_
  refine LL.nil (after_code ?_)
  refine LW.ret (ret_code (after_end ?_))
  refine X.ret (H' := []) (Res.one (by exact IsS rfl)) (by repeat (exact HSub.refl _)) ?_
  exact ⟨rfl, rfl⟩
set_option maxRecDepth 100000 in
theorem wait_zero (g : Nat) : LCalls Try.prog 29 [pt g] [zq g] (fun r H' => r = .sl 1 [] .unk ∧ H' = [zq g]) := by
  refine LCalls.of Try.func29 rfl Try.ntmps29 Try.results29 rfl (fun Rf => ?_)
  refine LW.seq ?_
  refine LW.region ?_
  refine X.u (LU.assign (Is.nil 1)) rfl ?_
  refine LL.nil (after_code ?_)
  refine LW.seq ?_
  refine LW.seq ?_
  refine LW.region ?_
  refine X.u (LU.moveR Is.rfl') rfl ?_
  refine X.u (LU.call1 0 rfl (none_zero21 g) Try.func57 rfl rfl (Opds.cons Is.rfl' Opds.nil)) rfl ?_
  refine LL.nil (after_code ?_)
  refine X.condT rfl ?_ ?_
  · rfl
  refine LW.seq ?_
  refine LW.region ?_
  refine X.u (LU.assign (Is.nil 1)) rfl ?_
  refine LL.nil (after_code ?_)
  refine LW.ret (ret_code (after_end ?_))
  refine X.ret (H' := [zq g]) (Res.one (by exact IsS rfl)) (by repeat (exact HSub.refl _)) ?_
  exact ⟨rfl, rfl⟩
set_option maxRecDepth 100000 in
theorem ended_nil : LCalls Try.prog 30 [nilp] [] (fun r H' => r = .sl 3 [] .unk ∧ H' = []) := by
  refine LCalls.of Try.func30 rfl Try.ntmps30 Try.results30 rfl (fun Rf => ?_)
  refine LW.seq ?_
  refine LW.region ?_
  refine X.u (LU.assign (Is.nil 3)) rfl ?_
  refine LL.nil (after_code ?_)
  refine LW.seq ?_
  refine LW.seq ?_
  refine LW.region ?_
  refine X.u (LU.moveR Is.rfl') rfl ?_
  refine X.u (LU.call (none_nil21) Try.func57 rfl rfl (Opds.cons Is.rfl' Opds.nil)) rfl ?_
  refine LL.nil (after_code ?_)
  refine X.condT rfl ?_ ?_
  · rfl
  refine LW.seq ?_
  refine LW.region ?_
  refine X.u (LU.assign (Is.nil 3)) rfl ?_
  refine LL.nil (after_code ?_)
  refine LW.ret (ret_code (after_end ?_))
  refine X.ret (H' := []) (Res.one (by exact IsS rfl)) (by repeat (exact HSub.refl _)) ?_
  exact ⟨rfl, rfl⟩
set_option maxRecDepth 100000 in
theorem ended_zero (g : Nat) : LCalls Try.prog 30 [pt g] [zq g] (fun r H' => r = .sl 3 [] .unk ∧ H' = [zq g]) := by
  refine LCalls.of Try.func30 rfl Try.ntmps30 Try.results30 rfl (fun Rf => ?_)
  refine LW.seq ?_
  refine LW.region ?_
  refine X.u (LU.assign (Is.nil 3)) rfl ?_
  refine LL.nil (after_code ?_)
  refine LW.seq ?_
  refine LW.seq ?_
  refine LW.region ?_
  refine X.u (LU.moveR Is.rfl') rfl ?_
  refine X.u (LU.call1 0 rfl (none_zero21 g) Try.func57 rfl rfl (Opds.cons Is.rfl' Opds.nil)) rfl ?_
  refine LL.nil (after_code ?_)
  refine X.condT rfl ?_ ?_
  · rfl
  refine LW.seq ?_
  refine LW.region ?_
  refine X.u (LU.assign (Is.nil 3)) rfl ?_
  refine LL.nil (after_code ?_)
  refine LW.ret (ret_code (after_end ?_))
  refine X.ret (H' := [zq g]) (Res.one (by exact IsS rfl)) (by repeat (exact HSub.refl _)) ?_
  exact ⟨rfl, rfl⟩
set_option maxRecDepth 100000 in
theorem place_nil (id : Int) : LCalls Try.prog 32 [nilp, i64 id] [] (fun r H' => r = i64 (-1) ∧ H' = []) := by
  refine LCalls.of Try.func32 rfl Try.ntmps32 Try.results32 rfl (fun Rf => ?_)
  refine LW.seq ?_
  refine LW.region ?_
  refine X.u (LU.assignR Is.rfl') rfl ?_
  refine LL.nil (after_code ?_)
  refine LW.seq ?_
  refine LW.seq ?_
  refine LW.region ?_
  refine X.u (LU.moveR Is.rfl') rfl ?_
  refine X.u (LU.call (none_nil21) Try.func57 rfl rfl (Opds.cons Is.rfl' Opds.nil)) rfl ?_
  refine LL.nil (after_code ?_)
  refine X.condT rfl ?_ ?_
  · rfl
  refine LW.seq ?_
  refine LW.region ?_
  refine X.u (LU.assignR Is.rfl') rfl ?_
  refine LL.nil (after_code ?_)
  refine LW.ret (ret_code (after_end ?_))
  refine X.ret (H' := []) (Res.one (by exact IsR rfl)) (by repeat (exact HSub.refl _)) ?_
  exact ⟨rfl, rfl⟩
set_option maxRecDepth 100000 in
theorem place_zero (g : Nat) (id : Int) : LCalls Try.prog 32 [pt g, i64 id] [zq g] (fun r H' => r = i64 (-1) ∧ H' = [zq g]) := by
  refine LCalls.of Try.func32 rfl Try.ntmps32 Try.results32 rfl (fun Rf => ?_)
  refine LW.seq ?_
  refine LW.region ?_
  refine X.u (LU.assignR Is.rfl') rfl ?_
  refine LL.nil (after_code ?_)
  refine LW.seq ?_
  refine LW.seq ?_
  refine LW.region ?_
  refine X.u (LU.moveR Is.rfl') rfl ?_
  refine X.u (LU.call1 0 rfl (none_zero21 g) Try.func57 rfl rfl (Opds.cons Is.rfl' Opds.nil)) rfl ?_
  refine LL.nil (after_code ?_)
  refine X.condT rfl ?_ ?_
  · rfl
  refine LW.seq ?_
  refine LW.region ?_
  refine X.u (LU.assignR Is.rfl') rfl ?_
  refine LL.nil (after_code ?_)
  refine LW.ret (ret_code (after_end ?_))
  refine X.ret (H' := [zq g]) (Res.one (by exact IsR rfl)) (by repeat (exact HSub.refl _)) ?_
  exact ⟨rfl, rfl⟩
set_option maxRecDepth 100000 in
theorem step_nilfn (g : Nat) (ws : List Int) (es : List Ed) (b o c p q r : Nat) : LCalls Try.prog 33 [pt g, .raw .nilFunc] [qa g ws es .nilFunc b o c p q r] (fun v H' => v = .tup [.agg (edL (0, 0, 0)), i64 2] ∧ H' = [qa g ws es .nilFunc b o c p q r]) := by
  refine LCalls.of Try.func33 rfl Try.ntmps33 Try.results33 rfl (fun Rf => ?_)
  refine LW.seq ?_
  refine LW.region ?_
  refine X.act (X.box rfl Is.rfl' (by exact Cells.raw rfl) (fun b2 => ?_))
  refine X.act (X.alloc rfl Try.zeroValue58 (by exact Cells.rawagg (by decide)) (fun b4 => ?_))
  refine X.u (LU.assignR Is.rfl') rfl ?_
  refine LL.nil (after_code ?_)
  refine LW.seq ?_
  refine LW.block ?_
  refine LW.seq ?_
  refine LW.region ?_
  refine X.u (LU.loadO 1 rfl ⟨Try.sizeOf51, Try.isAgg51⟩ Is.rfl' (Part.one rfl)) rfl ?_
  refine X.u (LU.call1 2 rfl (none_calls21 g ws es .nilFunc b o c p q r) Try.func57 rfl rfl (Opds.cons Is.rfl' Opds.nil)) rfl ?_
  refine X.u (LU.assignR Is.rfl') rfl ?_
  refine LL.nil (after_code ?_)
  refine X.condF rfl ?_ ?_
  · rfl
  refine LW.seq ?_
  refine LW.region ?_
  refine X.u (LU.moveR Is.rfl') rfl ?_
  refine X.u (LU.nilFEqN Try.underlying30 Is.rfl' Is.rfl') rfl ?_
  refine X.u (LU.assignR Is.rfl') rfl ?_
  refine LL.nil (after_code ?_)
  refine X.condT rfl ?_ ?_
  · rfl
  refine LW.seq ?_
  refine LW.region ?_
  refine X.u (LU.weak (LU.build (places := #[(0, 1), (1, 1), (2, 1)]) Try.underlying58 Try.zeroValue58 (ones rfl) (by intro w; simp [Try.sizeOf26, Try.sizeOf3]) Parts.nil rfl) (Is.of (y := .agg (edL (0, 0, 0))) (rfl))) rfl ?_
  refine X.act (X.store 0 rfl Try.sizeOf58 Is.rfl' Is.rfl' (by exact Cells.agg) (by (simp; done)) (by exact Nat.le_of_ble_eq_true rfl) ?_)
  refine X.u (LU.assignR Is.rfl') rfl ?_
  refine LL.nil (after_code ?_)
  refine LW.ret (ret_blk (ret_code (after_end ?_)))
  refine X.ret (H' := [qa g ws es .nilFunc b o c p q r]) (by exact Res.cell2 0 rfl rfl ⟨Try.sizeOf58, Try.isAgg58⟩ (Part.whole (by rfl)) (by exact IsA rfl) (by exact IsR rfl)) (by repeat (first | exact HSub.refl _ | refine HSub.pick 2 rfl ?_ | refine HSub.drop ?_)) ?_
  exact ⟨rfl, rfl⟩
set_option maxRecDepth 100000 in
theorem drain_nilfn (g : Nat) (ws : List Int) (es : List Ed) (b o c p q r : Nat) : LCalls Try.prog 42 [pt g, .raw .nilFunc] [qa g ws es .nilFunc b o c p q r] (fun v H' => v = .sl 3 [] .unk ∧ H' = [qa g ws es .nilFunc b o c p q r]) := by
  refine LCalls.of Try.func42 rfl Try.ntmps42 Try.results42 rfl (fun Rf => ?_)
  refine LW.seq ?_
  refine LW.region ?_
  refine X.u (LU.assign (Is.nil 3)) rfl ?_
  refine LL.nil (after_code ?_)
  refine LW.seq ?_
  refine LW.seq ?_
  refine LW.region ?_
  refine X.u (LU.moveR Is.rfl') rfl ?_
  refine X.u (LU.call1 0 rfl (none_calls21 g ws es .nilFunc b o c p q r) Try.func57 rfl rfl (Opds.cons Is.rfl' Opds.nil)) rfl ?_
  refine X.u (LU.moveR Is.rfl') rfl ?_
  refine X.doF rfl rfl (LU.moveR (by exact Is.rfl')) rfl ?_
  refine X.doF rfl rfl (LU.nilFEqN Try.underlying30 (by exact Is.rfl') (by exact Is.rfl')) rfl ?_
  refine X.u (LU.pickF Is.rfl' (by exact Is.rfl')) rfl ?_
  refine X.u (LU.moveR Is.rfl') rfl ?_
  refine X.skipF rfl rfl rfl ?_
  refine X.skipF rfl rfl rfl ?_
  refine X.skipF rfl rfl rfl ?_
  refine X.skipF rfl rfl rfl ?_
  refine X.skipF rfl rfl rfl ?_
  refine X.u (LU.pickT Is.rfl' (by exact Is.rfl')) rfl ?_
  refine LL.nil (after_code ?_)
  refine X.condT rfl ?_ ?_
  · rfl
  refine LW.seq ?_
  refine LW.region ?_
  refine X.u (LU.assign (Is.nil 3)) rfl ?_
  refine LL.nil (after_code ?_)
  refine LW.ret (ret_code (after_end ?_))
  refine X.ret (H' := [qa g ws es .nilFunc b o c p q r]) (Res.one (by exact IsS rfl)) (by repeat (exact HSub.refl _)) ?_
  exact ⟨rfl, rfl⟩
abbrev encAct (k id an : Int) (l : List Int) : List LV := [i64 k, i64 id, i64 an, Ints l .unk]
set_option maxHeartbeats 1000000 in
set_option maxRecDepth 100000 in
theorem nobody21_calls (k id an : Int) (l : List Int) : LCalls Try.prog 12 [.agg (encAct k id an l)] [] (fun r H' => r = bl true ∧ H' = []) := by
  have hnf := new_calls21
  refine LCalls.of Try.func12 rfl Try.ntmps12 Try.results12 rfl (fun Rf => ?_)
  refine LW.seq ?_
  refine LW.region ?_
  refine X.act (X.box rfl Is.rfl' (by exact Cells.agg) (fun b1 => ?_))
  refine X.u (LU.assignR Is.rfl') rfl ?_
  refine LL.nil (after_code ?_)
  refine LW.seq ?_
  refine LW.seq ?_
  refine LW.region ?_
  refine X.u (LU.build (places := #[(0, 1), (1, 1), (2, 1), (3, 1)]) Try.underlying77 Try.zeroValue77 (ones rfl) (by intro w; simp [Try.sizeOf24, Try.sizeOf30, Try.sizeOf4, Try.sizeOf54]) Parts.nil rfl) rfl ?_
  refine X.act (X.box rfl Is.rfl' (by exact Cells.agg) (fun b12 => ?_))
  refine X.u (LU.lits Try.underlying78 Try.sizeOf51 Try.zeroValue51 (ones rfl) rfl (by decide) (by decide) (Elems.cons Is.rfl' (by exact Cells.raw rfl) (Elems.cons Is.rfl' (by exact Cells.raw rfl) Elems.nil)) (by (simp; done)) rfl) rfl ?_
  refine X.u (LU.lenN Try.underlying78 Is.rfl' (by (simp only [Option.getD_some, Option.getD_none, byteEls_length, intEls_length, List.length_append, List.length_cons, List.length_nil, List.length_map, List.length_drop, List.length_take, Int.toNat_natCast]; rfl))) rfl ?_
  refine X.u (LU.moveR Is.rfl') rfl ?_
  refine LL.nil (after_code ?_)
  refine LW.block ?_
  refine X.loopK (α := Nat) (fun i => [(15, i64 i)]) [1, 13, 14] (fun i => zq b12 :: .cells b1 65 (encAct k id an l) :: Rf) (fun i => i ≤ 2) (fun i => 2 - i) (0) (EnvLe.cons (by rfl) (EnvLe.nil)) (by repeat (exact HSub.refl _)) ?_ ?_
  · exact Nat.zero_le _
  · rintro i hI
    obtain rfl | rfl | rfl : i = 0 ∨ i = 1 ∨ i = 2 := by omega
    · refine LW.seq ?_
      refine LW.region ?_
      refine X.u (LU.lss Is.rfl' Is.rfl') rfl ?_
      refine LL.nil (after_code ?_)
      refine LW.seq ?_
      refine X.condT rfl ?_ ?_
      · rfl
      refine LW.skip (after_code ?_)
      refine LW.seq ?_
      refine LW.block ?_
      refine LW.seq ?_
      refine LW.region ?_
      refine X.u (LU.at Try.underlying78 ⟨Try.sizeOf51, Try.isAgg51⟩ Is.rfl' Is.rfl' (by omega) (rfl) (by simp)) rfl ?_
      refine X.u (LU.load ⟨Try.sizeOf51, Try.isAgg51⟩ Is.rfl' (by (simp; done)) (Part.one rfl)) rfl ?_
      refine X.u (LU.assignR Is.rfl') rfl ?_
      refine LL.nil (after_code ?_)
      refine LW.seq ?_
      refine LW.region ?_
      refine X.u (LU.assignR Is.rfl') rfl ?_
      refine LL.nil (after_code ?_)
      refine LW.seq ?_
      refine LW.region ?_
      refine X.u (LU.moveR Is.rfl') rfl ?_
      refine X.u (LU.moveR Is.rfl') rfl ?_
      refine X.u (LU.call (step_nil (.func (.func 52) #[] #[])) Try.func33 rfl rfl (Opds.cons Is.rfl' (Opds.cons Is.rfl' Opds.nil))) rfl ?_
      refine X.u (LU.moveT Is.rfl') rfl ?_
      refine X.u (LU.extract Is.rfl' rfl) rfl ?_
      refine X.u (LU.extract Is.rfl' rfl) rfl ?_
      refine X.act (X.alloc rfl Try.zeroValue58 (by exact Cells.rawagg (by decide)) (fun b6 => ?_))
      refine X.act (X.store 0 rfl Try.sizeOf58 Is.rfl' Is.rfl' (by exact Cells.agg) (by (simp; done)) (by exact Nat.le_of_ble_eq_true rfl) ?_)
      refine X.u (LU.assignR Is.rfl') rfl ?_
      refine LL.nil (after_code ?_)
      refine LW.seq ?_
      refine X.wcells (ys := edL (0, 0, 0)) rfl ?_
      refine LW.region ?_
      refine X.u (LU.moveR Is.rfl') rfl ?_
      refine X.u (LU.fieldO Try.underlying65 rfl Try.sizeOf3 (by decide) Is.rfl') rfl ?_
      refine X.u (LU.loadO 2 rfl ⟨Try.sizeOf3, Try.isAgg3⟩ Is.rfl' (Part.one rfl)) rfl ?_
      refine X.u (LU.call (put_nil id) Try.func28 rfl rfl (Opds.cons Is.rfl' (Opds.cons Is.rfl' Opds.nil))) rfl ?_
      refine X.u (LU.weak (LU.neq Is.rfl' Is.rfl') (asB (c := false) rfl (by rfl))) rfl ?_
      refine X.u (LU.moveR Is.rfl') rfl ?_
      refine X.doF rfl rfl (LU.moveR (by exact Is.rfl')) rfl ?_
      refine X.doF rfl rfl (LU.fieldO Try.underlying65 rfl Try.sizeOf3 (by decide) (by exact Is.rfl')) rfl ?_
      refine X.doF rfl rfl (LU.loadO 2 rfl ⟨Try.sizeOf3, Try.isAgg3⟩ (by exact Is.rfl') (Part.one rfl)) rfl ?_
      refine X.doF rfl rfl (LU.call (drop_nil id) Try.func36 rfl rfl (Opds.cons (by exact Is.rfl') (Opds.cons (by exact Is.rfl') Opds.nil))) rfl ?_
      refine X.doF rfl rfl (LU.weak (LU.neq (by exact Is.rfl') (by exact Is.rfl')) (asB (c := false) rfl (by rfl))) rfl ?_
      refine X.u (LU.pickF Is.rfl' (by exact Is.rfl')) rfl ?_
      refine X.u (LU.moveR Is.rfl') rfl ?_
      refine X.doF rfl rfl (LU.loadO 0 rfl ⟨Try.sizeOf58, Try.isAgg58⟩ (by exact Is.rfl') (Part.whole (by (simp; done)))) rfl ?_
      refine X.doF rfl rfl (LU.weak (LU.build (places := #[(0, 1), (1, 1), (2, 1)]) Try.underlying58 Try.zeroValue58 (ones rfl) (by intro w; simp [Try.sizeOf26, Try.sizeOf3]) Parts.nil rfl) (Is.of (y := .agg (edL (0, 0, 0))) (rfl))) rfl ?_
      refine X.doF rfl rfl (LU.weak (LU.neqA (by exact Is.rfl') (by exact Is.rfl') (RawL.cons (RawL.cons (RawL.cons (RawL.nil)))) (RawL.cons (RawL.cons (RawL.cons (RawL.nil)))) Try.eqGuardType58 rfl (EqR.struct Try.underlying58 Try.stoodInHeld58 (EqFs.cons rfl (part_one Try.isAgg3 rfl) (part_one Try.isAgg3 rfl) (EqR.int Try.underlying3) (EqFs.cons rfl (part_one Try.isAgg3 rfl) (part_one Try.isAgg3 rfl) (EqR.int Try.underlying3) (EqFs.one rfl (part_one Try.isAgg26 rfl) (part_one Try.isAgg26 rfl) (EqR.int Try.underlying26)))))) (asB (c := false) rfl (by simp))) rfl ?_
      refine X.u (LU.pickF Is.rfl' (by exact Is.rfl')) rfl ?_
      refine X.u (LU.moveR Is.rfl') rfl ?_
      refine X.doF rfl rfl (LU.moveR (by exact Is.rfl')) rfl ?_
      refine X.doF rfl rfl (LU.weak (LU.neq (by exact Is.rfl') (by exact Is.rfl')) (asB (c := false) rfl (by rfl))) rfl ?_
      refine X.u (LU.pickF Is.rfl' (by exact Is.rfl')) rfl ?_
      refine X.u (LU.moveR Is.rfl') rfl ?_
      refine X.doF rfl rfl (LU.moveR (by exact Is.rfl')) rfl ?_
      refine X.doF rfl rfl (LU.moveR (by exact Is.rfl')) rfl ?_
      refine X.doF rfl rfl (LU.call (drain_nil (.func (.func 52) #[] #[])) Try.func42 rfl rfl (Opds.cons (by exact Is.rfl') (Opds.cons (by exact Is.rfl') Opds.nil))) rfl ?_
      refine X.doF rfl rfl (LU.lenN Try.underlying54 (by exact Is.rfl') (by (simp only [Option.getD_some, Option.getD_none, byteEls_length, intEls_length, List.length_append, List.length_cons, List.length_nil, List.length_map, List.length_drop, List.length_take, Int.toNat_natCast]; rfl))) rfl ?_
      refine X.doF rfl rfl (LU.moveR (by exact Is.rfl')) rfl ?_
      refine X.doF rfl rfl (LU.call (wait_nil) Try.func29 rfl rfl (Opds.cons (by exact Is.rfl') Opds.nil)) rfl ?_
      refine X.doF rfl rfl (LU.lenN Try.underlying24 (by exact Is.rfl') (by (simp only [Option.getD_some, Option.getD_none, byteEls_length, intEls_length, List.length_append, List.length_cons, List.length_nil, List.length_map, List.length_drop, List.length_take, Int.toNat_natCast]; rfl))) rfl ?_
      refine X.doF rfl rfl (LU.addN (by exact Is.rfl') (by exact Is.rfl') (wrap_i64 (by omega) (by omega))) rfl ?_
      refine X.doF rfl rfl (LU.moveR (by exact Is.rfl')) rfl ?_
      refine X.doF rfl rfl (LU.call (ended_nil) Try.func30 rfl rfl (Opds.cons (by exact Is.rfl') Opds.nil)) rfl ?_
      refine X.doF rfl rfl (LU.lenN Try.underlying54 (by exact Is.rfl') (by (simp only [Option.getD_some, Option.getD_none, byteEls_length, intEls_length, List.length_append, List.length_cons, List.length_nil, List.length_map, List.length_drop, List.length_take, Int.toNat_natCast]; rfl))) rfl ?_
      refine X.doF rfl rfl (LU.addN (by exact Is.rfl') (by exact Is.rfl') (wrap_i64 (by omega) (by omega))) rfl ?_
      refine X.doF rfl rfl (LU.weak (LU.neq (by exact Is.rfl') (by exact Is.rfl')) (asB (c := false) rfl (by rfl))) rfl ?_
      refine X.u (LU.pickF Is.rfl' (by exact Is.rfl')) rfl ?_
      refine X.u (LU.moveR Is.rfl') rfl ?_
      refine X.doF rfl rfl (LU.moveR (by exact Is.rfl')) rfl ?_
      refine X.doF rfl rfl (LU.fieldO Try.underlying65 rfl Try.sizeOf3 (by decide) (by exact Is.rfl')) rfl ?_
      refine X.doF rfl rfl (LU.loadO 2 rfl ⟨Try.sizeOf3, Try.isAgg3⟩ (by exact Is.rfl') (Part.one rfl)) rfl ?_
      refine X.doF rfl rfl (LU.call (place_nil id) Try.func32 rfl rfl (Opds.cons (by exact Is.rfl') (Opds.cons (by exact Is.rfl') Opds.nil))) rfl ?_
      refine X.doF rfl rfl (LU.weak (LU.neq (by exact Is.rfl') (by exact Is.rfl')) (asB (c := false) rfl (by rfl))) rfl ?_
      refine X.u (LU.pickF Is.rfl' (by exact Is.rfl')) rfl ?_
      refine LL.nil (after_code ?_)
      refine X.condF rfl ?_ ?_
      · rfl
      refine LW.skip (after_blk (after_code ?_))
      refine LW.region ?_
      refine X.u (LU.addN Is.rfl' Is.rfl' (wrap_i64 (by omega) (by omega))) rfl ?_
      refine X.u (LU.moveR Is.rfl') rfl ?_
      refine LL.nil (after_rnd ?_)
      refine X.next (1) rfl (EnvLe.cons (by rfl) (EnvLe.nil)) (Keeps.cons (by exact Eq.trans (b := .raw _) rfl rfl) (Keeps.cons (by exact Eq.trans (b := .sl _ _ _) rfl rfl) (Keeps.cons (by exact Eq.trans (b := .raw _) rfl rfl) (Keeps.nil)))) (by repeat (first | exact HSub.refl _ | refine HSub.pick 1 rfl ?_ | refine HSub.drop ?_)) ?_ ?_
      · omega
      · omega
    · refine LW.seq ?_
      refine LW.region ?_
      refine X.u (LU.lss Is.rfl' Is.rfl') rfl ?_
      refine LL.nil (after_code ?_)
      refine LW.seq ?_
      refine X.condT rfl ?_ ?_
      · rfl
      refine LW.skip (after_code ?_)
      refine LW.seq ?_
      refine LW.block ?_
      refine LW.seq ?_
      refine LW.region ?_
      refine X.u (LU.at Try.underlying78 ⟨Try.sizeOf51, Try.isAgg51⟩ Is.rfl' Is.rfl' (by omega) (rfl) (by simp)) rfl ?_
      refine X.u (LU.load ⟨Try.sizeOf51, Try.isAgg51⟩ Is.rfl' (by (simp; done)) (Part.one rfl)) rfl ?_
      refine X.u (LU.assignR Is.rfl') rfl ?_
      refine LL.nil (after_code ?_)
      refine LW.seq ?_
      refine LW.region ?_
      refine X.u (LU.assignR Is.rfl') rfl ?_
      refine LL.nil (after_code ?_)
      refine LW.seq ?_
      refine LW.region ?_
      refine X.u (LU.moveR Is.rfl') rfl ?_
      refine X.u (LU.moveR Is.rfl') rfl ?_
      refine X.u (LU.call1 0 rfl (step_zero b12 (.func (.func 52) #[] #[])) Try.func33 rfl rfl (Opds.cons Is.rfl' (Opds.cons Is.rfl' Opds.nil))) rfl ?_
      refine X.u (LU.moveT Is.rfl') rfl ?_
      refine X.u (LU.extract Is.rfl' rfl) rfl ?_
      refine X.u (LU.extract Is.rfl' rfl) rfl ?_
      refine X.act (X.alloc rfl Try.zeroValue58 (by exact Cells.rawagg (by decide)) (fun b6 => ?_))
      refine X.act (X.store 0 rfl Try.sizeOf58 Is.rfl' Is.rfl' (by exact Cells.agg) (by (simp; done)) (by exact Nat.le_of_ble_eq_true rfl) ?_)
      refine X.u (LU.assignR Is.rfl') rfl ?_
      refine LL.nil (after_code ?_)
      refine LW.seq ?_
      refine X.wcells (ys := edL (0, 0, 0)) rfl ?_
      refine LW.region ?_
      refine X.u (LU.moveR Is.rfl') rfl ?_
      refine X.u (LU.fieldO Try.underlying65 rfl Try.sizeOf3 (by decide) Is.rfl') rfl ?_
      refine X.u (LU.loadO 2 rfl ⟨Try.sizeOf3, Try.isAgg3⟩ Is.rfl' (Part.one rfl)) rfl ?_
      refine X.u (LU.call1 1 rfl (put_zero b12 id) Try.func28 rfl rfl (Opds.cons Is.rfl' (Opds.cons Is.rfl' Opds.nil))) rfl ?_
      refine X.u (LU.weak (LU.neq Is.rfl' Is.rfl') (asB (c := false) rfl (by rfl))) rfl ?_
      refine X.u (LU.moveR Is.rfl') rfl ?_
      refine X.doF rfl rfl (LU.moveR (by exact Is.rfl')) rfl ?_
      refine X.doF rfl rfl (LU.fieldO Try.underlying65 rfl Try.sizeOf3 (by decide) (by exact Is.rfl')) rfl ?_
      refine X.doF rfl rfl (LU.loadO 2 rfl ⟨Try.sizeOf3, Try.isAgg3⟩ (by exact Is.rfl') (Part.one rfl)) rfl ?_
      refine X.doF rfl rfl (LU.call1 1 rfl (drop_zero b12 id) Try.func36 rfl rfl (Opds.cons (by exact Is.rfl') (Opds.cons (by exact Is.rfl') Opds.nil))) rfl ?_
      refine X.doF rfl rfl (LU.weak (LU.neq (by exact Is.rfl') (by exact Is.rfl')) (asB (c := false) rfl (by rfl))) rfl ?_
      refine X.u (LU.pickF Is.rfl' (by exact Is.rfl')) rfl ?_
      refine X.u (LU.moveR Is.rfl') rfl ?_
      refine X.doF rfl rfl (LU.loadO 0 rfl ⟨Try.sizeOf58, Try.isAgg58⟩ (by exact Is.rfl') (Part.whole (by (simp; done)))) rfl ?_
      refine X.doF rfl rfl (LU.weak (LU.build (places := #[(0, 1), (1, 1), (2, 1)]) Try.underlying58 Try.zeroValue58 (ones rfl) (by intro w; simp [Try.sizeOf26, Try.sizeOf3]) Parts.nil rfl) (Is.of (y := .agg (edL (0, 0, 0))) (rfl))) rfl ?_
      refine X.doF rfl rfl (LU.weak (LU.neqA (by exact Is.rfl') (by exact Is.rfl') (RawL.cons (RawL.cons (RawL.cons (RawL.nil)))) (RawL.cons (RawL.cons (RawL.cons (RawL.nil)))) Try.eqGuardType58 rfl (EqR.struct Try.underlying58 Try.stoodInHeld58 (EqFs.cons rfl (part_one Try.isAgg3 rfl) (part_one Try.isAgg3 rfl) (EqR.int Try.underlying3) (EqFs.cons rfl (part_one Try.isAgg3 rfl) (part_one Try.isAgg3 rfl) (EqR.int Try.underlying3) (EqFs.one rfl (part_one Try.isAgg26 rfl) (part_one Try.isAgg26 rfl) (EqR.int Try.underlying26)))))) (asB (c := false) rfl (by simp))) rfl ?_
      refine X.u (LU.pickF Is.rfl' (by exact Is.rfl')) rfl ?_
      refine X.u (LU.moveR Is.rfl') rfl ?_
      refine X.doF rfl rfl (LU.moveR (by exact Is.rfl')) rfl ?_
      refine X.doF rfl rfl (LU.weak (LU.neq (by exact Is.rfl') (by exact Is.rfl')) (asB (c := false) rfl (by rfl))) rfl ?_
      refine X.u (LU.pickF Is.rfl' (by exact Is.rfl')) rfl ?_
      refine X.u (LU.moveR Is.rfl') rfl ?_
      refine X.doF rfl rfl (LU.moveR (by exact Is.rfl')) rfl ?_
      refine X.doF rfl rfl (LU.moveR (by exact Is.rfl')) rfl ?_
      refine X.doF rfl rfl (LU.call1 1 rfl (drain_zero b12 (.func (.func 52) #[] #[])) Try.func42 rfl rfl (Opds.cons (by exact Is.rfl') (Opds.cons (by exact Is.rfl') Opds.nil))) rfl ?_
      refine X.doF rfl rfl (LU.lenN Try.underlying54 (by exact Is.rfl') (by (simp only [Option.getD_some, Option.getD_none, byteEls_length, intEls_length, List.length_append, List.length_cons, List.length_nil, List.length_map, List.length_drop, List.length_take, Int.toNat_natCast]; rfl))) rfl ?_
      refine X.doF rfl rfl (LU.moveR (by exact Is.rfl')) rfl ?_
      refine X.doF rfl rfl (LU.call1 1 rfl (wait_zero b12) Try.func29 rfl rfl (Opds.cons (by exact Is.rfl') Opds.nil)) rfl ?_
      refine X.doF rfl rfl (LU.lenN Try.underlying24 (by exact Is.rfl') (by (simp only [Option.getD_some, Option.getD_none, byteEls_length, intEls_length, List.length_append, List.length_cons, List.length_nil, List.length_map, List.length_drop, List.length_take, Int.toNat_natCast]; rfl))) rfl ?_
      refine X.doF rfl rfl (LU.addN (by exact Is.rfl') (by exact Is.rfl') (wrap_i64 (by omega) (by omega))) rfl ?_
      refine X.doF rfl rfl (LU.moveR (by exact Is.rfl')) rfl ?_
      refine X.doF rfl rfl (LU.call1 1 rfl (ended_zero b12) Try.func30 rfl rfl (Opds.cons (by exact Is.rfl') Opds.nil)) rfl ?_
      refine X.doF rfl rfl (LU.lenN Try.underlying54 (by exact Is.rfl') (by (simp only [Option.getD_some, Option.getD_none, byteEls_length, intEls_length, List.length_append, List.length_cons, List.length_nil, List.length_map, List.length_drop, List.length_take, Int.toNat_natCast]; rfl))) rfl ?_
      refine X.doF rfl rfl (LU.addN (by exact Is.rfl') (by exact Is.rfl') (wrap_i64 (by omega) (by omega))) rfl ?_
      refine X.doF rfl rfl (LU.weak (LU.neq (by exact Is.rfl') (by exact Is.rfl')) (asB (c := false) rfl (by rfl))) rfl ?_
      refine X.u (LU.pickF Is.rfl' (by exact Is.rfl')) rfl ?_
      refine X.u (LU.moveR Is.rfl') rfl ?_
      refine X.doF rfl rfl (LU.moveR (by exact Is.rfl')) rfl ?_
      refine X.doF rfl rfl (LU.fieldO Try.underlying65 rfl Try.sizeOf3 (by decide) (by exact Is.rfl')) rfl ?_
      refine X.doF rfl rfl (LU.loadO 2 rfl ⟨Try.sizeOf3, Try.isAgg3⟩ (by exact Is.rfl') (Part.one rfl)) rfl ?_
      refine X.doF rfl rfl (LU.call1 1 rfl (place_zero b12 id) Try.func32 rfl rfl (Opds.cons (by exact Is.rfl') (Opds.cons (by exact Is.rfl') Opds.nil))) rfl ?_
      refine X.doF rfl rfl (LU.weak (LU.neq (by exact Is.rfl') (by exact Is.rfl')) (asB (c := false) rfl (by rfl))) rfl ?_
      refine X.u (LU.pickF Is.rfl' (by exact Is.rfl')) rfl ?_
      refine LL.nil (after_code ?_)
      refine X.condF rfl ?_ ?_
      · rfl
      refine LW.skip (after_blk (after_code ?_))
      refine LW.region ?_
      refine X.u (LU.addN Is.rfl' Is.rfl' (wrap_i64 (by omega) (by omega))) rfl ?_
      refine X.u (LU.moveR Is.rfl') rfl ?_
      refine LL.nil (after_rnd ?_)
      refine X.next (2) rfl (EnvLe.cons (by rfl) (EnvLe.nil)) (Keeps.cons (by exact Eq.trans (b := .raw _) rfl rfl) (Keeps.cons (by exact Eq.trans (b := .sl _ _ _) rfl rfl) (Keeps.cons (by exact Eq.trans (b := .raw _) rfl rfl) (Keeps.nil)))) (by repeat (first | exact HSub.refl _ | refine HSub.pick 1 rfl ?_ | refine HSub.drop ?_)) ?_ ?_
      · omega
      · omega
    · refine LW.seq ?_
      refine LW.region ?_
      refine X.u (LU.lss Is.rfl' Is.rfl') rfl ?_
      refine LL.nil (after_code ?_)
      refine LW.seq ?_
      refine X.condF rfl ?_ ?_
      · rfl
      refine LW.exit (exit_code (exit_rnd (exit_blk (after_code ?_))))
      refine LW.seq ?_
      refine LW.region ?_
      refine X.act (X.call (hnf) Try.func27 rfl rfl rfl (HSub.refl _) Opds.nil ?_)
      rintro r H' ⟨g, rfl, rfl⟩
      refine X.u (LU.assignR Is.rfl') rfl ?_
      refine LL.nil (after_code ?_)
      refine LW.seq ?_
      refine LW.region ?_
      refine X.u (LU.moveR Is.rfl') rfl ?_
      refine X.u (LU.call1 0 rfl (step_nilfn g [] [] 0 0 0 0 0 0) Try.func33 rfl rfl (Opds.cons Is.rfl' (Opds.cons Is.rfl' Opds.nil))) rfl ?_
      refine X.u (LU.moveT Is.rfl') rfl ?_
      refine X.u (LU.extract Is.rfl' rfl) rfl ?_
      refine X.u (LU.extract Is.rfl' rfl) rfl ?_
      refine X.act (X.alloc rfl Try.zeroValue58 (by exact Cells.rawagg (by decide)) (fun b9 => ?_))
      refine X.act (X.store 0 rfl Try.sizeOf58 Is.rfl' Is.rfl' (by exact Cells.agg) (by (simp; done)) (by exact Nat.le_of_ble_eq_true rfl) ?_)
      refine X.u (LU.assignR Is.rfl') rfl ?_
      refine LL.nil (after_code ?_)
      refine LW.seq ?_
      refine LW.region ?_
      refine X.u (LU.moveR Is.rfl') rfl ?_
      refine X.u (LU.weak (LU.eql Is.rfl' Is.rfl') (asB (c := true) rfl (by rfl))) rfl ?_
      refine X.u (LU.moveR Is.rfl') rfl ?_
      refine X.doT rfl rfl (LU.moveR (by exact Is.rfl')) rfl ?_
      refine X.doT rfl rfl (LU.call1 1 rfl (drain_nilfn g [] [] 0 0 0 0 0 0) Try.func42 rfl rfl (Opds.cons (by exact Is.rfl') (Opds.cons (by exact Is.rfl') Opds.nil))) rfl ?_
      refine X.doT rfl rfl (LU.lenN Try.underlying54 (by exact Is.rfl') (by (simp only [Option.getD_some, Option.getD_none, byteEls_length, intEls_length, List.length_append, List.length_cons, List.length_nil, List.length_map, List.length_drop, List.length_take, Int.toNat_natCast]; rfl))) rfl ?_
      refine X.doT rfl rfl (LU.weak (LU.eql (by exact Is.rfl') (by exact Is.rfl')) (asB (c := true) rfl (by rfl))) rfl ?_
      refine X.u (LU.pickT Is.rfl' (by exact Is.rfl')) rfl ?_
      refine X.u (LU.moveR Is.rfl') rfl ?_
      refine X.doT rfl rfl (LU.call (lives21_calls) Try.func31 rfl rfl Opds.nil) rfl ?_
      refine X.u (LU.pickT Is.rfl' (by exact Is.rfl')) rfl ?_
      refine X.u (LU.assignR Is.rfl') rfl ?_
      refine LL.nil (after_code ?_)
      refine LW.ret (after_end ?_)
      refine X.ret (H' := []) (Res.one (by exact IsR rfl)) (by repeat (first | exact HSub.refl _ | refine HSub.drop ?_)) ?_
      exact ⟨rfl, rfl⟩
theorem QueueNobody_row (x0 : List LV) (h0 : QCons 1 (QInt .i64) (QCons 1 (QInt .i64) (QCons 1 (QInt .i64) (QCons 1 (QSl 1 8 (QInt .i64)) QNil))) x0) : LCalls Try.prog 12 [.agg x0] [] (fun r _ => r = .raw (.bool true)) := by
  obtain ⟨_, _, rfl, _, ⟨n1, rfl, w1⟩, _, _, rfl, _, ⟨n2, rfl, w2⟩, _, _, rfl, _, ⟨n3, rfl, w3⟩, _, _, rfl, _, ⟨es, rfl, h5, _⟩, rfl⟩ := h0
  obtain ⟨l, rfl, _⟩ := decode_ints h5
  exact (nobody21_calls n1 n2 n3 l).mono fun r H' h => h.1
end Go.Proofs.Ytpimalihpnfdkaa
