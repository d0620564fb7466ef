/- A book that no call made gives nothing out. -/
import Derived.Test.YtnfeepmgdahmgaaDoorTkF
set_option linter.unusedVariables false
set_option linter.unusedSimpArgs false
namespace Go.Proofs.YtnfeepmgdahmgaaDoor
open Go.RowKit Go.L
attribute [local irreducible] LL LW LO
abbrev nilP : LV := .raw (.pointer none)
abbrev zb (g : Nat) : Atom := .cells g 57 (raws [.slice none 0 0, .map none])
set_option maxRecDepth 100000 in
theorem none_nil16 : LCalls Tryd.prog 42 [nilP] [] (fun r H' => r = bl true ∧ H' = []) := by
  refine LCalls.of Tryd.func42 rfl Tryd.ntmps42 Tryd.results42 rfl (fun Rf => ?_)
  refine LW.seq ?_
  refine LW.region ?_
  refine X.u (LU.assignR Is.rfl') rfl ?_
  refine LL.nil (after_code ?_)
  refine LW.seq ?_
  refine LW.region ?_
  refine X.u (LU.moveR Is.rfl') rfl ?_
  refine X.u (LU.nilEqN Tryd.underlying25 Is.rfl' Is.rfl') rfl ?_
  refine X.u (LU.moveR Is.rfl') rfl ?_
  refine X.skipF rfl rfl rfl ?_
  refine X.skipF rfl rfl rfl ?_
  refine X.skipF rfl rfl rfl ?_
  refine X.skipF rfl rfl rfl ?_
  refine X.skipF rfl rfl rfl ?_
  refine X.u (LU.pickT Is.rfl' (by exact Is.rfl')) rfl ?_
  refine X.u (LU.assignR Is.rfl') rfl ?_
  refine LL.nil (after_code ?_)
  refine LW.ret (after_end ?_)
  refine X.ret (H' := []) (Res.one (by exact IsR rfl)) (by repeat (exact HSub.refl _)) ?_
  exact ⟨rfl, rfl⟩
set_option maxRecDepth 100000 in
theorem none_zero16 (g : Nat) : LCalls Tryd.prog 42 [pt g] [zb g] (fun r H' => r = bl true ∧ H' = [zb g]) := by
  refine LCalls.of Tryd.func42 rfl Tryd.ntmps42 Tryd.results42 rfl (fun Rf => ?_)
  refine LW.seq ?_
  refine LW.region ?_
  refine X.u (LU.assignR Is.rfl') rfl ?_
  refine LL.nil (after_code ?_)
  refine LW.seq ?_
  refine LW.region ?_
  refine X.u (LU.moveR Is.rfl') rfl ?_
  refine X.u (LU.nilEqS Tryd.underlying25 Is.rfl' Is.rfl') rfl ?_
  refine X.u (LU.moveR Is.rfl') rfl ?_
  refine X.doF rfl rfl (LU.moveR (by exact Is.rfl')) rfl ?_
  refine X.doF rfl rfl (LU.nilCheck (by exact Is.rfl')) rfl ?_
  refine X.doF rfl rfl (LU.fieldO Tryd.underlying57 rfl Tryd.sizeOf55 (by decide) (by exact Is.rfl')) rfl ?_
  refine X.doF rfl rfl (LU.loadO 0 rfl ⟨Tryd.sizeOf55, Tryd.isAgg55⟩ (by exact Is.rfl') (Part.one rfl)) rfl ?_
  refine X.doF rfl rfl (LU.nilMEqN Tryd.underlying55 (by exact Is.rfl') (by exact Is.rfl')) rfl ?_
  refine X.u (LU.pickF Is.rfl' (by exact Is.rfl')) rfl ?_
  refine X.u (LU.assignR Is.rfl') rfl ?_
  refine LL.nil (after_code ?_)
  refine LW.ret (after_end ?_)
  refine X.ret (H' := [zb g]) (Res.one (by exact IsR rfl)) (by repeat (exact HSub.refl _)) ?_
  exact ⟨rfl, rfl⟩
set_option maxRecDepth 100000 in
theorem iss_nil (u : List UInt8) (x y : Int) : LCalls Tryd.prog 16 [nilP, Str u, i64 x, i64 y] [] (fun r H' => r = .tup [Str [], i64 1] ∧ H' = []) := by
  refine LCalls.of Tryd.func16 rfl Tryd.ntmps16 Tryd.results16 rfl (fun Rf => ?_)
  refine LW.seq ?_
  refine LW.region ?_
  refine X.u (LU.assignR Is.rfl') rfl ?_
  refine X.u (LU.assignR Is.rfl') rfl ?_
  refine LL.nil (after_code ?_)
  refine LW.seq ?_
  refine LW.block ?_
  refine LW.seq ?_
  refine LW.region ?_
  refine X.u (LU.moveR Is.rfl') rfl ?_
  refine X.u (LU.call (none_nil16) Tryd.func42 rfl rfl (Opds.cons Is.rfl' Opds.nil)) rfl ?_
  refine X.u (LU.assignR Is.rfl') rfl ?_
  refine LL.nil (after_code ?_)
  refine X.condT rfl ?_ ?_
  · rfl
  refine LW.seq ?_
  refine LW.region ?_
  refine X.u (LU.assignR Is.rfl') rfl ?_
  refine X.u (LU.assignR Is.rfl') rfl ?_
  refine LL.nil (after_code ?_)
  refine LW.ret (ret_blk (ret_code (after_end ?_)))
  refine X.ret (H' := []) (Res.two (by exact IsR rfl) (by exact IsR rfl)) (by repeat (exact HSub.refl _)) ?_
  exact ⟨rfl, rfl⟩
set_option maxRecDepth 100000 in
theorem iss_zero (g : Nat) (u : List UInt8) (x y : Int) : LCalls Tryd.prog 16 [pt g, Str u, i64 x, i64 y] [zb g] (fun r H' => r = .tup [Str [], i64 1] ∧ H' = [zb g]) := by
  refine LCalls.of Tryd.func16 rfl Tryd.ntmps16 Tryd.results16 rfl (fun Rf => ?_)
  refine LW.seq ?_
  refine LW.region ?_
  refine X.u (LU.assignR Is.rfl') rfl ?_
  refine X.u (LU.assignR Is.rfl') rfl ?_
  refine LL.nil (after_code ?_)
  refine LW.seq ?_
  refine LW.block ?_
  refine LW.seq ?_
  refine LW.region ?_
  refine X.u (LU.moveR Is.rfl') rfl ?_
  refine X.u (LU.call1 0 rfl (none_zero16 g) Tryd.func42 rfl rfl (Opds.cons Is.rfl' Opds.nil)) rfl ?_
  refine X.u (LU.assignR Is.rfl') rfl ?_
  refine LL.nil (after_code ?_)
  refine X.condT rfl ?_ ?_
  · rfl
  refine LW.seq ?_
  refine LW.region ?_
  refine X.u (LU.assignR Is.rfl') rfl ?_
  refine X.u (LU.assignR Is.rfl') rfl ?_
  refine LL.nil (after_code ?_)
  refine LW.ret (ret_blk (ret_code (after_end ?_)))
  refine X.ret (H' := [zb g]) (Res.two (by exact IsR rfl) (by exact IsR rfl)) (by repeat (exact HSub.refl _)) ?_
  exact ⟨rfl, rfl⟩
set_option maxRecDepth 100000 in
theorem find_nil (u : List UInt8) : LCalls Tryd.prog 45 [nilP, Str u] [] (fun r H' => r = .tup [.agg (enL zE), i64 1] ∧ H' = []) := by
  refine LCalls.of Tryd.func45 rfl Tryd.ntmps45 Tryd.results45 rfl (fun Rf => ?_)
  refine LW.seq ?_
  refine LW.region ?_
  refine X.act (X.alloc rfl Tryd.zeroValue88 (by exact Cells.rawagg (by decide)) (fun b4 => ?_))
  refine X.u (LU.assignR Is.rfl') rfl ?_
  refine LL.nil (after_code ?_)
  refine LW.seq ?_
  refine LW.seq ?_
  refine LW.region ?_
  refine X.u (LU.moveR Is.rfl') rfl ?_
  refine X.u (LU.call (none_nil16) Tryd.func42 rfl rfl (Opds.cons Is.rfl' Opds.nil)) rfl ?_
  refine LL.nil (after_code ?_)
  refine X.condT rfl ?_ ?_
  · rfl
  refine LW.seq ?_
  refine LW.region ?_
  refine X.u (LU.build (places := #[(0, 1), (1, 1), (2, 1)]) Tryd.underlying88 Tryd.zeroValue88 (ones rfl) (by intro w; simp [Tryd.sizeOf3, Tryd.sizeOf9]) Parts.nil rfl) rfl ?_
  refine X.act (X.store 0 rfl Tryd.sizeOf88 Is.rfl' Is.rfl' (by exact Cells.agg) (by rfl) (by exact Nat.le_of_ble_eq_true rfl) ?_)
  refine X.u (LU.assignR Is.rfl') rfl ?_
  refine LL.nil (after_code ?_)
  refine LW.ret (ret_code (after_end ?_))
  refine X.ret (H' := []) (by exact Res.cell2 0 rfl rfl ⟨Tryd.sizeOf88, Tryd.isAgg88⟩ (Part.whole (by rfl)) (by exact IsA rfl) (by exact IsR rfl)) (by repeat (first | exact HSub.refl _ | refine HSub.drop ?_)) ?_
  exact ⟨rfl, rfl⟩
set_option maxRecDepth 100000 in
theorem find_zero (g : Nat) (u : List UInt8) : LCalls Tryd.prog 45 [pt g, Str u] [zb g] (fun r H' => r = .tup [.agg (enL zE), i64 1] ∧ H' = [zb g]) := by
  refine LCalls.of Tryd.func45 rfl Tryd.ntmps45 Tryd.results45 rfl (fun Rf => ?_)
  refine LW.seq ?_
  refine LW.region ?_
  refine X.act (X.alloc rfl Tryd.zeroValue88 (by exact Cells.rawagg (by decide)) (fun b4 => ?_))
  refine X.u (LU.assignR Is.rfl') rfl ?_
  refine LL.nil (after_code ?_)
  refine LW.seq ?_
  refine LW.seq ?_
  refine LW.region ?_
  refine X.u (LU.moveR Is.rfl') rfl ?_
  refine X.u (LU.call1 1 rfl (none_zero16 g) Tryd.func42 rfl rfl (Opds.cons Is.rfl' Opds.nil)) rfl ?_
  refine LL.nil (after_code ?_)
  refine X.condT rfl ?_ ?_
  · rfl
  refine LW.seq ?_
  refine LW.region ?_
  refine X.u (LU.build (places := #[(0, 1), (1, 1), (2, 1)]) Tryd.underlying88 Tryd.zeroValue88 (ones rfl) (by intro w; simp [Tryd.sizeOf3, Tryd.sizeOf9]) Parts.nil rfl) rfl ?_
  refine X.act (X.store 0 rfl Tryd.sizeOf88 Is.rfl' Is.rfl' (by exact Cells.agg) (by rfl) (by exact Nat.le_of_ble_eq_true rfl) ?_)
  refine X.u (LU.assignR Is.rfl') rfl ?_
  refine LL.nil (after_code ?_)
  refine LW.ret (ret_code (after_end ?_))
  refine X.ret (H' := [zb g]) (by exact Res.cell2 0 rfl rfl ⟨Tryd.sizeOf88, Tryd.isAgg88⟩ (Part.whole (by rfl)) (by exact IsA rfl) (by exact IsR rfl)) (by repeat (first | exact HSub.refl _ | refine HSub.pick 1 rfl ?_ | refine HSub.drop ?_)) ?_
  exact ⟨rfl, rfl⟩
set_option maxRecDepth 100000 in
theorem chk_nil (u : List UInt8) (x : Int) : LCalls Tryd.prog 19 [nilP, Str u, i64 x] [] (fun r H' => r = .tup [Str [], i64 1] ∧ H' = []) := by
  refine LCalls.of Tryd.func19 rfl Tryd.ntmps19 Tryd.results19 rfl (fun Rf => ?_)
  refine LW.seq ?_
  refine LW.region ?_
  refine X.u (LU.assignR Is.rfl') rfl ?_
  refine X.u (LU.assignR Is.rfl') rfl ?_
  refine LL.nil (after_code ?_)
  refine LW.seq ?_
  refine LW.region ?_
  refine X.u (LU.assignR Is.rfl') rfl ?_
  refine LL.nil (after_code ?_)
  refine LW.seq ?_
  refine LW.region ?_
  refine X.u (LU.moveR Is.rfl') rfl ?_
  refine X.u (LU.moveR Is.rfl') rfl ?_
  refine X.u (LU.moveR Is.rfl') rfl ?_
  refine X.act (X.callF (FnCalls.named Tryd.func45 rfl rfl (find_nil u)) Is.rfl' rfl (HSub.refl _) (Opds.cons Is.rfl' (Opds.cons Is.rfl' Opds.nil)) ?_)
  rintro r H' ⟨rfl, rfl⟩
  refine X.u (LU.moveT Is.rfl') rfl ?_
  refine X.u (LU.extract Is.rfl' rfl) rfl ?_
  refine X.u (LU.extract Is.rfl' rfl) rfl ?_
  refine X.act (X.alloc rfl Tryd.zeroValue88 (by exact Cells.rawagg (by decide)) (fun b9 => ?_))
  refine X.act (X.store 0 rfl Tryd.sizeOf88 Is.rfl' Is.rfl' (by exact Cells.agg) (by (simp; done)) (by exact Nat.le_of_ble_eq_true rfl) ?_)
  refine X.u (LU.assignR Is.rfl') rfl ?_
  refine LL.nil (after_code ?_)
  refine LW.seq ?_
  refine LW.seq ?_
  refine LW.region ?_
  refine X.u (LU.moveR Is.rfl') rfl ?_
  refine X.u (LU.eql Is.rfl' Is.rfl') rfl ?_
  refine LL.nil (after_code ?_)
  refine X.condF rfl ?_ ?_
  · rfl
  refine LW.skip (after_code ?_)
  refine LW.seq ?_
  refine LW.seq ?_
  refine LW.region ?_
  refine X.u (LU.moveR Is.rfl') rfl ?_
  refine X.u (LU.neq Is.rfl' Is.rfl') rfl ?_
  refine LL.nil (after_code ?_)
  refine X.condT rfl ?_ ?_
  · rfl
  refine LW.seq ?_
  refine LW.region ?_
  refine X.u (LU.moveR Is.rfl') rfl ?_
  refine X.u (LU.assignR Is.rfl') rfl ?_
  refine X.u (LU.assignR Is.rfl') rfl ?_
  refine LL.nil (after_code ?_)
  refine LW.ret (ret_code (after_end ?_))
  refine X.ret (H' := []) (Res.two (by exact IsR rfl) (by exact IsR rfl)) (by repeat (first | exact HSub.refl _ | refine HSub.drop ?_)) ?_
  exact ⟨rfl, rfl⟩
set_option maxRecDepth 100000 in
theorem chk_zero (g : Nat) (u : List UInt8) (x : Int) : LCalls Tryd.prog 19 [pt g, Str u, i64 x] [zb g] (fun r H' => r = .tup [Str [], i64 1] ∧ H' = [zb g]) := by
  refine LCalls.of Tryd.func19 rfl Tryd.ntmps19 Tryd.results19 rfl (fun Rf => ?_)
  refine LW.seq ?_
  refine LW.region ?_
  refine X.u (LU.assignR Is.rfl') rfl ?_
  refine X.u (LU.assignR Is.rfl') rfl ?_
  refine LL.nil (after_code ?_)
  refine LW.seq ?_
  refine LW.region ?_
  refine X.u (LU.assignR Is.rfl') rfl ?_
  refine LL.nil (after_code ?_)
  refine LW.seq ?_
  refine LW.region ?_
  refine X.u (LU.moveR Is.rfl') rfl ?_
  refine X.u (LU.moveR Is.rfl') rfl ?_
  refine X.u (LU.moveR Is.rfl') rfl ?_
  refine X.act (X.callF (FnCalls.named Tryd.func45 rfl rfl (find_zero g u)) Is.rfl' rfl (by (refine HSub.pick 0 rfl ?_); exact HSub.refl _) (Opds.cons Is.rfl' (Opds.cons Is.rfl' Opds.nil)) ?_)
  rintro r H' ⟨rfl, rfl⟩
  refine X.u (LU.moveT Is.rfl') rfl ?_
  refine X.u (LU.extract Is.rfl' rfl) rfl ?_
  refine X.u (LU.extract Is.rfl' rfl) rfl ?_
  refine X.act (X.alloc rfl Tryd.zeroValue88 (by exact Cells.rawagg (by decide)) (fun b9 => ?_))
  refine X.act (X.store 0 rfl Tryd.sizeOf88 Is.rfl' Is.rfl' (by exact Cells.agg) (by (simp; done)) (by exact Nat.le_of_ble_eq_true rfl) ?_)
  refine X.u (LU.assignR Is.rfl') rfl ?_
  refine LL.nil (after_code ?_)
  refine LW.seq ?_
  refine LW.seq ?_
  refine LW.region ?_
  refine X.u (LU.moveR Is.rfl') rfl ?_
  refine X.u (LU.eql Is.rfl' Is.rfl') rfl ?_
  refine LL.nil (after_code ?_)
  refine X.condF rfl ?_ ?_
  · rfl
  refine LW.skip (after_code ?_)
  refine LW.seq ?_
  refine LW.seq ?_
  refine LW.region ?_
  refine X.u (LU.moveR Is.rfl') rfl ?_
  refine X.u (LU.neq Is.rfl' Is.rfl') rfl ?_
  refine LL.nil (after_code ?_)
  refine X.condT rfl ?_ ?_
  · rfl
  refine LW.seq ?_
  refine LW.region ?_
  refine X.u (LU.moveR Is.rfl') rfl ?_
  refine X.u (LU.assignR Is.rfl') rfl ?_
  refine X.u (LU.assignR Is.rfl') rfl ?_
  refine LL.nil (after_code ?_)
  refine LW.ret (ret_code (after_end ?_))
  refine X.ret (H' := [zb g]) (Res.two (by exact IsR rfl) (by exact IsR rfl)) (by repeat (first | exact HSub.refl _ | refine HSub.pick 1 rfl ?_ | refine HSub.drop ?_)) ?_
  exact ⟨rfl, rfl⟩
set_option maxRecDepth 100000 in
theorem rev_nil (u : List UInt8) : LCalls Tryd.prog 20 [nilP, Str u] [] (fun r H' => r = i64 1 ∧ H' = []) := by
  refine LCalls.of Tryd.func20 rfl Tryd.ntmps20 Tryd.results20 rfl (fun Rf => ?_)
  refine LW.seq ?_
  refine LW.region ?_
  refine X.u (LU.assignR Is.rfl') rfl ?_
  refine LL.nil (after_code ?_)
  refine LW.seq ?_
  refine LW.region ?_
  refine X.u (LU.moveR Is.rfl') rfl ?_
  refine X.u (LU.moveR Is.rfl') rfl ?_
  refine X.u (LU.call (find_nil u) Tryd.func45 rfl rfl (Opds.cons Is.rfl' (Opds.cons Is.rfl' Opds.nil))) rfl ?_
  refine X.u (LU.moveT Is.rfl') rfl ?_
  refine X.u (LU.extract Is.rfl' rfl) rfl ?_
  refine X.u (LU.extract Is.rfl' rfl) rfl ?_
  refine X.act (X.alloc rfl Tryd.zeroValue88 (by exact Cells.rawagg (by decide)) (fun b5 => ?_))
  refine X.act (X.store 0 rfl Tryd.sizeOf88 Is.rfl' Is.rfl' (by exact Cells.agg) (by (simp; done)) (by exact Nat.le_of_ble_eq_true rfl) ?_)
  refine X.u (LU.assignR Is.rfl') rfl ?_
  refine LL.nil (after_code ?_)
  refine LW.seq ?_
  refine LW.seq ?_
  refine LW.region ?_
  refine X.u (LU.moveR Is.rfl') rfl ?_
  refine X.u (LU.eql Is.rfl' Is.rfl') rfl ?_
  refine LL.nil (after_code ?_)
  refine X.condF rfl ?_ ?_
  · rfl
  refine LW.skip (after_code ?_)
  refine LW.seq ?_
  refine LW.seq ?_
  refine LW.region ?_
  refine X.u (LU.moveR Is.rfl') rfl ?_
  refine X.u (LU.neq Is.rfl' Is.rfl') rfl ?_
  refine LL.nil (after_code ?_)
  refine X.condT rfl ?_ ?_
  · rfl
  refine LW.seq ?_
  refine LW.region ?_
  refine X.u (LU.moveR Is.rfl') rfl ?_
  refine X.u (LU.assignR Is.rfl') rfl ?_
  refine LL.nil (after_code ?_)
  refine LW.ret (ret_code (after_end ?_))
  refine X.ret (H' := []) (Res.one (by exact IsR rfl)) (by repeat (first | exact HSub.refl _ | refine HSub.drop ?_)) ?_
  exact ⟨rfl, rfl⟩
set_option maxRecDepth 100000 in
theorem rev_zero (g : Nat) (u : List UInt8) : LCalls Tryd.prog 20 [pt g, Str u] [zb g] (fun r H' => r = i64 1 ∧ H' = [zb g]) := by
  refine LCalls.of Tryd.func20 rfl Tryd.ntmps20 Tryd.results20 rfl (fun Rf => ?_)
  refine LW.seq ?_
  refine LW.region ?_
  refine X.u (LU.assignR Is.rfl') rfl ?_
  refine LL.nil (after_code ?_)
  refine LW.seq ?_
  refine LW.region ?_
  refine X.u (LU.moveR Is.rfl') rfl ?_
  refine X.u (LU.moveR Is.rfl') rfl ?_
  refine X.u (LU.call1 0 rfl (find_zero g u) Tryd.func45 rfl rfl (Opds.cons Is.rfl' (Opds.cons Is.rfl' Opds.nil))) rfl ?_
  refine X.u (LU.moveT Is.rfl') rfl ?_
  refine X.u (LU.extract Is.rfl' rfl) rfl ?_
  refine X.u (LU.extract Is.rfl' rfl) rfl ?_
  refine X.act (X.alloc rfl Tryd.zeroValue88 (by exact Cells.rawagg (by decide)) (fun b5 => ?_))
  refine X.act (X.store 0 rfl Tryd.sizeOf88 Is.rfl' Is.rfl' (by exact Cells.agg) (by (simp; done)) (by exact Nat.le_of_ble_eq_true rfl) ?_)
  refine X.u (LU.assignR Is.rfl') rfl ?_
  refine LL.nil (after_code ?_)
  refine LW.seq ?_
  refine LW.seq ?_
  refine LW.region ?_
  refine X.u (LU.moveR Is.rfl') rfl ?_
  refine X.u (LU.eql Is.rfl' Is.rfl') rfl ?_
  refine LL.nil (after_code ?_)
  refine X.condF rfl ?_ ?_
  · rfl
  refine LW.skip (after_code ?_)
  refine LW.seq ?_
  refine LW.seq ?_
  refine LW.region ?_
  refine X.u (LU.moveR Is.rfl') rfl ?_
  refine X.u (LU.neq Is.rfl' Is.rfl') rfl ?_
  refine LL.nil (after_code ?_)
  refine X.condT rfl ?_ ?_
  · rfl
  refine LW.seq ?_
  refine LW.region ?_
  refine X.u (LU.moveR Is.rfl') rfl ?_
  refine X.u (LU.assignR Is.rfl') rfl ?_
  refine LL.nil (after_code ?_)
  refine LW.ret (ret_code (after_end ?_))
  refine X.ret (H' := [zb g]) (Res.one (by exact IsR rfl)) (by repeat (first | exact HSub.refl _ | refine HSub.pick 1 rfl ?_ | refine HSub.drop ?_)) ?_
  exact ⟨rfl, rfl⟩
set_option maxRecDepth 100000 in
theorem len_nil : LCalls Tryd.prog 17 [nilP] [] (fun r H' => r = i64 0 ∧ H' = []) := by
  refine LCalls.of Tryd.func17 rfl Tryd.ntmps17 Tryd.results17 rfl (fun Rf => ?_)
  refine LW.seq ?_
  refine LW.region ?_
  refine X.u (LU.assignR Is.rfl') rfl ?_
  refine LL.nil (after_code ?_)
  refine LW.seq ?_
  refine LW.seq ?_
  refine LW.region ?_
  refine X.u (LU.moveR Is.rfl') rfl ?_
  refine X.u (LU.call (none_nil16) Tryd.func42 rfl rfl (Opds.cons Is.rfl' Opds.nil)) rfl ?_
  refine LL.nil (after_code ?_)
  refine X.condT rfl ?_ ?_
  · rfl
  refine LW.seq ?_
  refine LW.region ?_
  refine X.u (LU.assignR Is.rfl') rfl ?_
  refine LL.nil (after_code ?_)
  refine LW.ret (ret_code (after_end ?_))
  refine X.ret (H' := []) (Res.one (by exact IsR rfl)) (by repeat (exact HSub.refl _)) ?_
  exact ⟨rfl, rfl⟩
set_option maxRecDepth 100000 in
theorem len_zero (g : Nat) : LCalls Tryd.prog 17 [pt g] [zb g] (fun r H' => r = i64 0 ∧ H' = [zb g]) := by
  refine LCalls.of Tryd.func17 rfl Tryd.ntmps17 Tryd.results17 rfl (fun Rf => ?_)
  refine LW.seq ?_
  refine LW.region ?_
  refine X.u (LU.assignR Is.rfl') rfl ?_
  refine LL.nil (after_code ?_)
  refine LW.seq ?_
  refine LW.seq ?_
  refine LW.region ?_
  refine X.u (LU.moveR Is.rfl') rfl ?_
  refine X.u (LU.call1 0 rfl (none_zero16 g) Tryd.func42 rfl rfl (Opds.cons Is.rfl' Opds.nil)) rfl ?_
  refine LL.nil (after_code ?_)
  refine X.condT rfl ?_ ?_
  · rfl
  refine LW.seq ?_
  refine LW.region ?_
  refine X.u (LU.assignR Is.rfl') rfl ?_
  refine LL.nil (after_code ?_)
  refine LW.ret (ret_code (after_end ?_))
  refine X.ret (H' := [zb g]) (Res.one (by exact IsR rfl)) (by repeat (exact HSub.refl _)) ?_
  exact ⟨rfl, rfl⟩
set_option maxHeartbeats 1000000 in
set_option maxRecDepth 100000 in
theorem nobody16_calls (a : Ac) : LCalls Tryd.prog 7 [.agg (acL a)] [kw, pw] (fun r H' => r = bl true ∧ H' = [kw, pw]) := by
  refine LCalls.of Tryd.func7 rfl Tryd.ntmps7 Tryd.results7 rfl (fun Rf => ?_)
  refine LW.seq ?_
  refine LW.region ?_
  refine X.act (X.box rfl Is.rfl' (by exact Cells.agg) (fun b1 => ?_))
  refine X.u (LU.assignR Is.rfl') rfl ?_
  refine LL.nil (after_code ?_)
  refine LW.seq ?_
  refine LW.seq ?_
  refine LW.region ?_
  refine X.u (LU.build (places := #[(0, 1), (1, 1)]) Tryd.underlying57 Tryd.zeroValue57 (ones rfl) (by intro w; simp [Tryd.sizeOf22, Tryd.sizeOf55]) Parts.nil rfl) rfl ?_
  refine X.act (X.box rfl Is.rfl' (by exact Cells.agg) (fun b10 => ?_))
  refine X.u (LU.lits Tryd.underlying58 Tryd.sizeOf25 Tryd.zeroValue25 (ones rfl) rfl (by decide) (by decide) (Elems.cons Is.rfl' (by exact Cells.raw rfl) (Elems.cons Is.rfl' (by exact Cells.raw rfl) Elems.nil)) (by (simp; done)) rfl) rfl ?_
  refine X.u (LU.lenN Tryd.underlying58 Is.rfl' (by (simp only [Option.getD_some, Option.getD_none, byteEls_length, intEls_length, List.length_append, List.length_cons, List.length_nil, List.length_map, List.length_drop, List.length_take, Int.toNat_natCast]; rfl))) rfl ?_
  refine X.u (LU.moveR Is.rfl') rfl ?_
  refine LL.nil (after_code ?_)
  refine LW.block ?_
  refine X.loopK (α := Nat) (fun i => [(13, i64 i)]) [1, 11, 12] (fun i => zb b10 :: .cells b1 33 (acL a) :: kw :: pw :: Rf) (fun i => i ≤ 2) (fun i => 2 - i) (0) (EnvLe.cons (by rfl) (EnvLe.nil)) (by repeat (exact HSub.refl _)) ?_ ?_
  · exact Nat.zero_le _
  · rintro i hI
    obtain rfl | rfl | rfl : i = 0 ∨ i = 1 ∨ i = 2 := by omega
    · refine LW.seq ?_
      refine LW.region ?_
      refine X.u (LU.lss Is.rfl' Is.rfl') rfl ?_
      refine LL.nil (after_code ?_)
      refine LW.seq ?_
      refine X.condT rfl ?_ ?_
      · rfl
      refine LW.skip (after_code ?_)
      refine LW.seq ?_
      refine LW.block ?_
      refine LW.seq ?_
      refine LW.region ?_
      refine X.u (LU.at Tryd.underlying58 ⟨Tryd.sizeOf25, Tryd.isAgg25⟩ Is.rfl' Is.rfl' (by omega) (rfl) (by simp)) rfl ?_
      refine X.u (LU.load ⟨Tryd.sizeOf25, Tryd.isAgg25⟩ Is.rfl' (by (simp; done)) (Part.one rfl)) rfl ?_
      refine X.u (LU.assignR Is.rfl') rfl ?_
      refine LL.nil (after_code ?_)
      refine LW.seq ?_
      refine LW.region ?_
      refine X.u (LU.moveR Is.rfl') rfl ?_
      refine X.u (LU.fieldO Tryd.underlying33 rfl Tryd.sizeOf9 (by decide) Is.rfl') rfl ?_
      refine X.u (LU.loadO 1 rfl ⟨Tryd.sizeOf9, Tryd.isAgg9⟩ Is.rfl' (Part.one rfl)) rfl ?_
      refine X.u (LU.fieldO Tryd.underlying33 rfl Tryd.sizeOf3 (by decide) Is.rfl') rfl ?_
      refine X.u (LU.loadO 1 rfl ⟨Tryd.sizeOf3, Tryd.isAgg3⟩ Is.rfl' (Part.one rfl)) rfl ?_
      refine X.u (LU.fieldO Tryd.underlying33 rfl Tryd.sizeOf3 (by decide) Is.rfl') rfl ?_
      refine X.u (LU.loadO 1 rfl ⟨Tryd.sizeOf3, Tryd.isAgg3⟩ Is.rfl' (Part.one rfl)) rfl ?_
      refine X.u (LU.call (iss_nil a.user a.now a.till) Tryd.func16 rfl rfl (Opds.cons Is.rfl' (Opds.cons Is.rfl' (Opds.cons Is.rfl' (Opds.cons Is.rfl' Opds.nil))))) rfl ?_
      refine X.u (LU.moveT Is.rfl') rfl ?_
      refine X.u (LU.extract Is.rfl' rfl) rfl ?_
      refine X.u (LU.extract Is.rfl' rfl) rfl ?_
      refine X.u (LU.assignR Is.rfl') rfl ?_
      refine X.u (LU.assignR Is.rfl') rfl ?_
      refine LL.nil (after_code ?_)
      refine LW.seq ?_
      refine LW.region ?_
      refine X.u (LU.moveR Is.rfl') rfl ?_
      refine X.u (LU.fieldO Tryd.underlying33 rfl Tryd.sizeOf9 (by decide) Is.rfl') rfl ?_
      refine X.u (LU.loadO 1 rfl ⟨Tryd.sizeOf9, Tryd.isAgg9⟩ Is.rfl' (Part.one rfl)) rfl ?_
      refine X.u (LU.fieldO Tryd.underlying33 rfl Tryd.sizeOf3 (by decide) Is.rfl') rfl ?_
      refine X.u (LU.loadO 1 rfl ⟨Tryd.sizeOf3, Tryd.isAgg3⟩ Is.rfl' (Part.one rfl)) rfl ?_
      refine X.u (LU.call (chk_nil a.text a.now) Tryd.func19 rfl rfl (Opds.cons Is.rfl' (Opds.cons Is.rfl' (Opds.cons Is.rfl' Opds.nil)))) rfl ?_
      refine X.u (LU.moveT Is.rfl') rfl ?_
      refine X.u (LU.extract Is.rfl' rfl) rfl ?_
      refine X.u (LU.extract Is.rfl' rfl) rfl ?_
      refine X.u (LU.assignR Is.rfl') rfl ?_
      refine X.u (LU.assignR Is.rfl') rfl ?_
      refine LL.nil (after_code ?_)
      refine LW.seq ?_
      refine LW.region ?_
      refine X.u (LU.moveR Is.rfl') rfl ?_
      refine X.u (LU.weak (LU.strneN Is.rfl' Is.rfl') (asB (c := false) rfl (by rfl))) rfl ?_
      refine X.u (LU.moveR Is.rfl') rfl ?_
      refine X.doF rfl rfl (LU.moveR (by exact Is.rfl')) rfl ?_
      refine X.doF rfl rfl (LU.weak (LU.neq (by exact Is.rfl') (by exact Is.rfl')) (asB (c := false) rfl (by rfl))) rfl ?_
      refine X.u (LU.pickF Is.rfl' (by exact Is.rfl')) rfl ?_
      refine X.u (LU.moveR Is.rfl') rfl ?_
      refine X.doF rfl rfl (LU.moveR (by exact Is.rfl')) rfl ?_
      refine X.doF rfl rfl (LU.weak (LU.strneN (by exact Is.rfl') (by exact Is.rfl')) (asB (c := false) rfl (by rfl))) rfl ?_
      refine X.u (LU.pickF Is.rfl' (by exact Is.rfl')) rfl ?_
      refine X.u (LU.moveR Is.rfl') rfl ?_
      refine X.doF rfl rfl (LU.moveR (by exact Is.rfl')) rfl ?_
      refine X.doF rfl rfl (LU.weak (LU.neq (by exact Is.rfl') (by exact Is.rfl')) (asB (c := false) rfl (by rfl))) rfl ?_
      refine X.u (LU.pickF Is.rfl' (by exact Is.rfl')) rfl ?_
      refine X.u (LU.moveR Is.rfl') rfl ?_
      refine X.doF rfl rfl (LU.moveR (by exact Is.rfl')) rfl ?_
      refine X.doF rfl rfl (LU.fieldO Tryd.underlying33 rfl Tryd.sizeOf9 (by decide) (by exact Is.rfl')) rfl ?_
      refine X.doF rfl rfl (LU.loadO 1 rfl ⟨Tryd.sizeOf9, Tryd.isAgg9⟩ (by exact Is.rfl') (Part.one rfl)) rfl ?_
      refine X.doF rfl rfl (LU.call (rev_nil a.text) Tryd.func20 rfl rfl (Opds.cons (by exact Is.rfl') (Opds.cons (by exact Is.rfl') Opds.nil))) rfl ?_
      refine X.doF rfl rfl (LU.weak (LU.neq (by exact Is.rfl') (by exact Is.rfl')) (asB (c := false) rfl (by rfl))) rfl ?_
      refine X.u (LU.pickF Is.rfl' (by exact Is.rfl')) rfl ?_
      refine X.u (LU.moveR Is.rfl') rfl ?_
      refine X.doF rfl rfl (LU.moveR (by exact Is.rfl')) rfl ?_
      refine X.doF rfl rfl (LU.call (len_nil) Tryd.func17 rfl rfl (Opds.cons (by exact Is.rfl') Opds.nil)) rfl ?_
      refine X.doF rfl rfl (LU.weak (LU.neq (by exact Is.rfl') (by exact Is.rfl')) (asB (c := false) rfl (by rfl))) rfl ?_
      refine X.u (LU.pickF Is.rfl' (by exact Is.rfl')) rfl ?_
      refine LL.nil (after_code ?_)
      refine X.condF rfl ?_ ?_
      · rfl
      refine LW.skip (after_blk (after_code ?_))
      refine LW.region ?_
      refine X.u (LU.addN Is.rfl' Is.rfl' (wrap_i64 (by omega) (by omega))) rfl ?_
      refine X.u (LU.moveR Is.rfl') rfl ?_
      refine LL.nil (after_rnd ?_)
      refine X.next (1) rfl (EnvLe.cons (by rfl) (EnvLe.nil)) (Keeps.cons (by exact Eq.trans (b := .raw _) rfl rfl) (Keeps.cons (by exact Eq.trans (b := .sl _ _ _) rfl rfl) (Keeps.cons (by exact Eq.trans (b := .raw _) rfl rfl) (Keeps.nil)))) (by repeat (exact HSub.refl _)) ?_ ?_
      · omega
      · omega
    · refine LW.seq ?_
      refine LW.region ?_
      refine X.u (LU.lss Is.rfl' Is.rfl') rfl ?_
      refine LL.nil (after_code ?_)
      refine LW.seq ?_
      refine X.condT rfl ?_ ?_
      · rfl
      refine LW.skip (after_code ?_)
      refine LW.seq ?_
      refine LW.block ?_
      refine LW.seq ?_
      refine LW.region ?_
      refine X.u (LU.at Tryd.underlying58 ⟨Tryd.sizeOf25, Tryd.isAgg25⟩ Is.rfl' Is.rfl' (by omega) (rfl) (by simp)) rfl ?_
      refine X.u (LU.load ⟨Tryd.sizeOf25, Tryd.isAgg25⟩ Is.rfl' (by (simp; done)) (Part.one rfl)) rfl ?_
      refine X.u (LU.assignR Is.rfl') rfl ?_
      refine LL.nil (after_code ?_)
      refine LW.seq ?_
      refine LW.region ?_
      refine X.u (LU.moveR Is.rfl') rfl ?_
      refine X.u (LU.fieldO Tryd.underlying33 rfl Tryd.sizeOf9 (by decide) Is.rfl') rfl ?_
      refine X.u (LU.loadO 1 rfl ⟨Tryd.sizeOf9, Tryd.isAgg9⟩ Is.rfl' (Part.one rfl)) rfl ?_
      refine X.u (LU.fieldO Tryd.underlying33 rfl Tryd.sizeOf3 (by decide) Is.rfl') rfl ?_
      refine X.u (LU.loadO 1 rfl ⟨Tryd.sizeOf3, Tryd.isAgg3⟩ Is.rfl' (Part.one rfl)) rfl ?_
      refine X.u (LU.fieldO Tryd.underlying33 rfl Tryd.sizeOf3 (by decide) Is.rfl') rfl ?_
      refine X.u (LU.loadO 1 rfl ⟨Tryd.sizeOf3, Tryd.isAgg3⟩ Is.rfl' (Part.one rfl)) rfl ?_
      refine X.u (LU.call1 0 rfl (iss_zero b10 a.user a.now a.till) Tryd.func16 rfl rfl (Opds.cons Is.rfl' (Opds.cons Is.rfl' (Opds.cons Is.rfl' (Opds.cons Is.rfl' Opds.nil))))) rfl ?_
      refine X.u (LU.moveT Is.rfl') rfl ?_
      refine X.u (LU.extract Is.rfl' rfl) rfl ?_
      refine X.u (LU.extract Is.rfl' rfl) rfl ?_
      refine X.u (LU.assignR Is.rfl') rfl ?_
      refine X.u (LU.assignR Is.rfl') rfl ?_
      refine LL.nil (after_code ?_)
      refine LW.seq ?_
      refine LW.region ?_
      refine X.u (LU.moveR Is.rfl') rfl ?_
      refine X.u (LU.fieldO Tryd.underlying33 rfl Tryd.sizeOf9 (by decide) Is.rfl') rfl ?_
      refine X.u (LU.loadO 1 rfl ⟨Tryd.sizeOf9, Tryd.isAgg9⟩ Is.rfl' (Part.one rfl)) rfl ?_
      refine X.u (LU.fieldO Tryd.underlying33 rfl Tryd.sizeOf3 (by decide) Is.rfl') rfl ?_
      refine X.u (LU.loadO 1 rfl ⟨Tryd.sizeOf3, Tryd.isAgg3⟩ Is.rfl' (Part.one rfl)) rfl ?_
      refine X.u (LU.call1 0 rfl (chk_zero b10 a.text a.now) Tryd.func19 rfl rfl (Opds.cons Is.rfl' (Opds.cons Is.rfl' (Opds.cons Is.rfl' Opds.nil)))) rfl ?_
      refine X.u (LU.moveT Is.rfl') rfl ?_
      refine X.u (LU.extract Is.rfl' rfl) rfl ?_
      refine X.u (LU.extract Is.rfl' rfl) rfl ?_
      refine X.u (LU.assignR Is.rfl') rfl ?_
      refine X.u (LU.assignR Is.rfl') rfl ?_
      refine LL.nil (after_code ?_)
      refine LW.seq ?_
      refine LW.region ?_
      refine X.u (LU.moveR Is.rfl') rfl ?_
      refine X.u (LU.weak (LU.strneN Is.rfl' Is.rfl') (asB (c := false) rfl (by rfl))) rfl ?_
      refine X.u (LU.moveR Is.rfl') rfl ?_
      refine X.doF rfl rfl (LU.moveR (by exact Is.rfl')) rfl ?_
      refine X.doF rfl rfl (LU.weak (LU.neq (by exact Is.rfl') (by exact Is.rfl')) (asB (c := false) rfl (by rfl))) rfl ?_
      refine X.u (LU.pickF Is.rfl' (by exact Is.rfl')) rfl ?_
      refine X.u (LU.moveR Is.rfl') rfl ?_
      refine X.doF rfl rfl (LU.moveR (by exact Is.rfl')) rfl ?_
      refine X.doF rfl rfl (LU.weak (LU.strneN (by exact Is.rfl') (by exact Is.rfl')) (asB (c := false) rfl (by rfl))) rfl ?_
      refine X.u (LU.pickF Is.rfl' (by exact Is.rfl')) rfl ?_
      refine X.u (LU.moveR Is.rfl') rfl ?_
      refine X.doF rfl rfl (LU.moveR (by exact Is.rfl')) rfl ?_
      refine X.doF rfl rfl (LU.weak (LU.neq (by exact Is.rfl') (by exact Is.rfl')) (asB (c := false) rfl (by rfl))) rfl ?_
      refine X.u (LU.pickF Is.rfl' (by exact Is.rfl')) rfl ?_
      refine X.u (LU.moveR Is.rfl') rfl ?_
      refine X.doF rfl rfl (LU.moveR (by exact Is.rfl')) rfl ?_
      refine X.doF rfl rfl (LU.fieldO Tryd.underlying33 rfl Tryd.sizeOf9 (by decide) (by exact Is.rfl')) rfl ?_
      refine X.doF rfl rfl (LU.loadO 1 rfl ⟨Tryd.sizeOf9, Tryd.isAgg9⟩ (by exact Is.rfl') (Part.one rfl)) rfl ?_
      refine X.doF rfl rfl (LU.call1 0 rfl (rev_zero b10 a.text) Tryd.func20 rfl rfl (Opds.cons (by exact Is.rfl') (Opds.cons (by exact Is.rfl') Opds.nil))) rfl ?_
      refine X.doF rfl rfl (LU.weak (LU.neq (by exact Is.rfl') (by exact Is.rfl')) (asB (c := false) rfl (by rfl))) rfl ?_
      refine X.u (LU.pickF Is.rfl' (by exact Is.rfl')) rfl ?_
      refine X.u (LU.moveR Is.rfl') rfl ?_
      refine X.doF rfl rfl (LU.moveR (by exact Is.rfl')) rfl ?_
      refine X.doF rfl rfl (LU.call1 0 rfl (len_zero b10) Tryd.func17 rfl rfl (Opds.cons (by exact Is.rfl') Opds.nil)) rfl ?_
      refine X.doF rfl rfl (LU.weak (LU.neq (by exact Is.rfl') (by exact Is.rfl')) (asB (c := false) rfl (by rfl))) rfl ?_
      refine X.u (LU.pickF Is.rfl' (by exact Is.rfl')) rfl ?_
      refine LL.nil (after_code ?_)
      refine X.condF rfl ?_ ?_
      · rfl
      refine LW.skip (after_blk (after_code ?_))
      refine LW.region ?_
      refine X.u (LU.addN Is.rfl' Is.rfl' (wrap_i64 (by omega) (by omega))) rfl ?_
      refine X.u (LU.moveR Is.rfl') rfl ?_
      refine LL.nil (after_rnd ?_)
      refine X.next (2) rfl (EnvLe.cons (by rfl) (EnvLe.nil)) (Keeps.cons (by exact Eq.trans (b := .raw _) rfl rfl) (Keeps.cons (by exact Eq.trans (b := .sl _ _ _) rfl rfl) (Keeps.cons (by exact Eq.trans (b := .raw _) rfl rfl) (Keeps.nil)))) (by repeat (exact HSub.refl _)) ?_ ?_
      · omega
      · omega
    · refine LW.seq ?_
      refine LW.region ?_
      refine X.u (LU.lss Is.rfl' Is.rfl') rfl ?_
      refine LL.nil (after_code ?_)
      refine LW.seq ?_
      refine X.condF rfl ?_ ?_
      · rfl
      refine LW.exit (exit_code (exit_rnd (exit_blk (after_code ?_))))
      refine LW.seq ?_
      refine LW.region ?_
      refine X.act (X.call (lives16_calls) Tryd.func14 rfl rfl rfl (by (refine HSub.pick 2 rfl ?_); (refine HSub.pick 2 rfl ?_); exact HSub.refl _) Opds.nil ?_)
      rintro r H' ⟨rfl, rfl⟩
      refine X.u (LU.assignR Is.rfl') rfl ?_
      refine LL.nil (after_code ?_)
      refine LW.ret (after_end ?_)
      refine X.ret (H' := [kw, pw]) (Res.one (by exact IsR rfl)) (by repeat (first | exact HSub.refl _ | refine HSub.pick 0 rfl ?_ | refine HSub.drop ?_)) ?_
      exact ⟨rfl, rfl⟩
theorem TokenNobody_row (x0 : List LV) (h0 : QAc x0) : LCalls Tryd.prog 7 [.agg x0] [kw, pw] (fun r H' => r = .raw (.bool true) ∧ H' = [kw, pw]) := by
  obtain ⟨a, rfl, ha⟩ := ac_of x0 h0
  exact nobody16_calls a
end Go.Proofs.YtnfeepmgdahmgaaDoor
