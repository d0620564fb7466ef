/- The meter: each function as it is written, as a function of what the meter has. -/
import Derived.Test.YtpimalihpnfdkaaLogJ
import Derived.Test.YtpimalihpnfdkaaProg
set_option linter.unusedVariables false
set_option linter.unusedSimpArgs false
namespace Go.Proofs.Ytpimalihpnfdkaa
open Go.RowKit Go.L
/-- A meter. -/
structure M where
  B : Int
  R : Int
  W : Int
  at_ : Int
  hits : Int
  used : Int
abbrev i64 (n : Int) : LV := .raw (.int .i64 n)
abbrev bl (b : Bool) : LV := .raw (.bool b)
abbrev ptr (g : Nat) : LV := .raw (.pointer (some ⟨g, 0, none⟩))
abbrev lim (B R W : Int) : LV := .agg [i64 B, i64 R, i64 W]
abbrev mA (g : Nat) (m : M) : Atom := .cells g 48 [i64 m.B, i64 m.R, i64 m.W, i64 m.at_, i64 m.hits, i64 m.used]
def rightP (B R W : Int) : Prop := 0 ≤ B ∧ 0 ≤ R ∧ 1 ≤ W ∧ B ≤ 1099511627776 ∧ R ≤ 1099511627776 ∧ W ≤ 1099511627776
instance (B R W : Int) : Decidable (rightP B R W) := by unfold rightP; exact inferInstance
set_option maxRecDepth 100000 in
theorem right_calls (B R W : Int) : LCalls Try.prog 53 [lim B R W] [] (fun r H' => r = bl (decide (rightP B R W)) ∧ H' = []) := by
  refine LCalls.of Try.func53 rfl Try.ntmps53 Try.results53 rfl (fun Rf => ?_)
  refine LW.seq ?_
  refine LW.region ?_
  refine X.act (X.box rfl Is.rfl' (by exact Cells.agg) (fun b1 => ?_))
  refine X.u (LU.assignR Is.rfl') rfl ?_
  refine LL.nil (after_code ?_)
  refine LW.seq ?_
  refine LW.region ?_
  refine X.u (LU.fieldO Try.underlying23 rfl Try.sizeOf3 (by decide) Is.rfl') rfl ?_
  refine X.u (LU.loadO 0 rfl ⟨Try.sizeOf3, Try.isAgg3⟩ Is.rfl' (Part.one rfl)) rfl ?_
  refine X.u (LU.fieldO Try.underlying23 rfl Try.sizeOf3 (by decide) Is.rfl') rfl ?_
  refine X.u (LU.loadO 0 rfl ⟨Try.sizeOf3, Try.isAgg3⟩ Is.rfl' (Part.one rfl)) rfl ?_
  refine X.u (LU.min2 Is.rfl' Is.rfl') rfl ?_
  refine X.u (LU.geq Is.rfl' Is.rfl') rfl ?_
  refine X.u (LU.moveR Is.rfl') rfl ?_
  refine X.gT rfl rfl (fun hg => LU.fieldO Try.underlying23 rfl Try.sizeOf3 (by decide) (by exact Is.rfl')) rfl ?_
  refine X.gT rfl rfl (fun hg => LU.loadO 0 rfl ⟨Try.sizeOf3, Try.isAgg3⟩ (by exact Is.whenE hg) (Part.one rfl)) rfl ?_
  refine X.gT rfl rfl (fun hg => LU.geq (by exact Is.whenE hg) (by exact Is.rfl')) rfl ?_
  refine X.u (LU.pickAnd Is.rfl' (fun hq => (by exact Is.whenE hq)) Is.rfl') rfl ?_
  refine X.u (LU.moveR Is.rfl') rfl ?_
  refine X.gT rfl rfl (fun hg => LU.fieldO Try.underlying23 rfl Try.sizeOf3 (by decide) (by exact Is.rfl')) rfl ?_
  refine X.gT rfl rfl (fun hg => LU.loadO 0 rfl ⟨Try.sizeOf3, Try.isAgg3⟩ (by exact Is.whenE hg) (Part.one rfl)) rfl ?_
  refine X.gT rfl rfl (fun hg => LU.fieldO Try.underlying23 rfl Try.sizeOf3 (by decide) (by exact Is.rfl')) rfl ?_
  refine X.gT rfl rfl (fun hg => LU.loadO 0 rfl ⟨Try.sizeOf3, Try.isAgg3⟩ (by exact Is.whenE hg) (Part.one rfl)) rfl ?_
  refine X.gT rfl rfl (fun hg => LU.fieldO Try.underlying23 rfl Try.sizeOf3 (by decide) (by exact Is.rfl')) rfl ?_
  refine X.gT rfl rfl (fun hg => LU.loadO 0 rfl ⟨Try.sizeOf3, Try.isAgg3⟩ (by exact Is.whenE hg) (Part.one rfl)) rfl ?_
  refine X.gT rfl rfl (fun hg => LU.max3 (by exact Is.whenE hg) (by exact Is.whenE hg) (by exact Is.whenE hg)) rfl ?_
  refine X.gT rfl rfl (fun hg => LU.leq (by exact Is.whenE hg) (by exact Is.rfl')) rfl ?_
  refine X.u (LU.pickAnd Is.rfl' (fun hq => (by exact Is.whenE hq)) Is.rfl') rfl ?_
  refine X.u (LU.assignR Is.rfl') rfl ?_
  refine LL.nil (after_code ?_)
  refine LW.ret (after_end ?_)
  refine X.ret (H' := []) (Res.one (by exact IsR rfl)) (by repeat (first | exact HSub.refl _ | refine HSub.pick 0 rfl ?_ | refine HSub.pick 1 rfl ?_ | refine HSub.pick 2 rfl ?_ | refine HSub.pick 3 rfl ?_ | refine HSub.pick 4 rfl ?_ | refine HSub.drop ?_)) ?_
  exact ⟨congrArg (fun b => LV.raw (.bool b)) (by rw [Bool.eq_iff_iff]; simp only [Bool.and_eq_true, decide_eq_true_eq, Int.max_le, Int.le_min]; unfold rightP; omega), rfl⟩
def noneM (m : M) : Prop := m.B = 0 ∧ m.R = 0 ∧ m.W = 0
instance (m : M) : Decidable (noneM m) := by unfold noneM; exact inferInstance
set_option maxRecDepth 100000 in
theorem none_calls (g : Nat) (m : M) : LCalls Try.prog 54 [ptr g] [mA g m] (fun r H' => r = bl (decide (noneM m)) ∧ H' = [mA g m]) := by
  refine LCalls.of Try.func54 rfl Try.ntmps54 Try.results54 rfl (fun Rf => ?_)
  refine LW.seq ?_
  refine LW.region ?_
  refine X.u (LU.assignR Is.rfl') rfl ?_
  refine LL.nil (after_code ?_)
  refine LW.seq ?_
  refine LW.region ?_
  refine X.u (LU.moveR Is.rfl') rfl ?_
  refine X.u (LU.nilEqS Try.underlying25 Is.rfl' Is.rfl') rfl ?_
  refine X.u (LU.moveR Is.rfl') rfl ?_
  refine X.doF rfl rfl (LU.moveR (by exact Is.rfl')) rfl ?_
  refine X.doF rfl rfl (LU.nilCheck (by exact Is.rfl')) rfl ?_
  refine X.doF rfl rfl (LU.fieldO Try.underlying48 rfl Try.sizeOf23 (by decide) (by exact Is.rfl')) rfl ?_
  refine X.doF rfl rfl (LU.loadO 0 rfl ⟨Try.sizeOf23, Try.isAgg23⟩ (by exact Is.rfl') (Part.sub (by exact Nat.le_of_ble_eq_true rfl))) rfl ?_
  refine X.doF rfl rfl (LU.build (places := #[(0, 1), (1, 1), (2, 1)]) Try.underlying23 Try.zeroValue23 (ones rfl) (by intro w; simp [Try.sizeOf3]) Parts.nil rfl) rfl ?_
  refine X.doF rfl rfl (LU.eqlA (by exact Is.rfl') (by exact Is.rfl') (RawL.cons (RawL.cons (RawL.cons (RawL.nil)))) (RawL.cons (RawL.cons (RawL.cons (RawL.nil)))) Try.eqGuardType23 rfl (EqR.struct Try.underlying23 Try.stoodInHeld23 (EqFs.cons rfl (part_one Try.isAgg3 rfl) (part_one Try.isAgg3 rfl) (EqR.int Try.underlying3) (EqFs.cons rfl (part_one Try.isAgg3 rfl) (part_one Try.isAgg3 rfl) (EqR.int Try.underlying3) (EqFs.one rfl (part_one Try.isAgg3 rfl) (part_one Try.isAgg3 rfl) (EqR.int Try.underlying3)))))) rfl ?_
  refine X.u (LU.pickF Is.rfl' (by exact Is.rfl')) rfl ?_
  refine X.u (LU.assignR Is.rfl') rfl ?_
  refine LL.nil (after_code ?_)
  refine LW.ret (after_end ?_)
  refine X.ret (H' := [mA g m]) (Res.one (by exact IsR rfl)) (by exact HSub.refl _) ?_
  exact ⟨congrArg (fun b => LV.raw (.bool b)) (by rw [Bool.eq_iff_iff]; simp only [Bool.and_eq_true, decide_eq_true_eq]; unfold noneM; exact Iff.rfl), rfl⟩
set_option maxRecDepth 100000 in
theorem none_nil : LCalls Try.prog 54 [.raw (.pointer none)] [] (fun r H' => r = bl true ∧ H' = []) := by
  refine LCalls.of Try.func54 rfl Try.ntmps54 Try.results54 rfl (fun Rf => ?_)
  refine LW.seq ?_
  refine LW.region ?_
  refine X.u (LU.assignR Is.rfl') rfl ?_
  refine LL.nil (after_code ?_)
  refine LW.seq ?_
  refine LW.region ?_
  refine X.u (LU.moveR Is.rfl') rfl ?_
  refine X.u (LU.nilEqN Try.underlying25 Is.rfl' Is.rfl') rfl ?_
  refine X.u (LU.moveR Is.rfl') rfl ?_
  refine X.skipF rfl rfl rfl ?_
  refine X.skipF rfl rfl rfl ?_
  refine X.skipF rfl rfl rfl ?_
  refine X.skipF rfl rfl rfl ?_
  refine X.skipF rfl rfl rfl ?_
  refine X.skipF rfl rfl rfl ?_
  refine X.u (LU.pickT Is.rfl' (by exact Is.rfl')) rfl ?_
  refine X.u (LU.assignR Is.rfl') rfl ?_
  refine LL.nil (after_code ?_)
  refine LW.ret (after_end ?_)
  refine X.ret (H' := []) (Res.one (by exact IsR rfl)) (by exact HSub.refl _) ?_
  exact ⟨rfl, rfl⟩
def newM (B R W : Int) : M := ⟨B, R, W, 0, 0, 0⟩
set_option maxRecDepth 100000 in
theorem new_calls (B R W : Int) : LCalls Try.prog 13 [lim B R W] [] (fun r H' => (¬ rightP B R W ∧ r = .tup [.raw (.pointer none), i64 2] ∧ H' = []) ∨ (rightP B R W ∧ ∃ g, r = .tup [ptr g, i64 0] ∧ H' = [mA g (newM B R W)])) := by
  refine LCalls.of Try.func13 rfl Try.ntmps13 Try.results13 rfl (fun Rf => ?_)
  refine LW.seq ?_
  refine LW.region ?_
  refine X.act (X.box rfl Is.rfl' (by exact Cells.agg) (fun b1 => ?_))
  refine X.u (LU.assignR Is.rfl') rfl ?_
  refine X.u (LU.assignR Is.rfl') rfl ?_
  refine LL.nil (after_code ?_)
  refine LW.seq ?_
  refine LW.seq ?_
  refine LW.region ?_
  refine X.u (LU.loadO 0 rfl ⟨Try.sizeOf23, Try.isAgg23⟩ Is.rfl' (Part.whole (by rfl))) rfl ?_
  refine X.u (LU.call (right_calls _ _ _) Try.func53 rfl rfl (Opds.cons Is.rfl' Opds.nil)) rfl ?_
  refine X.u (LU.not Is.rfl') rfl ?_
  refine LL.nil (after_code ?_)
  refine X.cond rfl (fun h1 => ?_) (fun h1 => ?_)
  · refine LW.seq ?_
    refine LW.region ?_
    refine X.u (LU.assignR Is.rfl') rfl ?_
    refine X.u (LU.assignR Is.rfl') rfl ?_
    refine LL.nil (after_code ?_)
    refine LW.ret (ret_code (after_end ?_))
    refine X.ret (H' := []) (Res.two (by exact IsR rfl) (by exact IsR rfl)) (by repeat (first | exact HSub.refl _ | refine HSub.pick 0 rfl ?_ | refine HSub.pick 1 rfl ?_ | refine HSub.pick 2 rfl ?_ | refine HSub.pick 3 rfl ?_ | refine HSub.pick 4 rfl ?_ | refine HSub.drop ?_)) ?_
    exact .inl ⟨by simpa using h1, rfl, rfl⟩
  · refine LW.skip (after_code ?_)
    refine LW.seq ?_
    refine LW.region ?_
    refine X.u (LU.loadO 0 rfl ⟨Try.sizeOf23, Try.isAgg23⟩ Is.rfl' (Part.whole (by rfl))) rfl ?_
    refine X.u (LU.build (places := #[(0, 3), (3, 2), (5, 1)]) Try.underlying48 Try.zeroValue48 (ones rfl) (by intro w; simp [Try.sizeOf23, Try.sizeOf3, Try.sizeOf46]) (Parts.cons Is.rfl' (by exact Cells.agg) Parts.nil) rfl) rfl ?_
    refine X.act (X.box rfl Is.rfl' (by exact Cells.agg) (fun b9 => ?_))
    refine X.u (LU.assignR Is.rfl') rfl ?_
    refine X.u (LU.assignR Is.rfl') rfl ?_
    refine LL.nil (after_code ?_)
    refine LW.ret (after_end ?_)
    refine X.ret (H' := [mA b9 (newM B R W)]) (Res.two (by exact IsR rfl) (by exact IsR rfl)) (by repeat (first | exact HSub.refl _ | refine HSub.pick 0 rfl ?_ | refine HSub.pick 1 rfl ?_ | refine HSub.pick 2 rfl ?_ | refine HSub.pick 3 rfl ?_ | refine HSub.pick 4 rfl ?_ | refine HSub.drop ?_)) ?_
    exact .inr ⟨by simpa using h1, b9, rfl, rfl⟩
set_option maxRecDepth 100000 in
theorem used_calls (g : Nat) (m : M) : LCalls Try.prog 18 [ptr g] [mA g m] (fun r H' => r = i64 (if noneM m then 0 else m.used) ∧ H' = [mA g m]) := by
  refine LCalls.of Try.func18 rfl Try.ntmps18 Try.results18 rfl (fun Rf => ?_)
  refine LW.seq ?_
  refine LW.region ?_
  refine X.u (LU.assignR Is.rfl') rfl ?_
  refine LL.nil (after_code ?_)
  refine LW.seq ?_
  refine LW.seq ?_
  refine LW.region ?_
  refine X.u (LU.moveR Is.rfl') rfl ?_
  refine X.u (LU.call1 0 rfl (none_calls g m) Try.func54 rfl rfl (Opds.cons Is.rfl' Opds.nil)) rfl ?_
  refine LL.nil (after_code ?_)
  refine X.cond rfl (fun h1 => ?_) (fun h1 => ?_)
  · refine LW.seq ?_
    refine LW.region ?_
    refine X.u (LU.assignR Is.rfl') rfl ?_
    refine LL.nil (after_code ?_)
    refine LW.ret (ret_code (after_end ?_))
    refine X.ret (H' := [mA g m]) (Res.one (by exact IsR rfl)) (by exact HSub.refl _) ?_
    exact ⟨by rw [if_pos (by simpa using h1)], rfl⟩
  · refine LW.skip (after_code ?_)
    refine LW.seq ?_
    refine LW.region ?_
    refine X.u (LU.moveR Is.rfl') rfl ?_
    refine X.u (LU.nilCheck Is.rfl') rfl ?_
    refine X.u (LU.fieldO Try.underlying48 rfl Try.sizeOf3 (by decide) Is.rfl') rfl ?_
    refine X.u (LU.loadO 0 rfl ⟨Try.sizeOf3, Try.isAgg3⟩ Is.rfl' (Part.one rfl)) rfl ?_
    refine X.u (LU.assignR Is.rfl') rfl ?_
    refine LL.nil (after_code ?_)
    refine LW.ret (after_end ?_)
    refine X.ret (H' := [mA g m]) (Res.one (by exact IsR rfl)) (by exact HSub.refl _) ?_
    exact ⟨by rw [if_neg (by simpa using h1)], rfl⟩
end Go.Proofs.Ytpimalihpnfdkaa
