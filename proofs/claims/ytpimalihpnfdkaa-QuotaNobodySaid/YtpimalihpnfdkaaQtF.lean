/- A meter that no call made; what is used. -/
import Derived.Test.YtpimalihpnfdkaaQtE
set_option linter.unusedVariables false
set_option linter.unusedSimpArgs false
namespace Go.Proofs.Ytpimalihpnfdkaa
open Go.RowKit Go.L
/-- 'none' says yes of what is handed over. -/
def Nobody (v : LV) (H : List Atom) : Prop := LCalls Try.prog 54 [v] H (fun r H' => r = bl true ∧ H' = H)
set_option maxRecDepth 100000 in
theorem hit_nb {v : Value} {H : List Atom} (h : Nobody (.raw v) H) (n : Int) : LCalls Try.prog 15 [.raw v, i64 n] H (fun r H' => r = i64 1 ∧ H' = H) := by
  refine LCalls.of Try.func15 rfl Try.ntmps15 Try.results15 rfl (fun Rf => ?_)
  refine LW.seq ?_
  refine LW.region ?_
  refine X.u (LU.assignR Is.rfl') rfl ?_
  refine LL.nil (after_code ?_)
  refine LW.seq ?_
  refine LW.seq ?_
  refine LW.region ?_
  refine X.u (LU.moveR Is.rfl') rfl ?_
  refine X.act (X.call (h) Try.func54 rfl rfl rfl (R := Rf) (HSub.refl _) (Opds.cons Is.rfl' Opds.nil) ?_)
  rintro r H' ⟨rfl, hq⟩
  have hq := hq.symm
  subst hq
  refine LL.nil (after_code ?_)
  refine X.condT rfl ?_ ?_
  · rfl
  refine LW.seq ?_
  refine LW.region ?_
  refine X.u (LU.assignR Is.rfl') rfl ?_
  refine LL.nil (after_code ?_)
  refine LW.ret (ret_code (after_end ?_))
  refine X.ret (H' := H) (Res.one (by exact IsR rfl)) (HSub.refl _) ?_
  exact ⟨rfl, rfl⟩
set_option maxRecDepth 100000 in
theorem charge_nb {v : Value} {H : List Atom} (h : Nobody (.raw v) H) (n : Int) : LCalls Try.prog 16 [.raw v, i64 n] H (fun r H' => r = i64 1 ∧ H' = H) := by
  refine LCalls.of Try.func16 rfl Try.ntmps16 Try.results16 rfl (fun Rf => ?_)
  refine LW.seq ?_
  refine LW.region ?_
  refine X.u (LU.assignR Is.rfl') rfl ?_
  refine LL.nil (after_code ?_)
  refine LW.seq ?_
  refine LW.block ?_
  refine LW.seq ?_
  refine LW.region ?_
  refine X.u (LU.moveR Is.rfl') rfl ?_
  refine X.act (X.call (h) Try.func54 rfl rfl rfl (R := Rf) (HSub.refl _) (Opds.cons Is.rfl' Opds.nil) ?_)
  rintro r H' ⟨rfl, hq⟩
  have hq := hq.symm
  subst hq
  refine X.u (LU.assignR Is.rfl') rfl ?_
  refine LL.nil (after_code ?_)
  refine X.condT rfl ?_ ?_
  · rfl
  refine LW.seq ?_
  refine LW.region ?_
  refine X.u (LU.assignR Is.rfl') rfl ?_
  refine LL.nil (after_code ?_)
  refine LW.ret (ret_blk (ret_code (after_end ?_)))
  refine X.ret (H' := H) (Res.one (by exact IsR rfl)) (HSub.refl _) ?_
  exact ⟨rfl, rfl⟩
set_option maxRecDepth 100000 in
theorem refund_nb {v : Value} {H : List Atom} (h : Nobody (.raw v) H) (n : Int) : LCalls Try.prog 17 [.raw v, i64 n] H (fun r H' => r = i64 1 ∧ H' = H) := by
  refine LCalls.of Try.func17 rfl Try.ntmps17 Try.results17 rfl (fun Rf => ?_)
  refine LW.seq ?_
  refine LW.region ?_
  refine X.u (LU.assignR Is.rfl') rfl ?_
  refine LL.nil (after_code ?_)
  refine LW.seq ?_
  refine LW.block ?_
  refine LW.seq ?_
  refine LW.region ?_
  refine X.u (LU.moveR Is.rfl') rfl ?_
  refine X.act (X.call (h) Try.func54 rfl rfl rfl (R := Rf) (HSub.refl _) (Opds.cons Is.rfl' Opds.nil) ?_)
  rintro r H' ⟨rfl, hq⟩
  have hq := hq.symm
  subst hq
  refine X.u (LU.assignR Is.rfl') rfl ?_
  refine LL.nil (after_code ?_)
  refine X.condT rfl ?_ ?_
  · rfl
  refine LW.seq ?_
  refine LW.region ?_
  refine X.u (LU.assignR Is.rfl') rfl ?_
  refine LL.nil (after_code ?_)
  refine LW.ret (ret_blk (ret_code (after_end ?_)))
  refine X.ret (H' := H) (Res.one (by exact IsR rfl)) (HSub.refl _) ?_
  exact ⟨rfl, rfl⟩
set_option maxRecDepth 100000 in
theorem used_nb {v : Value} {H : List Atom} (h : Nobody (.raw v) H) : LCalls Try.prog 18 [.raw v] H (fun r H' => r = i64 0 ∧ H' = H) := by
  refine LCalls.of Try.func18 rfl Try.ntmps18 Try.results18 rfl (fun Rf => ?_)
  refine LW.seq ?_
  refine LW.region ?_
  refine X.u (LU.assignR Is.rfl') rfl ?_
  refine LL.nil (after_code ?_)
  refine LW.seq ?_
  refine LW.seq ?_
  refine LW.region ?_
  refine X.u (LU.moveR Is.rfl') rfl ?_
  refine X.act (X.call (h) Try.func54 rfl rfl rfl (R := Rf) (HSub.refl _) (Opds.cons Is.rfl' Opds.nil) ?_)
  rintro r H' ⟨rfl, hq⟩
  have hq := hq.symm
  subst hq
  refine LL.nil (after_code ?_)
  refine X.condT rfl ?_ ?_
  · rfl
  refine LW.seq ?_
  refine LW.region ?_
  refine X.u (LU.assignR Is.rfl') rfl ?_
  refine LL.nil (after_code ?_)
  refine LW.ret (ret_code (after_end ?_))
  refine X.ret (H' := H) (Res.one (by exact IsR rfl)) (HSub.refl _) ?_
  exact ⟨rfl, rfl⟩
set_option maxRecDepth 100000 in
theorem set_nb {v : Value} {H : List Atom} (h : Nobody (.raw v) H) (B R W : Int) : LCalls Try.prog 23 [.raw v, lim B R W] H (fun r H' => r = i64 1 ∧ H' = H) := by
  refine LCalls.of Try.func23 rfl Try.ntmps23 Try.results23 rfl (fun Rf => ?_)
  refine LW.seq ?_
  refine LW.region ?_
  refine X.act (X.box rfl Is.rfl' (by exact Cells.agg) (fun b3 => ?_))
  refine X.u (LU.assignR Is.rfl') rfl ?_
  refine LL.nil (after_code ?_)
  refine LW.seq ?_
  refine LW.block ?_
  refine LW.seq ?_
  refine LW.region ?_
  refine X.u (LU.moveR Is.rfl') rfl ?_
  refine X.act (X.call (h) Try.func54 rfl rfl rfl (R := .cells b3 23 [i64 B, i64 R, i64 W] :: Rf) HSub.mid (Opds.cons Is.rfl' Opds.nil) ?_)
  rintro r H' ⟨rfl, hq⟩
  have hq := hq.symm
  subst hq
  refine X.u (LU.assignR Is.rfl') rfl ?_
  refine LL.nil (after_code ?_)
  refine X.condT rfl ?_ ?_
  · rfl
  refine LW.seq ?_
  refine LW.region ?_
  refine X.u (LU.assignR Is.rfl') rfl ?_
  refine LL.nil (after_code ?_)
  refine LW.ret (ret_blk (ret_code (after_end ?_)))
  refine X.ret (H' := H) (Res.one (by exact IsR rfl)) (HSub.perm List.perm_middle |>.trans (HSub.drop (HSub.refl _))) ?_
  exact ⟨rfl, rfl⟩
set_option maxRecDepth 100000 in
theorem hits_nb {v : Value} {H : List Atom} (h : Nobody (.raw v) H) (n : Int) : LCalls Try.prog 25 [.raw v, i64 n] H (fun r H' => r = i64 0 ∧ H' = H) := by
  refine LCalls.of Try.func25 rfl Try.ntmps25 Try.results25 rfl (fun Rf => ?_)
  refine LW.seq ?_
  refine LW.region ?_
  refine X.u (LU.assignR Is.rfl') rfl ?_
  refine LL.nil (after_code ?_)
  refine LW.seq ?_
  refine LW.seq ?_
  refine X.drawM 21 rfl (by kernel_rfl) rfl ?_
  refine QD.u (LU.moveR Is.rfl') rfl ?_
  refine QD.u (LU.callP (R := Rf) (List.Perm.refl _) (h) Try.func54 rfl rfl (Opds.cons Is.rfl' Opds.nil)) rfl ?_
  refine QD.u (LU.moveR Is.rfl') rfl ?_
  refine QD.skipF rfl rfl rfl ?_
  refine QD.skipF rfl rfl rfl ?_
  refine QD.u (LU.pickT Is.rfl' (by exact Is.rfl')) rfl ?_
  refine QD.u (LU.moveR Is.rfl') rfl ?_
  refine QD.skipF rfl rfl rfl ?_
  refine QD.skipF rfl rfl rfl ?_
  refine QD.skipF rfl rfl rfl ?_
  refine QD.skipF rfl rfl rfl ?_
  refine QD.skipF rfl rfl rfl ?_
  refine QD.skipF rfl rfl rfl ?_
  refine QD.skipF rfl rfl rfl ?_
  refine QD.skipF rfl rfl rfl ?_
  refine QD.skipF rfl rfl rfl ?_
  refine QD.skipF rfl rfl rfl ?_
  refine QD.skipF rfl rfl rfl ?_
  refine QD.skipF rfl rfl rfl ?_
  refine QD.skipF rfl rfl rfl ?_
  refine QD.u (LU.pickT Is.rfl' (by exact Is.rfl')) rfl ?_
  refine QD.nil ?_
  refine LL.nil (after_code ?_)
  refine X.condT rfl ?_ ?_
  · rfl
  refine LW.seq ?_
  refine LW.region ?_
  refine X.u (LU.assignR Is.rfl') rfl ?_
  refine LL.nil (after_code ?_)
  refine LW.ret (ret_code (after_end ?_))
  refine X.ret (H' := H) (Res.one (by exact IsR rfl)) (HSub.refl _) ?_
  exact ⟨rfl, rfl⟩
theorem nb_nil : Nobody (.raw (.pointer none)) [] := none_nil
theorem nb_zero (g : Nat) : Nobody (ptr g) [mA g ⟨0, 0, 0, 0, 0, 0⟩] := (none_calls g ⟨0, 0, 0, 0, 0, 0⟩).mono fun r H' ⟨h1, h2⟩ => ⟨by rw [h1, decide_eq_true (by decide)], h2⟩
abbrev encAct (a : Int × Int × Int × Int × Int) : List LV := [i64 a.1, i64 a.2.1, i64 a.2.2.1, i64 a.2.2.2.1, i64 a.2.2.2.2]
set_option maxRecDepth 100000 in
theorem nobody_calls (k n B R W : Int) : LCalls Try.prog 7 [.agg (encAct (k, n, B, R, W))] [] (fun r H' => r = bl true ∧ H' = []) := by
  refine LCalls.of Try.func7 rfl Try.ntmps7 Try.results7 rfl (fun Rf => ?_)
  refine LW.seq ?_
  refine LW.region ?_
  refine X.act (X.box rfl Is.rfl' (by exact Cells.agg) (fun b1 => ?_))
  refine X.u (LU.assignR Is.rfl') rfl ?_
  refine LL.nil (after_code ?_)
  refine LW.seq ?_
  refine LW.seq ?_
  refine LW.region ?_
  refine X.u (LU.build (places := #[(0, 3), (3, 2), (5, 1)]) Try.underlying48 Try.zeroValue48 (ones rfl) (by intro w; simp [Try.sizeOf23, Try.sizeOf3, Try.sizeOf46]) Parts.nil rfl) rfl ?_
  refine X.act (X.box rfl Is.rfl' (by exact Cells.agg) (fun b6 => ?_))
  refine X.u (LU.lits Try.underlying49 Try.sizeOf25 Try.zeroValue25 (ones rfl) rfl (by decide) (by decide) (Elems.cons Is.rfl' (by exact Cells.raw rfl) (Elems.cons Is.rfl' (by exact Cells.raw rfl) Elems.nil)) (by simp) rfl) rfl ?_
  refine X.u (LU.lenN Try.underlying49 Is.rfl' (by (simp only [Option.getD_some, Option.getD_none, byteEls_length, intEls_length, List.length_append, List.length_cons, List.length_nil, List.length_map, List.length_drop, List.length_take, Int.toNat_natCast]; rfl))) rfl ?_
  refine X.u (LU.moveR Is.rfl') rfl ?_
  refine LL.nil (after_code ?_)
  refine LW.block ?_
  refine X.loopK (α := Nat) (fun i => [(9, i64 i)]) [1, 7, 8] (fun i => [mA b6 ⟨0, 0, 0, 0, 0, 0⟩, .cells b1 34 (encAct (k, n, B, R, W))] ++ Rf) (fun i => i ≤ 2) (fun i => 2 - i) (0) (EnvLe.cons (by rfl) (EnvLe.nil)) (by exact HSub.refl _) ?_ ?_
  · exact Nat.zero_le _
  · rintro i hI
    obtain rfl | rfl | rfl : i = 0 ∨ i = 1 ∨ i = 2 := by omega
    · refine LW.seq ?_
      refine LW.region ?_
      refine X.u (LU.lss Is.rfl' Is.rfl') rfl ?_
      refine LL.nil (after_code ?_)
      refine LW.seq ?_
      refine X.condT rfl ?_ ?_
      · rfl
      refine LW.skip (after_code ?_)
      refine LW.seq ?_
      refine LW.block ?_
      refine LW.seq ?_
      refine LW.region ?_
      refine X.u (LU.at Try.underlying49 ⟨Try.sizeOf25, Try.isAgg25⟩ Is.rfl' Is.rfl' (by omega) rfl (by simp)) rfl ?_
      refine X.u (LU.load ⟨Try.sizeOf25, Try.isAgg25⟩ Is.rfl' (by rfl) (Part.one rfl)) rfl ?_
      refine X.u (LU.assignR Is.rfl') rfl ?_
      refine LL.nil (after_code ?_)
      refine LW.seq ?_
      refine LW.region ?_
      refine X.u (LU.moveR Is.rfl') rfl ?_
      refine X.u (LU.fieldO Try.underlying34 rfl Try.sizeOf23 (by decide) Is.rfl') rfl ?_
      refine X.u (LU.loadO 1 rfl ⟨Try.sizeOf23, Try.isAgg23⟩ Is.rfl' (Part.sub (by exact Nat.le_of_ble_eq_true rfl))) rfl ?_
      refine X.act (X.call (set_nb nb_nil B R W) Try.func23 rfl rfl rfl (R := mA b6 ⟨0, 0, 0, 0, 0, 0⟩ :: .cells b1 34 (encAct (k, n, B, R, W)) :: Rf) (HSub.refl _) (Opds.cons Is.rfl' (Opds.cons Is.rfl' Opds.nil)) ?_)
      rintro r H' ⟨rfl, rfl⟩
      refine X.u (LU.weak (LU.neq Is.rfl' Is.rfl') (asB (c := false) rfl (by decide))) rfl ?_
      refine X.u (LU.moveR Is.rfl') rfl ?_
      refine X.doF rfl rfl (LU.moveR (by exact Is.rfl')) rfl ?_
      refine X.doF rfl rfl (LU.fieldO Try.underlying34 rfl Try.sizeOf3 (by decide) (by exact Is.rfl')) rfl ?_
      refine X.doF rfl rfl (LU.loadO 1 rfl ⟨Try.sizeOf3, Try.isAgg3⟩ (by exact Is.rfl') (Part.one rfl)) rfl ?_
      refine X.actG rfl rfl (X.call (hit_nb nb_nil n) Try.func15 rfl rfl rfl (R := mA b6 ⟨0, 0, 0, 0, 0, 0⟩ :: .cells b1 34 (encAct (k, n, B, R, W)) :: Rf) (HSub.refl _) (Opds.cons (by exact Is.rfl') (Opds.cons (by exact Is.rfl') Opds.nil)) ?_)
      rintro r H' ⟨rfl, rfl⟩
      refine X.doF rfl rfl (LU.weak (LU.neq (by exact Is.rfl') (by exact Is.rfl')) (asB (c := false) rfl (by decide))) rfl ?_
      refine X.u (LU.pickF Is.rfl' (by exact Is.rfl')) rfl ?_
      refine X.u (LU.moveR Is.rfl') rfl ?_
      refine X.doF rfl rfl (LU.moveR (by exact Is.rfl')) rfl ?_
      refine X.doF rfl rfl (LU.fieldO Try.underlying34 rfl Try.sizeOf3 (by decide) (by exact Is.rfl')) rfl ?_
      refine X.doF rfl rfl (LU.loadO 1 rfl ⟨Try.sizeOf3, Try.isAgg3⟩ (by exact Is.rfl') (Part.one rfl)) rfl ?_
      refine X.actG rfl rfl (X.call (charge_nb nb_nil n) Try.func16 rfl rfl rfl (R := mA b6 ⟨0, 0, 0, 0, 0, 0⟩ :: .cells b1 34 (encAct (k, n, B, R, W)) :: Rf) (HSub.refl _) (Opds.cons (by exact Is.rfl') (Opds.cons (by exact Is.rfl') Opds.nil)) ?_)
      rintro r H' ⟨rfl, rfl⟩
      refine X.doF rfl rfl (LU.weak (LU.neq (by exact Is.rfl') (by exact Is.rfl')) (asB (c := false) rfl (by decide))) rfl ?_
      refine X.u (LU.pickF Is.rfl' (by exact Is.rfl')) rfl ?_
      refine X.u (LU.moveR Is.rfl') rfl ?_
      refine X.doF rfl rfl (LU.moveR (by exact Is.rfl')) rfl ?_
      refine X.doF rfl rfl (LU.fieldO Try.underlying34 rfl Try.sizeOf3 (by decide) (by exact Is.rfl')) rfl ?_
      refine X.doF rfl rfl (LU.loadO 1 rfl ⟨Try.sizeOf3, Try.isAgg3⟩ (by exact Is.rfl') (Part.one rfl)) rfl ?_
      refine X.actG rfl rfl (X.call (refund_nb nb_nil n) Try.func17 rfl rfl rfl (R := mA b6 ⟨0, 0, 0, 0, 0, 0⟩ :: .cells b1 34 (encAct (k, n, B, R, W)) :: Rf) (HSub.refl _) (Opds.cons (by exact Is.rfl') (Opds.cons (by exact Is.rfl') Opds.nil)) ?_)
      rintro r H' ⟨rfl, rfl⟩
      refine X.doF rfl rfl (LU.weak (LU.neq (by exact Is.rfl') (by exact Is.rfl')) (asB (c := false) rfl (by decide))) rfl ?_
      refine X.u (LU.pickF Is.rfl' (by exact Is.rfl')) rfl ?_
      refine X.u (LU.moveR Is.rfl') rfl ?_
      refine X.doF rfl rfl (LU.moveR (by exact Is.rfl')) rfl ?_
      refine X.doF rfl rfl (LU.fieldO Try.underlying34 rfl Try.sizeOf3 (by decide) (by exact Is.rfl')) rfl ?_
      refine X.doF rfl rfl (LU.loadO 1 rfl ⟨Try.sizeOf3, Try.isAgg3⟩ (by exact Is.rfl') (Part.one rfl)) rfl ?_
      refine X.actG rfl rfl (X.call (hits_nb nb_nil n) Try.func25 rfl rfl rfl (R := mA b6 ⟨0, 0, 0, 0, 0, 0⟩ :: .cells b1 34 (encAct (k, n, B, R, W)) :: Rf) (HSub.refl _) (Opds.cons (by exact Is.rfl') (Opds.cons (by exact Is.rfl') Opds.nil)) ?_)
      rintro r H' ⟨rfl, rfl⟩
      refine X.doF rfl rfl (LU.moveR (by exact Is.rfl')) rfl ?_
      refine X.actG rfl rfl (X.call (used_nb nb_nil) Try.func18 rfl rfl rfl (R := mA b6 ⟨0, 0, 0, 0, 0, 0⟩ :: .cells b1 34 (encAct (k, n, B, R, W)) :: Rf) (HSub.refl _) (Opds.cons (by exact Is.rfl') Opds.nil) ?_)
      rintro r H' ⟨rfl, rfl⟩
      refine X.doF rfl rfl (LU.addN (by exact Is.rfl') (by exact Is.rfl') (wrap_i64 (by omega) (by omega))) rfl ?_
      refine X.doF rfl rfl (LU.weak (LU.neq (by exact Is.rfl') (by exact Is.rfl')) (asB (c := false) rfl (by decide))) rfl ?_
      refine X.u (LU.pickF Is.rfl' (by exact Is.rfl')) rfl ?_
      refine LL.nil (after_code ?_)
      refine X.condF rfl ?_ ?_
      · rfl
      refine LW.skip (after_blk (after_code ?_))
      refine LW.region ?_
      refine X.u (LU.addN Is.rfl' Is.rfl' (wrap_i64 (by omega) (by omega))) rfl ?_
      refine X.u (LU.moveR Is.rfl') rfl ?_
      refine LL.nil (after_rnd ?_)
      refine X.next (1) rfl (EnvLe.cons (by rfl) (EnvLe.nil)) (Keeps.cons rfl (Keeps.cons rfl (Keeps.cons rfl (Keeps.nil)))) (by exact HSub.refl _) ?_ ?_
      · omega
      · omega
    · refine LW.seq ?_
      refine LW.region ?_
      refine X.u (LU.lss Is.rfl' Is.rfl') rfl ?_
      refine LL.nil (after_code ?_)
      refine LW.seq ?_
      refine X.condT rfl ?_ ?_
      · rfl
      refine LW.skip (after_code ?_)
      refine LW.seq ?_
      refine LW.block ?_
      refine LW.seq ?_
      refine LW.region ?_
      refine X.u (LU.at Try.underlying49 ⟨Try.sizeOf25, Try.isAgg25⟩ Is.rfl' Is.rfl' (by omega) rfl (by simp)) rfl ?_
      refine X.u (LU.load ⟨Try.sizeOf25, Try.isAgg25⟩ Is.rfl' (by rfl) (Part.one rfl)) rfl ?_
      refine X.u (LU.assignR Is.rfl') rfl ?_
      refine LL.nil (after_code ?_)
      refine LW.seq ?_
      refine LW.region ?_
      refine X.u (LU.moveR Is.rfl') rfl ?_
      refine X.u (LU.fieldO Try.underlying34 rfl Try.sizeOf23 (by decide) Is.rfl') rfl ?_
      refine X.u (LU.loadO 1 rfl ⟨Try.sizeOf23, Try.isAgg23⟩ Is.rfl' (Part.sub (by exact Nat.le_of_ble_eq_true rfl))) rfl ?_
      refine X.act (X.call (set_nb (nb_zero b6) B R W) Try.func23 rfl rfl rfl (R := .cells b1 34 (encAct (k, n, B, R, W)) :: Rf) (HSub.refl _) (Opds.cons Is.rfl' (Opds.cons Is.rfl' Opds.nil)) ?_)
      rintro r H' ⟨rfl, rfl⟩
      refine X.u (LU.weak (LU.neq Is.rfl' Is.rfl') (asB (c := false) rfl (by decide))) rfl ?_
      refine X.u (LU.moveR Is.rfl') rfl ?_
      refine X.doF rfl rfl (LU.moveR (by exact Is.rfl')) rfl ?_
      refine X.doF rfl rfl (LU.fieldO Try.underlying34 rfl Try.sizeOf3 (by decide) (by exact Is.rfl')) rfl ?_
      refine X.doF rfl rfl (LU.loadO 1 rfl ⟨Try.sizeOf3, Try.isAgg3⟩ (by exact Is.rfl') (Part.one rfl)) rfl ?_
      refine X.actG rfl rfl (X.call (hit_nb (nb_zero b6) n) Try.func15 rfl rfl rfl (R := .cells b1 34 (encAct (k, n, B, R, W)) :: Rf) (HSub.refl _) (Opds.cons (by exact Is.rfl') (Opds.cons (by exact Is.rfl') Opds.nil)) ?_)
      rintro r H' ⟨rfl, rfl⟩
      refine X.doF rfl rfl (LU.weak (LU.neq (by exact Is.rfl') (by exact Is.rfl')) (asB (c := false) rfl (by decide))) rfl ?_
      refine X.u (LU.pickF Is.rfl' (by exact Is.rfl')) rfl ?_
      refine X.u (LU.moveR Is.rfl') rfl ?_
      refine X.doF rfl rfl (LU.moveR (by exact Is.rfl')) rfl ?_
      refine X.doF rfl rfl (LU.fieldO Try.underlying34 rfl Try.sizeOf3 (by decide) (by exact Is.rfl')) rfl ?_
      refine X.doF rfl rfl (LU.loadO 1 rfl ⟨Try.sizeOf3, Try.isAgg3⟩ (by exact Is.rfl') (Part.one rfl)) rfl ?_
      refine X.actG rfl rfl (X.call (charge_nb (nb_zero b6) n) Try.func16 rfl rfl rfl (R := .cells b1 34 (encAct (k, n, B, R, W)) :: Rf) (HSub.refl _) (Opds.cons (by exact Is.rfl') (Opds.cons (by exact Is.rfl') Opds.nil)) ?_)
      rintro r H' ⟨rfl, rfl⟩
      refine X.doF rfl rfl (LU.weak (LU.neq (by exact Is.rfl') (by exact Is.rfl')) (asB (c := false) rfl (by decide))) rfl ?_
      refine X.u (LU.pickF Is.rfl' (by exact Is.rfl')) rfl ?_
      refine X.u (LU.moveR Is.rfl') rfl ?_
      refine X.doF rfl rfl (LU.moveR (by exact Is.rfl')) rfl ?_
      refine X.doF rfl rfl (LU.fieldO Try.underlying34 rfl Try.sizeOf3 (by decide) (by exact Is.rfl')) rfl ?_
      refine X.doF rfl rfl (LU.loadO 1 rfl ⟨Try.sizeOf3, Try.isAgg3⟩ (by exact Is.rfl') (Part.one rfl)) rfl ?_
      refine X.actG rfl rfl (X.call (refund_nb (nb_zero b6) n) Try.func17 rfl rfl rfl (R := .cells b1 34 (encAct (k, n, B, R, W)) :: Rf) (HSub.refl _) (Opds.cons (by exact Is.rfl') (Opds.cons (by exact Is.rfl') Opds.nil)) ?_)
      rintro r H' ⟨rfl, rfl⟩
      refine X.doF rfl rfl (LU.weak (LU.neq (by exact Is.rfl') (by exact Is.rfl')) (asB (c := false) rfl (by decide))) rfl ?_
      refine X.u (LU.pickF Is.rfl' (by exact Is.rfl')) rfl ?_
      refine X.u (LU.moveR Is.rfl') rfl ?_
      refine X.doF rfl rfl (LU.moveR (by exact Is.rfl')) rfl ?_
      refine X.doF rfl rfl (LU.fieldO Try.underlying34 rfl Try.sizeOf3 (by decide) (by exact Is.rfl')) rfl ?_
      refine X.doF rfl rfl (LU.loadO 1 rfl ⟨Try.sizeOf3, Try.isAgg3⟩ (by exact Is.rfl') (Part.one rfl)) rfl ?_
      refine X.actG rfl rfl (X.call (hits_nb (nb_zero b6) n) Try.func25 rfl rfl rfl (R := .cells b1 34 (encAct (k, n, B, R, W)) :: Rf) (HSub.refl _) (Opds.cons (by exact Is.rfl') (Opds.cons (by exact Is.rfl') Opds.nil)) ?_)
      rintro r H' ⟨rfl, rfl⟩
      refine X.doF rfl rfl (LU.moveR (by exact Is.rfl')) rfl ?_
      refine X.actG rfl rfl (X.call (used_nb (nb_zero b6)) Try.func18 rfl rfl rfl (R := .cells b1 34 (encAct (k, n, B, R, W)) :: Rf) (HSub.refl _) (Opds.cons (by exact Is.rfl') Opds.nil) ?_)
      rintro r H' ⟨rfl, rfl⟩
      refine X.doF rfl rfl (LU.addN (by exact Is.rfl') (by exact Is.rfl') (wrap_i64 (by omega) (by omega))) rfl ?_
      refine X.doF rfl rfl (LU.weak (LU.neq (by exact Is.rfl') (by exact Is.rfl')) (asB (c := false) rfl (by decide))) rfl ?_
      refine X.u (LU.pickF Is.rfl' (by exact Is.rfl')) rfl ?_
      refine LL.nil (after_code ?_)
      refine X.condF rfl ?_ ?_
      · rfl
      refine LW.skip (after_blk (after_code ?_))
      refine LW.region ?_
      refine X.u (LU.addN Is.rfl' Is.rfl' (wrap_i64 (by omega) (by omega))) rfl ?_
      refine X.u (LU.moveR Is.rfl') rfl ?_
      refine LL.nil (after_rnd ?_)
      refine X.next (2) rfl (EnvLe.cons (by rfl) (EnvLe.nil)) (Keeps.cons rfl (Keeps.cons rfl (Keeps.cons rfl (Keeps.nil)))) (by exact HSub.refl _) ?_ ?_
      · omega
      · omega
    · refine LW.seq ?_
      refine LW.region ?_
      refine X.u (LU.lss Is.rfl' Is.rfl') rfl ?_
      refine LL.nil (after_code ?_)
      refine LW.seq ?_
      refine X.condF rfl ?_ ?_
      · rfl
      refine LW.exit (exit_code (exit_rnd (exit_blk (after_code ?_))))
      refine LW.seq ?_
      refine LW.region ?_
      refine X.u (LU.call (lives_calls) Try.func14 rfl rfl Opds.nil) rfl ?_
      refine X.u (LU.assignR Is.rfl') rfl ?_
      refine LL.nil (after_code ?_)
      refine LW.ret (after_end ?_)
      refine X.ret (H' := []) (Res.one (by exact IsR rfl)) (by repeat (first | exact HSub.refl _ | refine HSub.pick 0 rfl ?_ | refine HSub.pick 1 rfl ?_ | refine HSub.pick 2 rfl ?_ | refine HSub.pick 3 rfl ?_ | refine HSub.pick 4 rfl ?_ | refine HSub.drop ?_)) ?_
      exact ⟨rfl, rfl⟩
end Go.Proofs.Ytpimalihpnfdkaa
