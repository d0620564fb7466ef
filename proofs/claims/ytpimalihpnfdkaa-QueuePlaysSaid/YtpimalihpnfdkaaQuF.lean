/- The merge queue: lists compared; the chapter's example. -/
import Derived.Test.YtpimalihpnfdkaaQuE
set_option linter.unusedVariables false
set_option linter.unusedSimpArgs false
namespace Go.Proofs.Ytpimalihpnfdkaa
open Go.RowKit Go.L
attribute [local irreducible] LL LW LO
theorem take_snocI {l : List Int} {i : Nat} {x : Int} (h : l[i]? = some x) : l.take (i + 1) = l.take i ++ [x] := by
  obtain ⟨h1, h2⟩ := List.getElem?_eq_some_iff.1 h
  rw [List.take_succ_eq_append_getElem h1, h2]
set_option maxRecDepth 100000 in
theorem ints_calls (a b : List Int) (ka kb : Cap) (ha : a.length < 140737488355328) (hb : b.length < 140737488355328) : LCalls Try.prog 38 [Ints a ka, Ints b kb] [] (fun r H' => r = bl (decide (a = b)) ∧ H' = []) := by
  refine LCalls.of Try.func38 rfl Try.ntmps38 Try.results38 rfl (fun Rf => ?_)
  refine LW.seq ?_
  refine LW.region ?_
  refine X.u (LU.assignR Is.rfl') rfl ?_
  refine LL.nil (after_code ?_)
  refine LW.seq ?_
  refine LW.seq ?_
  refine LW.region ?_
  refine X.u (LU.moveS Is.rfl') rfl ?_
  refine X.u (LU.lenN Try.underlying24 Is.rfl' (by (simp only [Option.getD_some, Option.getD_none, byteEls_length, intEls_length, List.length_append, List.length_cons, List.length_nil, List.length_map, List.length_drop, List.length_take, Int.toNat_natCast]; rfl))) rfl ?_
  refine X.u (LU.moveS Is.rfl') rfl ?_
  refine X.u (LU.lenN Try.underlying24 Is.rfl' (by (simp only [Option.getD_some, Option.getD_none, byteEls_length, intEls_length, List.length_append, List.length_cons, List.length_nil, List.length_map, List.length_drop, List.length_take, Int.toNat_natCast]; rfl))) rfl ?_
  refine X.u (LU.neq Is.rfl' Is.rfl') rfl ?_
  refine LL.nil (after_code ?_)
  refine X.cond rfl (fun h1 => ?_) (fun h1 => ?_)
  · have h1 : a.length ≠ b.length := by simp only [Bool.not_eq_true', decide_eq_false_iff_not] at h1; omega
    refine LW.seq ?_
    refine LW.region ?_
    refine X.u (LU.assignR Is.rfl') rfl ?_
    refine LL.nil (after_code ?_)
    refine LW.ret (ret_code (after_end ?_))
    refine X.ret (H' := []) (Res.one (by exact IsR rfl)) (by repeat (exact HSub.refl _)) ?_
    exact ⟨by rw [decide_eq_false (fun h => h1 (by rw [h]))], rfl⟩
  · have h1 : a.length = b.length := by simp only [Bool.not_eq_false', decide_eq_true_eq] at h1; omega
    refine LW.skip (after_code ?_)
    refine LW.seq ?_
    refine LW.seq ?_
    refine LW.region ?_
    refine X.u (LU.assignR Is.rfl') rfl ?_
    refine LL.nil (after_code ?_)
    refine LW.block ?_
    refine X.loopK (α := Nat) (fun i => [(5, i64 i)]) [0, 1] (fun _ => _) (fun i => i ≤ a.length ∧ a.take i = b.take i) (fun i => a.length - i) (0) (EnvLe.cons (by rfl) (EnvLe.nil)) (HSub.refl _) ?_ ?_
    · exact ⟨Nat.zero_le _, by simp⟩
    · rintro i hI
      obtain ⟨hk, htk⟩ := hI
      refine LW.seq ?_
      refine LW.seq ?_
      refine LW.region ?_
      refine X.u (LU.moveR Is.rfl') rfl ?_
      refine X.u (LU.moveS Is.rfl') rfl ?_
      refine X.u (LU.lenN Try.underlying24 Is.rfl' (by (simp only [Option.getD_some, Option.getD_none, byteEls_length, intEls_length, List.length_append, List.length_cons, List.length_nil, List.length_map, List.length_drop, List.length_take, Int.toNat_natCast]; rfl))) rfl ?_
      refine X.u (LU.lss Is.rfl' Is.rfl') rfl ?_
      refine LL.nil (after_code ?_)
      refine X.cond rfl (fun h4 => ?_) (fun h4 => ?_)
      · try have h4 := of_decide_eq_true h4
        refine LW.skip (after_code ?_)
        refine LW.seq ?_
        refine LW.block ?_
        refine LW.seq ?_
        obtain ⟨x, hx⟩ := at_lt (show i < a.length by omega)
        obtain ⟨y, hy⟩ := at_lt (show i < b.length by omega)
        refine X.drawM 9 rfl (by kernel_rfl) rfl ?_
        refine QD.u (LU.moveS Is.rfl') rfl ?_
        refine QD.u (LU.moveR Is.rfl') rfl ?_
        refine QD.u (LU.at Try.underlying24 ⟨Try.sizeOf3, Try.isAgg3⟩ Is.rfl' Is.rfl' (by omega) (ints_at hx) (by simp)) rfl ?_
        refine QD.u (LU.load ⟨Try.sizeOf3, Try.isAgg3⟩ Is.rfl' (by (simp; done)) (Part.one rfl)) rfl ?_
        refine QD.u (LU.moveS Is.rfl') rfl ?_
        refine QD.u (LU.moveR Is.rfl') rfl ?_
        refine QD.u (LU.at Try.underlying24 ⟨Try.sizeOf3, Try.isAgg3⟩ Is.rfl' Is.rfl' (by omega) (ints_at hy) (by simp)) rfl ?_
        refine QD.u (LU.load ⟨Try.sizeOf3, Try.isAgg3⟩ Is.rfl' (by (simp; done)) (Part.one rfl)) rfl ?_
        refine QD.u (LU.neq Is.rfl' Is.rfl') rfl ?_
        refine QD.nil ?_
        refine LL.nil (after_code ?_)
        refine X.cond rfl (fun h6 => ?_) (fun h6 => ?_)
        · have hxy : x ≠ y := by simpa using h6
          refine LW.seq ?_
          refine LW.region ?_
          refine X.u (LU.assignR Is.rfl') rfl ?_
          refine LL.nil (after_code ?_)
          refine LW.ret (ret_blk (ret_code (ret_rnd (ret_blk (ret_code (after_end ?_))))))
          refine X.ret (H' := []) (Res.one (by exact IsR rfl)) (by repeat (exact HSub.refl _)) ?_
          exact ⟨by rw [decide_eq_false (fun h => by rw [h, hy] at hx; exact hxy (Option.some.inj hx).symm)], rfl⟩
        · have hxy : x = y := by simpa using h6
          refine LW.skip (after_blk (after_code ?_))
          refine LW.region ?_
          refine X.u (LU.moveR Is.rfl') rfl ?_
          refine X.u (LU.addN Is.rfl' Is.rfl' (wrap_i64 (by omega) (by omega))) rfl ?_
          refine X.u (LU.assignR Is.rfl') rfl ?_
          refine LL.nil (after_rnd ?_)
          refine X.next (i + 1) rfl (EnvLe.cons (by rfl) (EnvLe.nil)) (Keeps.cons (by exact Eq.trans (b := .sl _ _ _) rfl rfl) (Keeps.cons (by exact Eq.trans (b := .sl _ _ _) rfl rfl) (Keeps.nil))) (HSub.refl _) ?_ ?_
          · exact ⟨by omega, by rw [take_snocI hx, take_snocI hy, htk, hxy]⟩
          · omega
      · try have h4 := of_decide_eq_false h4
        refine LW.exit (exit_code (exit_rnd (exit_blk (after_code ?_))))
        refine LW.seq ?_
        refine LW.region ?_
        refine X.u (LU.assignR Is.rfl') rfl ?_
        refine LL.nil (after_code ?_)
        refine LW.ret (after_end ?_)
        refine X.ret (H' := []) (Res.one (by exact IsR rfl)) (by repeat (exact HSub.refl _)) ?_
        exact ⟨by rw [decide_eq_true (by rw [List.take_of_length_le (by omega), List.take_of_length_le (by omega)] at htk; exact htk)], rfl⟩
set_option maxRecDepth 100000 in
theorem closed_calls (x : Int) : LCalls Try.prog 61 [i64 x] [] (fun r H' => r = i64 201 ∧ H' = []) := by
  refine LCalls.of Try.func61 rfl Try.ntmps61 Try.results61 rfl (fun Rf => ?_)
  refine LW.seq ?_
  refine LW.region ?_
  refine X.u (LU.assignR Is.rfl') rfl ?_
  refine LL.nil (after_code ?_)
  refine LW.seq ?_
  refine LW.region ?_
  refine X.u (LU.assignR Is.rfl') rfl ?_
  refine LL.nil (after_code ?_)
  refine LW.ret (after_end ?_)
  refine X.ret (H' := []) (Res.one (by exact IsR rfl)) (by repeat (exact HSub.refl _)) ?_
  exact ⟨rfl, rfl⟩
set_option maxRecDepth 100000 in
theorem lives21_calls : LCalls Try.prog 31 [] [] (fun r H' => r = bl true ∧ H' = []) := by
  have e1 : idxP [] 3 = 0 := by decide
  have e2 : putW [] 3 = [3] := by decide
  have e3 : idxP [3] 5 = 0 := by decide
  have e4 : putW [3] 5 = [3, 5] := by decide
  have hp1 := fun g => put_calls21 g [] [] .nilFunc 0 0 0 0 0 0 3 (by simp)
  rw [e1, e2] at hp1
  have hp2 := fun g b o c => put_calls21 g [3] [] .nilFunc b o c 0 0 0 5 (by simp)
  rw [e3, e4] at hp2
  have hst := fun g b o c => step_calls g [3, 5] [] b o c 0 0 0 (.func (.func 61) #[] #[]) 3 201 rfl (by simp) (by simp) (FnCalls.named Try.func61 rfl rfl (closed_calls 3))
  refine LCalls.of Try.func31 rfl Try.ntmps31 Try.results31 rfl (fun Rf => ?_)
  refine LW.seq ?_
  refine LW.region ?_
  refine X.u (LU.assignR Is.rfl') rfl ?_
  refine LL.nil (after_code ?_)
  refine LW.seq ?_
  refine LW.region ?_
  refine X.act (X.call (new_calls21) Try.func27 rfl rfl rfl (HSub.refl _) Opds.nil ?_)
  rintro r H' ⟨g, rfl, rfl⟩
  refine X.u (LU.assignR Is.rfl') rfl ?_
  refine LL.nil (after_code ?_)
  refine LW.seq ?_
  refine LW.region ?_
  refine X.u (LU.moveR Is.rfl') rfl ?_
  refine X.act (X.call (hp1 g) Try.func28 rfl rfl rfl (by (refine HSub.pick 0 rfl ?_); (refine HSub.pick 0 rfl ?_); (refine HSub.pick 0 rfl ?_); exact HSub.refl _) (Opds.cons Is.rfl' (Opds.cons Is.rfl' Opds.nil)) ?_)
  rintro r H' ⟨b8, o8, c8, rfl, rfl⟩
  refine X.u (LU.moveR Is.rfl') rfl ?_
  refine X.act (X.call (hp2 g b8 o8 c8) Try.func28 rfl rfl rfl (by (refine HSub.pick 0 rfl ?_); (refine HSub.pick 0 rfl ?_); (refine HSub.pick 0 rfl ?_); exact HSub.refl _) (Opds.cons Is.rfl' (Opds.cons Is.rfl' Opds.nil)) ?_)
  rintro r H' ⟨b10, o10, c10, rfl, rfl⟩
  refine X.u (LU.assignR Is.rfl') rfl ?_
  refine X.u (LU.assignR Is.rfl') rfl ?_
  refine LL.nil (after_code ?_)
  refine LW.seq ?_
  refine LW.region ?_
  refine X.u (LU.moveR Is.rfl') rfl ?_
  refine X.act (X.call (hst g b10 o10 c10) Try.func33 rfl rfl rfl (by (refine HSub.pick 0 rfl ?_); (refine HSub.pick 0 rfl ?_); (refine HSub.pick 0 rfl ?_); exact HSub.refl _) (Opds.cons Is.rfl' (Opds.cons Is.rfl' Opds.nil)) ?_)
  rintro r H' ⟨b13, o13, c13, p13, q13, r13, rfl, rfl⟩
  refine X.u (LU.moveT Is.rfl') rfl ?_
  refine X.u (LU.extract Is.rfl' rfl) rfl ?_
  refine X.u (LU.extract Is.rfl' rfl) rfl ?_
  refine X.act (X.alloc rfl Try.zeroValue58 (by exact Cells.rawagg (by decide)) (fun b4 => ?_))
  refine X.act (X.store 0 rfl Try.sizeOf58 Is.rfl' Is.rfl' (by exact Cells.agg) (by (simp; done)) (by exact Nat.le_of_ble_eq_true rfl) ?_)
  refine X.u (LU.assignR Is.rfl') rfl ?_
  refine LL.nil (after_code ?_)
  refine LW.seq ?_
  refine X.wcells (ys := edL (3, 2, 201)) rfl ?_
  refine LW.region ?_
  refine X.u (LU.moveR Is.rfl') rfl ?_
  refine X.u (LU.weak (LU.eql Is.rfl' Is.rfl') (asB (c := true) rfl (by rfl))) rfl ?_
  refine X.u (LU.moveR Is.rfl') rfl ?_
  refine X.doT rfl rfl (LU.moveR (by exact Is.rfl')) rfl ?_
  refine X.doT rfl rfl (LU.weak (LU.eql (by exact Is.rfl') (by exact Is.rfl')) (asB (c := true) rfl (by rfl))) rfl ?_
  refine X.u (LU.pickT Is.rfl' (by exact Is.rfl')) rfl ?_
  refine X.u (LU.moveR Is.rfl') rfl ?_
  refine X.doT rfl rfl (LU.moveR (by exact Is.rfl')) rfl ?_
  refine X.doT rfl rfl (LU.weak (LU.eql (by exact Is.rfl') (by exact Is.rfl')) (asB (c := true) rfl (by rfl))) rfl ?_
  refine X.u (LU.pickT Is.rfl' (by exact Is.rfl')) rfl ?_
  refine X.u (LU.moveR Is.rfl') rfl ?_
  refine X.doT rfl rfl (LU.loadO 0 rfl ⟨Try.sizeOf58, Try.isAgg58⟩ (by exact Is.rfl') (Part.whole (by (simp; done)))) rfl ?_
  refine X.doT rfl rfl (LU.build (places := #[(0, 1), (1, 1), (2, 1)]) Try.underlying58 Try.zeroValue58 (ones rfl) (by intro w; simp [Try.sizeOf26, Try.sizeOf3]) (Parts.cons (by exact Is.rfl') (by exact Cells.raw rfl) (Parts.cons (by exact Is.rfl') (by exact Cells.raw rfl) (Parts.cons (by exact Is.rfl') (by exact Cells.raw rfl) Parts.nil))) rfl) rfl ?_
  refine X.doT rfl rfl (LU.weak (LU.eqlA (by exact Is.rfl') (by exact Is.rfl') (RawL.cons (RawL.cons (RawL.cons (RawL.nil)))) (RawL.cons (RawL.cons (RawL.cons (RawL.nil)))) Try.eqGuardType58 rfl (EqR.struct Try.underlying58 Try.stoodInHeld58 (EqFs.cons rfl (part_one Try.isAgg3 rfl) (part_one Try.isAgg3 rfl) (EqR.int Try.underlying3) (EqFs.cons rfl (part_one Try.isAgg3 rfl) (part_one Try.isAgg3 rfl) (EqR.int Try.underlying3) (EqFs.one rfl (part_one Try.isAgg26 rfl) (part_one Try.isAgg26 rfl) (EqR.int Try.underlying26)))))) (asB (c := true) rfl (by rfl))) rfl ?_
  refine X.u (LU.pickT Is.rfl' (by exact Is.rfl')) rfl ?_
  refine X.u (LU.moveR Is.rfl') rfl ?_
  refine X.doT rfl rfl (LU.moveR (by exact Is.rfl')) rfl ?_
  refine X.doT rfl rfl (LU.call1 1 rfl (waiting_calls g [5] [(3, 2, 201)] .nilFunc b13 o13 c13 p13 q13 r13 (by simp)) Try.func29 rfl rfl (Opds.cons (by exact Is.rfl') Opds.nil)) rfl ?_
  refine X.doT rfl rfl (LU.weak (LU.lits Try.underlying24 Try.sizeOf3 Try.zeroValue3 (ones rfl) rfl (by decide) (by decide) (Elems.cons (by exact Is.rfl') (by exact Cells.raw rfl) Elems.nil) (by (simp; done)) rfl) (Is.of (y := Ints [5] .full) (rfl))) rfl ?_
  refine X.doT rfl rfl (LU.weak (LU.call (ints_calls [5] [5] .unk .full (by simp) (by simp)) Try.func38 rfl rfl (Opds.cons (by exact Is.rfl') (Opds.cons (by exact Is.rfl') Opds.nil))) (asB (c := true) rfl (by rfl))) rfl ?_
  refine X.u (LU.pickT Is.rfl' (by exact Is.rfl')) rfl ?_
  refine X.u (LU.moveR Is.rfl') rfl ?_
  refine X.u (LU.pickT Is.rfl' (by exact Is.rfl')) rfl ?_
  refine X.u (LU.assignR Is.rfl') rfl ?_
  refine LL.nil (after_code ?_)
  refine LW.ret (after_end ?_)
  refine X.ret (H' := []) (Res.one (by exact IsR rfl)) (by repeat (first | exact HSub.refl _ | refine HSub.drop ?_)) ?_
  exact ⟨rfl, rfl⟩
end Go.Proofs.Ytpimalihpnfdkaa
