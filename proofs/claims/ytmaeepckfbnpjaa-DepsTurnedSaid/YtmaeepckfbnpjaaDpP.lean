/- The document's With: the walk. -/
import Derived.Test.YtmaeepckfbnpjaaDpO
set_option linter.unusedVariables false
set_option linter.unusedSimpArgs false
namespace Go.Proofs.Ytmaeepckfbnpjaa
open Go.RowKit Go.L Go.Lib
attribute [local irreducible] LL LW LO
theorem hss_app (a b : List Hs) : hss a ++ hss b = hss (a ++ b) := (List.map_append ..).symm
theorem hss_drop (l : List Hs) (n : Nat) : ((hss l).drop (Option.getD (some ((n : Nat) : Int)) 0).toNat).take ((Option.getD none ((hss l).length : Int)).toNat - (Option.getD (some ((n : Nat) : Int)) 0).toNat) = hss (l.drop n) := by
  simp only [Option.getD_some, Option.getD_none, Int.toNat_natCast]
  rw [List.take_of_length_le (by rw [List.length_drop]; exact Nat.le_refl _)]
  simp [hss]
set_option maxHeartbeats 1000000 in
set_option maxRecDepth 100000 in
theorem with_calls (l : List Hs) (h : Hs) (k : Cap) (hl : l.length ≤ 1000000) : LCalls Try.prog 31 [.sl 32 (hss l) k, .agg (hsL h)] [] (fun r H' => r = .sl 32 (hss (withS l h)) .unk ∧ H' = []) := by
  have hx2 : h.1.length = 32 := h.2
  refine LCalls.of Try.func31 rfl Try.ntmps31 Try.results31 rfl (fun Rf => ?_)
  refine LW.seq ?_
  refine LW.region ?_
  refine X.act (X.box rfl Is.rfl' (by exact Cells.agg) (fun b3 => ?_))
  refine X.u (LU.assign (Is.nil 32)) rfl ?_
  refine LL.nil (after_code ?_)
  refine LW.seq ?_
  refine LW.region ?_
  refine X.u (LU.assignR Is.rfl') rfl ?_
  refine LL.nil (after_code ?_)
  refine LW.seq ?_
  refine LW.block ?_
  refine X.wghost (H' := .cells b3 34 (hsL h) :: Rf) (by repeat (exact HSub.refl _)) ?_
  refine X.loopK (α := Nat) (fun i => [(5, i64 i)]) [0, 3, 4] (fun i => .cells b3 34 (hsL h) :: Rf) (fun i => i ≤ l.length ∧ ∀ j, j < i → ∀ y, l[j]? = some y → ltH y h = true) (fun i => l.length - i) (0) (EnvLe.cons (by rfl) (EnvLe.nil)) (by repeat (exact HSub.refl _)) ?_ ?_
  · exact ⟨Nat.zero_le _, fun j hj => by omega⟩
  · rintro i hI
    obtain ⟨hi, hf⟩ := hI
    obtain ⟨x, hx⟩ : ∃ x, i < l.length → l[i]? = some x := ⟨l.getD i default, fun h => by rw [List.getD_eq_getElem?_getD, List.getElem?_eq_getElem h]; rfl⟩
    refine LW.seq ?_
    refine LW.seq ?_
    refine X.drawM 12 rfl (by kernel_rfl) rfl ?_
    refine QD.u (LU.moveR Is.rfl') rfl ?_
    refine QD.u (LU.moveS Is.rfl') rfl ?_
    refine QD.u (LU.lenN Try.underlying26 Is.rfl' (by (simp only [Option.getD_some, Option.getD_none, byteEls_length, intEls_length, List.length_append, List.length_cons, List.length_nil, List.length_map, List.length_drop, List.length_take, Int.toNat_natCast]; rfl))) rfl ?_
    refine QD.u (LU.lss Is.rfl' Is.rfl') rfl ?_
    refine QD.u (LU.moveR Is.rfl') rfl ?_
    refine QD.gT rfl rfl (fun hg => LU.moveS (by exact Is.rfl')) rfl ?_
    refine QD.gT rfl rfl (fun hg => LU.moveR (by exact Is.rfl')) rfl ?_
    refine QD.gT rfl rfl (fun hg => LU.at Try.underlying26 ⟨Try.sizeOf34, Try.isAgg34⟩ (by exact Is.whenE hg) (by exact Is.whenE hg) (by omega) (hss_at (hx (by simpa using hg))) (hs_ne x)) rfl ?_
    refine QD.gT rfl rfl (fun hg => LU.load ⟨Try.sizeOf34, Try.isAgg34⟩ (by exact Is.whenE hg) (by (simp; omega)) (Part.whole (by (simp; omega)))) rfl ?_
    refine QD.gT rfl rfl (fun hg => LU.loadO 0 rfl ⟨Try.sizeOf34, Try.isAgg34⟩ (by exact Is.rfl') (Part.whole (by (simp; omega)))) rfl ?_
    refine QD.gT rfl rfl (fun hg => LU.call (below_calls x h) Try.func28 rfl rfl (Opds.cons (by exact Is.whenE hg) (Opds.cons (by exact Is.whenE hg) Opds.nil))) rfl ?_
    refine QD.u (LU.pickAnd Is.rfl' (fun hq => (by exact Is.whenE hq)) Is.rfl') rfl ?_
    refine QD.nil ?_
    refine LL.nil (after_code ?_)
    refine X.cond rfl (fun h2 => ?_) (fun h2 => ?_)
    · have hil : i < l.length := by simp at h2; omega
      have hlt : ltH x h = true := by simp at h2; exact h2.2
      refine LW.skip (after_code ?_)
      refine LW.block ?_
      refine LW.region ?_
      refine X.u (LU.moveR Is.rfl') rfl ?_
      refine X.u (LU.addN Is.rfl' Is.rfl' (wrap_i64 (by omega) (by omega))) rfl ?_
      refine X.u (LU.assignR Is.rfl') rfl ?_
      refine LL.nil (after_blk (after_rnd ?_))
      refine X.next (i + 1) rfl (EnvLe.cons (by rfl) (EnvLe.nil)) (Keeps.cons (by exact Eq.trans (b := .sl _ _ _) rfl rfl) (Keeps.cons (by exact Eq.trans (b := .raw _) rfl rfl) (Keeps.cons (by exact Eq.trans (b := .sl _ _ _) rfl rfl) (Keeps.nil)))) (by repeat (exact HSub.refl _)) ?_ ?_
      · refine ⟨by omega, fun j hj y hy => ?_⟩
        by_cases c : j = i
        · rw [c, hx hil] at hy; rw [← Option.some.inj hy]; exact hlt
        · exact hf j (by omega) y hy
      · omega
    · have hbn : belowN l h = i := belowN_of hi hf (fun y hy => by
        have hil := (List.getElem?_eq_some_iff.1 hy).1
        rw [hx hil] at hy
        rw [← Option.some.inj hy]
        simp at h2
        exact h2 hil)
      have hd : (0 : Nat) = 0 := rfl
      refine LW.exit (exit_code (exit_rnd (exit_blk (after_code ?_))))
      refine LW.seq ?_
      refine LW.seq ?_
      refine X.drawM 12 rfl (by kernel_rfl) rfl ?_
      refine QD.u (LU.moveR Is.rfl') rfl ?_
      refine QD.u (LU.moveS Is.rfl') rfl ?_
      refine QD.u (LU.lenN Try.underlying26 Is.rfl' (by (simp only [Option.getD_some, Option.getD_none, byteEls_length, intEls_length, List.length_append, List.length_cons, List.length_nil, List.length_map, List.length_drop, List.length_take, Int.toNat_natCast]; rfl))) rfl ?_
      refine QD.u (LU.lss Is.rfl' Is.rfl') rfl ?_
      refine QD.u (LU.moveR Is.rfl') rfl ?_
      refine QD.gT rfl rfl (fun hg => LU.moveS (by exact Is.rfl')) rfl ?_
      refine QD.gT rfl rfl (fun hg => LU.moveR (by exact Is.rfl')) rfl ?_
      refine QD.gT rfl rfl (fun hg => LU.at Try.underlying26 ⟨Try.sizeOf34, Try.isAgg34⟩ (by exact Is.whenE hg) (by exact Is.whenE hg) (by omega) (hss_at (hx (by simpa using hg))) (hs_ne x)) rfl ?_
      refine QD.gT rfl rfl (fun hg => LU.load ⟨Try.sizeOf34, Try.isAgg34⟩ (by exact Is.whenE hg) (by (simp; omega)) (Part.whole (by (simp; omega)))) rfl ?_
      refine QD.gT rfl rfl (fun hg => LU.loadO 0 rfl ⟨Try.sizeOf34, Try.isAgg34⟩ (by exact Is.rfl') (Part.whole (by (simp; omega)))) rfl ?_
      refine QD.gT rfl rfl (fun hg => LU.eqlHs Try.underlying34 Try.underlying5 Try.sizeOf5 (by kernel_rfl) (by exact Is.whenE hg) (by exact Is.whenE hg)) rfl ?_
      refine QD.u (LU.pickAnd Is.rfl' (fun hq => (by exact Is.whenE hq)) Is.rfl') rfl ?_
      refine QD.nil ?_
      refine LL.nil (after_code ?_)
      refine X.cond rfl (fun h4 => ?_) (fun h4 => ?_)
      · have heq : l[i]? = some h := by simp at h4; rw [hx (by omega), h4.2]
        have hw : withS l h = l := by unfold withS; rw [hbn, if_pos heq]
        refine LW.seq ?_
        refine LW.region ?_
        refine X.u (LU.moveS Is.rfl') rfl ?_
        refine X.u (LU.assignS Is.rfl') rfl ?_
        refine LL.nil (after_code ?_)
        refine LW.ret (ret_code (after_end ?_))
        refine X.ret (H' := []) (Res.one (by exact IsS rfl)) (by repeat (first | exact HSub.refl _ | refine HSub.drop ?_)) ?_
        exact ⟨by rw [hw], rfl⟩
      · have hneq : l[i]? ≠ some h := fun c => by
          have hil := (List.getElem?_eq_some_iff.1 c).1
          rw [hx hil] at c
          have := Option.some.inj c
          simp [this] at h4
          omega
        have hw : withS l h = l.take i ++ [h] ++ l.drop i := by unfold withS; rw [hbn, if_neg hneq]
        have hlt2 : (l.take i).length ≤ 1000000 := by rw [List.length_take]; omega
        have hld2 : (l.drop i).length ≤ 1000000 := by rw [List.length_drop]; omega
        refine LW.skip (after_code ?_)
        refine LW.seq ?_
        refine LW.region ?_
        refine X.u (LU.lits Try.underlying26 Try.sizeOf34 Try.zeroValue34 (ones rfl) rfl (by decide) (by decide) Elems.nil (by intro e he; cases he) rfl) rfl ?_
        refine X.u (LU.moveS Is.rfl') rfl ?_
        refine X.u (LU.moveR Is.rfl') rfl ?_
        refine X.u (LU.weak (LU.slice (lo := none) (hi := some _) (l := none) (h := some ((i : Nat) : Int)) Try.sizeOf34 (by decide) Try.underlying26 Is.rfl' trivial ⟨_, Is.rfl'⟩ (by simp) (by simp) (by simp only [Option.getD_some, Option.getD_none, List.length_map]; try omega) .unk (.inl rfl)) (Is.of (y := .sl 32 (hss (l.take i)) .unk) (congrArg (fun z => LV.sl 32 z .unk) (by simp only [Option.getD_some, Option.getD_none, Int.toNat_natCast, Int.toNat_zero, List.drop_zero, Nat.sub_zero, hss, List.map_take] <;> (try rfl))))) rfl ?_
        refine X.act (X.appendF rfl Try.underlying26 (El.of (P := Try.prog) (z := (.agg #[(.int .u8 0), (.int .u8 0), (.int .u8 0), (.int .u8 0), (.int .u8 0), (.int .u8 0), (.int .u8 0), (.int .u8 0), (.int .u8 0), (.int .u8 0), (.int .u8 0), (.int .u8 0), (.int .u8 0), (.int .u8 0), (.int .u8 0), (.int .u8 0), (.int .u8 0), (.int .u8 0), (.int .u8 0), (.int .u8 0), (.int .u8 0), (.int .u8 0), (.int .u8 0), (.int .u8 0), (.int .u8 0), (.int .u8 0), (.int .u8 0), (.int .u8 0), (.int .u8 0), (.int .u8 0), (.int .u8 0), (.int .u8 0)])) (size := 32) (bytes := 32) rfl rfl rfl) Is.rfl' Is.rfl' (SrcL.slice Try.underlying26 (by decide) (hss_size (l.take i))) (by simp only [Option.getD_some, Option.getD_none, byteEls_length, intEls_length, List.length_append, List.length_cons, List.length_nil, List.length_map, List.length_drop, List.length_take, Int.toNat_natCast]; omega) (by simp only [Option.getD_some, Option.getD_none, byteEls_length, intEls_length, List.length_append, List.length_cons, List.length_nil, List.length_map, List.length_drop, List.length_take, Int.toNat_natCast]; omega) (fun b38 o38 c38 => ?_))
        refine X.weak (t := 38) (v := .sl 32 (hss (l.take i)) (.tok b38 o38 c38)) (Is.of (rfl)) ?_
        refine X.u (LU.assignS Is.rfl') rfl ?_
        refine LL.nil (after_code ?_)
        refine LW.seq ?_
        refine LW.region ?_
        refine X.u (LU.moveS Is.rfl') rfl ?_
        refine X.u (LU.weak (LU.loadO 1 rfl ⟨Try.sizeOf34, Try.isAgg34⟩ Is.rfl' (Part.sub (by (simp; omega)))) (Is.of (y := .agg (hsL h)) (hs_whole h))) rfl ?_
        refine X.u (LU.lits Try.underlying26 Try.sizeOf34 Try.zeroValue34 (ones rfl) rfl (by decide) (by decide) (Elems.cons Is.rfl' (by exact Cells.agg) Elems.nil) (by (simp; assumption)) rfl) rfl ?_
        refine X.act (X.append 0 rfl rfl Try.underlying26 (El.of (P := Try.prog) (z := (.agg #[(.int .u8 0), (.int .u8 0), (.int .u8 0), (.int .u8 0), (.int .u8 0), (.int .u8 0), (.int .u8 0), (.int .u8 0), (.int .u8 0), (.int .u8 0), (.int .u8 0), (.int .u8 0), (.int .u8 0), (.int .u8 0), (.int .u8 0), (.int .u8 0), (.int .u8 0), (.int .u8 0), (.int .u8 0), (.int .u8 0), (.int .u8 0), (.int .u8 0), (.int .u8 0), (.int .u8 0), (.int .u8 0), (.int .u8 0), (.int .u8 0), (.int .u8 0), (.int .u8 0), (.int .u8 0), (.int .u8 0), (.int .u8 0)])) (size := 32) (bytes := 32) rfl rfl rfl) Is.rfl' Is.rfl' (SrcL.slice Try.underlying26 (by decide) (by intro e he; rw [List.mem_singleton.1 he, List.length_map]; exact hx2)) (by simp only [Option.getD_some, Option.getD_none, byteEls_length, intEls_length, List.length_append, List.length_cons, List.length_nil, List.length_map, List.length_drop, List.length_take, Int.toNat_natCast]; omega) (by simp only [Option.getD_some, Option.getD_none, byteEls_length, intEls_length, List.length_append, List.length_cons, List.length_nil, List.length_map, List.length_drop, List.length_take, Int.toNat_natCast]; omega) (fun b42 o42 c42 => X.weak (t := 42) (Is.of (y := .sl 32 (hss (l.take i ++ [h])) (.tok b42 o42 c42)) (congrArg (fun z => LV.sl 32 z (.tok b42 o42 c42)) (hss_app (l.take i) [h]))) ?_))
        refine X.u (LU.assignS Is.rfl') rfl ?_
        refine LL.nil (after_code ?_)
        refine LW.seq ?_
        refine LW.region ?_
        refine X.u (LU.moveS Is.rfl') rfl ?_
        refine X.u (LU.moveS Is.rfl') rfl ?_
        refine X.u (LU.moveR Is.rfl') rfl ?_
        refine X.u (LU.weak (LU.slice (lo := some _) (hi := none) (l := some ((i : Nat) : Int)) (h := none) Try.sizeOf34 (by decide) Try.underlying26 Is.rfl' ⟨_, Is.rfl'⟩ trivial (by (simp; done)) (by simp only [Option.getD_some, Option.getD_none, List.length_map]; try omega) (by simp) .unk (.inl rfl)) (Is.of (y := .sl 32 (hss (l.drop i)) .unk) (congrArg (fun z => LV.sl 32 z .unk) (hss_drop l i)))) rfl ?_
        refine X.act (X.append 0 rfl rfl Try.underlying26 (El.of (P := Try.prog) (z := (.agg #[(.int .u8 0), (.int .u8 0), (.int .u8 0), (.int .u8 0), (.int .u8 0), (.int .u8 0), (.int .u8 0), (.int .u8 0), (.int .u8 0), (.int .u8 0), (.int .u8 0), (.int .u8 0), (.int .u8 0), (.int .u8 0), (.int .u8 0), (.int .u8 0), (.int .u8 0), (.int .u8 0), (.int .u8 0), (.int .u8 0), (.int .u8 0), (.int .u8 0), (.int .u8 0), (.int .u8 0), (.int .u8 0), (.int .u8 0), (.int .u8 0), (.int .u8 0), (.int .u8 0), (.int .u8 0), (.int .u8 0), (.int .u8 0)])) (size := 32) (bytes := 32) rfl rfl rfl) Is.rfl' Is.rfl' (SrcL.slice Try.underlying26 (by decide) (hss_size (l.drop i))) (by simp only [Option.getD_some, Option.getD_none, byteEls_length, intEls_length, List.length_append, List.length_cons, List.length_nil, List.length_map, List.length_drop, List.length_take, Int.toNat_natCast]; omega) (by simp only [Option.getD_some, Option.getD_none, byteEls_length, intEls_length, List.length_append, List.length_cons, List.length_nil, List.length_map, List.length_drop, List.length_take, Int.toNat_natCast]; omega) (fun b47 o47 c47 => X.weak (t := 47) (Is.of (y := .sl 32 (hss (l.take i ++ [h] ++ l.drop i)) (.tok b47 o47 c47)) (congrArg (fun z => LV.sl 32 z (.tok b47 o47 c47)) (hss_app (l.take i ++ [h]) (l.drop i)))) ?_))
        refine X.u (LU.assignS Is.rfl') rfl ?_
        refine LL.nil (after_code ?_)
        refine LW.ret (after_end ?_)
        refine X.ret (H' := []) (Res.one (by exact IsS rfl)) (by repeat (first | exact HSub.refl _ | refine HSub.drop ?_)) ?_
        exact ⟨by rw [hw], rfl⟩
end Go.Proofs.Ytmaeepckfbnpjaa
