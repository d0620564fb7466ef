/- A path's parts, one by one. -/
import Derived.Test.YtcemodldbfiomaaNmI
import Derived.Test.YtcemodldbfiomaaLogNm
import Derived.Test.YtcemodldbfiomaaLogY
set_option linter.unusedVariables false
set_option linter.unusedSimpArgs false
namespace Go.Proofs.Ytcemodldbfiomaa
open Go.RowKit Go.L
attribute [local irreducible] LL LW LO
def wantS (s : List UInt8) : List (List UInt8) := if pathB s then splits s else []
abbrev partsF (b : Nat) : LV := .raw (.func (.func 28) #[] #[.pointer (some ⟨b, 0, none⟩)])
set_option maxRecDepth 100000 in
theorem parts_calls (s : List UInt8) : LCalls Try.prog 19 [Str s] [] (fun r H' => ∃ b, r = partsF b ∧ H' = [.cells b 9 [Str s]]) := by
  refine LCalls.of Try.func19 rfl Try.ntmps19 Try.results19 rfl (fun Rf => ?_)
  refine LW.seq ?_
  refine LW.region ?_
  refine X.act (X.box rfl Is.rfl' (by exact Cells.raw rfl) (fun b1 => ?_))
  refine X.u (LU.assignR Is.rfl') rfl ?_
  refine LL.nil (after_code ?_)
  refine LW.seq ?_
  refine LW.region ?_
  refine X.u (LU.closure (vs := [_]) (Opds.cons Is.rfl' Opds.nil)) rfl ?_
  refine X.u (LU.assignR Is.rfl') rfl ?_
  refine LL.nil (after_code ?_)
  refine LW.ret (after_end ?_)
  refine X.ret (H' := [.cells b1 9 [Str s]]) (Res.one (by exact IsR rfl)) (by repeat (exact HSub.refl _)) ?_
  exact ⟨b1, rfl, rfl⟩
set_option maxRecDepth 100000 in
theorem parts_iter (s : List UInt8) (hs : s.length < 4294967281) (b : Nat) : LIterB Try.prog 28 #[.pointer (some ⟨b, 0, none⟩)] (pcs 0 (wantS s)) [.cells b 9 [Str s]] [.cells b 9 [Str s]] := by
  intro α β F G φ ψ yv h1c hy p0 hp0
  refine LCalls.of Try.func28 rfl Try.ntmps28 Try.results28 rfl (fun Rf => ?_)
  refine LW.seq ?_
  refine LW.region ?_
  refine X.act (X.box rfl Is.rfl' (Cells.raw h1c) (fun b2 => ?_))
  refine LL.nil (after_code ?_)
  refine LW.seq ?_
  refine LW.seq ?_
  refine LW.region ?_
  refine X.u (LU.loadO 1 rfl ⟨Try.sizeOf9, Try.isAgg9⟩ Is.rfl' (Part.one rfl)) rfl ?_
  refine X.u (LU.call (path_calls s) Try.func11 rfl rfl (Opds.cons Is.rfl' Opds.nil)) rfl ?_
  refine X.u (LU.not Is.rfl') rfl ?_
  refine LL.nil (after_code ?_)
  refine X.cond rfl (fun h1 => ?_) (fun h1 => ?_)
  · have h1 : pathB s = false := by simpa using h1
    have hw : wantS s = [] := by unfold wantS; rw [h1]; rfl
    rw [hw]
    refine LW.ret (ret_code (after_end ?_))
    refine X.ret (H' := [.cells b 9 [Str s]] ++ F p0) Res.none (by repeat (first | exact HSub.refl _ | refine HSub.pick 1 rfl ?_ | refine HSub.drop ?_)) ?_
    exact .inl ⟨p0, hp0, rfl⟩
  · have h1 : pathB s = true := by simpa using h1
    have hw : wantS s = splits s := by unfold wantS; rw [h1]; rfl
    refine LW.skip (after_code ?_)
    refine LW.seq ?_
    refine LW.region ?_
    refine X.u (LU.loadO 1 rfl ⟨Try.sizeOf9, Try.isAgg9⟩ Is.rfl' (Part.one rfl)) rfl ?_
    refine X.act (X.call (pieces_calls s) Try.func24 rfl rfl rfl (HSub.refl _) (Opds.cons Is.rfl' Opds.nil) ?_)
    rintro r H' ⟨b9, rfl, rfl⟩
    refine LL.nil (after_code ?_)
    refine LW.block ?_
    refine X.range (items := pcs 0 (splits s)) Is.rfl' Try.func30 rfl rfl (pieces_iter s hs b9) rfl (by intro x hx; obtain ⟨i, hi⟩ := List.getElem?_of_mem hx; obtain ⟨p, _, rfl⟩ := pcs_get0 hi; rfl) (α := α) (β := β) (fun p => .cells b2 39 [.raw yv] :: F p) (fun z => .cells b2 39 [.raw yv] :: G z) (fun k p => φ k p) (fun c z => c = .ret ∧ (ψ z)) (p0) ?_ (HSub.cons (HSub.cons (hsub_swap1 _ _ _))) ?_ ?_ ?_
    · exact hp0
    · rintro k p x hx hI R1
      have hx0 : (pcs 0 (wantS s))[k]? = some x := by rw [hw]; exact hx
      obtain ⟨w, hp, rfl⟩ := pcs_get0 hx
      refine LW.seq ?_
      refine LW.region ?_
      refine X.u (LU.assignR Is.rfl') rfl ?_
      refine LL.nil (after_code ?_)
      refine LW.region ?_
      refine X.u (LU.assignR Is.rfl') rfl ?_
      refine LL.nil (after_end ?_)
      refine ⟨rfl, _, _, rfl, fun R2 => ?_⟩
      refine LW.block ?_
      refine LW.seq ?_
      refine LW.region ?_
      refine X.u (LU.loadO 0 rfl ⟨Try.sizeOf39, Try.isAgg39⟩ Is.rfl' (Part.one rfl)) rfl ?_
      refine X.u (LU.moveR Is.rfl') rfl ?_
      refine X.u (LU.moveR Is.rfl') rfl ?_
      refine X.act (X.yield (hy k p _ hx0 hI) Is.rfl' rfl (hsub_swap1 _ _ _) (Opds.cons Is.rfl' (Opds.cons Is.rfl' Opds.nil)) ?_)
      rintro r H' (⟨q, rfl, hq, rfl⟩ | ⟨q, rfl, hq, rfl⟩)
      · refine X.u (LU.not Is.rfl') rfl ?_
        refine LL.nil (after_code ?_)
        refine X.condF rfl ?_ ?_
        · rfl
        refine LW.skip (after_blk (after_end ?_))
        refine ⟨q, ?_, (hsub_back1 _ _ _)⟩
        exact hq
      · refine X.u (LU.not Is.rfl') rfl ?_
        refine LL.nil (after_code ?_)
        refine X.condT rfl ?_ ?_
        · rfl
        refine LW.ret (ret_blk (after_end ?_))
        refine ⟨q, ⟨rfl, ?_⟩, (hsub_back1 _ _ _)⟩
        exact hq
    · rintro D p hI
      refine after_blk (after_end ?_)
      refine X.normalMs (H1 := .cells b 9 [Str s] :: (F p ++ Rf)) (H' := [.cells b 9 [Str s]] ++ F p) [D] (HSub.drop (HSub.drop (hsub_back2 _ _ _ _))) Res.none (HSub.refl _) ?_
      exact .inl ⟨p, by rw [hw]; exact hI, rfl⟩
    · rintro D c z ⟨rfl, hL⟩
      refine LW.ret (ret_blk (after_end ?_))
      refine X.retMs (H1 := .cells b 9 [Str s] :: (G z ++ Rf)) (H' := [.cells b 9 [Str s]] ++ G z) [D] (HSub.drop (HSub.drop (hsub_back2 _ _ _ _))) Res.none (HSub.refl _) ?_
      exact .inr ⟨z, hL, rfl⟩
end Go.Proofs.Ytcemodldbfiomaa
