/- What stands between slashes, piece by piece; which texts are paths. -/
import Derived.Test.YtcemodldbfiomaaNmA
set_option linter.unusedVariables false
set_option linter.unusedSimpArgs false
namespace Go.Proofs.Ytcemodldbfiomaa
open Go.RowKit Go.L
attribute [local irreducible] LL LW LO
/-- The pieces with their numbers. -/
def pcs : Nat → List (List UInt8) → List (List LV)
  | _, [] => []
  | k, p :: l => [i64 k, Str p] :: pcs (k + 1) l
theorem pcs_len : ∀ (k : Nat) (l : List (List UInt8)), (pcs k l).length = l.length
  | _, [] => rfl
  | k, p :: l => by simp [pcs, pcs_len (k + 1) l]
theorem pcs_get : ∀ (l : List (List UInt8)) (k i : Nat) (x : List LV), (pcs k l)[i]? = some x → ∃ p, l[i]? = some p ∧ x = [i64 (k + i : Nat), Str p]
  | [], k, i, x, h => by simp [pcs] at h
  | p :: l, k, 0, x, h => by simp [pcs] at h; exact ⟨p, rfl, by rw [← h]; rfl⟩
  | p :: l, k, i + 1, x, h => by
    rw [pcs, List.getElem?_cons_succ] at h
    obtain ⟨q, h1, h2⟩ := pcs_get l (k + 1) i x h
    exact ⟨q, by simpa using h1, by rw [h2, show k + 1 + i = k + (i + 1) by omega]⟩
theorem drop_get {α : Type} {l : List α} {k : Nat} {x : α} {t : List α} (h : l.drop k = x :: t) : l[k]? = some x ∧ l.drop (k + 1) = t := by
  have h1 : l[k]? = some x := by
    have := List.getElem?_drop (xs := l) (i := k) (j := 0)
    rw [h] at this
    simpa using this.symm
  exact ⟨h1, by rw [← List.drop_drop, h]; rfl⟩
theorem drop_end {α : Type} {l : List α} {k : Nat} {x : α} (hx : l[k]? = some x) (hd : l.drop (k + 1) = []) : l.length = k + 1 := by
  have h1 := (List.getElem?_eq_some_iff.1 hx).1
  have h2 := List.drop_eq_nil_iff.1 hd
  omega
theorem hsub_box {b : Nat} {t : TypeId} {x : LV} {A R : List Atom} : HSub (A ++ (.cells b t [x] :: R)) (([.cells b t [.any]] ++ A) ++ R) := (hsub_back1 _ _ _).trans (HSub.cell 0 rfl (fun _ _ _ => .any _))
set_option maxRecDepth 100000 in
theorem pieces_iter (s : List UInt8) (hs : s.length < 4294967281) (b : Nat) : LIter Try.prog 30 #[.pointer (some ⟨b, 0, none⟩)] (pcs 0 (splits s)) [.cells b 9 [Str s]] [.cells b 9 [.any]] := by
  intro α β F G φ ψ yv hy p0 hp0
  refine LCalls.of Try.func30 rfl Try.ntmps30 Try.results30 rfl (fun Rf => ?_)
  refine LW.seq ?_
  refine LW.region ?_
  refine X.u (LU.assignR Is.rfl') rfl ?_
  refine LL.nil (after_code ?_)
  refine LW.block ?_
  refine X.loopK (α := Nat × α × List UInt8) (fun ⟨k, p, l⟩ => [(3, i64 k)]) [0, 1] (fun ⟨k, p, l⟩ => .cells b 9 [Str l] :: (F p ++ Rf)) (fun ⟨k, p, l⟩ => φ k p ∧ (pcs 0 (splits s)).drop k = pcs k (splits l) ∧ l.length ≤ s.length ∧ k + l.length ≤ s.length) (fun ⟨k, p, l⟩ => l.length) (⟨0, p0, s⟩) (EnvLe.cons (by rfl) (EnvLe.nil)) (by repeat (exact HSub.refl _)) ?_ ?_
  · exact ⟨hp0, rfl, Nat.le_refl _, by omega⟩
  · rintro ⟨k, p, l⟩ hI
    obtain ⟨hp, hd, hl, hkl⟩ := hI
    rw [splits_eq l, pcs] at hd
    obtain ⟨hx, hd⟩ := drop_get hd
    refine LW.seq ?_
    refine LW.block ?_
    refine LW.seq ?_
    refine LW.region ?_
    refine X.u (LU.loadO 0 rfl ⟨Try.sizeOf9, Try.isAgg9⟩ Is.rfl' (Part.one rfl)) rfl ?_
    refine X.u (LU.call (cut_calls l (by omega)) Try.func31 rfl rfl (Opds.cons Is.rfl' (Opds.cons Is.rfl' Opds.nil))) rfl ?_
    refine X.u (LU.moveT Is.rfl') rfl ?_
    refine X.u (LU.extract Is.rfl' rfl) rfl ?_
    refine X.u (LU.extract Is.rfl' rfl) rfl ?_
    refine X.u (LU.extract Is.rfl' rfl) rfl ?_
    refine X.u (LU.assignR Is.rfl') rfl ?_
    refine X.u (LU.assignR Is.rfl') rfl ?_
    refine X.u (LU.assignR Is.rfl') rfl ?_
    refine LL.nil (after_code ?_)
    refine LW.seq ?_
    refine LW.seq ?_
    refine LW.region ?_
    refine X.u (LU.moveR Is.rfl') rfl ?_
    refine X.u (LU.moveR Is.rfl') rfl ?_
    refine X.u (LU.moveR Is.rfl') rfl ?_
    refine X.act (X.yield (hy k p _ hx hp) Is.rfl' rfl (hsub_swap1 _ _ _) (Opds.cons Is.rfl' (Opds.cons Is.rfl' Opds.nil)) ?_)
    rintro r H' (⟨q, rfl, hq, rfl⟩ | ⟨q, rfl, hq, rfl⟩)
    · refine X.u (LU.not Is.rfl') rfl ?_
      refine X.u (LU.moveR Is.rfl') rfl ?_
      refine X.doF rfl rfl (LU.moveR (by exact Is.rfl')) rfl ?_
      refine X.doF rfl rfl (LU.not (by exact Is.rfl')) rfl ?_
      refine X.u (LU.pickF Is.rfl' (by exact Is.rfl')) rfl ?_
      refine LL.nil (after_code ?_)
      refine X.cond rfl (fun h3 => ?_) (fun h3 => ?_)
      · have hm : moreB l = false := by simpa using h3
        rw [if_neg (by simp [hm])] at hd
        have he := drop_end hx hd
        refine LW.ret (ret_code (ret_blk (ret_code (ret_rnd (ret_blk (after_end ?_))))))
        refine X.ret (H' := [.cells b 9 [.any]] ++ F q) Res.none hsub_box ?_
        exact .inl ⟨q, by rw [he]; exact hq, rfl⟩
      · have hm : moreB l = true := by simpa using h3
        have hlt := rest_len hm
        rw [if_pos hm] at hd
        refine LW.skip (after_code ?_)
        refine X.wghost (hsub_back1 _ _ _) ?_
        refine LW.region ?_
        refine X.u (LU.moveR Is.rfl') rfl ?_
        refine X.act (X.store 0 rfl Try.sizeOf9 Is.rfl' Is.rfl' (by exact Cells.raw rfl) (by (simp; done)) (by (simp; done)) ?_)
        refine LL.nil (after_blk (after_code ?_))
        refine LW.region ?_
        refine X.u (LU.moveR Is.rfl') rfl ?_
        refine X.u (LU.addN Is.rfl' Is.rfl' (wrap_i64 (by omega) (by omega))) rfl ?_
        refine X.u (LU.assignR Is.rfl') rfl ?_
        refine LL.nil (after_rnd ?_)
        refine X.next (⟨k + 1, q, restB l⟩) rfl (EnvLe.cons (by rfl) (EnvLe.nil)) (Keeps.cons (by exact Eq.trans (b := .raw _) rfl rfl) (Keeps.cons (by exact Eq.trans (b := .raw _) rfl rfl) (Keeps.nil))) (by repeat (exact HSub.refl _)) ?_ ?_
        · exact ⟨hq, hd, by omega, by omega⟩
        · omega
    · refine X.u (LU.not Is.rfl') rfl ?_
      refine X.u (LU.moveR Is.rfl') rfl ?_
      refine X.skipF rfl rfl rfl ?_
      refine X.skipF rfl rfl rfl ?_
      refine X.u (LU.pickT Is.rfl' (by exact Is.rfl')) rfl ?_
      refine LL.nil (after_code ?_)
      refine X.cond rfl (fun h3 => ?_) (fun h3 => ?_)
      · try have h3 := of_decide_eq_true h3
        refine LW.ret (ret_code (ret_blk (ret_code (ret_rnd (ret_blk (after_end ?_))))))
        refine X.ret (H' := [.cells b 9 [.any]] ++ G q) Res.none hsub_box ?_
        exact .inr ⟨q, hq, rfl⟩
      · exact absurd h3 (by simp)
end Go.Proofs.Ytcemodldbfiomaa
