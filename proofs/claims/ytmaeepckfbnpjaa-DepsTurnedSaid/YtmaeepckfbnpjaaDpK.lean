/- The document's small functions over hashes. -/
import Derived.Test.YtmaeepckfbnpjaaDpJ
set_option linter.unusedVariables false
set_option linter.unusedSimpArgs false
namespace Go.Proofs.Ytmaeepckfbnpjaa
open Go.RowKit Go.L Go.Lib
attribute [local irreducible] LL LW LO
theorem hs_whole (a : Hs) : LV.agg (((hsL a).drop 0).take 32) = .agg (hsL a) := congrArg LV.agg (by rw [List.drop_zero, List.take_of_length_le (by rw [List.length_map, a.2]; exact Nat.le_refl _)])
def placeS : List Hs → Hs → Int
  | [], _ => -1
  | a :: l, h => if a = h then 0 else (if placeS l h < 0 then -1 else placeS l h + 1)
theorem placeS_none : ∀ {l : List Hs} {h : Hs}, h ∉ l → placeS l h = -1
  | [], h, _ => rfl
  | a :: l, h, hn => by
    rw [placeS, if_neg (fun e => hn (by rw [e]; simp)), placeS_none (fun e => hn (List.mem_cons_of_mem _ e)), if_pos (by decide)]
theorem placeS_at : ∀ {l : List Hs} {h : Hs} {i : Nat}, l[i]? = some h → (∀ j, j < i → ∀ y, l[j]? = some y → y ≠ h) → placeS l h = i
  | [], h, i, e, _ => by simp at e
  | a :: l, h, 0, e, _ => by rw [placeS, if_pos (Option.some.inj e)]; rfl
  | a :: l, h, i + 1, e, hf => by
    have := placeS_at (l := l) (i := i) (by simpa using e) (fun j hj y hy => hf (j + 1) (by omega) y (by simpa using hy))
    rw [placeS, if_neg (hf 0 (by omega) a rfl), this, if_neg (by omega)]
    omega
theorem placeS_neg {l : List Hs} {h : Hs} : placeS l h < 0 ↔ h ∉ l := by
  constructor
  · intro hp hm
    induction l with
    | nil => cases hm
    | cons a l ih =>
      rw [placeS] at hp
      by_cases c : a = h
      · rw [if_pos c] at hp; cases hp
      · rw [if_neg c] at hp
        rcases List.mem_cons.1 hm with e | e
        · exact c e.symm
        · by_cases d : placeS l h < 0
          · exact ih d e
          · rw [if_neg d] at hp; omega
  · intro hn; rw [placeS_none hn]; decide
set_option maxRecDepth 100000 in
theorem place_calls (l : List Hs) (h : Hs) (k : Cap) (hl : l.length < 140737488355328) : LCalls Try.prog 22 [.sl 32 (hss l) k, .agg (hsL h)] [] (fun r H' => r = i64 (placeS l h) ∧ H' = []) := by
  have hx2 : h.1.length = 32 := h.2
  refine LCalls.of Try.func22 rfl Try.ntmps22 Try.results22 rfl (fun Rf => ?_)
  refine LW.seq ?_
  refine LW.region ?_
  refine X.act (X.box rfl Is.rfl' (by exact Cells.agg) (fun b3 => ?_))
  refine X.u (LU.assignR Is.rfl') rfl ?_
  refine LL.nil (after_code ?_)
  refine LW.seq ?_
  refine LW.seq ?_
  refine LW.region ?_
  refine X.u (LU.assignR Is.rfl') rfl ?_
  refine LL.nil (after_code ?_)
  refine LW.block ?_
  refine X.loopK (α := Nat) (fun i => [(5, i64 i)]) [0, 3] (fun i => .cells b3 34 (hsL h) :: Rf) (fun i => i ≤ l.length ∧ ∀ j, j < i → ∀ y, l[j]? = some y → y ≠ h) (fun i => l.length - i) (0) (EnvLe.cons (by rfl) (EnvLe.nil)) (by repeat (exact HSub.refl _)) ?_ ?_
  · exact ⟨Nat.zero_le _, fun j hj => by omega⟩
  · rintro i hI
    obtain ⟨hi, hf⟩ := hI
    refine LW.seq ?_
    refine LW.seq ?_
    refine LW.region ?_
    refine X.u (LU.moveR Is.rfl') rfl ?_
    refine X.u (LU.moveS Is.rfl') rfl ?_
    refine X.u (LU.lenN Try.underlying26 Is.rfl' (by (simp only [Option.getD_some, Option.getD_none, byteEls_length, intEls_length, List.length_append, List.length_cons, List.length_nil, List.length_map, List.length_drop, List.length_take, Int.toNat_natCast]; rfl))) rfl ?_
    refine X.u (LU.lss Is.rfl' Is.rfl') rfl ?_
    refine LL.nil (after_code ?_)
    refine X.cond rfl (fun h2 => ?_) (fun h2 => ?_)
    · try have h2 := of_decide_eq_true h2
      refine LW.skip (after_code ?_)
      refine LW.seq ?_
      refine LW.block ?_
      refine LW.seq ?_
      obtain ⟨x, hx⟩ := at_lt (show i < l.length by omega)
      have hx3 : x.1.length = 32 := x.2
      refine X.drawM 6 rfl (by kernel_rfl) rfl ?_
      refine QD.u (LU.moveS Is.rfl') rfl ?_
      refine QD.u (LU.moveR Is.rfl') rfl ?_
      refine QD.u (LU.at Try.underlying26 ⟨Try.sizeOf34, Try.isAgg34⟩ Is.rfl' Is.rfl' (by omega) (hss_at hx) (hs_ne x)) rfl ?_
      refine QD.u (LU.weak (LU.load ⟨Try.sizeOf34, Try.isAgg34⟩ Is.rfl' (by (simp; omega)) (Part.whole (by (simp; omega)))) (Is.of (y := .agg (hsL x)) (rfl))) rfl ?_
      refine QD.u (LU.weak (LU.loadO 0 rfl ⟨Try.sizeOf34, Try.isAgg34⟩ Is.rfl' (Part.sub (by (simp; omega)))) (Is.of (y := .agg (hsL h)) (hs_whole h))) rfl ?_
      refine QD.u (LU.eqlHs Try.underlying34 Try.underlying5 Try.sizeOf5 (by kernel_rfl) Is.rfl' Is.rfl') rfl ?_
      refine QD.nil ?_
      refine LL.nil (after_code ?_)
      refine X.cond rfl (fun h4 => ?_) (fun h4 => ?_)
      · have heq : x = h := of_decide_eq_true h4
        have hd : (0 : Nat) = 0 := rfl
        refine LW.seq ?_
        refine LW.region ?_
        refine X.u (LU.moveR Is.rfl') rfl ?_
        refine X.u (LU.assignR Is.rfl') rfl ?_
        refine LL.nil (after_code ?_)
        refine LW.ret (ret_blk (ret_code (ret_rnd (ret_blk (ret_code (after_end ?_))))))
        refine X.ret (H' := []) (Res.one (by exact IsR rfl)) (by repeat (first | exact HSub.refl _ | refine HSub.drop ?_)) ?_
        exact ⟨by rw [placeS_at (by rw [← heq]; exact hx) hf], rfl⟩
      · have hne : x ≠ h := of_decide_eq_false h4
        have hd : (0 : Nat) = 0 := rfl
        refine LW.skip (after_blk (after_code ?_))
        refine LW.region ?_
        refine X.u (LU.moveR Is.rfl') rfl ?_
        refine X.u (LU.addN Is.rfl' Is.rfl' (wrap_i64 (by omega) (by omega))) rfl ?_
        refine X.u (LU.assignR Is.rfl') rfl ?_
        refine LL.nil (after_rnd ?_)
        refine X.next (i + 1) rfl (EnvLe.cons (by rfl) (EnvLe.nil)) (Keeps.cons (by exact Eq.trans (b := .sl _ _ _) rfl rfl) (Keeps.cons (by exact Eq.trans (b := .raw _) rfl rfl) (Keeps.nil))) (by repeat (exact HSub.refl _)) ?_ ?_
        · refine ⟨by omega, fun j hj y hy => ?_⟩
          by_cases c : j = i
          · rw [c, hx] at hy; rw [← Option.some.inj hy]; exact hne
          · exact hf j (by omega) y hy
        · omega
    · try have h2 := of_decide_eq_false h2
      refine LW.exit (exit_code (exit_rnd (exit_blk (after_code ?_))))
      refine LW.seq ?_
      refine LW.region ?_
      refine X.u (LU.assignR Is.rfl') rfl ?_
      refine LL.nil (after_code ?_)
      refine LW.ret (after_end ?_)
      refine X.ret (H' := []) (Res.one (by exact IsR rfl)) (by repeat (first | exact HSub.refl _ | refine HSub.drop ?_)) ?_
      exact ⟨by rw [placeS_none (fun hm => by obtain ⟨j, hj, e⟩ := List.getElem_of_mem hm; exact hf j (by omega) h (by rw [List.getElem?_eq_getElem hj, e]) rfl)], rfl⟩
end Go.Proofs.Ytmaeepckfbnpjaa
