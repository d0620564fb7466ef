/- The document's names. -/
import Derived.Test.YtmaeepckfbnpjaaDpL
set_option linter.unusedVariables false
set_option linter.unusedSimpArgs false
namespace Go.Proofs.Ytmaeepckfbnpjaa
open Go.RowKit Go.L Go.Lib
attribute [local irreducible] LL LW LO
theorem it_ne (x : It) : itL x ≠ [] := fun c => by have := it_len x; rw [c] at this; cases this
theorem names_at {l : List It} {i : Nat} {x : It} (h : l[i]? = some x) : (names l)[i]? = some x.name := by rw [List.getElem?_map, h]; rfl
set_option maxRecDepth 100000 in
theorem named_calls (l : List It) (h : Hs) (k : Cap) (hl : l.length < 140737488355328) : LCalls Try.prog 33 [.sl 33 (its l) k, .agg (hsL h)] [] (fun r H' => r = bl (decide (h ∈ names l)) ∧ H' = []) := by
  have hx2 : h.1.length = 32 := h.2
  refine LCalls.of Try.func33 rfl Try.ntmps33 Try.results33 rfl (fun Rf => ?_)
  refine LW.seq ?_
  refine LW.region ?_
  refine X.act (X.box rfl Is.rfl' (by exact Cells.agg) (fun b3 => ?_))
  refine X.u (LU.assignR Is.rfl') rfl ?_
  refine LL.nil (after_code ?_)
  refine LW.seq ?_
  refine LW.seq ?_
  refine LW.region ?_
  refine X.u (LU.assignR Is.rfl') rfl ?_
  refine LL.nil (after_code ?_)
  refine LW.block ?_
  refine X.loopK (α := Nat) (fun i => [(5, i64 i)]) [0, 3] (fun i => .cells b3 34 (hsL h) :: Rf) (fun i => i ≤ l.length ∧ h ∉ names (l.take i)) (fun i => l.length - i) (0) (EnvLe.cons (by rfl) (EnvLe.nil)) (by repeat (exact HSub.refl _)) ?_ ?_
  · exact ⟨Nat.zero_le _, by simp⟩
  · rintro i hI
    obtain ⟨hi, hf⟩ := hI
    refine LW.seq ?_
    refine LW.seq ?_
    refine LW.region ?_
    refine X.u (LU.moveR Is.rfl') rfl ?_
    refine X.u (LU.moveS Is.rfl') rfl ?_
    refine X.u (LU.lenN Try.underlying22 Is.rfl' (by (simp only [Option.getD_some, Option.getD_none, byteEls_length, intEls_length, List.length_append, List.length_cons, List.length_nil, List.length_map, List.length_drop, List.length_take, Int.toNat_natCast]; rfl))) rfl ?_
    refine X.u (LU.lss Is.rfl' Is.rfl') rfl ?_
    refine LL.nil (after_code ?_)
    refine X.cond rfl (fun h2 => ?_) (fun h2 => ?_)
    · try have h2 := of_decide_eq_true h2
      refine LW.skip (after_code ?_)
      refine LW.seq ?_
      refine LW.block ?_
      refine LW.seq ?_
      obtain ⟨x, hx⟩ := at_lt (show i < l.length by omega)
      have hx3 : x.name.1.length = 32 := x.name.2
      have hxl := it_len x
      refine X.drawM 7 rfl (by kernel_rfl) rfl ?_
      refine QD.u (LU.moveS Is.rfl') rfl ?_
      refine QD.u (LU.moveR Is.rfl') rfl ?_
      refine QD.u (LU.at Try.underlying22 ⟨Try.sizeOf36, Try.isAgg36⟩ Is.rfl' Is.rfl' (by omega) (its_at hx) (it_ne x)) rfl ?_
      refine QD.u (LU.fieldP Try.underlying36 rfl ⟨Try.sizeOf34, Try.isAgg34⟩ (by decide) Is.rfl' (by (simp; omega))) rfl ?_
      refine QD.u (LU.weak (LU.load ⟨Try.sizeOf34, Try.isAgg34⟩ Is.rfl' (by (simp; omega)) (Part.whole (by (simp; omega)))) (Is.of (y := .agg (hsL x.name)) (congrArg LV.agg (it_name x)))) rfl ?_
      refine QD.u (LU.weak (LU.loadO 0 rfl ⟨Try.sizeOf34, Try.isAgg34⟩ Is.rfl' (Part.sub (by (simp; omega)))) (Is.of (y := .agg (hsL h)) (hs_whole h))) rfl ?_
      refine QD.u (LU.eqlHs Try.underlying34 Try.underlying5 Try.sizeOf5 (by kernel_rfl) Is.rfl' Is.rfl') rfl ?_
      refine QD.nil ?_
      refine LL.nil (after_code ?_)
      refine X.cond rfl (fun h4 => ?_) (fun h4 => ?_)
      · have heq : x.name = h := of_decide_eq_true h4
        have hd : (0 : Nat) = 0 := rfl
        refine LW.seq ?_
        refine LW.region ?_
        refine X.u (LU.assignR Is.rfl') rfl ?_
        refine LL.nil (after_code ?_)
        refine LW.ret (ret_blk (ret_code (ret_rnd (ret_blk (ret_code (after_end ?_))))))
        refine X.ret (H' := []) (Res.one (by exact IsR rfl)) (by repeat (first | exact HSub.refl _ | refine HSub.drop ?_)) ?_
        exact ⟨by rw [decide_eq_true (by rw [← heq]; exact List.mem_of_getElem? (names_at hx))], rfl⟩
      · have hne : x.name ≠ h := of_decide_eq_false h4
        have hd : (0 : Nat) = 0 := rfl
        refine LW.skip (after_blk (after_code ?_))
        refine LW.region ?_
        refine X.u (LU.moveR Is.rfl') rfl ?_
        refine X.u (LU.addN Is.rfl' Is.rfl' (wrap_i64 (by omega) (by omega))) rfl ?_
        refine X.u (LU.assignR Is.rfl') rfl ?_
        refine LL.nil (after_rnd ?_)
        refine X.next (i + 1) rfl (EnvLe.cons (by rfl) (EnvLe.nil)) (Keeps.cons (by exact Eq.trans (b := .sl _ _ _) rfl rfl) (Keeps.cons (by exact Eq.trans (b := .raw _) rfl rfl) (Keeps.nil))) (by repeat (exact HSub.refl _)) ?_ ?_
        · refine ⟨by omega, ?_⟩
          rw [take_snoc hx, show names (l.take i ++ [x]) = names (l.take i) ++ [x.name] from List.map_append .., List.mem_append, List.mem_singleton]
          exact fun c => c.elim hf fun e => hne e.symm
        · omega
    · try have h2 := of_decide_eq_false h2
      refine LW.exit (exit_code (exit_rnd (exit_blk (after_code ?_))))
      refine LW.seq ?_
      refine LW.region ?_
      refine X.u (LU.assignR Is.rfl') rfl ?_
      refine LL.nil (after_code ?_)
      refine LW.ret (after_end ?_)
      refine X.ret (H' := []) (Res.one (by exact IsR rfl)) (by repeat (first | exact HSub.refl _ | refine HSub.drop ?_)) ?_
      exact ⟨by rw [decide_eq_false (by rw [List.take_of_length_le (by omega)] at hf; exact hf)], rfl⟩
theorem nodup_snoc {l : List Hs} {a : Hs} : (l ++ [a]).Nodup ↔ l.Nodup ∧ a ∉ l := by
  rw [List.nodup_append]
  exact ⟨fun ⟨h1, _, h3⟩ => ⟨h1, fun hm => h3 a hm a (by simp) rfl⟩, fun ⟨h1, h2⟩ => ⟨h1, by simp, fun x hx y hy => by rw [List.mem_singleton.1 hy]; rintro rfl; exact h2 hx⟩⟩
set_option maxRecDepth 100000 in
theorem twice_calls (l : List It) (k : Cap) (hl : l.length < 140737488355328) : LCalls Try.prog 26 [.sl 33 (its l) k] [] (fun r H' => r = bl (!decide (names l).Nodup) ∧ H' = []) := by
  refine LCalls.of Try.func26 rfl Try.ntmps26 Try.results26 rfl (fun Rf => ?_)
  refine LW.seq ?_
  refine LW.region ?_
  refine X.u (LU.assignR Is.rfl') rfl ?_
  refine LL.nil (after_code ?_)
  refine LW.seq ?_
  refine LW.seq ?_
  refine LW.region ?_
  refine X.u (LU.assignR Is.rfl') rfl ?_
  refine LL.nil (after_code ?_)
  refine LW.block ?_
  refine X.loopK (α := Nat) (fun i => [(3, i64 i)]) [0] (fun _ => _) (fun i => i ≤ l.length ∧ (names (l.take i)).Nodup) (fun i => l.length - i) (0) (EnvLe.cons (by rfl) (EnvLe.nil)) (HSub.refl _) ?_ ?_
  · exact ⟨Nat.zero_le _, by simp⟩
  · rintro i hI
    obtain ⟨hi, hf⟩ := hI
    refine LW.seq ?_
    refine LW.seq ?_
    refine LW.region ?_
    refine X.u (LU.moveR Is.rfl') rfl ?_
    refine X.u (LU.moveS Is.rfl') rfl ?_
    refine X.u (LU.lenN Try.underlying22 Is.rfl' (by (simp only [Option.getD_some, Option.getD_none, byteEls_length, intEls_length, List.length_append, List.length_cons, List.length_nil, List.length_map, List.length_drop, List.length_take, Int.toNat_natCast]; rfl))) rfl ?_
    refine X.u (LU.lss Is.rfl' Is.rfl') rfl ?_
    refine LL.nil (after_code ?_)
    refine X.cond rfl (fun h2 => ?_) (fun h2 => ?_)
    · try have h2 := of_decide_eq_true h2
      refine LW.skip (after_code ?_)
      refine LW.seq ?_
      refine LW.block ?_
      refine LW.seq ?_
      obtain ⟨x, hx⟩ := at_lt (show i < l.length by omega)
      have hx3 : x.name.1.length = 32 := x.name.2
      have hxl := it_len x
      have hsn : names (l.take (i + 1)) = names (l.take i) ++ [x.name] := by rw [take_snoc hx]; exact List.map_append ..
      refine X.drawM 9 rfl (by kernel_rfl) rfl ?_
      refine QD.u (LU.moveS Is.rfl') rfl ?_
      refine QD.u (LU.moveR Is.rfl') rfl ?_
      refine QD.u (LU.weak (LU.slice (lo := none) (hi := some _) (l := none) (h := some ((i : Nat) : Int)) Try.sizeOf36 (by decide) Try.underlying22 Is.rfl' trivial ⟨_, Is.rfl'⟩ (by simp) (by simp) (by simp only [Option.getD_some, Option.getD_none, List.length_map]; omega) .unk (.inl rfl)) (Is.of (y := .sl 33 (its (l.take i)) .unk) (congrArg (fun z => LV.sl 33 z .unk) (by simp)))) rfl ?_
      refine QD.u (LU.moveS Is.rfl') rfl ?_
      refine QD.u (LU.moveR Is.rfl') rfl ?_
      refine QD.u (LU.at Try.underlying22 ⟨Try.sizeOf36, Try.isAgg36⟩ Is.rfl' Is.rfl' (by omega) (its_at hx) (it_ne x)) rfl ?_
      refine QD.u (LU.fieldP Try.underlying36 rfl ⟨Try.sizeOf34, Try.isAgg34⟩ (by decide) Is.rfl' (by (simp; omega))) rfl ?_
      refine QD.u (LU.weak (LU.load ⟨Try.sizeOf34, Try.isAgg34⟩ Is.rfl' (by (simp; omega)) (Part.whole (by (simp; omega)))) (Is.of (y := .agg (hsL x.name)) (congrArg LV.agg (it_name x)))) rfl ?_
      refine QD.u (LU.call (named_calls (l.take i) x.name .unk (by rw [List.length_take]; omega)) Try.func33 rfl rfl (Opds.cons Is.rfl' (Opds.cons Is.rfl' Opds.nil))) rfl ?_
      refine QD.nil ?_
      refine LL.nil (after_code ?_)
      refine X.cond rfl (fun h4 => ?_) (fun h4 => ?_)
      · try have h4 := of_decide_eq_true h4
        refine LW.seq ?_
        refine LW.region ?_
        refine X.u (LU.assignR Is.rfl') rfl ?_
        refine LL.nil (after_code ?_)
        refine LW.ret (ret_blk (ret_code (ret_rnd (ret_blk (ret_code (after_end ?_))))))
        refine X.ret (H' := []) (Res.one (by exact IsR rfl)) (by repeat (exact HSub.refl _)) ?_
        have hn : ¬ (names l).Nodup := fun c => by
          have h2 := (List.take_sublist (i + 1) (names l)).nodup c
          rw [← List.map_take] at h2
          rw [show (l.take (i + 1)).map (·.name) = names (l.take i) ++ [x.name] from hsn] at h2
          exact (nodup_snoc.1 h2).2 h4
        exact ⟨by rw [decide_eq_false hn]; rfl, rfl⟩
      · try have h4 := of_decide_eq_false h4
        refine LW.skip (after_blk (after_code ?_))
        refine LW.region ?_
        refine X.u (LU.moveR Is.rfl') rfl ?_
        refine X.u (LU.addN Is.rfl' Is.rfl' (wrap_i64 (by omega) (by omega))) rfl ?_
        refine X.u (LU.assignR Is.rfl') rfl ?_
        refine LL.nil (after_rnd ?_)
        refine X.next (i + 1) rfl (EnvLe.cons (by rfl) (EnvLe.nil)) (Keeps.cons (by exact Eq.trans (b := .sl _ _ _) rfl rfl) (Keeps.nil)) (HSub.refl _) ?_ ?_
        · exact ⟨by omega, by rw [hsn]; exact nodup_snoc.2 ⟨hf, h4⟩⟩
        · omega
    · try have h2 := of_decide_eq_false h2
      refine LW.exit (exit_code (exit_rnd (exit_blk (after_code ?_))))
      refine LW.seq ?_
      refine LW.region ?_
      refine X.u (LU.assignR Is.rfl') rfl ?_
      refine LL.nil (after_code ?_)
      refine LW.ret (after_end ?_)
      refine X.ret (H' := []) (Res.one (by exact IsR rfl)) (by repeat (exact HSub.refl _)) ?_
      have hn : (names l).Nodup := by rw [List.take_of_length_le (by omega)] at hf; exact hf
      exact ⟨by rw [decide_eq_true hn]; rfl, rfl⟩
end Go.Proofs.Ytmaeepckfbnpjaa
