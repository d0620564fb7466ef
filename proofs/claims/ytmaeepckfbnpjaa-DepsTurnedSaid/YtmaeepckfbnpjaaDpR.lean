/- The document's Missing, Closed. -/
import Derived.Test.YtmaeepckfbnpjaaDpQ
set_option linter.unusedVariables false
set_option linter.unusedSimpArgs false
namespace Go.Proofs.Ytmaeepckfbnpjaa
open Go.RowKit Go.L Go.Lib
attribute [local irreducible] LL LW LO
theorem it_pin (x : It) : ((itL x).drop 32).take 1 = [Hss x.deps] := by
  rw [List.drop_left' (by rw [List.length_map]; exact x.name.2)]; rfl
theorem sortU_nil : sortU [] = [] := List.eq_nil_of_length_eq_zero (by unfold sortU; rw [sortH_len]; rfl)
theorem uniq_len : ∀ l : List Hs, (uniq l).length ≤ l.length
  | [] => Nat.le_refl 0
  | a :: l => by
    have := uniq_len l
    rw [uniq]
    split
    · rw [List.length_cons]; omega
    · rw [List.length_cons, List.length_cons]; omega
theorem sortU_len (l : List Hs) : (sortU l).length ≤ l.length := by unfold sortU; rw [sortH_len]; exact uniq_len l
theorem missO_len (l k : List It) : (missO l k).length ≤ totalD k := by
  refine Nat.le_trans (List.length_filter_le _ _) ?_
  unfold totalD
  rw [List.length_flatMap]
  exact Nat.le_refl _
set_option maxHeartbeats 2000000 in
set_option maxRecDepth 100000 in
theorem rmissing_calls (l : List It) (k : Cap) (hl : l.length < 140737488355328) (hd : totalD l ≤ 400000) : LCalls Try.prog 19 [.sl 33 (its l) k] [] (fun r H' => r = .sl 32 (hss (missS l)) .unk ∧ H' = []) := by
  refine LCalls.of Try.func19 rfl Try.ntmps19 Try.results19 rfl (fun Rf => ?_)
  refine LW.seq ?_
  refine LW.region ?_
  refine X.u (LU.assign (Is.nil 32)) rfl ?_
  refine LL.nil (after_code ?_)
  refine LW.seq ?_
  refine LW.region ?_
  refine X.u (LU.assign (Is.nil 32)) rfl ?_
  refine LL.nil (after_code ?_)
  refine LW.seq ?_
  refine LW.seq ?_
  refine LW.region ?_
  refine X.u (LU.moveS Is.rfl') rfl ?_
  refine X.u (LU.lenN Try.underlying22 Is.rfl' (by (simp only [Option.getD_some, Option.getD_none, byteEls_length, intEls_length, List.length_append, List.length_cons, List.length_nil, List.length_map, List.length_drop, List.length_take, Int.toNat_natCast]; rfl))) rfl ?_
  refine X.u (LU.gtr Is.rfl' Is.rfl') rfl ?_
  refine LL.nil (after_code ?_)
  refine X.cond rfl (fun h2 => ?_) (fun h2 => ?_)
  · have h1 : 256 < l.length := by have := of_decide_eq_true h2; omega
    refine LW.seq ?_
    refine LW.region ?_
    refine X.u (LU.assign (Is.nil 32)) rfl ?_
    refine LL.nil (after_code ?_)
    refine LW.ret (ret_code (after_end ?_))
    refine X.ret (H' := []) (Res.one Is.unk) (by repeat (exact HSub.refl _)) ?_
    refine ⟨?_, rfl⟩
    unfold missS; rw [if_pos h1]; rfl
  · have h1 : ¬ 256 < l.length := by have := of_decide_eq_false h2; omega
    refine LW.skip (after_code ?_)
    refine LW.seq ?_
    refine LW.seq ?_
    refine LW.region ?_
    refine X.u (LU.assignR Is.rfl') rfl ?_
    refine LL.nil (after_code ?_)
    refine LW.block ?_
    refine X.wweak (t := 3) (v := .sl 32 (hss []) .unk) Is.unk ?_
    refine X.loopK (α := Nat × List Hs) (fun ⟨i, m⟩ => [(4, i64 i), (3, .sl 32 (hss m) .unk)]) [0, 2] (fun ⟨i, m⟩ => Rf) (fun ⟨i, m⟩ => i ≤ l.length ∧ m = sortU (missO l (l.take i))) (fun ⟨i, m⟩ => l.length - i) ((0, [])) (EnvLe.cons (by rfl) (EnvLe.cons (by rfl) (EnvLe.nil))) (by repeat (exact HSub.refl _)) ?_ ?_
    · exact ⟨Nat.zero_le _, sortU_nil.symm⟩
    · rintro ⟨i, m⟩ hI
      obtain ⟨hi, hm⟩ := hI
      refine LW.seq ?_
      refine LW.seq ?_
      refine LW.region ?_
      refine X.u (LU.moveR Is.rfl') rfl ?_
      refine X.u (LU.moveS Is.rfl') rfl ?_
      refine X.u (LU.lenN Try.underlying22 Is.rfl' (by (simp only [Option.getD_some, Option.getD_none, byteEls_length, intEls_length, List.length_append, List.length_cons, List.length_nil, List.length_map, List.length_drop, List.length_take, Int.toNat_natCast]; rfl))) rfl ?_
      refine X.u (LU.lss Is.rfl' Is.rfl') rfl ?_
      refine LL.nil (after_code ?_)
      refine X.cond rfl (fun h5 => ?_) (fun h5 => ?_)
      · try have h5 := of_decide_eq_true h5
        refine LW.skip (after_code ?_)
        refine LW.seq ?_
        refine LW.block ?_
        refine LW.seq ?_
        obtain ⟨x, hx⟩ := at_lt (show i < l.length by omega)
        have htot := totalD_at hx
        have hxl := it_len x
        have hx2 : x.name.1.length = 32 := x.name.2
        have hmll := missO_len l (l.take i)
        obtain ⟨ml, hml⟩ : ∃ ml, ml = missO l (l.take i) := ⟨_, rfl⟩
        rw [← hml] at hm hmll
        refine LW.region ?_
        refine X.u (LU.assignR Is.rfl') rfl ?_
        refine LL.nil (after_code ?_)
        refine LW.block ?_
        refine X.loopK (α := Nat × List Hs) (fun ⟨j, m2⟩ => [(5, i64 j), (3, .sl 32 (hss m2) .unk)]) [0, 2, 4] (fun ⟨j, m2⟩ => Rf) (fun ⟨j, m2⟩ => j ≤ x.deps.length ∧ m2 = sortU (ml ++ (x.deps.take j).filter fun y => decide (y ∉ names l))) (fun ⟨j, m2⟩ => x.deps.length - j) ((0, m)) (EnvLe.cons (by rfl) (EnvLe.cons (by rfl) (EnvLe.nil))) (by repeat (exact HSub.refl _)) ?_ ?_
        · exact ⟨Nat.zero_le _, by simpa using hm⟩
        · rintro ⟨j, m2⟩ hI
          obtain ⟨hj, hm2⟩ := hI
          refine LW.seq ?_
          refine LW.seq ?_
          refine LW.region ?_
          refine X.u (LU.moveR Is.rfl') rfl ?_
          refine X.u (LU.moveS Is.rfl') rfl ?_
          refine X.u (LU.moveR Is.rfl') rfl ?_
          refine X.u (LU.at Try.underlying22 ⟨Try.sizeOf36, Try.isAgg36⟩ Is.rfl' Is.rfl' (by omega) (its_at hx) (it_ne x)) rfl ?_
          refine X.u (LU.weak (LU.fieldP Try.underlying36 rfl ⟨Try.sizeOf26, Try.isAgg26⟩ (by decide) Is.rfl' (by (simp; omega))) (Is.of (y := .pin [Hss x.deps]) (congrArg LV.pin (it_pin x)))) rfl ?_
          refine X.u (LU.load ⟨Try.sizeOf26, Try.isAgg26⟩ Is.rfl' (by (simp; done)) (Part.one rfl)) rfl ?_
          refine X.u (LU.lenN Try.underlying26 Is.rfl' (by (simp only [Option.getD_some, Option.getD_none, byteEls_length, intEls_length, List.length_append, List.length_cons, List.length_nil, List.length_map, List.length_drop, List.length_take, Int.toNat_natCast]; rfl))) rfl ?_
          refine X.u (LU.lss Is.rfl' Is.rfl') rfl ?_
          refine LL.nil (after_code ?_)
          refine X.cond rfl (fun h8 => ?_) (fun h8 => ?_)
          · try have h8 := of_decide_eq_true h8
            refine LW.skip (after_code ?_)
            refine LW.seq ?_
            refine LW.block ?_
            refine LW.seq ?_
            obtain ⟨e_, hd2⟩ := at_lt (show j < x.deps.length by omega)
            have hm2l : m2.length ≤ 1000000 := by
              rw [hm2]
              refine Nat.le_trans (sortU_len _) ?_
              rw [List.length_append]
              have := List.length_filter_le (fun y => decide (y ∉ names l)) (x.deps.take j)
              rw [List.length_take] at this
              omega
            refine LW.region ?_
            refine X.u (LU.moveS Is.rfl') rfl ?_
            refine X.u (LU.moveS Is.rfl') rfl ?_
            refine X.u (LU.moveR Is.rfl') rfl ?_
            refine X.u (LU.at Try.underlying22 ⟨Try.sizeOf36, Try.isAgg36⟩ Is.rfl' Is.rfl' (by omega) (its_at hx) (it_ne x)) rfl ?_
            refine X.u (LU.weak (LU.fieldP Try.underlying36 rfl ⟨Try.sizeOf26, Try.isAgg26⟩ (by decide) Is.rfl' (by (simp; omega))) (Is.of (y := .pin [Hss x.deps]) (congrArg LV.pin (it_pin x)))) rfl ?_
            refine X.u (LU.load ⟨Try.sizeOf26, Try.isAgg26⟩ Is.rfl' (by (simp; done)) (Part.one rfl)) rfl ?_
            refine X.u (LU.moveR Is.rfl') rfl ?_
            refine X.u (LU.at Try.underlying26 ⟨Try.sizeOf34, Try.isAgg34⟩ Is.rfl' Is.rfl' (by omega) (hss_at hd2) (hs_ne e_)) rfl ?_
            refine X.u (LU.weak (LU.load ⟨Try.sizeOf34, Try.isAgg34⟩ Is.rfl' (by (simp; omega)) (Part.whole (by (simp; omega)))) (Is.of (y := .agg (hsL e_)) (rfl))) rfl ?_
            refine X.u (LU.call (named_calls l e_ k hl) Try.func33 rfl rfl (Opds.cons Is.rfl' (Opds.cons Is.rfl' Opds.nil))) rfl ?_
            refine X.u (LU.not Is.rfl') rfl ?_
            refine LL.nil (after_code ?_)
            refine X.cond rfl (fun h10 => ?_) (fun h10 => ?_)
            · have h11 : e_ ∉ names l := by simpa using h10
              refine LW.region ?_
              refine X.u (LU.moveS Is.rfl') rfl ?_
              refine X.u (LU.moveS Is.rfl') rfl ?_
              refine X.u (LU.moveR Is.rfl') rfl ?_
              refine X.u (LU.at Try.underlying22 ⟨Try.sizeOf36, Try.isAgg36⟩ Is.rfl' Is.rfl' (by omega) (its_at hx) (it_ne x)) rfl ?_
              refine X.u (LU.weak (LU.fieldP Try.underlying36 rfl ⟨Try.sizeOf26, Try.isAgg26⟩ (by decide) Is.rfl' (by (simp; omega))) (Is.of (y := .pin [Hss x.deps]) (congrArg LV.pin (it_pin x)))) rfl ?_
              refine X.u (LU.load ⟨Try.sizeOf26, Try.isAgg26⟩ Is.rfl' (by (simp; done)) (Part.one rfl)) rfl ?_
              refine X.u (LU.moveR Is.rfl') rfl ?_
              refine X.u (LU.at Try.underlying26 ⟨Try.sizeOf34, Try.isAgg34⟩ Is.rfl' Is.rfl' (by omega) (hss_at hd2) (hs_ne e_)) rfl ?_
              refine X.u (LU.weak (LU.load ⟨Try.sizeOf34, Try.isAgg34⟩ Is.rfl' (by (simp; omega)) (Part.whole (by (simp; omega)))) (Is.of (y := .agg (hsL e_)) (rfl))) rfl ?_
              refine X.u (LU.call (with_calls m2 e_ .unk hm2l) Try.func31 rfl rfl (Opds.cons Is.rfl' (Opds.cons Is.rfl' Opds.nil))) rfl ?_
              refine X.u (LU.assignS Is.rfl') rfl ?_
              refine LL.nil (after_blk (after_code ?_))
              refine LW.region ?_
              refine X.u (LU.moveR Is.rfl') rfl ?_
              refine X.u (LU.addN Is.rfl' Is.rfl' (wrap_i64 (by omega) (by omega))) rfl ?_
              refine X.u (LU.assignR Is.rfl') rfl ?_
              refine LL.nil (after_rnd ?_)
              refine X.next ((j + 1, withS m2 e_)) rfl (EnvLe.cons (by rfl) (EnvLe.cons (by rfl) (EnvLe.nil))) (Keeps.cons (by exact Eq.trans (b := .sl _ _ _) rfl rfl) (Keeps.cons (by exact Eq.trans (b := .sl _ _ _) rfl rfl) (Keeps.cons (by exact Eq.trans (b := .raw _) rfl rfl) (Keeps.nil)))) (by repeat (exact HSub.refl _)) ?_ ?_
              · refine ⟨by omega, ?_⟩
                rw [hm2, withS_sortU, take_snoc hd2, List.filter_append, List.append_assoc]
                have : List.filter (fun y => decide (y ∉ names l)) [e_] = [e_] := by rw [List.filter_cons, if_pos (decide_eq_true h11)]; rfl
                rw [this]
              · (simp; omega)
            · have h11 : e_ ∈ names l := by simpa using h10
              refine LW.skip (after_blk (after_code ?_))
              refine LW.region ?_
              refine X.u (LU.moveR Is.rfl') rfl ?_
              refine X.u (LU.addN Is.rfl' Is.rfl' (wrap_i64 (by omega) (by omega))) rfl ?_
              refine X.u (LU.assignR Is.rfl') rfl ?_
              refine LL.nil (after_rnd ?_)
              refine X.next ((j + 1, m2)) rfl (EnvLe.cons (by rfl) (EnvLe.cons (by rfl) (EnvLe.nil))) (Keeps.cons (by exact Eq.trans (b := .sl _ _ _) rfl rfl) (Keeps.cons (by exact Eq.trans (b := .sl _ _ _) rfl rfl) (Keeps.cons (by exact Eq.trans (b := .raw _) rfl rfl) (Keeps.nil)))) (by repeat (exact HSub.refl _)) ?_ ?_
              · refine ⟨by omega, ?_⟩
                rw [take_snoc hd2, List.filter_append]
                have : List.filter (fun y => decide (y ∉ names l)) [e_] = [] := by rw [List.filter_cons, if_neg (by rw [decide_eq_false (fun h : e_ ∉ names l => h h11)]; decide)]; rfl
                rw [this, List.append_nil]
                exact hm2
              · (simp; omega)
          · try have h8 := of_decide_eq_false h8
            refine LW.exit (exit_code (exit_rnd (exit_blk (after_blk (after_code ?_)))))
            refine LW.region ?_
            refine X.u (LU.moveR Is.rfl') rfl ?_
            refine X.u (LU.addN Is.rfl' Is.rfl' (wrap_i64 (by omega) (by omega))) rfl ?_
            refine X.u (LU.assignR Is.rfl') rfl ?_
            refine LL.nil (after_rnd ?_)
            refine X.next ((i + 1, m2)) rfl (EnvLe.cons (by rfl) (EnvLe.cons (by rfl) (EnvLe.nil))) (Keeps.cons (by exact Eq.trans (b := .sl _ _ _) rfl rfl) (Keeps.cons (by exact Eq.trans (b := .sl _ _ _) rfl rfl) (Keeps.nil))) (by repeat (exact HSub.refl _)) ?_ ?_
            · refine ⟨by omega, ?_⟩
              rw [take_snoc hx, missO_snoc, ← hml, hm2, show j = x.deps.length by omega, List.take_length]
            · (simp; omega)
      · try have h5 := of_decide_eq_false h5
        refine LW.exit (exit_code (exit_rnd (exit_blk (after_code ?_))))
        refine LW.seq ?_
        refine LW.region ?_
        refine X.u (LU.moveS Is.rfl') rfl ?_
        refine X.u (LU.assignS Is.rfl') rfl ?_
        refine LL.nil (after_code ?_)
        refine LW.ret (after_end ?_)
        refine X.ret (H' := []) (Res.one (by exact IsS rfl)) (by repeat (exact HSub.refl _)) ?_
        refine ⟨?_, rfl⟩
        have : m = missS l := by
          unfold missS
          rw [if_neg h1, hm, List.take_of_length_le (by omega)]
        rw [this]
end Go.Proofs.Ytmaeepckfbnpjaa
