/- Tokens: no two are the same; a token at each time. -/
import Derived.Test.YtnfeepmgdahmgaaDoorTkD
set_option linter.unusedVariables false
set_option linter.unusedSimpArgs false
namespace Go.Proofs.YtnfeepmgdahmgaaDoor
open Go.RowKit Go.L
attribute [local irreducible] LL LW LO
abbrev strs (l : List (List UInt8)) : List (List LV) := l.map fun s => [Str s]
theorem strs_at {l : List (List UInt8)} {i : Nat} {x : List UInt8} (h : l[i]? = some x) : (strs l)[(i : Int).toNat]? = some [Str x] := by
  rw [Int.toNat_natCast, List.getElem?_map, h]; rfl
theorem strs_snoc (l : List (List UInt8)) (x : List UInt8) (k : Cap) : LV.sl 1 (strs l ++ [[Str x]]) k = LV.sl 1 (strs (l ++ [x])) k := by
  rw [strs, strs, List.map_append]; rfl
theorem at_lt {α : Type} {l : List α} {i : Nat} (h : i < l.length) : ∃ x, l[i]? = some x := ⟨_, List.getElem?_eq_getElem h⟩
set_option maxRecDepth 100000 in
theorem haspt_calls (s : List UInt8) (hs : s.length < 9223372036854775807) : LCalls Tryd.prog 18 [Str s] [] (fun r H' => r = bl (s.contains 46) ∧ H' = []) := by
  refine LCalls.of Tryd.func18 rfl Tryd.ntmps18 Tryd.results18 rfl (fun Rf => ?_)
  refine LW.seq ?_
  refine LW.region ?_
  refine X.u (LU.assignR Is.rfl') rfl ?_
  refine LL.nil (after_code ?_)
  refine LW.seq ?_
  refine LW.seq ?_
  refine LW.region ?_
  refine X.u (LU.moveR Is.rfl') rfl ?_
  refine X.u (LU.strlenN Tryd.underlying9 Is.rfl') rfl ?_
  refine X.u (LU.moveR Is.rfl') rfl ?_
  refine LL.nil (after_code ?_)
  refine LW.block ?_
  refine X.loopK (α := Nat) (fun i => [(6, i64 i)]) [0, 5] (fun _ => _) (fun i => i ≤ s.length ∧ ∀ j, j < i → s.getD j 0 ≠ 46) (fun i => s.length - i) (0) (EnvLe.cons (by rfl) (EnvLe.nil)) (HSub.refl _) ?_ ?_
  · exact ⟨Nat.zero_le _, fun j hj => by omega⟩
  · rintro i hI
    obtain ⟨hi, hf⟩ := hI
    refine LW.seq ?_
    refine LW.region ?_
    refine X.u (LU.lss Is.rfl' Is.rfl') rfl ?_
    refine LL.nil (after_code ?_)
    refine LW.seq ?_
    refine X.cond rfl (fun h2 => ?_) (fun h2 => ?_)
    · try have h2 := of_decide_eq_true h2
      refine LW.skip (after_code ?_)
      refine LW.seq ?_
      refine LW.block ?_
      refine LW.seq ?_
      refine LW.region ?_
      refine X.u (LU.moveR Is.rfl') rfl ?_
      refine X.u (LU.assignR Is.rfl') rfl ?_
      refine LL.nil (after_code ?_)
      refine LW.seq ?_
      refine LW.region ?_
      refine X.u (LU.moveR Is.rfl') rfl ?_
      refine X.u (LU.moveR Is.rfl') rfl ?_
      refine X.u (LU.stratN Tryd.underlying9 Is.rfl' Is.rfl' (by omega) (by omega)) rfl ?_
      refine X.u (LU.eql Is.rfl' Is.rfl') rfl ?_
      refine LL.nil (after_code ?_)
      refine X.cond rfl (fun h4 => ?_) (fun h4 => ?_)
      · have hc : s.contains 46 = true := by
          have h5 : (s.getD i 0).toNat = 46 := by have := of_decide_eq_true h4; simp only [Int.toNat_natCast] at this; omega
          have h6 : s.getD i 0 = 46 := UInt8.toNat_inj.1 (by rw [h5]; rfl)
          rw [List.contains_iff_mem, ← h6, List.getD_eq_getElem?_getD, List.getElem?_eq_getElem (by omega)]
          exact List.getElem_mem _
        have hd : (0 : Nat) = 0 := rfl
        refine LW.seq ?_
        refine LW.region ?_
        refine X.u (LU.assignR Is.rfl') rfl ?_
        refine LL.nil (after_code ?_)
        refine LW.ret (ret_blk (ret_code (ret_rnd (ret_blk (ret_code (after_end ?_))))))
        refine X.ret (H' := []) (Res.one (by exact IsR rfl)) (by repeat (exact HSub.refl _)) ?_
        exact ⟨by rw [hc], rfl⟩
      · have hne : s.getD i 0 ≠ 46 := fun c => by have := of_decide_eq_false h4; simp only [Int.toNat_natCast] at this; rw [c] at this; exact this rfl
        refine LW.skip (after_blk (after_code ?_))
        refine LW.region ?_
        refine X.u (LU.addN Is.rfl' Is.rfl' (wrap_i64 (by omega) (by omega))) rfl ?_
        refine X.u (LU.moveR Is.rfl') rfl ?_
        refine LL.nil (after_rnd ?_)
        refine X.next (i + 1) rfl (EnvLe.cons (by rfl) (EnvLe.nil)) (Keeps.cons (by exact Eq.trans (b := .raw _) rfl rfl) (Keeps.cons (by exact Eq.trans (b := .raw _) rfl rfl) (Keeps.nil))) (HSub.refl _) ?_ ?_
        · refine ⟨by omega, fun j hj => ?_⟩
          by_cases hji : j = i
          · rw [hji]; exact hne
          · exact hf j (by omega)
        · omega
    · try have h2 := of_decide_eq_false h2
      refine LW.exit (exit_code (exit_rnd (exit_blk (after_code ?_))))
      refine LW.seq ?_
      refine LW.region ?_
      refine X.u (LU.assignR Is.rfl') rfl ?_
      refine LL.nil (after_code ?_)
      refine LW.ret (after_end ?_)
      refine X.ret (H' := []) (Res.one (by exact IsR rfl)) (by repeat (exact HSub.refl _)) ?_
      refine ⟨?_, rfl⟩
      have hc : s.contains 46 = false := by
        rw [Bool.eq_false_iff]
        intro c
        rw [List.contains_iff_mem] at c
        obtain ⟨j, hj, he⟩ := List.getElem_of_mem c
        exact hf j (by omega) (by rw [List.getD_eq_getElem?_getD, List.getElem?_eq_getElem hj]; exact he)
      rw [hc]
set_option maxHeartbeats 1000000 in
set_option maxRecDepth 100000 in
theorem unlike_calls (sec : List UInt8) (us : List (List UInt8)) (hs : sec.length < 140737488355328) (hus : us.length < 140737488355328) : LCalls Tryd.prog 3 [Bytes sec .unk, .sl 1 (strs us) .unk] [kw, pw] (fun r H' => r = bl true ∧ H' = [kw, pw]) := by
  refine LCalls.of Tryd.func3 rfl Tryd.ntmps3 Tryd.results3 rfl (fun Rf => ?_)
  refine LW.seq ?_
  refine LW.region ?_
  refine X.u (LU.assignR Is.rfl') rfl ?_
  refine LL.nil (after_code ?_)
  refine LW.seq ?_
  refine LW.seq ?_
  refine LW.region ?_
  refine X.u (LU.moveS Is.rfl') rfl ?_
  refine X.u (LU.lenN Tryd.underlying22 Is.rfl' (by (simp only [Option.getD_some, Option.getD_none, byteEls_length, intEls_length, List.length_append, List.length_cons, List.length_nil, List.length_map, List.length_drop, List.length_take, Int.toNat_natCast]; rfl))) rfl ?_
  refine X.u (LU.gtr Is.rfl' Is.rfl') rfl ?_
  refine X.u (LU.moveR Is.rfl') rfl ?_
  refine X.gF rfl rfl (fun hg => LU.moveS (by exact Is.rfl')) rfl ?_
  refine X.gF rfl rfl (fun hg => LU.lenN Tryd.underlying23 (by exact Is.whenN hg) (by (simp only [Option.getD_some, Option.getD_none, byteEls_length, intEls_length, List.length_append, List.length_cons, List.length_nil, List.length_map, List.length_drop, List.length_take, Int.toNat_natCast]; rfl))) rfl ?_
  refine X.gF rfl rfl (fun hg => LU.gtr (by exact Is.whenN hg) (by exact Is.rfl')) rfl ?_
  refine X.u (LU.pickOr Is.rfl' Is.rfl' (fun hq => (by exact Is.whenN hq))) rfl ?_
  refine LL.nil (after_code ?_)
  refine X.cond rfl (fun h1 => ?_) (fun h1 => ?_)
  · try have h1 := of_decide_eq_true h1
    refine LW.seq ?_
    refine LW.region ?_
    refine X.act (X.call (lives16_calls) Tryd.func14 rfl rfl rfl (by (refine HSub.pick 0 rfl ?_); (refine HSub.pick 0 rfl ?_); exact HSub.refl _) Opds.nil ?_)
    rintro r H' ⟨rfl, rfl⟩
    refine X.u (LU.assignR Is.rfl') rfl ?_
    refine LL.nil (after_code ?_)
    refine LW.ret (ret_code (after_end ?_))
    refine X.ret (H' := [kw, pw]) (Res.one (by exact IsR rfl)) (by repeat (exact HSub.refl _)) ?_
    exact ⟨rfl, rfl⟩
  · have h1 : sec.length ≤ 1000 ∧ us.length ≤ 60 := by simp at h1; omega
    obtain ⟨hs2, hu2⟩ := h1
    refine LW.skip (after_code ?_)
    refine LW.seq ?_
    refine LW.region ?_
    refine X.u (LU.moveS Is.rfl') rfl ?_
    refine X.act (X.call (newb_calls sec .unk (by omega)) Tryd.func15 rfl rfl rfl (HSub.refl _) (Opds.cons Is.rfl' Opds.nil) ?_)
    rintro r H' ⟨g, m, rfl, rfl⟩
    refine X.u (LU.assignR Is.rfl') rfl ?_
    refine LL.nil (after_code ?_)
    refine LW.seq ?_
    refine LW.region ?_
    refine X.u (LU.assign (Is.nil 1)) rfl ?_
    refine LL.nil (after_code ?_)
    refine LW.seq ?_
    refine LW.seq ?_
    refine LW.region ?_
    refine X.u (LU.moveS Is.rfl') rfl ?_
    refine X.u (LU.lenN Tryd.underlying23 Is.rfl' (by (simp only [Option.getD_some, Option.getD_none, byteEls_length, intEls_length, List.length_append, List.length_cons, List.length_nil, List.length_map, List.length_drop, List.length_take, Int.toNat_natCast]; rfl))) rfl ?_
    refine X.u (LU.moveR Is.rfl') rfl ?_
    refine LL.nil (after_code ?_)
    refine LW.block ?_
    refine X.wweak (t := 6) (v := .sl 1 (strs []) (.tok 0 0 0)) (Is.full_tok 0 0) ?_
    refine X.wghost (HSub.tail0 0 0 0 (Nat.le_refl _) _) ?_
    refine X.loopK (α := Nat × Bk × List (List UInt8) × Nat × Nat × Nat) (fun ⟨i, l, acc, tb, t_, tc⟩ => [(26, i64 i), (6, .sl 1 (strs acc) (.tok tb t_ tc))]) [5, 24, 25] (fun ⟨i, l, acc, tb, t_, tc⟩ => .tail tb t_ tc :: bkC g m sec :: bkM m l :: kw :: pw :: Rf) (fun ⟨i, l, acc, tb, t_, tc⟩ => i ≤ us.length ∧ BkI sec l ∧ acc = l.map (·.1)) (fun ⟨i, l, acc, tb, t_, tc⟩ => us.length - i) ((0, [], [], 0, 0, 0)) (EnvLe.cons (by rfl) (EnvLe.cons (by rfl) (EnvLe.nil))) (by repeat (exact HSub.refl _)) ?_ ?_
    · exact ⟨Nat.zero_le _, BkI.nil sec, rfl⟩
    · rintro ⟨i, l, acc, tb, t_, tc⟩ hI
      obtain ⟨hi, hB, hacc⟩ := hI
      have hal : acc.length = l.length := by rw [hacc, List.length_map]
      have hl256 := hB.1
      refine LW.seq ?_
      refine LW.region ?_
      refine X.u (LU.lss Is.rfl' Is.rfl') rfl ?_
      refine LL.nil (after_code ?_)
      refine LW.seq ?_
      refine X.cond rfl (fun h6 => ?_) (fun h6 => ?_)
      · try have h6 := of_decide_eq_true h6
        refine LW.skip (after_code ?_)
        refine LW.seq ?_
        refine LW.block ?_
        refine LW.seq ?_
        obtain ⟨u, hu⟩ := at_lt (show i < us.length by omega)
        refine LW.region ?_
        refine X.u (LU.at Tryd.underlying23 ⟨Tryd.sizeOf9, Tryd.isAgg9⟩ Is.rfl' Is.rfl' (by omega) (strs_at hu) (by simp)) rfl ?_
        refine X.u (LU.load ⟨Tryd.sizeOf9, Tryd.isAgg9⟩ Is.rfl' (by (simp; done)) (Part.one rfl)) rfl ?_
        refine X.u (LU.assignR Is.rfl') rfl ?_
        refine LL.nil (after_code ?_)
        refine LW.seq ?_
        refine LW.seq ?_
        refine LW.region ?_
        refine X.u (LU.moveR Is.rfl') rfl ?_
        refine X.u (LU.strlenN Tryd.underlying9 Is.rfl') rfl ?_
        refine X.u (LU.gtr Is.rfl' Is.rfl') rfl ?_
        refine LL.nil (after_code ?_)
        refine X.cond rfl (fun h8 => ?_) (fun h8 => ?_)
        · try have h8 := of_decide_eq_true h8
          refine LW.exit (exit_code (exit_blk (after_code ?_)))
          refine LW.region ?_
          refine X.u (LU.addN Is.rfl' Is.rfl' (wrap_i64 (by omega) (by omega))) rfl ?_
          refine X.u (LU.moveR Is.rfl') rfl ?_
          refine LL.nil (after_rnd ?_)
          refine X.next ((i + 1, l, acc, tb, t_, tc)) rfl (EnvLe.cons (by rfl) (EnvLe.cons (by rfl) (EnvLe.nil))) (Keeps.cons (by exact Eq.trans (b := .raw _) rfl rfl) (Keeps.cons (by exact Eq.trans (b := .sl _ _ _) rfl rfl) (Keeps.cons (by exact Eq.trans (b := .raw _) rfl rfl) (Keeps.nil)))) (by repeat (exact HSub.refl _)) ?_ ?_
          · exact ⟨by omega, hB, hacc⟩
          · (simp; omega)
        · have h8 : u.length ≤ 100 := by have := of_decide_eq_false h8; omega
          have hB2 := hB.issue u 1 2 (by omega)
          refine LW.skip (after_code ?_)
          refine LW.seq ?_
          refine LW.region ?_
          refine X.u (LU.moveR Is.rfl') rfl ?_
          refine X.u (LU.moveR Is.rfl') rfl ?_
          refine X.act (X.call (issueI g m hB u 1 2 (by omega) (by omega)) Tryd.func16 rfl rfl rfl (by (refine HSub.pick 1 rfl ?_); (refine HSub.pick 1 rfl ?_); (refine HSub.pick 1 rfl ?_); (refine HSub.pick 1 rfl ?_); exact HSub.refl _) (Opds.cons Is.rfl' (Opds.cons Is.rfl' (Opds.cons Is.rfl' (Opds.cons Is.rfl' Opds.nil)))) ?_)
          rintro r H' ⟨rfl, rfl⟩
          refine X.u (LU.moveT Is.rfl') rfl ?_
          refine X.u (LU.extract Is.rfl' rfl) rfl ?_
          refine X.u (LU.extract Is.rfl' rfl) rfl ?_
          refine X.u (LU.assignR Is.rfl') rfl ?_
          refine X.u (LU.assignR Is.rfl') rfl ?_
          refine LL.nil (after_code ?_)
          refine LW.seq ?_
          refine LW.seq ?_
          refine LW.region ?_
          refine X.u (LU.moveR Is.rfl') rfl ?_
          refine X.u (LU.neq Is.rfl' Is.rfl') rfl ?_
          refine LL.nil (after_code ?_)
          refine X.cond rfl (fun h10 => ?_) (fun h10 => ?_)
          · have h10 : issE l.length u 1 2 ≠ 0 := by simpa using h10
            have hL : issL sec l u 1 2 = l := by unfold issL; rw [if_neg h10]
            refine LW.exit (exit_code (exit_blk (after_code ?_)))
            refine LW.region ?_
            refine X.u (LU.addN Is.rfl' Is.rfl' (wrap_i64 (by omega) (by omega))) rfl ?_
            refine X.u (LU.moveR Is.rfl') rfl ?_
            refine LL.nil (after_rnd ?_)
            refine X.next ((i + 1, issL sec l u 1 2, acc, tb, t_, tc)) rfl (EnvLe.cons (by rfl) (EnvLe.cons (by rfl) (EnvLe.nil))) (Keeps.cons (by exact Eq.trans (b := .raw _) rfl rfl) (Keeps.cons (by exact Eq.trans (b := .sl _ _ _) rfl rfl) (Keeps.cons (by exact Eq.trans (b := .raw _) rfl rfl) (Keeps.nil)))) (by repeat (first | exact HSub.refl _ | refine HSub.pick 4 rfl ?_)) ?_ ?_
            · exact ⟨by omega, hB2, by rw [hL]; exact hacc⟩
            · (simp; omega)
          · have h10 : issE l.length u 1 2 = 0 := by simpa using h10
            have hL : issL sec l u 1 2 = l ++ [(ttext sec (l.length + 1) u 2, ⟨u, 2, 0⟩)] := by unfold issL; rw [if_pos h10]; rfl
            have hT : issT sec l.length u 1 2 = ttext sec (l.length + 1) u 2 := by unfold issT; rw [if_pos h10]; rfl
            rw [hT]
            refine LW.skip (after_code ?_)
            refine LW.seq ?_
            refine LW.seq ?_
            refine X.wghost (H' := .tail tb t_ tc :: bkC g m sec :: bkM m (issL sec l u 1 2) :: kw :: pw :: Rf) (by repeat (first | exact HSub.refl _ | refine HSub.pick 4 rfl ?_)) ?_
            refine LW.region ?_
            refine X.u (LU.moveS Is.rfl') rfl ?_
            refine X.u (LU.lenN Tryd.underlying23 Is.rfl' (by (simp only [Option.getD_some, Option.getD_none, byteEls_length, intEls_length, List.length_append, List.length_cons, List.length_nil, List.length_map, List.length_drop, List.length_take, Int.toNat_natCast]; rfl))) rfl ?_
            refine X.u (LU.moveR Is.rfl') rfl ?_
            refine LL.nil (after_code ?_)
            refine LW.block ?_
            refine X.loopK (α := Nat) (fun j => [(43, i64 j)]) [5, 6, 9, 24, 25, 26, 41, 42] (fun j => .tail tb t_ tc :: bkC g m sec :: bkM m (issL sec l u 1 2) :: kw :: pw :: Rf) (fun j => j ≤ acc.length) (fun j => acc.length - j) (0) (EnvLe.cons (by rfl) (EnvLe.nil)) (by repeat (exact HSub.refl _)) ?_ ?_
            · exact Nat.zero_le _
            · rintro j hI
              refine LW.seq ?_
              refine LW.region ?_
              refine X.u (LU.lss Is.rfl' Is.rfl') rfl ?_
              refine LL.nil (after_code ?_)
              refine LW.seq ?_
              refine X.cond rfl (fun h12 => ?_) (fun h12 => ?_)
              · try have h12 := of_decide_eq_true h12
                refine LW.skip (after_code ?_)
                refine LW.seq ?_
                refine LW.block ?_
                refine LW.seq ?_
                obtain ⟨x, hx⟩ := at_lt (show j < acc.length by omega)
                have hne : x ≠ ttext sec (l.length + 1) u 2 := by
                  rw [hacc, List.getElem?_map] at hx
                  cases hq : l[j]? with
                  | none => rw [hq] at hx; cases hx
                  | some p =>
                    rw [hq] at hx
                    have := idxB_none (hB.fresh u 2) hq
                    rw [← Option.some.inj hx]; exact this
                refine LW.region ?_
                refine X.u (LU.at Tryd.underlying23 ⟨Tryd.sizeOf9, Tryd.isAgg9⟩ Is.rfl' Is.rfl' (by omega) (strs_at hx) (by simp)) rfl ?_
                refine X.u (LU.load ⟨Tryd.sizeOf9, Tryd.isAgg9⟩ Is.rfl' (by (simp; done)) (Part.one rfl)) rfl ?_
                refine X.u (LU.assignR Is.rfl') rfl ?_
                refine LL.nil (after_code ?_)
                refine LW.seq ?_
                refine LW.region ?_
                refine X.u (LU.moveR Is.rfl') rfl ?_
                refine X.u (LU.moveR Is.rfl') rfl ?_
                refine X.u (LU.weak (LU.streqN Is.rfl' Is.rfl') (asB (c := false) rfl (by exact decide_eq_false hne))) rfl ?_
                refine LL.nil (after_code ?_)
                refine X.condF rfl ?_ ?_
                · rfl
                refine LW.skip (after_blk (after_code ?_))
                refine LW.region ?_
                refine X.u (LU.addN Is.rfl' Is.rfl' (wrap_i64 (by omega) (by omega))) rfl ?_
                refine X.u (LU.moveR Is.rfl') rfl ?_
                refine LL.nil (after_rnd ?_)
                refine X.next (j + 1) rfl (EnvLe.cons (by rfl) (EnvLe.nil)) (Keeps.cons (by exact Eq.trans (b := .raw _) rfl rfl) (Keeps.cons (by exact Eq.trans (b := .sl _ _ _) rfl rfl) (Keeps.cons (by exact Eq.trans (b := .raw _) rfl rfl) (Keeps.cons (by exact Eq.trans (b := .sl _ _ _) rfl rfl) (Keeps.cons (by exact Eq.trans (b := .raw _) rfl rfl) (Keeps.cons (by exact Eq.trans (b := .raw _) rfl rfl) (Keeps.cons (by exact Eq.trans (b := .sl _ _ _) rfl rfl) (Keeps.cons (by exact Eq.trans (b := .raw _) rfl rfl) (Keeps.nil))))))))) (by repeat (exact HSub.refl _)) ?_ ?_
                · omega
                · omega
              · try have h12 := of_decide_eq_false h12
                refine LW.exit (exit_code (exit_rnd (exit_blk (after_code ?_))))
                refine LW.region ?_
                refine X.u (LU.moveS Is.rfl') rfl ?_
                refine X.u (LU.moveR Is.rfl') rfl ?_
                refine X.u (LU.lits Tryd.underlying23 Tryd.sizeOf9 Tryd.zeroValue9 (ones rfl) rfl (by decide) (by decide) (Elems.cons Is.rfl' (by exact Cells.raw rfl) Elems.nil) (by (simp; done)) rfl) rfl ?_
                refine X.act (X.append 0 rfl rfl Tryd.underlying23 (El.of (P := Tryd.prog) (z := (.string ByteArray.empty)) (size := 1) (bytes := 16) rfl rfl rfl) Is.rfl' Is.rfl' (SrcL.slice Tryd.underlying23 (by decide) (by (intro e he; simp [chunks] at he; simp [he]; done))) (by simp only [Option.getD_some, Option.getD_none, byteEls_length, intEls_length, List.length_append, List.length_cons, List.length_nil, List.length_map, List.length_drop, List.length_take, Int.toNat_natCast]; omega) (by simp only [Option.getD_some, Option.getD_none, byteEls_length, intEls_length, List.length_append, List.length_cons, List.length_nil, List.length_map, List.length_drop, List.length_take, Int.toNat_natCast]; omega) (fun b54 o54 c54 => X.weak (t := 54) (Is.of (y := .sl 1 (strs (acc ++ [ttext sec (l.length + 1) u 2])) (.tok b54 o54 c54)) (strs_snoc acc _ _)) ?_))
                refine X.u (LU.assignS Is.rfl') rfl ?_
                refine LL.nil (after_blk (after_code ?_))
                refine LW.region ?_
                refine X.u (LU.addN Is.rfl' Is.rfl' (wrap_i64 (by omega) (by omega))) rfl ?_
                refine X.u (LU.moveR Is.rfl') rfl ?_
                refine LL.nil (after_rnd ?_)
                refine X.next ((i + 1, issL sec l u 1 2, acc ++ [ttext sec (l.length + 1) u 2], b54, o54, c54)) rfl (EnvLe.cons (by rfl) (EnvLe.cons (by rfl) (EnvLe.nil))) (Keeps.cons (by exact Eq.trans (b := .raw _) rfl rfl) (Keeps.cons (by exact Eq.trans (b := .sl _ _ _) rfl rfl) (Keeps.cons (by exact Eq.trans (b := .raw _) rfl rfl) (Keeps.nil)))) (by repeat (exact HSub.refl _)) ?_ ?_
                · exact ⟨by omega, hB2, by rw [hacc, hL, List.map_append]; rfl⟩
                · (simp; omega)
      · try have h6 := of_decide_eq_false h6
        refine LW.exit (exit_code (exit_rnd (exit_blk (after_code ?_))))
        refine LW.seq ?_
        refine LW.region ?_
        refine X.u (LU.moveR Is.rfl') rfl ?_
        refine X.act (X.call (len16_calls g m sec l) Tryd.func17 rfl rfl rfl (by (refine HSub.pick 1 rfl ?_); (refine HSub.pick 1 rfl ?_); exact HSub.refl _) (Opds.cons Is.rfl' Opds.nil) ?_)
        rintro r H' ⟨rfl, rfl⟩
        refine X.u (LU.moveS Is.rfl') rfl ?_
        refine X.u (LU.lenN Tryd.underlying23 Is.rfl' (by (simp only [Option.getD_some, Option.getD_none, byteEls_length, intEls_length, List.length_append, List.length_cons, List.length_nil, List.length_map, List.length_drop, List.length_take, Int.toNat_natCast]; rfl))) rfl ?_
        refine X.u (LU.weak (LU.eql Is.rfl' Is.rfl') (asB (c := true) rfl (by simp [hacc]))) rfl ?_
        refine X.u (LU.moveR Is.rfl') rfl ?_
        refine X.actG rfl rfl (X.call (lives16_calls) Tryd.func14 rfl rfl rfl (by (refine HSub.pick 3 rfl ?_); (refine HSub.pick 3 rfl ?_); exact HSub.refl _) Opds.nil ?_)
        rintro r H' ⟨rfl, rfl⟩
        refine X.u (LU.pickT Is.rfl' (by exact Is.rfl')) rfl ?_
        refine X.u (LU.assignR Is.rfl') rfl ?_
        refine LL.nil (after_code ?_)
        refine LW.ret (after_end ?_)
        refine X.ret (H' := [kw, pw]) (Res.one (by exact IsR rfl)) (by repeat (first | exact HSub.refl _ | refine HSub.pick 0 rfl ?_ | refine HSub.drop ?_)) ?_
        exact ⟨rfl, rfl⟩
theorem strs_of {es : List (List LV)} (h : ∀ c ∈ es, QStr c) : ∃ l : List (List UInt8), es = strs l ∧ ∀ a ∈ l, a.length ≤ reachBytes := Go.L.decode (fun s => [Str s]) _ h
theorem TokenUnlike_row (x0 x1 : List (List LV)) (h0 : ∀ c ∈ x0, QInt .u8 c) (h1 : x0.length * 1 ≤ reachBytes) (h2 : ∀ c ∈ x1, QStr c) (h3 : x1.length * 16 ≤ reachBytes) : LCalls Tryd.prog 3 [.sl 1 x0 .unk, .sl 1 x1 .unk] [kw, pw] (fun r H' => r = .raw (.bool true) ∧ H' = [kw, pw]) := by
  obtain ⟨a, rfl⟩ := decode_bytes h0
  obtain ⟨us, rfl, _⟩ := strs_of h2
  rw [byteEls_length] at h1
  rw [List.length_map] at h3
  have hr := reachBytes_lt
  exact unlike_calls a us (by omega) (by omega)
end Go.Proofs.YtnfeepmgdahmgaaDoor
