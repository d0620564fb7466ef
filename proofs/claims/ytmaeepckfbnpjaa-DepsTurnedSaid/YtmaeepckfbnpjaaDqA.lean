/- The document's Order. -/
import Derived.Test.YtmaeepckfbnpjaaDpZ
set_option linter.unusedVariables false
set_option linter.unusedSimpArgs false
namespace Go.Proofs.Ytmaeepckfbnpjaa
open Go.RowKit Go.L Go.Lib
attribute [local irreducible] LL LW LO
theorem best_ex (l : List It) (out : List Hs) (i : Nat) (o : Option Nat) (h : Bst l out i o) : ∃ z : It, 0 ≤ bestI o → (its l)[(bestI o).toNat]? = some (itL z) ∧ (bestI o).toNat < l.length ∧ ∀ b z', o = some b → l[b]? = some z' → z' = z := by
  cases o with
  | none => exact ⟨⟨⟨List.replicate 32 0, rfl⟩, []⟩, fun h => by cases h⟩
  | some b =>
    obtain ⟨z, hz, _⟩ := h
    refine ⟨z, fun _ => ⟨its_at hz, (List.getElem?_eq_some_iff.1 hz).1, fun b2 z2 e h2 => ?_⟩⟩
    cases e
    rw [hz] at h2
    exact (Option.some.inj h2).symm
theorem best_lt {l : List It} {out : List Hs} {i : Nat} {o : Option Nat} (h : Bst l out i o) : -1 ≤ bestI o ∧ bestI o < l.length := by
  cases o with
  | none => exact ⟨Int.le_refl _, by show (-1 : Int) < _; omega⟩
  | some b =>
    obtain ⟨z, hz, _⟩ := h
    have := (List.getElem?_eq_some_iff.1 hz).1
    exact ⟨by show (-1 : Int) ≤ (b : Nat); omega, by show ((b : Nat) : Int) < _; omega⟩
set_option maxHeartbeats 2000000 in
set_option maxRecDepth 100000 in
theorem rorder_calls (l : List It) (k : Cap) (hl : l.length < 140737488355328) (hd : totalD l ≤ 400000) : LCalls Try.prog 12 [.sl 33 (its l) k] [] (fun r H' => r = .tup [.sl 32 (hss (orderS l).1) .unk, i64 ((orderS l).2 : Nat)] ∧ H' = []) := by
  refine LCalls.of Try.func12 rfl Try.ntmps12 Try.results12 rfl (fun Rf => ?_)
  refine LW.seq ?_
  refine LW.region ?_
  refine X.u (LU.assign (Is.nil 32)) rfl ?_
  refine X.u (LU.assignR Is.rfl') rfl ?_
  refine LL.nil (after_code ?_)
  refine LW.seq ?_
  refine LW.seq ?_
  refine LW.region ?_
  refine X.u (LU.moveS Is.rfl') rfl ?_
  refine X.u (LU.lenN Try.underlying22 Is.rfl' (by (simp only [Option.getD_some, Option.getD_none, byteEls_length, intEls_length, List.length_append, List.length_cons, List.length_nil, List.length_map, List.length_drop, List.length_take, Int.toNat_natCast]; rfl))) rfl ?_
  refine X.u (LU.gtr Is.rfl' Is.rfl') rfl ?_
  refine LL.nil (after_code ?_)
  refine X.cond rfl (fun h1 => ?_) (fun h1 => ?_)
  · have h1 : 256 < l.length := by have := of_decide_eq_true h1; omega
    refine LW.seq ?_
    refine LW.region ?_
    refine X.u (LU.assign (Is.nil 32)) rfl ?_
    refine X.u (LU.assignR Is.rfl') rfl ?_
    refine LL.nil (after_code ?_)
    refine LW.ret (ret_code (after_end ?_))
    refine X.ret (H' := []) (Res.two Is.unk Is.rfl') (by repeat (exact HSub.refl _)) ?_
    refine ⟨?_, rfl⟩
    unfold orderS; rw [if_pos h1]; rfl
  · have h1 : ¬ 256 < l.length := by have := of_decide_eq_false h1; omega
    refine LW.skip (after_code ?_)
    refine LW.seq ?_
    refine LW.seq ?_
    refine LW.region ?_
    refine X.u (LU.moveS Is.rfl') rfl ?_
    refine X.u (LU.call (twice_calls l k hl) Try.func26 rfl rfl (Opds.cons Is.rfl' Opds.nil)) rfl ?_
    refine LL.nil (after_code ?_)
    refine X.cond rfl (fun h3 => ?_) (fun h3 => ?_)
    · have h3 : ¬ (names l).Nodup := by simpa using h3
      refine LW.seq ?_
      refine LW.region ?_
      refine X.u (LU.assign (Is.nil 32)) rfl ?_
      refine X.u (LU.assignR Is.rfl') rfl ?_
      refine LL.nil (after_code ?_)
      refine LW.ret (ret_code (after_end ?_))
      refine X.ret (H' := []) (Res.two Is.unk Is.rfl') (by repeat (exact HSub.refl _)) ?_
      refine ⟨?_, rfl⟩
      unfold orderS; rw [if_neg h1, if_pos h3]; rfl
    · have h3 : ¬ ¬ (names l).Nodup := by simpa using h3
      refine LW.skip (after_code ?_)
      refine LW.seq ?_
      refine LW.seq ?_
      refine LW.region ?_
      refine X.u (LU.moveS Is.rfl') rfl ?_
      refine X.u (LU.call (rmissing_calls l k hl hd) Try.func19 rfl rfl (Opds.cons Is.rfl' Opds.nil)) rfl ?_
      refine X.u (LU.lenN Try.underlying26 Is.rfl' (by (simp only [Option.getD_some, Option.getD_none, byteEls_length, intEls_length, List.length_append, List.length_cons, List.length_nil, List.length_map, List.length_drop, List.length_take, Int.toNat_natCast]; rfl))) rfl ?_
      refine X.u (LU.gtr Is.rfl' Is.rfl') rfl ?_
      refine LL.nil (after_code ?_)
      refine X.cond rfl (fun h5 => ?_) (fun h5 => ?_)
      · have h5 : 0 < (missS l).length := by have := of_decide_eq_true h5; omega
        refine LW.seq ?_
        refine LW.region ?_
        refine X.u (LU.assign (Is.nil 32)) rfl ?_
        refine X.u (LU.assignR Is.rfl') rfl ?_
        refine LL.nil (after_code ?_)
        refine LW.ret (ret_code (after_end ?_))
        refine X.ret (H' := []) (Res.two Is.unk Is.rfl') (by repeat (exact HSub.refl _)) ?_
        refine ⟨?_, rfl⟩
        unfold orderS; rw [if_neg h1, if_neg h3, if_pos h5]; rfl
      · have h5 : ¬ 0 < (missS l).length := by have := of_decide_eq_false h5; omega
        refine LW.skip (after_code ?_)
        refine LW.seq ?_
        refine LW.region ?_
        refine X.u (LU.assign (Is.nil 32)) rfl ?_
        refine LL.nil (after_code ?_)
        refine LW.seq ?_
        refine LW.block ?_
        refine X.wweak (t := 4) (v := .sl 32 (hss []) (.tok 0 0 0)) (Is.full_tok 0 0) ?_
        refine X.wghost (HSub.tail0 0 0 0 (Nat.le_refl _) _) ?_
        refine X.loopK (α := List Hs × Nat × Nat × Nat) (fun ⟨out, b, o, c⟩ => [(4, .sl 32 (hss out) (.tok b o c))]) [0] (fun ⟨out, b, o, c⟩ => .tail b o c :: Rf) (fun ⟨out, b, o, c⟩ => Kh l out) (fun ⟨out, b, o, c⟩ => l.length - out.length) (([], 0, 0, 0)) (EnvLe.cons (by rfl) (EnvLe.nil)) (by repeat (exact HSub.refl _)) ?_ ?_
        · exact Kh.nil l
        · rintro ⟨out, b, o, c⟩ hI
          have hK := hI
          have hkl := hK.len
          refine LW.seq ?_
          refine LW.seq ?_
          refine LW.region ?_
          refine X.u (LU.moveS Is.rfl') rfl ?_
          refine X.u (LU.lenN Try.underlying26 Is.rfl' (by (simp only [Option.getD_some, Option.getD_none, byteEls_length, intEls_length, List.length_append, List.length_cons, List.length_nil, List.length_map, List.length_drop, List.length_take, Int.toNat_natCast]; rfl))) rfl ?_
          refine X.u (LU.moveS Is.rfl') rfl ?_
          refine X.u (LU.lenN Try.underlying22 Is.rfl' (by (simp only [Option.getD_some, Option.getD_none, byteEls_length, intEls_length, List.length_append, List.length_cons, List.length_nil, List.length_map, List.length_drop, List.length_take, Int.toNat_natCast]; rfl))) rfl ?_
          refine X.u (LU.lss Is.rfl' Is.rfl') rfl ?_
          refine LL.nil (after_code ?_)
          refine X.cond rfl (fun h8 => ?_) (fun h8 => ?_)
          · have h8 : out.length < l.length := by have := of_decide_eq_true h8; omega
            refine LW.skip (after_code ?_)
            refine LW.block ?_
            refine LW.seq ?_
            refine LW.region ?_
            refine X.u (LU.assignR Is.rfl') rfl ?_
            refine LL.nil (after_code ?_)
            refine LW.seq ?_
            refine LW.seq ?_
            refine LW.region ?_
            refine X.u (LU.assignR Is.rfl') rfl ?_
            refine LL.nil (after_code ?_)
            refine LW.block ?_
            refine X.loopK (α := Nat × Option Nat) (fun ⟨i, p⟩ => [(6, i64 i), (5, i64 (bestI p))]) [0, 4] (fun ⟨i, p⟩ => .tail b o c :: Rf) (fun ⟨i, p⟩ => i ≤ l.length ∧ Bst l out i p) (fun ⟨i, p⟩ => l.length - i) ((0, none)) (EnvLe.cons (by rfl) (EnvLe.cons (by rfl) (EnvLe.nil))) (by repeat (exact HSub.refl _)) ?_ ?_
            · exact ⟨Nat.zero_le _, Bst.nil l out⟩
            · rintro ⟨i, p⟩ hI
              obtain ⟨hi, hB⟩ := hI
              obtain ⟨z, hz⟩ := best_ex l out i p hB
              have hbl := best_lt hB
              refine LW.seq ?_
              refine LW.seq ?_
              refine LW.region ?_
              refine X.u (LU.moveR Is.rfl') rfl ?_
              refine X.u (LU.moveS Is.rfl') rfl ?_
              refine X.u (LU.lenN Try.underlying22 Is.rfl' (by (simp only [Option.getD_some, Option.getD_none, byteEls_length, intEls_length, List.length_append, List.length_cons, List.length_nil, List.length_map, List.length_drop, List.length_take, Int.toNat_natCast]; rfl))) rfl ?_
              refine X.u (LU.lss Is.rfl' Is.rfl') rfl ?_
              refine LL.nil (after_code ?_)
              refine X.cond rfl (fun h11 => ?_) (fun h11 => ?_)
              · try have h11 := of_decide_eq_true h11
                refine LW.skip (after_code ?_)
                refine LW.seq ?_
                refine LW.block ?_
                refine LW.seq ?_
                obtain ⟨x, hx⟩ := at_lt (show i < l.length by omega)
                have hxl := it_len x
                have hxn : x.name.1.length = 32 := x.name.2
                have hzl := it_len z
                have hzn : z.name.1.length = 32 := z.name.2
                refine X.drawM 21 rfl (by kernel_rfl) rfl ?_
                refine QD.u (LU.moveS Is.rfl') rfl ?_
                refine QD.u (LU.moveS Is.rfl') rfl ?_
                refine QD.u (LU.moveR Is.rfl') rfl ?_
                refine QD.u (LU.call (ready_calls l out i x k _ hl hd (by omega) hx) Try.func27 rfl rfl (Opds.cons Is.rfl' (Opds.cons Is.rfl' (Opds.cons Is.rfl' Opds.nil)))) rfl ?_
                refine QD.u (LU.moveR Is.rfl') rfl ?_
                refine QD.gT rfl rfl (fun hg => LU.moveR (by exact Is.rfl')) rfl ?_
                refine QD.gT rfl rfl (fun hg => LU.lss (by exact Is.whenE hg) (by exact Is.rfl')) rfl ?_
                refine QD.gT rfl rfl (fun hg => LU.moveR (by exact Is.whenE hg)) rfl ?_
                refine QD.gF2 rfl rfl (fun hg0 hg => LU.moveS (by exact Is.rfl')) rfl ?_
                refine QD.gF2 rfl rfl (fun hg0 hg => LU.moveR (by exact Is.rfl')) rfl ?_
                refine QD.gF2 rfl rfl (fun hg0 hg => LU.at Try.underlying22 ⟨Try.sizeOf36, Try.isAgg36⟩ (by exact Is.whenE (by rw [hg0, hg]; rfl)) (by exact Is.whenE (by rw [hg0, hg]; rfl)) (by omega) (its_at hx) (it_ne x)) rfl ?_
                refine QD.gF2 rfl rfl (fun hg0 hg => LU.fieldP Try.underlying36 rfl ⟨Try.sizeOf34, Try.isAgg34⟩ (by decide) (by exact Is.whenE (by rw [hg0, hg]; rfl)) (by (simp; omega))) rfl ?_
                refine QD.gF2 rfl rfl (fun hg0 hg => LU.weak (LU.load ⟨Try.sizeOf34, Try.isAgg34⟩ (by exact Is.whenE (by rw [hg0, hg]; rfl)) (by (simp; omega)) (Part.whole (by (simp; omega)))) (Is.of (y := .agg (hsL x.name)) (congrArg LV.agg (it_name x)))) rfl ?_
                refine QD.gF2 rfl rfl (fun hg0 hg => LU.moveS (by exact Is.rfl')) rfl ?_
                refine QD.gF2 rfl rfl (fun hg0 hg => LU.moveR (by exact Is.rfl')) rfl ?_
                refine QD.gF2 rfl rfl (fun hg0 hg => LU.at Try.underlying22 ⟨Try.sizeOf36, Try.isAgg36⟩ (by exact Is.whenE (by rw [hg0, hg]; rfl)) (by exact Is.whenE (by rw [hg0, hg]; rfl)) (by simp at hg; omega) ((hz (by simp at hg; omega)).1) (it_ne z)) rfl ?_
                refine QD.gF2 rfl rfl (fun hg0 hg => LU.fieldP Try.underlying36 rfl ⟨Try.sizeOf34, Try.isAgg34⟩ (by decide) (by exact Is.whenE (by rw [hg0, hg]; rfl)) (by (simp; omega))) rfl ?_
                refine QD.gF2 rfl rfl (fun hg0 hg => LU.weak (LU.load ⟨Try.sizeOf34, Try.isAgg34⟩ (by exact Is.whenE (by rw [hg0, hg]; rfl)) (by (simp; omega)) (Part.whole (by (simp; omega)))) (Is.of (y := .agg (hsL z.name)) (congrArg LV.agg (it_name z)))) rfl ?_
                refine QD.gF2 rfl rfl (fun hg0 hg => LU.call (below_calls x.name z.name) Try.func28 rfl rfl (Opds.cons (by exact Is.whenE (by rw [hg0, hg]; rfl)) (Opds.cons (by exact Is.whenE (by rw [hg0, hg]; rfl)) Opds.nil))) rfl ?_
                refine QD.gT rfl rfl (fun hg => LU.pickOr (by exact Is.whenE hg) (by exact Is.rfl') (fun hq => (by exact Is.whenE (by rw [hg, hq]; rfl)))) rfl ?_
                refine QD.u (LU.pickAnd Is.rfl' (fun hq => (by exact Is.whenE hq)) Is.rfl') rfl ?_
                refine QD.nil ?_
                refine LL.nil (after_code ?_)
                refine X.cond rfl (fun h13 => ?_) (fun h13 => ?_)
                · have h13 : readyB out x = true ∧ (bestI p < 0 ∨ ltH x.name z.name = true) := by simpa using h13
                  have hd0 : (0 : Nat) = 0 := rfl
                  refine LW.region ?_
                  refine X.u (LU.moveR Is.rfl') rfl ?_
                  refine X.u (LU.assignR Is.rfl') rfl ?_
                  refine LL.nil (after_blk (after_code ?_))
                  refine LW.region ?_
                  refine X.u (LU.moveR Is.rfl') rfl ?_
                  refine X.u (LU.addN Is.rfl' Is.rfl' (wrap_i64 (by omega) (by omega))) rfl ?_
                  refine X.u (LU.assignR Is.rfl') rfl ?_
                  refine LL.nil (after_rnd ?_)
                  refine X.next ((i + 1, some i)) rfl (EnvLe.cons (by rfl) (EnvLe.cons (by rfl) (EnvLe.nil))) (Keeps.cons (by exact Eq.trans (b := .sl _ _ _) rfl rfl) (Keeps.cons (by exact Eq.trans (b := .sl _ _ _) rfl rfl) (Keeps.nil))) (by repeat (exact HSub.refl _)) ?_ ?_
                  · refine ⟨by omega, hB.take hx h13.1 fun b2 z2 e h2 => ?_⟩
                    have h0 : 0 ≤ bestI p := by rw [e]; exact Int.natCast_nonneg b2
                    rcases h13.2 with a | a
                    · omega
                    · rw [(hz h0).2.2 b2 z2 e h2]; exact a
                  · (simp; omega)
                · have h13 : readyB out x = true → ¬ bestI p < 0 ∧ ltH x.name z.name = false := by simpa using h13
                  have hd0 : (0 : Nat) = 0 := rfl
                  refine LW.skip (after_blk (after_code ?_))
                  refine LW.region ?_
                  refine X.u (LU.moveR Is.rfl') rfl ?_
                  refine X.u (LU.addN Is.rfl' Is.rfl' (wrap_i64 (by omega) (by omega))) rfl ?_
                  refine X.u (LU.assignR Is.rfl') rfl ?_
                  refine LL.nil (after_rnd ?_)
                  refine X.next ((i + 1, p)) rfl (EnvLe.cons (by rfl) (EnvLe.cons (by rfl) (EnvLe.nil))) (Keeps.cons (by exact Eq.trans (b := .sl _ _ _) rfl rfl) (Keeps.cons (by exact Eq.trans (b := .sl _ _ _) rfl rfl) (Keeps.nil))) (by repeat (exact HSub.refl _)) ?_ ?_
                  · refine ⟨by omega, hB.keep hx fun hr => ?_⟩
                    obtain ⟨a1, a2⟩ := h13 hr
                    cases p with
                    | none => exact absurd (show bestI none < 0 by decide) a1
                    | some b2 =>
                      obtain ⟨z2, h2, _⟩ := id hB
                      have e2 := (hz (Int.natCast_nonneg b2)).2.2 b2 z2 rfl h2
                      exact ⟨b2, z2, rfl, h2, by rw [e2]; exact a2⟩
                  · (simp; omega)
              · try have h11 := of_decide_eq_false h11
                refine LW.exit (exit_code (exit_rnd (exit_blk (after_code ?_))))
                refine LW.seq ?_
                refine LW.seq ?_
                refine LW.region ?_
                refine X.u (LU.moveR Is.rfl') rfl ?_
                refine X.u (LU.lss Is.rfl' Is.rfl') rfl ?_
                refine LL.nil (after_code ?_)
                refine X.cond rfl (fun h15 => ?_) (fun h15 => ?_)
                · have h15 : bestI p < 0 := of_decide_eq_true h15
                  have hdn : nextO l out = none := by
                    rw [show i = l.length by omega] at hB
                    rcases hB.done with a | ⟨b2, z2, e, _⟩
                    · exact a.2
                    · rw [e] at h15; have := Int.natCast_nonneg b2; exact absurd h15 (by show ¬ ((b2 : Nat) : Int) < 0; omega)
                  refine LW.seq ?_
                  refine LW.region ?_
                  refine X.u (LU.assign (Is.nil 32)) rfl ?_
                  refine X.u (LU.assignR Is.rfl') rfl ?_
                  refine LL.nil (after_code ?_)
                  refine LW.ret (ret_code (ret_blk (ret_rnd (ret_blk (ret_code (after_end ?_))))))
                  refine X.ret (H' := []) (Res.two Is.unk Is.rfl') (by repeat (first | exact HSub.refl _ | refine HSub.drop ?_)) ?_
                  refine ⟨?_, rfl⟩
                  unfold orderS
                  rw [if_neg h1, if_neg h3, if_neg h5, hK.stop hdn, if_pos h8]; rfl
                · have h15 : ¬ bestI p < 0 := of_decide_eq_false h15
                  have hzz := hz (by omega)
                  have hzl := it_len z
                  have hzn : z.name.1.length = 32 := z.name.2
                  have hdn : nextO l out = some z.name := by
                    rw [show i = l.length by omega] at hB
                    rcases hB.done with a | ⟨b2, z2, e, h2, h3_⟩
                    · rw [a.1] at h15; exact absurd (show bestI none < 0 by decide) h15
                    · rw [h3_, hzz.2.2 b2 z2 e h2]
                  have hst := hK.step hdn
                  refine LW.skip (after_code ?_)
                  refine LW.region ?_
                  refine X.u (LU.moveS Is.rfl') rfl ?_
                  refine X.u (LU.moveS Is.rfl') rfl ?_
                  refine X.u (LU.moveR Is.rfl') rfl ?_
                  refine X.u (LU.at Try.underlying22 ⟨Try.sizeOf36, Try.isAgg36⟩ Is.rfl' Is.rfl' (by omega) hzz.1 (it_ne z)) rfl ?_
                  refine X.u (LU.fieldP Try.underlying36 rfl ⟨Try.sizeOf34, Try.isAgg34⟩ (by decide) Is.rfl' (by (simp; omega))) rfl ?_
                  refine X.u (LU.weak (LU.load ⟨Try.sizeOf34, Try.isAgg34⟩ Is.rfl' (by (simp; omega)) (Part.whole (by (simp; omega)))) (Is.of (y := .agg (hsL z.name)) (congrArg LV.agg (it_name z)))) rfl ?_
                  refine X.u (LU.lits Try.underlying26 Try.sizeOf34 Try.zeroValue34 (ones rfl) rfl (by decide) (by decide) (Elems.cons Is.rfl' (by exact Cells.agg) Elems.nil) (by (simp; assumption)) rfl) rfl ?_
                  refine X.act (X.append 0 rfl rfl Try.underlying26 (El.of (P := Try.prog) (z := (.agg #[(.int .u8 0), (.int .u8 0), (.int .u8 0), (.int .u8 0), (.int .u8 0), (.int .u8 0), (.int .u8 0), (.int .u8 0), (.int .u8 0), (.int .u8 0), (.int .u8 0), (.int .u8 0), (.int .u8 0), (.int .u8 0), (.int .u8 0), (.int .u8 0), (.int .u8 0), (.int .u8 0), (.int .u8 0), (.int .u8 0), (.int .u8 0), (.int .u8 0), (.int .u8 0), (.int .u8 0), (.int .u8 0), (.int .u8 0), (.int .u8 0), (.int .u8 0), (.int .u8 0), (.int .u8 0), (.int .u8 0), (.int .u8 0)])) (size := 32) (bytes := 32) rfl rfl rfl) Is.rfl' Is.rfl' (SrcL.slice Try.underlying26 (by decide) (by intro e he; rw [List.mem_singleton.1 he, List.length_map]; exact hzn)) (by simp only [Option.getD_some, Option.getD_none, byteEls_length, intEls_length, List.length_append, List.length_cons, List.length_nil, List.length_map, List.length_drop, List.length_take, Int.toNat_natCast]; omega) (by simp only [Option.getD_some, Option.getD_none, byteEls_length, intEls_length, List.length_append, List.length_cons, List.length_nil, List.length_map, List.length_drop, List.length_take, Int.toNat_natCast]; omega) (fun b58 o58 c58 => X.weak (t := 58) (Is.of (y := .sl 32 (hss (out ++ [z.name])) (.tok b58 o58 c58)) (congrArg (fun z => LV.sl 32 z (.tok b58 o58 c58)) (hss_app out [z.name]))) ?_))
                  refine X.u (LU.assignS Is.rfl') rfl ?_
                  refine LL.nil (after_blk (after_rnd ?_))
                  refine X.next ((out ++ [z.name], b58, o58, c58)) rfl (EnvLe.cons (by rfl) (EnvLe.nil)) (Keeps.cons (by exact Eq.trans (b := .sl _ _ _) rfl rfl) (Keeps.nil)) (by repeat (exact HSub.refl _)) ?_ ?_
                  · exact hst.1
                  · (simp; omega)
          · have h8 : l.length ≤ out.length := by have := of_decide_eq_false h8; omega
            refine LW.exit (exit_code (exit_rnd (exit_blk (after_code ?_))))
            refine LW.seq ?_
            refine LW.region ?_
            refine X.u (LU.moveS Is.rfl') rfl ?_
            refine X.u (LU.assignS Is.rfl') rfl ?_
            refine X.u (LU.assignR Is.rfl') rfl ?_
            refine LL.nil (after_code ?_)
            refine LW.ret (after_end ?_)
            refine X.ret (H' := []) (Res.two Is.unk Is.rfl') (by repeat (first | exact HSub.refl _ | refine HSub.drop ?_)) ?_
            refine ⟨?_, rfl⟩
            unfold orderS
            rw [if_neg h1, if_neg h3, if_neg h5, hK.full h8, if_neg (by omega)]; rfl
end Go.Proofs.Ytmaeepckfbnpjaa
