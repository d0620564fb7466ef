/- However bytes are cut into pieces, the digest of all is that of them as one; copies go their own ways. -/
import Derived.Test.YtlkkajflgpmacaaDoorHsT
set_option linter.unusedVariables false
set_option linter.unusedSimpArgs false
namespace Go.Proofs.YtlkkajflgpmacaaDoor
open Go.RowKit Go.L
abbrev encB (b : List UInt8) : List LV := [Bytes b .unk]
abbrev Byteses (ls : List (List UInt8)) : LV := .sl 1 (ls.map encB) .unk
theorem encB_at {ls : List (List UInt8)} {i : Nat} (h : i < ls.length) : (ls.map encB)[(i : Int).toNat]? = some (encB (ls.getD i [])) := by simp [h]
theorem perm4 {α : Type} (a x y k : α) (R : List α) : (a :: x :: y :: k :: R).Perm ([a, k] ++ (x :: y :: R)) := List.Perm.cons _ (List.perm_middle (l₁ := [x, y]) (l₂ := R) (a := k))
theorem u8s_step {l : List UInt8} {rest : List LV} {k : Nat} {v : Nat} (hv : v < 256) (h : k < l.length) : putAt (u8s l ++ rest) (0 + (k : Int).toNat * 1) [u8 v] = u8s (l.set k (UInt8.ofNat v)) ++ rest := by
  have := u8s_put (l := l) (rest := rest) (i := (k : Int)) hv (by omega) (by omega)
  rwa [Int.toNat_natCast] at this
set_option maxRecDepth 100000 in
theorem pieces_calls (ls : List (List UInt8)) (at_ : Int) (hls : ls.length < 140737488355328) (hl : ∀ b ∈ ls, b.length < 140737488355328) : LCalls Tryd.prog 5 [Byteses ls, i64 at_] [kw] (fun r H' => r = bl true ∧ H' = [kw]) := by
  refine LCalls.of Tryd.func5 rfl Tryd.ntmps5 Tryd.results5 rfl (fun Rf => ?_)
  refine LW.seq ?_
  refine LW.region ?_
  refine X.u (LU.assignR Is.rfl') rfl ?_
  refine LL.nil (after_code ?_)
  refine LW.seq ?_
  refine LW.region ?_
  refine X.act (X.call (newT) Tryd.func17 rfl rfl rfl (HSub.refl _) Opds.nil ?_)
  rintro r H' ⟨g, rfl, rfl⟩
  refine X.u (LU.assignR Is.rfl') rfl ?_
  refine LL.nil (after_code ?_)
  refine LW.seq ?_
  refine LW.seq ?_
  refine LW.region ?_
  refine X.u (LU.moveR Is.rfl') rfl ?_
  refine X.u (LU.nilEqS Tryd.underlying30 Is.rfl' Is.rfl') rfl ?_
  refine X.u (LU.moveR Is.rfl') rfl ?_
  refine X.doF rfl rfl (LU.moveS (by exact Is.rfl')) rfl ?_
  refine X.doF rfl rfl (LU.lenN Tryd.underlying29 (by exact Is.rfl') (by (simp only [Option.getD_some, Option.getD_none, byteEls_length, intEls_length, List.length_append, List.length_cons, List.length_nil, List.length_map, List.length_drop, List.length_take, Int.toNat_natCast]; rfl))) rfl ?_
  refine X.doF rfl rfl (LU.gtr (by exact Is.rfl') (by exact Is.rfl')) rfl ?_
  refine X.u (LU.pickF Is.rfl' (by exact Is.rfl')) rfl ?_
  refine LL.nil (after_code ?_)
  refine X.cond rfl (fun h2 => ?_) (fun h2 => ?_)
  · try have h2 := of_decide_eq_true h2
    refine LW.seq ?_
    refine LW.region ?_
    refine X.u (LU.moveR Is.rfl') rfl ?_
    refine X.u (LU.weak (LU.nilNeS Tryd.underlying30 Is.rfl' Is.rfl') (asB (c := true) rfl (by rfl))) rfl ?_
    refine X.u (LU.moveR Is.rfl') rfl ?_
    refine X.doT rfl rfl (LU.call1 2 rfl (lives_calls) Tryd.func13 rfl rfl Opds.nil) rfl ?_
    refine X.u (LU.pickT Is.rfl' (by exact Is.rfl')) rfl ?_
    refine X.u (LU.assignR Is.rfl') rfl ?_
    refine LL.nil (after_code ?_)
    refine LW.ret (ret_code (after_end ?_))
    refine X.ret (H' := [kw]) (Res.one (by exact IsR rfl)) (by repeat (first | exact HSub.refl _ | refine HSub.pick 0 rfl ?_ | refine HSub.pick 1 rfl ?_ | refine HSub.pick 2 rfl ?_ | refine HSub.pick 3 rfl ?_ | refine HSub.pick 4 rfl ?_ | refine HSub.drop ?_)) ?_
    exact ⟨rfl, rfl⟩
  · try have h2 := of_decide_eq_false h2
    refine LW.skip (after_code ?_)
    refine LW.seq ?_
    refine LW.region ?_
    refine X.u (LU.assign (Is.nil 1)) rfl ?_
    refine LL.nil (after_code ?_)
    refine LW.seq ?_
    refine LW.seq ?_
    refine LW.region ?_
    refine X.u (LU.moveS Is.rfl') rfl ?_
    refine X.u (LU.lenN Tryd.underlying29 Is.rfl' (by (simp only [Option.getD_some, Option.getD_none, byteEls_length, intEls_length, List.length_append, List.length_cons, List.length_nil, List.length_map, List.length_drop, List.length_take, Int.toNat_natCast]; rfl))) rfl ?_
    refine X.u (LU.moveR Is.rfl') rfl ?_
    refine LL.nil (after_code ?_)
    refine LW.block ?_
    refine X.wghost (HSub.tail0 0 0 0 (Nat.le_refl _) _) ?_
    refine X.wweak (t := 6) (v := Bytes [] (.tok 0 0 0)) (Is.full_tok 0 0) ?_
    refine X.loopK (α := Nat × List UInt8 × Nat × Nat × Nat × Nat × Nat × Nat) (fun ⟨i, all, b, o, c, tb, to, tc⟩ => [(27, i64 i), (6, Bytes all (.tok tb to tc))]) [1, 5, 25, 26] (fun ⟨i, all, b, o, c, tb, to, tc⟩ => [dgT g all b o c, .tail b o c, .tail tb to tc, kw] ++ Rf) (fun ⟨i, all, b, o, c, tb, to, tc⟩ => i ≤ ls.length ∧ all.length ≤ 5000) (fun ⟨i, all, b, o, c, tb, to, tc⟩ => ls.length - i) ((0, [], 0, 0, 0, 0, 0, 0)) (EnvLe.cons (by rfl) (EnvLe.cons (by rfl) (EnvLe.nil))) (by repeat (first | exact HSub.refl _ | refine HSub.pick 0 rfl ?_ | refine HSub.pick 1 rfl ?_ | refine HSub.pick 2 rfl ?_ | refine HSub.pick 3 rfl ?_ | refine HSub.pick 4 rfl ?_ | refine HSub.drop ?_)) ?_ ?_
    · exact ⟨Nat.zero_le _, by simp⟩
    · rintro ⟨i, all, b, o, c, tb, to, tc⟩ hI
      obtain ⟨hi, hall⟩ := hI
      refine LW.seq ?_
      refine LW.region ?_
      refine X.u (LU.lss Is.rfl' Is.rfl') rfl ?_
      refine LL.nil (after_code ?_)
      refine LW.seq ?_
      refine X.cond rfl (fun h6 => ?_) (fun h6 => ?_)
      · have h6 := of_decide_eq_true h6
        have hit : i < ls.length := by omega
        have hbl := hl (ls.getD i []) (by rw [List.getD_eq_getElem?_getD, List.getElem?_eq_getElem hit]; exact List.getElem_mem hit)
        obtain ⟨bs, hbs⟩ : ∃ bs, bs = ls.getD i [] := ⟨_, rfl⟩
        have hee := encB_at hit
        rw [← hbs] at hbl hee
        refine LW.skip (after_code ?_)
        refine LW.seq ?_
        refine LW.block ?_
        refine LW.seq ?_
        refine LW.region ?_
        refine X.u (LU.moveR Is.rfl') rfl ?_
        refine X.u (LU.at Tryd.underlying29 ⟨Tryd.sizeOf22, Tryd.isAgg22⟩ Is.rfl' Is.rfl' (by omega) (hee) (by simp)) rfl ?_
        refine X.u (LU.load ⟨Tryd.sizeOf22, Tryd.isAgg22⟩ Is.rfl' (by (simp; done)) (Part.one rfl)) rfl ?_
        refine X.u (LU.assignR Is.rfl') rfl ?_
        refine X.u (LU.assignS Is.rfl') rfl ?_
        refine LL.nil (after_code ?_)
        refine LW.seq ?_
        refine LW.seq ?_
        refine LW.region ?_
        refine X.u (LU.moveS Is.rfl') rfl ?_
        refine X.u (LU.lenN Tryd.underlying22 Is.rfl' (by (simp only [Option.getD_some, Option.getD_none, byteEls_length, intEls_length, List.length_append, List.length_cons, List.length_nil, List.length_map, List.length_drop, List.length_take, Int.toNat_natCast]; rfl))) rfl ?_
        refine X.u (LU.moveS Is.rfl') rfl ?_
        refine X.u (LU.lenN Tryd.underlying22 Is.rfl' (by (simp only [Option.getD_some, Option.getD_none, byteEls_length, intEls_length, List.length_append, List.length_cons, List.length_nil, List.length_map, List.length_drop, List.length_take, Int.toNat_natCast]; rfl))) rfl ?_
        refine X.u (LU.addN Is.rfl' Is.rfl' (wrap_i64 (by omega) (by omega))) rfl ?_
        refine X.u (LU.gtr Is.rfl' Is.rfl') rfl ?_
        refine LL.nil (after_code ?_)
        refine X.cond rfl (fun h8 => ?_) (fun h8 => ?_)
        · try have h8 := of_decide_eq_true h8
          refine LW.exit (exit_code (exit_blk' rfl (exit_code (exit_rnd (exit_blk (after_code ?_))))))
          refine LW.seq ?_
          refine LW.region ?_
          refine X.u (LU.moveR Is.rfl') rfl ?_
          refine X.u (LU.callP (perm4 _ _ _ _ _) (sumT g all b o c (by omega)) Tryd.func20 rfl rfl (Opds.cons Is.rfl' Opds.nil)) rfl ?_
          refine X.u (LU.moveS Is.rfl') rfl ?_
          refine X.u (LU.call1 3 rfl (hash_calls all (.tok tb to tc) (by omega)) Tryd.func14 rfl rfl (Opds.cons Is.rfl' Opds.nil)) rfl ?_
          refine X.u (LU.weak (LU.eqlArr Tryd.underlying25 Tryd.underlying5 Tryd.sizeOf5 Tryd.eqGuardType25 Is.rfl' Is.rfl' (by (simp; done)) (by (simp; done))) (asB (c := true) rfl (by simp))) rfl ?_
          refine X.u (LU.moveR Is.rfl') rfl ?_
          refine X.doT rfl rfl (LU.moveR (by exact Is.rfl')) rfl ?_
          refine X.doT rfl rfl (LU.callP (perm4 _ _ _ _ _) (sumT g all b o c (by omega)) Tryd.func20 rfl rfl (Opds.cons (by exact Is.rfl') Opds.nil)) rfl ?_
          refine X.doT rfl rfl (LU.moveS (by exact Is.rfl')) rfl ?_
          refine X.doT rfl rfl (LU.call (refhash_calls all (.tok tb to tc) (by omega)) Tryd.func15 rfl rfl (Opds.cons (by exact Is.rfl') Opds.nil)) rfl ?_
          refine X.doT rfl rfl (LU.weak (LU.eqlArr Tryd.underlying25 Tryd.underlying5 Tryd.sizeOf5 Tryd.eqGuardType25 (by exact Is.rfl') (by exact Is.rfl') (by (simp; done)) (by (simp; done))) (asB (c := true) rfl (by simp))) rfl ?_
          refine X.u (LU.pickT Is.rfl' (by exact Is.rfl')) rfl ?_
          refine X.u (LU.moveR Is.rfl') rfl ?_
          refine X.doT rfl rfl (LU.call1 3 rfl (lives_calls) Tryd.func13 rfl rfl Opds.nil) rfl ?_
          refine X.u (LU.pickT Is.rfl' (by exact Is.rfl')) rfl ?_
          refine X.u (LU.assignR Is.rfl') rfl ?_
          refine LL.nil (after_code ?_)
          refine LW.ret (after_end ?_)
          refine X.ret (H' := [kw]) (Res.one (by exact IsR rfl)) (by repeat (first | exact HSub.refl _ | refine HSub.pick 0 rfl ?_ | refine HSub.pick 1 rfl ?_ | refine HSub.pick 2 rfl ?_ | refine HSub.pick 3 rfl ?_ | refine HSub.pick 4 rfl ?_ | refine HSub.drop ?_)) ?_
          exact ⟨rfl, rfl⟩
        · have h8 := of_decide_eq_false h8
          have hfit : all.length + bs.length ≤ 5000 := by omega
          have hbe := byteEls_length bs
          refine LW.skip (after_code ?_)
          refine LW.seq ?_
          refine LW.region ?_
          refine X.act (X.litO rfl Tryd.underlying22 Tryd.sizeOf5 Tryd.zeroValue5 (ones rfl) rfl (by decide) (by decide) Elems.nil (by simp) rfl (fun b38 => ?_))
          refine X.u (LU.moveS Is.rfl') rfl ?_
          refine X.act (X.appendO (z := (.int .u8 0)) 0 rfl rfl Tryd.underlying22 (El.of (P := Tryd.prog) (z := (.int .u8 0)) (size := 1) (bytes := 1) rfl rfl rfl) (ones rfl) Is.rfl' Is.rfl' (by simp) (SrcL.slice Tryd.underlying22 (by decide) (by exact byteEls_size _)) (by simp only [Option.getD_some, Option.getD_none, byteEls_length, intEls_length, List.length_append, List.length_cons, List.length_nil, List.length_map, List.length_drop, List.length_take, Int.toNat_natCast]; omega) (by simp only [Option.getD_some, Option.getD_none, byteEls_length, intEls_length, List.length_append, List.length_cons, List.length_nil, List.length_map, List.length_drop, List.length_take, Int.toNat_natCast]; omega) (fun b40 c40 rest40 hc40 hr40 => ?_))
          refine X.weak (t := 40) (v := .raw (.slice (some ⟨b40, 0, none⟩) bs.length c40)) (Is.of (congrArg (fun n => LV.raw (.slice (some ⟨b40, 0, none⟩) n c40)) (byteEls_length bs))) ?_
          refine X.u (LU.assignR Is.rfl') rfl ?_
          refine LL.nil (after_code ?_)
          refine LW.seq ?_
          refine LW.seq ?_
          rw [byteEls_flat]
          rw [byteEls_length] at hc40
          refine LW.region ?_
          refine X.u (LU.moveR Is.rfl') rfl ?_
          refine X.u (LU.moveR Is.rfl') rfl ?_
          refine X.act (X.call (writeTO g all bs b o c b40 c40 (raws rest40) (by omega) (by omega)) Tryd.func18 rfl rfl rfl (by (refine HSub.pick 1 rfl ?_); (refine HSub.pick 1 rfl ?_); (refine HSub.pick 0 rfl ?_); (refine HSub.pick 1 rfl ?_); exact HSub.refl _) (Opds.cons Is.rfl' (Opds.cons Is.rfl' Opds.nil)) ?_)
          rintro r H' ⟨rfl, b2, o2, c2, rfl⟩
          refine X.u (LU.neq Is.rfl' Is.rfl') rfl ?_
          refine LL.nil (after_code ?_)
          refine X.condF rfl ?_ ?_
          · rfl
          refine LW.skip (after_code ?_)
          refine LW.seq ?_
          refine LW.seq ?_
          refine LW.region ?_
          refine X.u (LU.moveR Is.rfl') rfl ?_
          refine X.u (LU.lenO Tryd.underlying22 Is.rfl') rfl ?_
          refine X.u (LU.moveR Is.rfl') rfl ?_
          refine LL.nil (after_code ?_)
          refine LW.block ?_
          refine X.loopK (α := Nat × List UInt8) (fun ⟨k, xs⟩ => [(47, i64 k)]) [1, 5, 6, 7, 8, 9, 25, 26, 27, 46] (fun ⟨k, xs⟩ => [.cells b40 5 (u8s xs ++ raws rest40), dgT g (all ++ bs) b2 o2 c2, .tail b2 o2 c2, kw, .tail tb to tc] ++ Rf) (fun ⟨k, xs⟩ => k ≤ bs.length ∧ xs.length = bs.length) (fun ⟨k, xs⟩ => bs.length - k) ((0, bs)) (EnvLe.cons (by rfl) (EnvLe.nil)) (by repeat (first | exact HSub.refl _ | refine HSub.pick 0 rfl ?_ | refine HSub.pick 1 rfl ?_ | refine HSub.pick 2 rfl ?_ | refine HSub.pick 3 rfl ?_ | refine HSub.pick 4 rfl ?_ | refine HSub.drop ?_)) ?_ ?_
          · exact ⟨Nat.zero_le _, rfl⟩
          · rintro ⟨k, xs⟩ hI
            refine LW.seq ?_
            refine LW.region ?_
            refine X.u (LU.lss Is.rfl' Is.rfl') rfl ?_
            refine LL.nil (after_code ?_)
            refine LW.seq ?_
            refine X.cond rfl (fun h13 => ?_) (fun h13 => ?_)
            · try have h13 := of_decide_eq_true h13
              refine LW.skip (after_code ?_)
              refine LW.seq ?_
              refine LW.block ?_
              refine LW.seq ?_
              refine LW.region ?_
              refine X.u (LU.moveR Is.rfl') rfl ?_
              refine X.u (LU.assignR Is.rfl') rfl ?_
              refine LL.nil (after_code ?_)
              refine LW.region ?_
              refine X.u (LU.moveR Is.rfl') rfl ?_
              refine X.u (LU.moveR Is.rfl') rfl ?_
              refine X.u (LU.atO Tryd.underlying22 Tryd.sizeOf5 Is.rfl' Is.rfl' (by omega) (by omega)) rfl ?_
              refine X.u (LU.loadO 0 rfl ⟨Tryd.sizeOf5, Tryd.isAgg5⟩ Is.rfl' (Part.one ((u8s_get (i := (k : Int)) (by omega) (by omega))))) rfl ?_
              refine X.u (LU.xor8 Is.rfl' Is.rfl') rfl ?_
              refine X.u (LU.atO Tryd.underlying22 Tryd.sizeOf5 Is.rfl' Is.rfl' (by omega) (by omega)) rfl ?_
              refine X.act (X.store 0 rfl Tryd.sizeOf5 Is.rfl' Is.rfl' (by exact Cells.raw rfl) (by (simp; done)) (by (simp; omega)) ?_)
              refine LL.nil (after_blk (after_code ?_))
              refine X.wcells (u8s_step (xor8_lt _ _) (by omega)) ?_
              refine LW.region ?_
              refine X.u (LU.addN Is.rfl' Is.rfl' (wrap_i64 (by omega) (by omega))) rfl ?_
              refine X.u (LU.moveR Is.rfl') rfl ?_
              refine LL.nil (after_rnd ?_)
              refine X.next ((k + 1, xs.set k (UInt8.ofNat (xor8 (xs.getD k 0).toNat 85)))) rfl (EnvLe.cons (by rfl) (EnvLe.nil)) (Keeps.cons (by exact Eq.trans (b := .raw _) rfl rfl) (Keeps.cons (by exact Eq.trans (b := .raw _) rfl rfl) (Keeps.cons (by exact Eq.trans (b := .sl _ _ _) rfl rfl) (Keeps.cons (by exact Eq.trans (b := .raw _) rfl rfl) (Keeps.cons (by exact Eq.trans (b := .sl _ _ _) rfl rfl) (Keeps.cons (by exact Eq.trans (b := .raw _) rfl rfl) (Keeps.cons (by exact Eq.trans (b := .sl _ _ _) rfl rfl) (Keeps.cons (by exact Eq.trans (b := .raw _) rfl rfl) (Keeps.cons (by exact Eq.trans (b := .raw _) rfl rfl) (Keeps.cons (by exact Eq.trans (b := .raw _) rfl rfl) (Keeps.nil))))))))))) (by exact HSub.refl _) ?_ ?_
              · exact ⟨by omega, by simp; omega⟩
              · (simp; omega)
            · try have h13 := of_decide_eq_false h13
              refine LW.exit (exit_code (exit_rnd (exit_blk (after_code ?_))))
              refine LW.seq ?_
              refine LW.region ?_
              refine X.u (LU.moveS Is.rfl') rfl ?_
              refine X.u (LU.moveS Is.rfl') rfl ?_
              refine X.act (X.append 4 rfl rfl Tryd.underlying22 (El.of (P := Tryd.prog) (z := (.int .u8 0)) (size := 1) (bytes := 1) rfl rfl rfl) Is.rfl' Is.rfl' (SrcL.slice Tryd.underlying22 (by decide) (byteEls_size _)) (by rw [byteEls_length, byteEls_length]; omega) (by rw [byteEls_length, byteEls_length]; omega) (fun b59 o59 c59 => ?_))
              refine X.weak (t := 59) (v := Bytes (all ++ bs) (.tok b59 o59 c59)) (Is.of (congrArg (fun z => LV.sl 1 z (.tok b59 o59 c59)) (byteEls_append all bs).symm)) ?_
              refine X.u (LU.assignS Is.rfl') rfl ?_
              refine LL.nil (after_code ?_)
              refine X.meetK (α := Nat × Nat × Nat × Nat × Nat × Nat) (fun ⟨b3, o3, c3, tb3, to3, tc3⟩ => [(6, Bytes (all ++ bs) (.tok tb3 to3 tc3))]) [1, 5, 7, 25, 26, 27] (fun ⟨b3, o3, c3, tb3, to3, tc3⟩ => [dgT g (all ++ bs) b3 o3 c3, .tail b3 o3 c3, .tail tb3 to3 tc3, kw] ++ Rf) (fun ⟨b3, o3, c3, tb3, to3, tc3⟩ => True) ?_ ?_
              · refine LW.seq ?_
                refine LW.region ?_
                refine X.u (LU.moveR Is.rfl') rfl ?_
                refine X.u (LU.moveR Is.rfl') rfl ?_
                refine X.u (LU.eql Is.rfl' Is.rfl') rfl ?_
                refine LL.nil (after_code ?_)
                refine X.cond rfl (fun h18 => ?_) (fun h18 => ?_)
                · try have h18 := of_decide_eq_true h18
                  refine LW.seq ?_
                  refine LW.region ?_
                  refine X.u (LU.moveR Is.rfl') rfl ?_
                  refine X.act (X.call1 2 rfl (cloneT g (all ++ bs) b2 o2 c2 (by simp; omega)) Tryd.func19 rfl rfl rfl (Opds.cons Is.rfl' Opds.nil) ?_)
                  rintro r H' ⟨g4, b4, o4, c4, rfl, rfl⟩
                  refine X.u (LU.assignR Is.rfl') rfl ?_
                  refine LL.nil (after_code ?_)
                  refine LW.seq ?_
                  refine LW.region ?_
                  refine X.u (LU.moveR Is.rfl') rfl ?_
                  refine X.u (LU.nilEqS Tryd.underlying30 Is.rfl' Is.rfl') rfl ?_
                  refine X.u (LU.moveR Is.rfl') rfl ?_
                  refine X.doF rfl rfl (LU.moveR (by exact Is.rfl')) rfl ?_
                  refine X.actG rfl rfl (X.litO rfl Tryd.underlying22 Tryd.sizeOf5 Tryd.zeroValue5 (ones rfl) rfl (by decide) (by decide) (Elems.cons (by exact Is.rfl') (by exact Cells.raw rfl) Elems.nil) (by simp) rfl (fun b69 => ?_))
                  refine X.actG rfl rfl (X.mark (size := 1) 0 rfl rfl Tryd.underlying22 Tryd.underlying5 (by exact Is.rfl') (by simp) rfl (Nat.le_refl _) ?_)
                  refine X.actG rfl rfl (X.call (writeT g4 (all ++ bs) [120] .unk b4 o4 c4 (by simp; omega)) Tryd.func18 rfl rfl rfl (by (refine HSub.pick 1 rfl ?_); (refine HSub.pick 1 rfl ?_); (refine HSub.pick 4 rfl ?_); exact HSub.refl _) (Opds.cons (by exact Is.rfl') (Opds.cons (by exact Is.rfl') Opds.nil)) ?_)
                  rintro r H' ⟨rfl, b5, o5, c5, rfl⟩
                  refine X.doF rfl rfl (LU.neq (by exact Is.rfl') (by exact Is.rfl')) rfl ?_
                  refine X.u (LU.pickF Is.rfl' (by exact Is.rfl')) rfl ?_
                  refine X.u (LU.moveR Is.rfl') rfl ?_
                  refine X.doF rfl rfl (LU.moveR (by exact Is.rfl')) rfl ?_
                  refine X.actG rfl rfl (X.call (sumT g4 (all ++ bs ++ [120]) b5 o5 c5 (by simp; omega)) Tryd.func20 rfl rfl rfl (by (refine HSub.pick 0 rfl ?_); (refine HSub.pick 1 rfl ?_); exact HSub.refl _) (Opds.cons (by exact Is.rfl') Opds.nil) ?_)
                  rintro r H' ⟨rfl, rfl⟩
                  refine X.doF rfl rfl (LU.lits Tryd.underlying22 Tryd.sizeOf5 Tryd.zeroValue5 (ones rfl) rfl (by decide) (by decide) Elems.nil (by intro e he; cases he) rfl) rfl ?_
                  refine X.doF rfl rfl (LU.moveS (by exact Is.rfl')) rfl ?_
                  refine X.actG rfl rfl (X.appendF rfl Tryd.underlying22 (El.of (P := Tryd.prog) (z := (.int .u8 0)) (size := 1) (bytes := 1) rfl rfl rfl) (by exact Is.rfl') (by exact Is.rfl') (SrcL.slice Tryd.underlying22 (by decide) (by exact byteEls_size _)) (by simp only [Option.getD_some, Option.getD_none, byteEls_length, intEls_length, List.length_append, List.length_cons, List.length_nil, List.length_map, List.length_drop, List.length_take, Int.toNat_natCast]; omega) (by simp only [Option.getD_some, Option.getD_none, byteEls_length, intEls_length, List.length_append, List.length_cons, List.length_nil, List.length_map, List.length_drop, List.length_take, Int.toNat_natCast]; omega) (fun b79 o79 c79 => ?_))
                  refine X.weak (t := 79) (v := Bytes (all ++ bs) (.tok b79 o79 c79)) (Is.of (rfl)) ?_
                  refine X.doF rfl rfl (LU.lits Tryd.underlying22 Tryd.sizeOf5 Tryd.zeroValue5 (ones rfl) rfl (by decide) (by decide) (Elems.cons (by exact Is.rfl') (by exact Cells.raw rfl) Elems.nil) (by simp) rfl) rfl ?_
                  refine X.actG rfl rfl (X.append 0 rfl rfl Tryd.underlying22 (El.of (P := Tryd.prog) (z := (.int .u8 0)) (size := 1) (bytes := 1) rfl rfl rfl) (by exact Is.rfl') (by exact Is.rfl') (SrcL.slice Tryd.underlying22 (by decide) (by (intro e he; simp [chunks] at he; simp [he]; done))) (by simp only [Option.getD_some, Option.getD_none, byteEls_length, intEls_length, List.length_append, List.length_cons, List.length_nil, List.length_map, List.length_drop, List.length_take, Int.toNat_natCast]; omega) (by simp only [Option.getD_some, Option.getD_none, byteEls_length, intEls_length, List.length_append, List.length_cons, List.length_nil, List.length_map, List.length_drop, List.length_take, Int.toNat_natCast]; omega) (fun b81 o81 c81 => ?_))
                  refine X.weak (t := 81) (v := Bytes (all ++ bs ++ [120]) (.tok b81 o81 c81)) (Is.of (snoc8 (all ++ bs) 120 120 rfl _)) ?_
                  refine X.actG rfl rfl (X.call (hash_calls (all ++ bs ++ [120]) (.tok b81 o81 c81) (by simp; omega)) Tryd.func14 rfl rfl rfl (by (refine HSub.pick 2 rfl ?_); exact HSub.refl _) (Opds.cons (by exact Is.rfl') Opds.nil) ?_)
                  rintro r H' ⟨rfl, rfl⟩
                  refine X.doF rfl rfl (LU.weak (LU.neqArr Tryd.underlying25 Tryd.underlying5 Tryd.sizeOf5 Tryd.eqGuardType25 (by exact Is.rfl') (by exact Is.rfl') (by (simp; done)) (by (simp; done))) (asB (c := false) rfl (by simp))) rfl ?_
                  refine X.u (LU.pickF Is.rfl' (by exact Is.rfl')) rfl ?_
                  refine LL.nil (after_code ?_)
                  refine X.condF rfl ?_ ?_
                  · rfl
                  refine LW.skip (after_rnd ?_)
                  refine X.meets ((b2, o2, c2, b59, o59, c59)) rfl (EnvLe.cons (by rfl) (EnvLe.nil)) (Keeps.cons (by exact Eq.trans (b := .raw _) rfl rfl) (Keeps.cons (by exact Eq.trans (b := .raw _) rfl rfl) (Keeps.cons (by exact Eq.trans (b := .raw _) rfl rfl) (Keeps.cons (by exact Eq.trans (b := .sl _ _ _) rfl rfl) (Keeps.cons (by exact Eq.trans (b := .raw _) rfl rfl) (Keeps.cons (by exact Eq.trans (b := .raw _) rfl rfl) (Keeps.nil))))))) (by repeat (first | exact HSub.refl _ | refine HSub.pick 0 rfl ?_ | refine HSub.pick 4 rfl ?_ | refine HSub.pick 6 rfl ?_ | refine HSub.drop ?_)) ?_
                  trivial
                · try have h18 := of_decide_eq_false h18
                  refine LW.skip (after_rnd ?_)
                  refine X.meets ((b2, o2, c2, b59, o59, c59)) rfl (EnvLe.cons (by rfl) (EnvLe.nil)) (Keeps.cons (by exact Eq.trans (b := .raw _) rfl rfl) (Keeps.cons (by exact Eq.trans (b := .raw _) rfl rfl) (Keeps.cons (by exact Eq.trans (b := .raw _) rfl rfl) (Keeps.cons (by exact Eq.trans (b := .sl _ _ _) rfl rfl) (Keeps.cons (by exact Eq.trans (b := .raw _) rfl rfl) (Keeps.cons (by exact Eq.trans (b := .raw _) rfl rfl) (Keeps.nil))))))) (by repeat (first | exact HSub.refl _ | refine HSub.pick 0 rfl ?_ | refine HSub.pick 1 rfl ?_ | refine HSub.pick 2 rfl ?_ | refine HSub.drop ?_)) ?_
                  trivial
              · rintro ⟨b3, o3, c3, tb3, to3, tc3⟩ hI
                refine LW.seq ?_
                refine LW.region ?_
                refine X.u (LU.moveR Is.rfl') rfl ?_
                refine X.u (LU.rem Is.rfl' Is.rfl' (by omega)) rfl ?_
                refine X.u (LU.eql Is.rfl' Is.rfl') rfl ?_
                refine X.u (LU.moveR Is.rfl') rfl ?_
                refine X.gT rfl rfl (fun hg => LU.moveR (by exact Is.rfl')) rfl ?_
                refine X.gT rfl rfl (fun hg => LU.callP (perm4 _ _ _ _ _) (sumT g (all ++ bs) b3 o3 c3 (by simp; omega)) Tryd.func20 rfl rfl (Opds.cons (by exact Is.whenE hg) Opds.nil)) rfl ?_
                refine X.gT rfl rfl (fun hg => LU.moveS (by exact Is.rfl')) rfl ?_
                refine X.gT rfl rfl (fun hg => LU.call1 3 rfl (hash_calls (all ++ bs) (.tok tb3 to3 tc3) (by simp; omega)) Tryd.func14 rfl rfl (Opds.cons (by exact Is.whenE hg) Opds.nil)) rfl ?_
                refine X.gT rfl rfl (fun hg => LU.weak (LU.neqArr Tryd.underlying25 Tryd.underlying5 Tryd.sizeOf5 Tryd.eqGuardType25 (by exact Is.whenE hg) (by exact Is.whenE hg) (by (simp; done)) (by (simp; done))) (asB (c := false) rfl (by simp))) rfl ?_
                refine X.u (LU.weak (LU.pickAnd Is.rfl' (fun hq => (by exact Is.whenE hq)) Is.rfl') (asB (c := false) rfl (by simp))) rfl ?_
                refine LL.nil (after_code ?_)
                refine X.condF rfl ?_ ?_
                · rfl
                refine LW.skip (after_blk (after_code ?_))
                refine LW.region ?_
                refine X.u (LU.addN Is.rfl' Is.rfl' (wrap_i64 (by omega) (by omega))) rfl ?_
                refine X.u (LU.moveR Is.rfl') rfl ?_
                refine LL.nil (after_rnd ?_)
                refine X.next ((i + 1, all ++ bs, b3, o3, c3, tb3, to3, tc3)) rfl (EnvLe.cons (by rfl) (EnvLe.cons (by rfl) (EnvLe.nil))) (Keeps.cons (by exact Eq.trans (b := .raw _) rfl rfl) (Keeps.cons (by exact Eq.trans (b := .raw _) rfl rfl) (Keeps.cons (by exact Eq.trans (b := .sl _ _ _) rfl rfl) (Keeps.cons (by exact Eq.trans (b := .raw _) rfl rfl) (Keeps.nil))))) (by exact HSub.refl _) ?_ ?_
                · exact ⟨by omega, by simp; omega⟩
                · (simp; omega)
      · try have h6 := of_decide_eq_false h6
        refine LW.exit (exit_code (exit_rnd (exit_blk (after_code ?_))))
        refine LW.seq ?_
        refine LW.region ?_
        refine X.u (LU.moveR Is.rfl') rfl ?_
        refine X.u (LU.callP (perm4 _ _ _ _ _) (sumT g all b o c (by omega)) Tryd.func20 rfl rfl (Opds.cons Is.rfl' Opds.nil)) rfl ?_
        refine X.u (LU.moveS Is.rfl') rfl ?_
        refine X.u (LU.call1 3 rfl (hash_calls all (.tok tb to tc) (by omega)) Tryd.func14 rfl rfl (Opds.cons Is.rfl' Opds.nil)) rfl ?_
        refine X.u (LU.weak (LU.eqlArr Tryd.underlying25 Tryd.underlying5 Tryd.sizeOf5 Tryd.eqGuardType25 Is.rfl' Is.rfl' (by (simp; done)) (by (simp; done))) (asB (c := true) rfl (by simp))) rfl ?_
        refine X.u (LU.moveR Is.rfl') rfl ?_
        refine X.doT rfl rfl (LU.moveR (by exact Is.rfl')) rfl ?_
        refine X.doT rfl rfl (LU.callP (perm4 _ _ _ _ _) (sumT g all b o c (by omega)) Tryd.func20 rfl rfl (Opds.cons (by exact Is.rfl') Opds.nil)) rfl ?_
        refine X.doT rfl rfl (LU.moveS (by exact Is.rfl')) rfl ?_
        refine X.doT rfl rfl (LU.call (refhash_calls all (.tok tb to tc) (by omega)) Tryd.func15 rfl rfl (Opds.cons (by exact Is.rfl') Opds.nil)) rfl ?_
        refine X.doT rfl rfl (LU.weak (LU.eqlArr Tryd.underlying25 Tryd.underlying5 Tryd.sizeOf5 Tryd.eqGuardType25 (by exact Is.rfl') (by exact Is.rfl') (by (simp; done)) (by (simp; done))) (asB (c := true) rfl (by simp))) rfl ?_
        refine X.u (LU.pickT Is.rfl' (by exact Is.rfl')) rfl ?_
        refine X.u (LU.moveR Is.rfl') rfl ?_
        refine X.doT rfl rfl (LU.call1 3 rfl (lives_calls) Tryd.func13 rfl rfl Opds.nil) rfl ?_
        refine X.u (LU.pickT Is.rfl' (by exact Is.rfl')) rfl ?_
        refine X.u (LU.assignR Is.rfl') rfl ?_
        refine LL.nil (after_code ?_)
        refine LW.ret (after_end ?_)
        refine X.ret (H' := [kw]) (Res.one (by exact IsR rfl)) (by repeat (first | exact HSub.refl _ | refine HSub.pick 0 rfl ?_ | refine HSub.pick 1 rfl ?_ | refine HSub.pick 2 rfl ?_ | refine HSub.pick 3 rfl ?_ | refine HSub.pick 4 rfl ?_ | refine HSub.drop ?_)) ?_
        exact ⟨rfl, rfl⟩
theorem encB_of {xs : List LV} (h : QSl 1 1 (QInt .u8) xs) : ∃ b : List UInt8, xs = encB b ∧ b.length < 140737488355328 := by
  obtain ⟨es, rfl, h1, h2⟩ := h
  obtain ⟨b, rfl⟩ := decode_bytes h1
  rw [byteEls_length] at h2
  have hr := reachBytes_lt
  exact ⟨b, rfl, by omega⟩
theorem HashPieces_row (x0 : List (List LV)) (at_ : Int) (h0 : ∀ c ∈ x0, QSl 1 1 (QInt .u8) c) (h1 : x0.length * 24 ≤ reachBytes) (h2 : (Lit.int .i64 at_).wf = true) : LCalls Tryd.prog 5 [.sl 1 x0 .unk, i64 at_] [kw] (fun r H' => r = bl true ∧ H' = [kw]) := by
  obtain ⟨l, rfl, hl⟩ := Go.L.decode encB _ (fun c hc => encB_of (h0 c hc))
  rw [List.length_map] at h1
  have hr := reachBytes_lt
  exact pieces_calls l at_ (by omega) hl
end Go.Proofs.YtlkkajflgpmacaaDoor
