/- Of any paths just those are picked that may be; it is decided as the document says. -/
import Derived.Test.YthifbkddfjohbaaAcE
set_option linter.unusedVariables false
set_option linter.unusedSimpArgs false
namespace Go.Proofs.Ythifbkddfjohbaa
open Go.RowKit Go.L
theorem filterB_le (l : List Rl) (s : Sb) (ch : List UInt8) (ps : List (List UInt8)) (right : Int) : (filterB l s ch ps right).length ≤ ps.length := List.length_filter_le _ _
set_option maxRecDepth 100000 in
theorem af_calls (l : List Rl) (k : Cap) (a : Ak) (ps : List (List UInt8)) (kp : Cap) (hl : LOk l) (hs : SbOk a.s) (hp : ps.length * 16 ≤ reachBytes) : LCalls Try.prog 8 [Rls l k, .agg (aL a), Strs ps kp] [] (fun r _ => r = .raw (.bool true)) := by
  have hrl := reach_lt
  have hfl := filterB_le l a.s a.ch ps a.right
  refine LCalls.of Try.func8 rfl Try.ntmps8 Try.results8 rfl (fun Rf => ?_)
  refine LW.seq ?_
  refine LW.region ?_
  refine X.act (X.box rfl Is.rfl' (by exact Cells.agg) (fun b4 => ?_))
  refine X.u (LU.assignR Is.rfl') rfl ?_
  refine LL.nil (after_code ?_)
  refine LW.seq ?_
  refine LW.seq ?_
  refine LW.region ?_
  refine X.u (LU.moveS Is.rfl') rfl ?_
  refine X.u (LU.loadO 0 rfl ⟨Try.sizeOf27, Try.isAgg27⟩ Is.rfl' (Part.whole (by (simp; done)))) rfl ?_
  refine X.u (LU.call (light_calls l k a hl hs) Try.func14 rfl rfl (Opds.cons Is.rfl' (Opds.cons Is.rfl' Opds.nil))) rfl ?_
  refine X.u (LU.not Is.rfl') rfl ?_
  refine X.u (LU.moveR Is.rfl') rfl ?_
  refine X.gF rfl rfl (fun hg => LU.moveS (by exact Is.rfl')) rfl ?_
  refine X.gF rfl rfl (fun hg => LU.lenN Try.underlying23 (by exact Is.whenN hg) (by (simp only [Option.getD_some, Option.getD_none, byteEls_length, intEls_length, List.length_append, List.length_cons, List.length_nil, List.length_map, List.length_drop, List.length_take, Int.toNat_natCast]; rfl))) rfl ?_
  refine X.gF rfl rfl (fun hg => LU.gtr (by exact Is.whenN hg) (by exact Is.rfl')) rfl ?_
  refine X.u (LU.pickOr Is.rfl' Is.rfl' (fun hq => (by exact Is.whenN hq))) rfl ?_
  refine LL.nil (after_code ?_)
  refine X.cond rfl (fun h1 => ?_) (fun h1 => ?_)
  · try have h1 := of_decide_eq_true h1
    refine LW.seq ?_
    refine LW.region ?_
    refine X.u (LU.call (lives_calls) Try.func15 rfl rfl Opds.nil) rfl ?_
    refine X.u (LU.assignR Is.rfl') rfl ?_
    refine LL.nil (after_code ?_)
    refine LW.ret (ret_code (after_end ?_))
    refine X.ret (H' := []) (Res.one (by exact IsR rfl)) (by repeat (first | exact HSub.refl _ | refine HSub.pick 0 rfl ?_ | refine HSub.pick 1 rfl ?_ | refine HSub.pick 2 rfl ?_ | refine HSub.pick 3 rfl ?_ | refine HSub.pick 4 rfl ?_ | refine HSub.drop ?_)) ?_
    exact rfl
  · try have h1 := of_decide_eq_false h1
    refine LW.skip (after_code ?_)
    refine LW.seq ?_
    refine LW.seq ?_
    refine LW.region ?_
    refine X.u (LU.moveS Is.rfl') rfl ?_
    refine X.u (LU.lenN Try.underlying23 Is.rfl' (by (simp only [Option.getD_some, Option.getD_none, byteEls_length, intEls_length, List.length_append, List.length_cons, List.length_nil, List.length_map, List.length_drop, List.length_take, Int.toNat_natCast]; rfl))) rfl ?_
    refine X.u (LU.moveR Is.rfl') rfl ?_
    refine LL.nil (after_code ?_)
    refine LW.block ?_
    refine X.loopK (α := Nat) (fun i => [(22, i64 i)]) [0, 2, 4, 20, 21] (fun i => .cells b4 27 (aL a) :: Rf) (fun i => i ≤ ps.length) (fun i => ps.length - i) (0) (EnvLe.cons (by rfl) (EnvLe.nil)) (by exact HSub.refl _) ?_ ?_
    · exact Nat.zero_le _
    · rintro i hI
      refine LW.seq ?_
      refine LW.region ?_
      refine X.u (LU.lss Is.rfl' Is.rfl') rfl ?_
      refine LL.nil (after_code ?_)
      refine LW.seq ?_
      refine X.cond rfl (fun h4 => ?_) (fun h4 => ?_)
      · try have h4 := of_decide_eq_true h4
        refine LW.skip (after_code ?_)
        refine LW.seq ?_
        refine LW.block ?_
        refine LW.seq ?_
        refine LW.region ?_
        refine X.u (LU.at Try.underlying23 ⟨Try.sizeOf9, Try.isAgg9⟩ Is.rfl' Is.rfl' (by omega) (strEls_at (by omega)) (by simp)) rfl ?_
        refine X.u (LU.load ⟨Try.sizeOf9, Try.isAgg9⟩ Is.rfl' (by (simp; done)) (Part.one rfl)) rfl ?_
        refine X.u (LU.assignR Is.rfl') rfl ?_
        refine LL.nil (after_code ?_)
        refine LW.seq ?_
        refine LW.region ?_
        refine X.u (LU.moveR Is.rfl') rfl ?_
        refine X.u (LU.strlenN Try.underlying9 Is.rfl') rfl ?_
        refine X.u (LU.gtr Is.rfl' Is.rfl') rfl ?_
        refine LL.nil (after_code ?_)
        refine X.cond rfl (fun h6 => ?_) (fun h6 => ?_)
        · try have h6 := of_decide_eq_true h6
          refine LW.seq ?_
          refine LW.region ?_
          refine X.u (LU.call (lives_calls) Try.func15 rfl rfl Opds.nil) rfl ?_
          refine X.u (LU.assignR Is.rfl') rfl ?_
          refine LL.nil (after_code ?_)
          refine LW.ret (ret_blk (ret_code (ret_rnd (ret_blk (ret_code (after_end ?_))))))
          refine X.ret (H' := []) (Res.one (by exact IsR rfl)) (by repeat (first | exact HSub.refl _ | refine HSub.pick 0 rfl ?_ | refine HSub.pick 1 rfl ?_ | refine HSub.pick 2 rfl ?_ | refine HSub.pick 3 rfl ?_ | refine HSub.pick 4 rfl ?_ | refine HSub.drop ?_)) ?_
          exact rfl
        · try have h6 := of_decide_eq_false h6
          refine LW.skip (after_blk (after_code ?_))
          refine LW.region ?_
          refine X.u (LU.addN Is.rfl' Is.rfl' (wrap_i64 (by omega) (by omega))) rfl ?_
          refine X.u (LU.moveR Is.rfl') rfl ?_
          refine LL.nil (after_rnd ?_)
          refine X.next (i + 1) rfl (EnvLe.cons (by rfl) (EnvLe.nil)) (Keeps.cons (by exact Eq.trans (b := .sl _ _ _) rfl rfl) (Keeps.cons (by exact Eq.trans (b := .sl _ _ _) rfl rfl) (Keeps.cons (by exact Eq.trans (b := .raw _) rfl rfl) (Keeps.cons (by exact Eq.trans (b := .sl _ _ _) rfl rfl) (Keeps.cons (by exact Eq.trans (b := .raw _) rfl rfl) (Keeps.nil)))))) (by exact HSub.refl _) ?_ ?_
          · omega
          · omega
      · try have h4 := of_decide_eq_false h4
        refine LW.exit (exit_code (exit_rnd (exit_blk (after_code ?_))))
        refine LW.seq ?_
        refine X.drawM 12 rfl (by kernel_rfl) rfl ?_
        refine QD.u (LU.moveS Is.rfl') rfl ?_
        refine QD.u (LU.fieldO Try.underlying27 rfl Try.sizeOf25 (by decide) Is.rfl') rfl ?_
        refine QD.u (LU.weak (LU.loadO 0 rfl ⟨Try.sizeOf25, Try.isAgg25⟩ Is.rfl' (Part.sub (by (simp; done)))) (Is.of (y := .agg (sL a.s)) (rfl))) rfl ?_
        refine QD.u (LU.fieldO Try.underlying27 rfl Try.sizeOf9 (by decide) Is.rfl') rfl ?_
        refine QD.u (LU.loadO 0 rfl ⟨Try.sizeOf9, Try.isAgg9⟩ Is.rfl' (Part.one rfl)) rfl ?_
        refine QD.u (LU.lits Try.underlying23 Try.sizeOf9 Try.zeroValue9 (ones rfl) rfl (by decide) (by decide) Elems.nil (by intro e he; cases he) rfl) rfl ?_
        refine QD.u (LU.moveS Is.rfl') rfl ?_
        refine QD.u (LU.weak (LU.append Try.underlying23 (El.of (P := Try.prog) (z := (.string ByteArray.empty)) (size := 1) (bytes := 16) rfl rfl rfl) Is.rfl' Is.rfl' (SrcL.slice Try.underlying23 (by decide) (by simp)) (by simp only [Option.getD_some, Option.getD_none, byteEls_length, intEls_length, List.length_append, List.length_cons, List.length_nil, List.length_map, List.length_drop, List.length_take, Int.toNat_natCast]; omega) (by simp only [Option.getD_some, Option.getD_none, byteEls_length, intEls_length, List.length_append, List.length_cons, List.length_nil, List.length_map, List.length_drop, List.length_take, Int.toNat_natCast]; omega)) (Is.of (y := Strs ps .unk) (rfl))) rfl ?_
        refine QD.u (LU.fieldO Try.underlying27 rfl Try.sizeOf3 (by decide) Is.rfl') rfl ?_
        refine QD.u (LU.loadO 0 rfl ⟨Try.sizeOf3, Try.isAgg3⟩ Is.rfl' (Part.one rfl)) rfl ?_
        refine QD.u (LU.call (filter_calls l k a.s a.ch ps .unk a.right hl hs hp) Try.func24 rfl rfl (Opds.cons Is.rfl' (Opds.cons Is.rfl' (Opds.cons Is.rfl' (Opds.cons Is.rfl' (Opds.cons Is.rfl' Opds.nil)))))) rfl ?_
        refine QD.u (LU.assignS Is.rfl') rfl ?_
        refine QD.nil ?_
        refine LL.nil (after_code ?_)
        refine LW.seq ?_
        refine LW.region ?_
        refine X.u (LU.moveS Is.rfl') rfl ?_
        refine X.u (LU.moveS Is.rfl') rfl ?_
        refine X.u (LU.fieldO Try.underlying27 rfl Try.sizeOf25 (by decide) Is.rfl') rfl ?_
        refine X.u (LU.weak (LU.loadO 0 rfl ⟨Try.sizeOf25, Try.isAgg25⟩ Is.rfl' (Part.sub (by (simp; done)))) (Is.of (y := .agg (sL a.s)) (rfl))) rfl ?_
        refine X.u (LU.fieldO Try.underlying27 rfl Try.sizeOf9 (by decide) Is.rfl') rfl ?_
        refine X.u (LU.loadO 0 rfl ⟨Try.sizeOf9, Try.isAgg9⟩ Is.rfl' (Part.one rfl)) rfl ?_
        refine X.u (LU.moveS Is.rfl') rfl ?_
        refine X.u (LU.fieldO Try.underlying27 rfl Try.sizeOf3 (by decide) Is.rfl') rfl ?_
        refine X.u (LU.loadO 0 rfl ⟨Try.sizeOf3, Try.isAgg3⟩ Is.rfl' (Part.one rfl)) rfl ?_
        refine X.u (LU.call (rfilter_calls l k a.s a.ch ps kp a.right hl hs hp) Try.func26 rfl rfl (Opds.cons Is.rfl' (Opds.cons Is.rfl' (Opds.cons Is.rfl' (Opds.cons Is.rfl' (Opds.cons Is.rfl' Opds.nil)))))) rfl ?_
        refine X.u (LU.weak (LU.call (texts_calls (filterB l a.s a.ch ps a.right) (filterB l a.s a.ch ps a.right) .unk .unk (by omega)) Try.func25 rfl rfl (Opds.cons Is.rfl' (Opds.cons Is.rfl' Opds.nil))) (asB (c := true) rfl (by exact decide_eq_true rfl))) rfl ?_
        refine X.u (LU.moveR Is.rfl') rfl ?_
        refine X.doT rfl rfl (LU.moveS (by exact Is.rfl')) rfl ?_
        refine X.doT rfl rfl (LU.fieldO Try.underlying27 rfl Try.sizeOf25 (by decide) (by exact Is.rfl')) rfl ?_
        refine X.doT rfl rfl (LU.weak (LU.loadO 0 rfl ⟨Try.sizeOf25, Try.isAgg25⟩ (by exact Is.rfl') (Part.sub (by (simp; done)))) (Is.of (y := .agg (sL a.s)) (rfl))) rfl ?_
        refine X.doT rfl rfl (LU.fieldO Try.underlying27 rfl Try.sizeOf9 (by decide) (by exact Is.rfl')) rfl ?_
        refine X.doT rfl rfl (LU.loadO 0 rfl ⟨Try.sizeOf9, Try.isAgg9⟩ (by exact Is.rfl') (Part.one rfl)) rfl ?_
        refine X.doT rfl rfl (LU.moveS (by exact Is.rfl')) rfl ?_
        refine X.doT rfl rfl (LU.fieldO Try.underlying27 rfl Try.sizeOf3 (by decide) (by exact Is.rfl')) rfl ?_
        refine X.doT rfl rfl (LU.loadO 0 rfl ⟨Try.sizeOf3, Try.isAgg3⟩ (by exact Is.rfl') (Part.one rfl)) rfl ?_
        refine X.doT rfl rfl (LU.call (all_calls l k a.s a.ch ps kp a.right hl hs hp) Try.func27 rfl rfl (Opds.cons (by exact Is.rfl') (Opds.cons (by exact Is.rfl') (Opds.cons (by exact Is.rfl') (Opds.cons (by exact Is.rfl') (Opds.cons (by exact Is.rfl') Opds.nil)))))) rfl ?_
        refine X.doT rfl rfl (LU.moveS (by exact Is.rfl')) rfl ?_
        refine X.doT rfl rfl (LU.lenN Try.underlying23 (by exact Is.rfl') (by (simp only [Option.getD_some, Option.getD_none, byteEls_length, intEls_length, List.length_append, List.length_cons, List.length_nil, List.length_map, List.length_drop, List.length_take, Int.toNat_natCast]; rfl))) rfl ?_
        refine X.doT rfl rfl (LU.moveS (by exact Is.rfl')) rfl ?_
        refine X.doT rfl rfl (LU.lenN Try.underlying23 (by exact Is.rfl') (by (simp only [Option.getD_some, Option.getD_none, byteEls_length, intEls_length, List.length_append, List.length_cons, List.length_nil, List.length_map, List.length_drop, List.length_take, Int.toNat_natCast]; rfl))) rfl ?_
        refine X.doT rfl rfl (LU.eql (by exact Is.rfl') (by exact Is.rfl')) rfl ?_
        refine X.doT rfl rfl (LU.weak (LU.booleq Try.underlying4 (by exact Is.rfl') (by exact Is.rfl')) (asB (c := true) rfl (by simp))) rfl ?_
        refine X.u (LU.pickT Is.rfl' (by exact Is.rfl')) rfl ?_
        refine X.u (LU.moveR Is.rfl') rfl ?_
        refine X.doT rfl rfl (LU.call (lives_calls) Try.func15 rfl rfl Opds.nil) rfl ?_
        refine X.u (LU.pickT Is.rfl' (by exact Is.rfl')) rfl ?_
        refine X.u (LU.assignR Is.rfl') rfl ?_
        refine LL.nil (after_code ?_)
        refine LW.ret (after_end ?_)
        refine X.ret (H' := []) (Res.one (by exact IsR rfl)) (by repeat (first | exact HSub.refl _ | refine HSub.pick 0 rfl ?_ | refine HSub.pick 1 rfl ?_ | refine HSub.pick 2 rfl ?_ | refine HSub.pick 3 rfl ?_ | refine HSub.pick 4 rfl ?_ | refine HSub.drop ?_)) ?_
        exact rfl
theorem AclFilters_row (es : List (List LV)) (ac : List LV) (ps : List (List LV)) (hq : ∀ c ∈ es, QRule c) (hb : es.length * 64 ≤ reachBytes) (ha : QAsk ac) (hq2 : ∀ c ∈ ps, QStr c) (hb2 : ps.length * 16 ≤ reachBytes) : LCalls Try.prog 8 [.sl 5 es .unk, .agg ac, .sl 1 ps .unk] [] (fun r _ => r = .raw (.bool true)) := by
  obtain ⟨l, rfl, hl⟩ := rules_of es hq
  obtain ⟨a, rfl, hs, _⟩ := ask_of ha
  obtain ⟨qs, rfl, _⟩ := strs_of ps hq2
  exact af_calls l .unk a qs .unk ⟨hl, by simpa using hb⟩ hs (by simpa using hb2)
set_option maxRecDepth 100000 in
theorem ad_calls (l : List Rl) (k : Cap) (a : Ak) (hl : LOk l) (hs : SbOk a.s) (hk : a.s.k = .unk) : LCalls Try.prog 3 [Rls l k, .agg (aL a)] [] (fun r _ => r = .raw (.bool true)) := by
  have hrl := reach_lt
  have hl1 := hl.1
  have hl2 := hl.2
  have hs3 := hs.2.2
  refine LCalls.of Try.func3 rfl Try.ntmps3 Try.results3 rfl (fun Rf => ?_)
  refine LW.seq ?_
  refine LW.region ?_
  refine X.act (X.box rfl Is.rfl' (by exact Cells.agg) (fun b3 => ?_))
  refine X.u (LU.assignR Is.rfl') rfl ?_
  refine LL.nil (after_code ?_)
  refine LW.seq ?_
  refine LW.seq ?_
  refine LW.region ?_
  refine X.u (LU.moveS Is.rfl') rfl ?_
  refine X.u (LU.loadO 0 rfl ⟨Try.sizeOf27, Try.isAgg27⟩ Is.rfl' (Part.whole (by (simp; done)))) rfl ?_
  refine X.u (LU.call (light_calls l k a hl hs) Try.func14 rfl rfl (Opds.cons Is.rfl' (Opds.cons Is.rfl' Opds.nil))) rfl ?_
  refine X.u (LU.not Is.rfl') rfl ?_
  refine LL.nil (after_code ?_)
  refine X.cond rfl (fun h1 => ?_) (fun h1 => ?_)
  · try have h1 := of_decide_eq_true h1
    refine LW.seq ?_
    refine LW.region ?_
    refine X.u (LU.call (lives_calls) Try.func15 rfl rfl Opds.nil) rfl ?_
    refine X.u (LU.assignR Is.rfl') rfl ?_
    refine LL.nil (after_code ?_)
    refine LW.ret (ret_code (after_end ?_))
    refine X.ret (H' := []) (Res.one (by exact IsR rfl)) (by repeat (first | exact HSub.refl _ | refine HSub.pick 0 rfl ?_ | refine HSub.pick 1 rfl ?_ | refine HSub.pick 2 rfl ?_ | refine HSub.pick 3 rfl ?_ | refine HSub.pick 4 rfl ?_ | refine HSub.drop ?_)) ?_
    exact rfl
  · try have h1 := of_decide_eq_false h1
    refine LW.skip (after_code ?_)
    refine LW.seq ?_
    refine LW.region ?_
    refine X.u (LU.lits Try.underlying22 Try.sizeOf31 Try.zeroValue31 (ones rfl) rfl (by decide) (by decide) Elems.nil (by intro e he; cases he) rfl) rfl ?_
    refine X.u (LU.moveS Is.rfl') rfl ?_
    refine X.u (LU.weak (LU.append Try.underlying22 (El.of (P := Try.prog) (z := (.agg #[(.string ByteArray.empty), (.string ByteArray.empty), (.string ByteArray.empty), (.int .i64 0), (.bool false)])) (size := 5) (bytes := 64) rfl rfl rfl) Is.rfl' Is.rfl' (SrcL.slice Try.underlying22 (by decide) (by simp)) (by simp only [Option.getD_some, Option.getD_none, byteEls_length, intEls_length, List.length_append, List.length_cons, List.length_nil, List.length_map, List.length_drop, List.length_take, Int.toNat_natCast]; omega) (by simp only [Option.getD_some, Option.getD_none, byteEls_length, intEls_length, List.length_append, List.length_cons, List.length_nil, List.length_map, List.length_drop, List.length_take, Int.toNat_natCast]; omega)) (Is.of (y := Rls l .unk) (rfl))) rfl ?_
    refine X.u (LU.assignS Is.rfl') rfl ?_
    refine LL.nil (after_code ?_)
    refine LW.seq ?_
    refine LW.region ?_
    refine X.u (LU.lits Try.underlying23 Try.sizeOf9 Try.zeroValue9 (ones rfl) rfl (by decide) (by decide) Elems.nil (by intro e he; cases he) rfl) rfl ?_
    refine X.u (LU.fieldO Try.underlying27 rfl Try.sizeOf25 (by decide) Is.rfl') rfl ?_
    refine X.u (LU.fieldO Try.underlying25 rfl Try.sizeOf23 (by decide) Is.rfl') rfl ?_
    refine X.u (LU.loadO 0 rfl ⟨Try.sizeOf23, Try.isAgg23⟩ Is.rfl' (Part.one rfl)) rfl ?_
    refine X.u (LU.weak (LU.append Try.underlying23 (El.of (P := Try.prog) (z := (.string ByteArray.empty)) (size := 1) (bytes := 16) rfl rfl rfl) Is.rfl' Is.rfl' (SrcL.slice Try.underlying23 (by decide) (by simp)) (by simp only [Option.getD_some, Option.getD_none, byteEls_length, intEls_length, List.length_append, List.length_cons, List.length_nil, List.length_map, List.length_drop, List.length_take, Int.toNat_natCast]; omega) (by simp only [Option.getD_some, Option.getD_none, byteEls_length, intEls_length, List.length_append, List.length_cons, List.length_nil, List.length_map, List.length_drop, List.length_take, Int.toNat_natCast]; omega)) (Is.of (y := Strs a.s.teams .unk) (rfl))) rfl ?_
    refine X.u (LU.fieldO Try.underlying27 rfl Try.sizeOf25 (by decide) Is.rfl') rfl ?_
    refine X.u (LU.fieldO Try.underlying25 rfl Try.sizeOf23 (by decide) Is.rfl') rfl ?_
    refine X.act (X.store 0 rfl Try.sizeOf23 Is.rfl' Is.rfl' (by exact Cells.sl) (by (simp; done)) (by (simp; done)) ?_)
    refine LL.nil (after_code ?_)
    refine LW.seq ?_
    refine LW.seq ?_
    refine X.wcells (ys := aL a) (by unfold aL; rw [hk]; rfl) ?_
    refine LW.region ?_
    refine X.u (LU.moveS Is.rfl') rfl ?_
    refine X.u (LU.lenN Try.underlying22 Is.rfl' (by (simp only [Option.getD_some, Option.getD_none, byteEls_length, intEls_length, List.length_append, List.length_cons, List.length_nil, List.length_map, List.length_drop, List.length_take, Int.toNat_natCast]; rfl))) rfl ?_
    refine X.u (LU.moveR Is.rfl') rfl ?_
    refine LL.nil (after_code ?_)
    refine LW.block ?_
    refine X.loopK (α := Nat) (fun i => [(25, i64 i)]) [0, 3, 5, 23, 24] (fun i => .cells b3 27 (aL a) :: Rf) (fun i => i ≤ l.length) (fun i => l.length - i) (0) (EnvLe.cons (by rfl) (EnvLe.nil)) (by exact HSub.refl _) ?_ ?_
    · exact Nat.zero_le _
    · rintro i hI
      refine LW.seq ?_
      refine LW.region ?_
      refine X.u (LU.lss Is.rfl' Is.rfl') rfl ?_
      refine LL.nil (after_code ?_)
      refine LW.seq ?_
      refine X.cond rfl (fun h6 => ?_) (fun h6 => ?_)
      · try have h6 := of_decide_eq_true h6
        refine LW.skip (after_code ?_)
        refine LW.seq ?_
        refine LW.block ?_
        refine LW.seq ?_
        obtain ⟨x, hx⟩ := at_lt (show i < l.length by omega)
        have hxo := hl1 x (List.mem_of_getElem? hx)
        refine LW.region ?_
        refine X.u (LU.moveR Is.rfl') rfl ?_
        refine X.u (LU.at Try.underlying22 ⟨Try.sizeOf31, Try.isAgg31⟩ Is.rfl' Is.rfl' (by omega) (rEls_at hx) (by simp)) rfl ?_
        refine X.u (LU.load ⟨Try.sizeOf31, Try.isAgg31⟩ Is.rfl' (by (simp; done)) (Part.whole (by (simp; done)))) rfl ?_
        refine X.act (X.alloc rfl Try.zeroValue31 (by exact Cells.rawagg (by decide)) (fun b7 => ?_))
        refine X.u (LU.assignR Is.rfl') rfl ?_
        refine X.act (X.store 0 rfl Try.sizeOf31 Is.rfl' Is.rfl' (by exact Cells.agg) (by (simp; done)) (by exact Nat.le_of_ble_eq_true rfl) ?_)
        refine LL.nil (after_code ?_)
        refine LW.seq ?_
        refine LW.seq ?_
        rw [putAt_all (by simp [raws])]
        refine X.drawM 28 rfl (by kernel_rfl) rfl ?_
        refine QD.u (LU.loadO 0 rfl ⟨Try.sizeOf31, Try.isAgg31⟩ Is.rfl' (Part.whole (by (simp; done)))) rfl ?_
        refine QD.u (LU.call (right_calls x hxo) Try.func16 rfl rfl (Opds.cons Is.rfl' Opds.nil)) rfl ?_
        refine QD.u (LU.loadO 0 rfl ⟨Try.sizeOf31, Try.isAgg31⟩ Is.rfl' (Part.whole (by (simp; done)))) rfl ?_
        refine QD.u (LU.call (rright_calls x hxo) Try.func17 rfl rfl (Opds.cons Is.rfl' Opds.nil)) rfl ?_
        refine QD.u (LU.weak (LU.boolne Try.underlying4 Is.rfl' Is.rfl') (asB (c := false) rfl (by simp))) rfl ?_
        refine QD.u (LU.moveR Is.rfl') rfl ?_
        refine QD.doF rfl rfl (LU.loadO 0 rfl ⟨Try.sizeOf31, Try.isAgg31⟩ (by exact Is.rfl') (Part.whole (by (simp; done)))) rfl ?_
        refine QD.doF rfl rfl (LU.fieldO Try.underlying27 rfl Try.sizeOf25 (by decide) (by exact Is.rfl')) rfl ?_
        refine QD.doF rfl rfl (LU.weak (LU.loadO 1 rfl ⟨Try.sizeOf25, Try.isAgg25⟩ (by exact Is.rfl') (Part.sub (by (simp; done)))) (Is.of (y := .agg (sL a.s)) (rfl))) rfl ?_
        refine QD.doF rfl rfl (LU.fieldO Try.underlying27 rfl Try.sizeOf9 (by decide) (by exact Is.rfl')) rfl ?_
        refine QD.doF rfl rfl (LU.loadO 1 rfl ⟨Try.sizeOf9, Try.isAgg9⟩ (by exact Is.rfl') (Part.one rfl)) rfl ?_
        refine QD.doF rfl rfl (LU.fieldO Try.underlying27 rfl Try.sizeOf9 (by decide) (by exact Is.rfl')) rfl ?_
        refine QD.doF rfl rfl (LU.loadO 1 rfl ⟨Try.sizeOf9, Try.isAgg9⟩ (by exact Is.rfl') (Part.one rfl)) rfl ?_
        refine QD.doF rfl rfl (LU.fieldO Try.underlying27 rfl Try.sizeOf3 (by decide) (by exact Is.rfl')) rfl ?_
        refine QD.doF rfl rfl (LU.loadO 1 rfl ⟨Try.sizeOf3, Try.isAgg3⟩ (by exact Is.rfl') (Part.one rfl)) rfl ?_
        refine QD.doF rfl rfl (LU.call (matches_calls x a.s a.ch a.p a.right hxo hs) Try.func18 rfl rfl (Opds.cons (by exact Is.rfl') (Opds.cons (by exact Is.rfl') (Opds.cons (by exact Is.rfl') (Opds.cons (by exact Is.rfl') (Opds.cons (by exact Is.rfl') Opds.nil)))))) rfl ?_
        refine QD.doF rfl rfl (LU.loadO 0 rfl ⟨Try.sizeOf31, Try.isAgg31⟩ (by exact Is.rfl') (Part.whole (by (simp; done)))) rfl ?_
        refine QD.doF rfl rfl (LU.fieldO Try.underlying27 rfl Try.sizeOf25 (by decide) (by exact Is.rfl')) rfl ?_
        refine QD.doF rfl rfl (LU.weak (LU.loadO 1 rfl ⟨Try.sizeOf25, Try.isAgg25⟩ (by exact Is.rfl') (Part.sub (by (simp; done)))) (Is.of (y := .agg (sL a.s)) (rfl))) rfl ?_
        refine QD.doF rfl rfl (LU.fieldO Try.underlying27 rfl Try.sizeOf9 (by decide) (by exact Is.rfl')) rfl ?_
        refine QD.doF rfl rfl (LU.loadO 1 rfl ⟨Try.sizeOf9, Try.isAgg9⟩ (by exact Is.rfl') (Part.one rfl)) rfl ?_
        refine QD.doF rfl rfl (LU.fieldO Try.underlying27 rfl Try.sizeOf9 (by decide) (by exact Is.rfl')) rfl ?_
        refine QD.doF rfl rfl (LU.loadO 1 rfl ⟨Try.sizeOf9, Try.isAgg9⟩ (by exact Is.rfl') (Part.one rfl)) rfl ?_
        refine QD.doF rfl rfl (LU.fieldO Try.underlying27 rfl Try.sizeOf3 (by decide) (by exact Is.rfl')) rfl ?_
        refine QD.doF rfl rfl (LU.loadO 1 rfl ⟨Try.sizeOf3, Try.isAgg3⟩ (by exact Is.rfl') (Part.one rfl)) rfl ?_
        refine QD.doF rfl rfl (LU.call (rmatches_calls x a.s a.ch a.p a.right hxo hs) Try.func19 rfl rfl (Opds.cons (by exact Is.rfl') (Opds.cons (by exact Is.rfl') (Opds.cons (by exact Is.rfl') (Opds.cons (by exact Is.rfl') (Opds.cons (by exact Is.rfl') Opds.nil)))))) rfl ?_
        refine QD.doF rfl rfl (LU.weak (LU.boolne Try.underlying4 (by exact Is.rfl') (by exact Is.rfl')) (asB (c := false) rfl (by simp))) rfl ?_
        refine QD.u (LU.pickF Is.rfl' (by exact Is.rfl')) rfl ?_
        refine QD.nil ?_
        refine LL.nil (after_code ?_)
        refine X.condF rfl ?_ ?_
        · rfl
        refine LW.skip (after_code ?_)
        refine LW.seq ?_
        refine X.drawM 6 rfl (by kernel_rfl) rfl ?_
        refine QD.u (LU.moveS Is.rfl') rfl ?_
        refine QD.u (LU.moveR Is.rfl') rfl ?_
        refine QD.u (LU.at Try.underlying22 ⟨Try.sizeOf31, Try.isAgg31⟩ Is.rfl' Is.rfl' (by omega) (rEls_at hx) (by simp)) rfl ?_
        refine QD.u (LU.load ⟨Try.sizeOf31, Try.isAgg31⟩ Is.rfl' (by (simp; done)) (Part.whole (by (simp; done)))) rfl ?_
        refine QD.u (LU.loadO 0 rfl ⟨Try.sizeOf31, Try.isAgg31⟩ Is.rfl' (Part.whole (by (simp; done)))) rfl ?_
        refine QD.u (LU.weak (LU.neqA Is.rfl' Is.rfl' (RawL.cons (RawL.cons (RawL.cons (RawL.cons (RawL.cons (RawL.nil)))))) (RawL.cons (RawL.cons (RawL.cons (RawL.cons (RawL.cons (RawL.nil)))))) Try.eqGuardType31 rfl (EqR.struct Try.underlying31 Try.stoodInHeld31 (EqFs.cons rfl (part_one Try.isAgg9 rfl) (part_one Try.isAgg9 rfl) (EqR.string Try.underlying9) (EqFs.cons rfl (part_one Try.isAgg9 rfl) (part_one Try.isAgg9 rfl) (EqR.string Try.underlying9) (EqFs.cons rfl (part_one Try.isAgg9 rfl) (part_one Try.isAgg9 rfl) (EqR.string Try.underlying9) (EqFs.cons rfl (part_one Try.isAgg3 rfl) (part_one Try.isAgg3 rfl) (EqR.int Try.underlying3) (EqFs.one rfl (part_one Try.isAgg4 rfl) (part_one Try.isAgg4 rfl) (EqR.bool Try.underlying4)))))))) (asB (c := false) rfl (by simp))) rfl ?_
        refine QD.nil ?_
        refine LL.nil (after_code ?_)
        refine X.condF rfl ?_ ?_
        · rfl
        refine LW.skip (after_blk (after_code ?_))
        refine LW.region ?_
        refine X.u (LU.addN Is.rfl' Is.rfl' (wrap_i64 (by omega) (by omega))) rfl ?_
        refine X.u (LU.moveR Is.rfl') rfl ?_
        refine LL.nil (after_rnd ?_)
        refine X.next (i + 1) rfl (EnvLe.cons (by rfl) (EnvLe.nil)) (Keeps.cons (by exact Eq.trans (b := .sl _ _ _) rfl rfl) (Keeps.cons (by exact Eq.trans (b := .raw _) rfl rfl) (Keeps.cons (by exact Eq.trans (b := .sl _ _ _) rfl rfl) (Keeps.cons (by exact Eq.trans (b := .sl _ _ _) rfl rfl) (Keeps.cons (by exact Eq.trans (b := .raw _) rfl rfl) (Keeps.nil)))))) (by repeat (first | exact HSub.refl _ | refine HSub.pick 0 rfl ?_ | refine HSub.pick 1 rfl ?_ | refine HSub.pick 2 rfl ?_ | refine HSub.pick 3 rfl ?_ | refine HSub.pick 4 rfl ?_ | refine HSub.drop ?_)) ?_ ?_
        · omega
        · omega
      · try have h6 := of_decide_eq_false h6
        refine LW.exit (exit_code (exit_rnd (exit_blk (after_code ?_))))
        refine LW.seq ?_
        refine X.drawM 18 rfl (by kernel_rfl) rfl ?_
        refine QD.u (LU.moveS Is.rfl') rfl ?_
        refine QD.u (LU.loadO 0 rfl ⟨Try.sizeOf27, Try.isAgg27⟩ Is.rfl' (Part.whole (by (simp; done)))) rfl ?_
        refine QD.u (LU.call (dec_calls l .unk a hl hs) Try.func20 rfl rfl (Opds.cons Is.rfl' (Opds.cons Is.rfl' Opds.nil))) rfl ?_
        refine QD.u (LU.moveS Is.rfl') rfl ?_
        refine QD.u (LU.fieldO Try.underlying27 rfl Try.sizeOf25 (by decide) Is.rfl') rfl ?_
        refine QD.u (LU.weak (LU.loadO 0 rfl ⟨Try.sizeOf25, Try.isAgg25⟩ Is.rfl' (Part.sub (by (simp; done)))) (Is.of (y := .agg (sL a.s)) (rfl))) rfl ?_
        refine QD.u (LU.fieldO Try.underlying27 rfl Try.sizeOf9 (by decide) Is.rfl') rfl ?_
        refine QD.u (LU.loadO 0 rfl ⟨Try.sizeOf9, Try.isAgg9⟩ Is.rfl' (Part.one rfl)) rfl ?_
        refine QD.u (LU.fieldO Try.underlying27 rfl Try.sizeOf9 (by decide) Is.rfl') rfl ?_
        refine QD.u (LU.loadO 0 rfl ⟨Try.sizeOf9, Try.isAgg9⟩ Is.rfl' (Part.one rfl)) rfl ?_
        refine QD.u (LU.fieldO Try.underlying27 rfl Try.sizeOf3 (by decide) Is.rfl') rfl ?_
        refine QD.u (LU.loadO 0 rfl ⟨Try.sizeOf3, Try.isAgg3⟩ Is.rfl' (Part.one rfl)) rfl ?_
        refine QD.u (LU.call (rdecide_calls l k a.s a.ch a.p a.right hl hs) Try.func21 rfl rfl (Opds.cons Is.rfl' (Opds.cons Is.rfl' (Opds.cons Is.rfl' (Opds.cons Is.rfl' (Opds.cons Is.rfl' Opds.nil)))))) rfl ?_
        refine QD.u (LU.weak (LU.booleq Try.underlying4 Is.rfl' Is.rfl') (asB (c := true) rfl (by simp))) rfl ?_
        refine QD.u (LU.moveR Is.rfl') rfl ?_
        refine QD.doT rfl rfl (LU.call (lives_calls) Try.func15 rfl rfl Opds.nil) rfl ?_
        refine QD.u (LU.pickT Is.rfl' (by exact Is.rfl')) rfl ?_
        refine QD.u (LU.assignR Is.rfl') rfl ?_
        refine QD.nil ?_
        refine LL.nil (after_code ?_)
        refine LW.ret (after_end ?_)
        refine X.ret (H' := []) (Res.one (by exact IsR rfl)) (by repeat (first | exact HSub.refl _ | refine HSub.pick 0 rfl ?_ | refine HSub.pick 1 rfl ?_ | refine HSub.pick 2 rfl ?_ | refine HSub.pick 3 rfl ?_ | refine HSub.pick 4 rfl ?_ | refine HSub.drop ?_)) ?_
        exact rfl
theorem AclDecides_row (es : List (List LV)) (ac : List LV) (hq : ∀ c ∈ es, QRule c) (hb : es.length * 64 ≤ reachBytes) (ha : QAsk ac) : LCalls Try.prog 3 [.sl 5 es .unk, .agg ac] [] (fun r _ => r = .raw (.bool true)) := by
  obtain ⟨l, rfl, hl⟩ := rules_of es hq
  obtain ⟨a, rfl, hs, hk⟩ := ask_of ha
  exact ad_calls l .unk a ⟨hl, by simpa using hb⟩ hs hk
end Go.Proofs.Ythifbkddfjohbaa
