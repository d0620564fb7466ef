/- AuditTurned: its walk. -/
import Derived.Test.YtpcfpkfchoelcaaDoorAuK
set_option linter.unusedVariables false
set_option linter.unusedSimpArgs false
namespace Go.Proofs.YtpcfpkfchoelcaaDoor
open Go.RowKit Go.L
attribute [local irreducible] LL LW LO
set_option maxHeartbeats 2000000 in
set_option maxRecDepth 100000 in
theorem at_calls (l : List Ac) (at_ : Int) (what : List UInt8) (hl : l.length < 140737488355328) (hok : ∀ a ∈ l, AcOk a) (ha1 : -9223372036854775808 ≤ at_) (ha2 : at_ < 9223372036854775808) (hw : what.length < 140737488355328) : LCalls Tryd.prog 6 [.sl 4 (acts l) .unk, i64 at_, Str what] [kw] (fun r H' => r = bl true ∧ H' = [kw]) := by
  refine LCalls.of Tryd.func6 rfl Tryd.ntmps6 Tryd.results6 rfl (fun Rf => ?_)
  refine LW.seq ?_
  refine LW.region ?_
  refine X.u (LU.assignR Is.rfl') rfl ?_
  refine LL.nil (after_code ?_)
  refine LW.seq ?_
  refine LW.seq ?_
  refine LW.region ?_
  refine X.u (LU.moveS Is.rfl') rfl ?_
  refine X.act (X.call (few_calls l .unk hl hok) Tryd.func19 rfl rfl rfl (HSub.refl _) (Opds.cons Is.rfl' Opds.nil) ?_)
  rintro r H' ⟨fb, rfl, rfl, hfew⟩
  refine X.u (LU.not Is.rfl') rfl ?_
  refine X.u (LU.moveR Is.rfl') rfl ?_
  refine X.gF rfl rfl (fun hg => LU.moveR (by exact Is.rfl')) rfl ?_
  refine X.gF rfl rfl (fun hg => LU.strlenN Tryd.underlying9 (by exact Is.whenN hg)) rfl ?_
  refine X.gF rfl rfl (fun hg => LU.gtr (by exact Is.whenN hg) (by exact Is.rfl')) rfl ?_
  refine X.u (LU.pickOr Is.rfl' Is.rfl' (fun hq => (by exact Is.whenN hq))) rfl ?_
  refine LL.nil (after_code ?_)
  refine X.cond rfl (fun h1 => ?_) (fun h1 => ?_)
  · try have h1 := of_decide_eq_true h1
    refine LW.seq ?_
    refine LW.region ?_
    refine X.u (LU.call1 0 rfl (lives19_calls) Tryd.func9 rfl rfl Opds.nil) rfl ?_
    refine X.u (LU.assignR Is.rfl') rfl ?_
    refine LL.nil (after_code ?_)
    refine LW.ret (ret_code (after_end ?_))
    refine X.ret (H' := [kw]) (Res.one (by exact IsR rfl)) (by repeat (exact HSub.refl _)) ?_
    exact ⟨rfl, rfl⟩
  · have h60 : l.length ≤ 60 ∧ what.length ≤ 1000 := by
      simp only [Bool.or_eq_false_iff, Bool.not_eq_false', decide_eq_false_iff_not] at h1
      exact ⟨hfew h1.1, by omega⟩
    obtain ⟨h60, hw1⟩ := h60
    refine LW.skip (after_code ?_)
    refine LW.seq ?_
    refine LW.region ?_
    refine X.act (X.call (new_calls19) Tryd.func20 rfl rfl rfl (HSub.refl _) Opds.nil ?_)
    rintro r H' ⟨g, hv0, hh0, rfl, rfl⟩
    refine X.u (LU.assignR Is.rfl') rfl ?_
    refine LL.nil (after_code ?_)
    refine LW.seq ?_
    refine LW.seq ?_
    refine LW.region ?_
    refine X.u (LU.moveS Is.rfl') rfl ?_
    refine X.u (LU.lenN Tryd.underlying46 Is.rfl' (by (simp only [Option.getD_some, Option.getD_none, byteEls_length, intEls_length, List.length_append, List.length_cons, List.length_nil, List.length_map, List.length_drop, List.length_take, Int.toNat_natCast]; rfl))) rfl ?_
    refine X.u (LU.moveR Is.rfl') rfl ?_
    refine LL.nil (after_code ?_)
    refine LW.block ?_
    refine X.loopK (α := Nat × List Ent × Value × Nat × Nat × Nat) (fun ⟨i, es, hv, b, o, c⟩ => [(25, i64 i)]) [1, 2, 6, 7, 23, 24] (fun ⟨i, es, hv, b, o, c⟩ => lg g es hv b o c :: .tail b o c :: kw :: Rf) (fun ⟨i, es, hv, b, o, c⟩ => i ≤ l.length ∧ es.length ≤ i ∧ HeadOk hv es ∧ Chain es ∧ ∀ e ∈ es, EntOk e) (fun ⟨i, es, hv, b, o, c⟩ => l.length - i) ((0, [], hv0, 0, 0, 0)) (EnvLe.cons (by rfl) (EnvLe.nil)) (by repeat (exact HSub.refl _)) ?_ ?_
    · exact ⟨Nat.zero_le _, Nat.le_refl _, hh0, Chain.nil, by simp⟩
    · rintro ⟨i, es, hv, b, o, c⟩ hI
      obtain ⟨hi, hel, hh, hch, heo⟩ := hI
      refine LW.seq ?_
      refine LW.region ?_
      refine X.u (LU.lss Is.rfl' Is.rfl') rfl ?_
      refine LL.nil (after_code ?_)
      refine LW.seq ?_
      refine X.cond rfl (fun h5 => ?_) (fun h5 => ?_)
      · try have h5 := of_decide_eq_true h5
        refine LW.skip (after_code ?_)
        refine LW.seq ?_
        refine LW.block ?_
        refine LW.seq ?_
        obtain ⟨x, hx⟩ := at_lt (show i < l.length by omega)
        obtain ⟨hx1, hx2, hx3⟩ := hok x (List.mem_of_getElem? hx)
        have hap := append_calls19 g es hv b o c x.tick x.who x.what hh (by omega) (fun e he => (heo e he).2.2.2.2) hx1.1 hx1.2
        obtain ⟨hc2, ho2, hl2, hl3, htk⟩ := add_facts hch heo x.tick x.who x.what
        obtain ⟨E2, hE2⟩ : ∃ E2, E2 = addE es x.tick x.who x.what := ⟨_, rfl⟩
        rw [← hE2] at hap hc2 ho2 hl2 hl3 htk
        clear hE2
        refine LW.region ?_
        refine X.u (LU.at Tryd.underlying46 ⟨Tryd.sizeOf35, Tryd.isAgg35⟩ Is.rfl' Is.rfl' (by omega) (acts_at hx) (by simp)) rfl ?_
        refine X.u (LU.load ⟨Tryd.sizeOf35, Tryd.isAgg35⟩ Is.rfl' (by (simp; done)) (Part.whole (by (simp; done)))) rfl ?_
        refine X.act (X.alloc rfl Tryd.zeroValue35 (by exact Cells.rawagg (by decide)) (fun b9 => ?_))
        refine X.act (X.store 0 rfl Tryd.sizeOf35 Is.rfl' Is.rfl' (by exact Cells.agg) (by (simp; done)) (by exact Nat.le_of_ble_eq_true rfl) ?_)
        refine LL.nil (after_code ?_)
        refine X.wcells (ys := acL x) (putAt_all (by simp [raws])) ?_
        refine LW.region ?_
        refine X.u (LU.moveR Is.rfl') rfl ?_
        refine X.u (LU.fieldO Tryd.underlying35 rfl Tryd.sizeOf3 (by decide) Is.rfl') rfl ?_
        refine X.u (LU.loadO 0 rfl ⟨Tryd.sizeOf3, Tryd.isAgg3⟩ Is.rfl' (Part.one rfl)) rfl ?_
        refine X.u (LU.fieldO Tryd.underlying35 rfl Tryd.sizeOf9 (by decide) Is.rfl') rfl ?_
        refine X.u (LU.loadO 0 rfl ⟨Tryd.sizeOf9, Tryd.isAgg9⟩ Is.rfl' (Part.one rfl)) rfl ?_
        refine X.u (LU.fieldO Tryd.underlying35 rfl Tryd.sizeOf9 (by decide) Is.rfl') rfl ?_
        refine X.u (LU.loadO 0 rfl ⟨Tryd.sizeOf9, Tryd.isAgg9⟩ Is.rfl' (Part.one rfl)) rfl ?_
        refine X.act (X.call (hap) Tryd.func16 rfl rfl rfl (by (refine HSub.pick 1 rfl ?_); (refine HSub.pick 1 rfl ?_); (refine HSub.pick 1 rfl ?_); exact HSub.refl _) (Opds.cons Is.rfl' (Opds.cons Is.rfl' (Opds.cons Is.rfl' (Opds.cons Is.rfl' Opds.nil)))) ?_)
        rintro r H' ⟨hv2, b2_, o2_, c2_, hh2, rfl, rfl⟩
        refine LL.nil (after_blk (after_code ?_))
        refine LW.region ?_
        refine X.u (LU.addN Is.rfl' Is.rfl' (wrap_i64 (by omega) (by omega))) rfl ?_
        refine X.u (LU.moveR Is.rfl') rfl ?_
        refine LL.nil (after_rnd ?_)
        refine X.next ((i + 1, E2, hv2, b2_, o2_, c2_)) rfl (EnvLe.cons (by rfl) (EnvLe.nil)) (Keeps.cons (by exact Eq.trans (b := .raw _) rfl rfl) (Keeps.cons (by exact Eq.trans (b := .raw _) rfl rfl) (Keeps.cons (by exact Eq.trans (b := .raw _) rfl rfl) (Keeps.cons (by exact Eq.trans (b := .raw _) rfl rfl) (Keeps.cons (by exact Eq.trans (b := .sl _ _ _) rfl rfl) (Keeps.cons (by exact Eq.trans (b := .raw _) rfl rfl) (Keeps.nil))))))) (by repeat (first | exact HSub.refl _ | refine HSub.pick 0 rfl ?_ | refine HSub.drop ?_)) ?_ ?_
        · exact ⟨by omega, by omega, hh2, hc2, ho2⟩
        · (simp; omega)
      · try have h5 := of_decide_eq_false h5
        obtain rfl : i = l.length := by omega
        have hpo : PrevOk es := fun e he => (heo e he).2.2.2.2
        have hhd := head_calls g es hv b o c hh
        have hhl := headE_len es
        have hho := holds_calls es .unk (headE es) (by omega) heo hhl
        rw [holds_head, hch.ver] at hho
        refine LW.exit (exit_code (exit_rnd (exit_blk (after_code ?_))))
        refine LW.seq ?_
        refine LW.region ?_
        refine X.u (LU.moveR Is.rfl') rfl ?_
        refine X.u (LU.call1 0 rfl (entries_calls g es hv b o c (by omega) hpo) Tryd.func17 rfl rfl (Opds.cons Is.rfl' Opds.nil)) rfl ?_
        refine X.u (LU.assignS Is.rfl') rfl ?_
        refine LL.nil (after_code ?_)
        refine LW.seq ?_
        refine LW.seq ?_
        refine LW.region ?_
        refine X.u (LU.moveS Is.rfl') rfl ?_
        refine X.u (LU.lenN Tryd.underlying22 Is.rfl' (by (simp only [Option.getD_some, Option.getD_none, byteEls_length, intEls_length, List.length_append, List.length_cons, List.length_nil, List.length_map, List.length_drop, List.length_take, Int.toNat_natCast]; rfl))) rfl ?_
        refine X.u (LU.eql Is.rfl' Is.rfl') rfl ?_
        refine LL.nil (after_code ?_)
        refine X.cond rfl (fun h10 => ?_) (fun h10 => ?_)
        · obtain rfl : es = [] := List.length_eq_zero_iff.1 (by have := of_decide_eq_true h10; omega)
          have hhz := holds_calls [] .full zero32 (by simp) (by simp) rfl
          rw [show holdsB [] zero32 = true from rfl] at hhz
          refine LW.seq ?_
          refine LW.region ?_
          refine X.u (LU.moveR Is.rfl') rfl ?_
          refine X.act (X.call (hhd) Tryd.func18 rfl rfl rfl (by (refine HSub.pick 0 rfl ?_); (refine HSub.pick 1 rfl ?_); exact HSub.refl _) (Opds.cons Is.rfl' Opds.nil) ?_)
          rintro r H' ⟨rfl, rfl⟩
          refine X.weak (t := 44) (v := H32 zero32) (Is.of (rfl)) ?_
          refine X.u (LU.weak (LU.buildA Tryd.underlying26 Tryd.sizeOf5 Tryd.zeroValue26 (ones rfl) Parts.nil rfl) (Is.of (y := H32 zero32) (rfl))) rfl ?_
          refine X.u (LU.weak (LU.eqlH (show zero32.length = 32 from rfl) (show zero32.length = 32 from rfl) Is.rfl' Is.rfl') (asB (c := true) rfl (by exact decide_eq_true rfl))) rfl ?_
          refine X.u (LU.moveR Is.rfl') rfl ?_
          refine X.doT rfl rfl (LU.weak (LU.buildA Tryd.underlying26 Tryd.sizeOf5 Tryd.zeroValue26 (ones rfl) Parts.nil rfl) (Is.of (y := H32 zero32) (rfl))) rfl ?_
          refine X.doT rfl rfl (LU.call1 1 rfl (hhz) Tryd.func12 rfl rfl (Opds.cons (Is.nil 36) (Opds.cons (by exact Is.rfl') Opds.nil))) rfl ?_
          refine X.u (LU.pickT Is.rfl' (by exact Is.rfl')) rfl ?_
          refine X.u (LU.moveR Is.rfl') rfl ?_
          refine X.doT rfl rfl (LU.call1 1 rfl (lives19_calls) Tryd.func9 rfl rfl Opds.nil) rfl ?_
          refine X.u (LU.pickT Is.rfl' (by exact Is.rfl')) rfl ?_
          refine X.u (LU.assignR Is.rfl') rfl ?_
          refine LL.nil (after_code ?_)
          refine LW.ret (ret_code (after_end ?_))
          refine X.ret (H' := [kw]) (Res.one (by exact IsR rfl)) (by repeat (first | exact HSub.refl _ | refine HSub.pick 1 rfl ?_ | refine HSub.drop ?_)) ?_
          exact ⟨rfl, rfl⟩
        · obtain ⟨k, hk1, hk2⟩ := turn_k19 at_ es.length (by have := of_decide_eq_false h10; omega)
          obtain ⟨e, he⟩ := at_lt hk2
          have heok := heo e (List.mem_of_getElem? he)
          refine LW.skip (after_code ?_)
          refine LW.seq ?_
          refine LW.region ?_
          refine X.u (LU.moveR Is.rfl') rfl ?_
          refine X.u (LU.conv Tryd.underlying3 Tryd.underlying49 Is.rfl') rfl ?_
          refine X.u (LU.moveS Is.rfl') rfl ?_
          refine X.u (LU.lenN Tryd.underlying22 Is.rfl' (by (simp only [Option.getD_some, Option.getD_none, byteEls_length, intEls_length, List.length_append, List.length_cons, List.length_nil, List.length_map, List.length_drop, List.length_take, Int.toNat_natCast]; rfl))) rfl ?_
          refine X.u (LU.convN Tryd.underlying3 Tryd.underlying49 Is.rfl' (wrap_u64 (by omega) (by omega))) rfl ?_
          refine X.u (LU.weak (LU.rem Is.rfl' Is.rfl' (by omega)) (Is.of (y := .raw (.int .u64 ((k : Nat) : Int))) (congrArg (fun z => LV.raw (.int .u64 z)) hk1))) rfl ?_
          refine X.u (LU.convN Tryd.underlying49 Tryd.underlying3 Is.rfl' (wrap_i64 (by omega) (by omega))) rfl ?_
          refine X.u (LU.assignR Is.rfl') rfl ?_
          refine LL.nil (after_code ?_)
          refine LW.seq ?_
          refine LW.seq ?_
          refine LW.region ?_
          refine X.u (LU.moveS Is.rfl') rfl ?_
          refine X.u (LU.moveR Is.rfl') rfl ?_
          refine X.u (LU.at Tryd.underlying22 ⟨Tryd.sizeOf28, Tryd.isAgg28⟩ Is.rfl' Is.rfl' (by omega) (ents_at he) (by simp)) rfl ?_
          refine X.u (LU.fieldP Tryd.underlying28 rfl ⟨Tryd.sizeOf9, Tryd.isAgg9⟩ (by decide) Is.rfl' (by (simp; done))) rfl ?_
          refine X.u (LU.load ⟨Tryd.sizeOf9, Tryd.isAgg9⟩ Is.rfl' (by (simp; done)) (Part.one rfl)) rfl ?_
          refine X.u (LU.moveR Is.rfl') rfl ?_
          refine X.u (LU.streqN Is.rfl' Is.rfl') rfl ?_
          refine LL.nil (after_code ?_)
          refine X.cond rfl (fun h13 => ?_) (fun h13 => ?_)
          · try have h13 := of_decide_eq_true h13
            refine LW.seq ?_
            refine LW.region ?_
            refine X.u (LU.moveS Is.rfl') rfl ?_
            refine X.u (LU.moveR Is.rfl') rfl ?_
            refine X.act (X.call (hhd) Tryd.func18 rfl rfl rfl (by (refine HSub.pick 0 rfl ?_); (refine HSub.pick 1 rfl ?_); exact HSub.refl _) (Opds.cons Is.rfl' Opds.nil) ?_)
            rintro r H' ⟨rfl, rfl⟩
            refine X.u (LU.weak (LU.call1 1 rfl (hho) Tryd.func12 rfl rfl (Opds.cons Is.rfl' (Opds.cons Is.rfl' Opds.nil))) (asB (c := true) rfl (by rfl))) rfl ?_
            refine X.u (LU.moveR Is.rfl') rfl ?_
            refine X.doT rfl rfl (LU.call1 1 rfl (lives19_calls) Tryd.func9 rfl rfl Opds.nil) rfl ?_
            refine X.u (LU.pickT Is.rfl' (by exact Is.rfl')) rfl ?_
            refine X.u (LU.assignR Is.rfl') rfl ?_
            refine LL.nil (after_code ?_)
            refine LW.ret (ret_code (after_end ?_))
            refine X.ret (H' := [kw]) (Res.one (by exact IsR rfl)) (by repeat (first | exact HSub.refl _ | refine HSub.pick 1 rfl ?_ | refine HSub.drop ?_)) ?_
            exact ⟨rfl, rfl⟩
          · try have h13 := of_decide_eq_false h13
            have heok2 : EntOk { e with what := what } := ⟨heok.1, heok.2.1, heok.2.2.1, by show what.length ≤ _; omega, heok.2.2.2.2⟩
            have hset := set_at { e with what := what } hk2
            have hput := ents_put hpo he
            obtain ⟨e', he'⟩ : ∃ e' : Ent, e' = { e with what := what } := ⟨_, rfl⟩
            have hpo2 : PrevOk (es.set k e') := fun x hx => by
              rcases List.mem_or_eq_of_mem_set hx with h | h
              · exact hpo x h
              · rw [h, he']; exact heok.2.2.2.2
            have heo2 : ∀ x ∈ es.set k e', EntOk x := fun x hx => by
              rcases List.mem_or_eq_of_mem_set hx with h | h
              · exact heo x h
              · rw [h, he']; exact heok2
            have htu := turned19 (e' := e') hch he
            have hho2 := holds_calls (es.set k e') .unk (headE es) (by simp; omega) heo2 hhl
            rw [← he'] at heok2 hset
            have hd1 := digest_calls e' heok2
            have hd2 := digest_calls e heok
            have hdl1 := digE_len e'
            have hdl2 := digE_len e
            have hx1 : (entL e').length = 36 := by simp [heok2.2.2.2.2]
            have hx2 : (entL e).length = 36 := by simp [heok.2.2.2.2]
            obtain ⟨D1, hD1⟩ : ∃ D, D = digE e' := ⟨_, rfl⟩
            obtain ⟨D2, hD2⟩ : ∃ D, D = digE e := ⟨_, rfl⟩
            rw [← hD1] at hd1 hdl1 htu
            rw [← hD2] at hd2 hdl2 htu
            refine LW.skip (after_code ?_)
            refine LW.seq ?_
            refine LW.region ?_
            refine X.u (LU.moveS Is.rfl') rfl ?_
            refine X.act (X.call (freshO_calls es .unk (by omega) hpo) Tryd.func10 rfl rfl rfl (HSub.refl _) (Opds.cons Is.rfl' Opds.nil) ?_)
            rintro r H' ⟨b7, c7, rest7, rfl, hc7, rfl⟩
            refine X.u (LU.assignR Is.rfl') rfl ?_
            refine LL.nil (after_code ?_)
            refine LW.seq ?_
            have hput7 := hput (raws rest7) what
            have hfl7 := ents_flat_len hpo
            obtain ⟨F, hF⟩ : ∃ F, F = (ents es).flatten := ⟨_, rfl⟩
            rw [← hF] at hput7 hfl7 ⊢
            refine LW.region ?_
            refine X.u (LU.moveR Is.rfl') rfl ?_
            refine X.u (LU.moveR Is.rfl') rfl ?_
            refine X.u (LU.moveR Is.rfl') rfl ?_
            refine X.u (LU.atO Tryd.underlying22 Tryd.sizeOf28 Is.rfl' Is.rfl' (by omega) (by omega)) rfl ?_
            refine X.u (LU.fieldO Tryd.underlying28 rfl Tryd.sizeOf9 (by decide) Is.rfl') rfl ?_
            refine X.act (X.store 0 rfl Tryd.sizeOf9 Is.rfl' Is.rfl' (by exact Cells.raw rfl) (by (simp; done)) (by (simp; omega)) ?_)
            refine LL.nil (after_code ?_)
            refine LW.seq ?_
            refine LW.seq ?_
            refine X.wcells ((congrArg (fun o => putAt (F ++ raws rest7) o [Str what]) (by simp)).trans hput7) ?_
            rw [← he']
            have hfl := ents_flat_len hpo2
            rw [List.length_set] at hfl
            refine LW.freeze (t := 12) 0 rfl rfl (es := ents (es.set k e')) (size := 36) (n := es.length) (c := c7) (ents_size hpo2) (by simp) (by rw [List.length_append, hfl]; omega) (by rw [List.drop_zero, List.take_append_of_le_length (by omega), List.take_of_length_le (by omega)]) hc7 ?_
            refine X.drawM 11 rfl (by kernel_rfl) rfl ?_
            refine QD.u (LU.moveS Is.rfl') rfl ?_
            refine QD.u (LU.moveR Is.rfl') rfl ?_
            refine QD.u (LU.at Tryd.underlying22 ⟨Tryd.sizeOf28, Tryd.isAgg28⟩ Is.rfl' Is.rfl' (by omega) (ents_at hset) (by simp)) rfl ?_
            refine QD.u (LU.load ⟨Tryd.sizeOf28, Tryd.isAgg28⟩ Is.rfl' (by assumption) (Part.whole (by assumption))) rfl ?_
            refine QD.u (LU.call1 2 rfl (hd1) Tryd.func15 rfl rfl (Opds.cons Is.rfl' Opds.nil)) rfl ?_
            refine QD.u (LU.moveS Is.rfl') rfl ?_
            refine QD.u (LU.moveR Is.rfl') rfl ?_
            refine QD.u (LU.at Tryd.underlying22 ⟨Tryd.sizeOf28, Tryd.isAgg28⟩ Is.rfl' Is.rfl' (by omega) (ents_at he) (by simp)) rfl ?_
            refine QD.u (LU.load ⟨Tryd.sizeOf28, Tryd.isAgg28⟩ Is.rfl' (by assumption) (Part.whole (by assumption))) rfl ?_
            refine QD.u (LU.call1 2 rfl (hd2) Tryd.func15 rfl rfl (Opds.cons Is.rfl' Opds.nil)) rfl ?_
            refine QD.u (LU.eqlH hdl1 hdl2 Is.rfl' Is.rfl') rfl ?_
            refine QD.nil ?_
            refine LL.nil (after_code ?_)
            refine X.cond rfl (fun h17 => ?_) (fun h17 => ?_)
            · try have h17 := of_decide_eq_true h17
              refine LW.seq ?_
              refine LW.region ?_
              refine X.u (LU.call1 2 rfl (lives19_calls) Tryd.func9 rfl rfl Opds.nil) rfl ?_
              refine X.u (LU.assignR Is.rfl') rfl ?_
              refine LL.nil (after_code ?_)
              refine LW.ret (ret_code (after_end ?_))
              refine X.ret (H' := [kw]) (Res.one (by exact IsR rfl)) (by repeat (first | exact HSub.refl _ | refine HSub.pick 2 rfl ?_ | refine HSub.drop ?_)) ?_
              exact ⟨rfl, rfl⟩
            · rw [htu (by simpa using h17)] at hho2
              refine LW.skip (after_code ?_)
              refine LW.seq ?_
              refine LW.region ?_
              refine X.u (LU.moveS Is.rfl') rfl ?_
              refine X.u (LU.moveR Is.rfl') rfl ?_
              refine X.act (X.call (hhd) Tryd.func18 rfl rfl rfl (by (refine HSub.pick 0 rfl ?_); (refine HSub.pick 1 rfl ?_); exact HSub.refl _) (Opds.cons Is.rfl' Opds.nil) ?_)
              rintro r H' ⟨rfl, rfl⟩
              refine X.u (LU.weak (LU.call1 1 rfl (hho2) Tryd.func12 rfl rfl (Opds.cons Is.rfl' (Opds.cons Is.rfl' Opds.nil))) (asB (c := false) rfl (by rfl))) rfl ?_
              refine X.u (LU.not Is.rfl') rfl ?_
              refine X.u (LU.moveR Is.rfl') rfl ?_
              refine X.doT rfl rfl (LU.call1 1 rfl (lives19_calls) Tryd.func9 rfl rfl Opds.nil) rfl ?_
              refine X.u (LU.pickT Is.rfl' (by exact Is.rfl')) rfl ?_
              refine X.u (LU.assignR Is.rfl') rfl ?_
              refine LL.nil (after_code ?_)
              refine LW.ret (after_end ?_)
              refine X.ret (H' := [kw]) (Res.one (by exact IsR rfl)) (by repeat (first | exact HSub.refl _ | refine HSub.pick 1 rfl ?_ | refine HSub.drop ?_)) ?_
              exact ⟨rfl, rfl⟩
theorem AuditTurned_row (x0 : List (List LV)) (at_ : Int) (what : List UInt8) (h0 : ∀ c ∈ x0, QAc c) (h1 : x0.length * 48 ≤ reachBytes) (h2 : (Lit.int .i64 at_).wf = true) (h3 : what.length ≤ reachBytes) : LCalls Tryd.prog 6 [.sl 4 x0 .unk, i64 at_, Str what] [kw] (fun r H' => r = bl true ∧ H' = [kw]) := by
  obtain ⟨l, rfl, hin⟩ := of_acs h0
  rw [List.length_map] at h1
  have hr := reachBytes_lt
  obtain ⟨h4, h5⟩ := wf_i64 h2
  exact at_calls l at_ what (by omega) hin h4 h5 (by omega)
end Go.Proofs.YtpcfpkfchoelcaaDoor
