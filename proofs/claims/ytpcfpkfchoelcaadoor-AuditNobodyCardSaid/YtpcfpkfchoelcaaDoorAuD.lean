/- What a log tells; entries as a chain; the document's. -/
import Derived.Test.YtpcfpkfchoelcaaDoorAuC
set_option linter.unusedVariables false
set_option linter.unusedSimpArgs false
namespace Go.Proofs.YtpcfpkfchoelcaaDoor
open Go.RowKit Go.L
attribute [local irreducible] LL LW LO
def PrevOk (es : List Ent) : Prop := ∀ e ∈ es, e.prev.length = 32
set_option maxRecDepth 100000 in
theorem entries_calls (g : Nat) (es : List Ent) (hv : Value) (b o c : Nat) (hel : es.length ≤ 4096) (hes : PrevOk es) : LCalls Tryd.prog 17 [pt g] [lg g es hv b o c] (fun r H' => r = .sl 36 (ents es) .unk ∧ H' = [lg g es hv b o c]) := by
  have hsz := ents_size hes
  refine LCalls.of Tryd.func17 rfl Tryd.ntmps17 Tryd.results17 rfl (fun Rf => ?_)
  refine LW.seq ?_
  refine LW.region ?_
  refine X.u (LU.assign (Is.nil 36)) rfl ?_
  refine LL.nil (after_code ?_)
  refine LW.seq ?_
  refine LW.seq ?_
  refine LW.region ?_
  refine X.u (LU.moveR Is.rfl') rfl ?_
  refine X.u (LU.nilEqS Tryd.underlying36 Is.rfl' Is.rfl') rfl ?_
  refine LL.nil (after_code ?_)
  refine X.condF rfl ?_ ?_
  · rfl
  refine LW.skip (after_code ?_)
  refine LW.seq ?_
  refine LW.region ?_
  refine X.u (LU.lits Tryd.underlying22 Tryd.sizeOf28 Tryd.zeroValue28 (ones rfl) rfl (by decide) (by decide) Elems.nil (by intro e he; cases he) rfl) rfl ?_
  refine X.u (LU.moveR Is.rfl') rfl ?_
  refine X.u (LU.nilCheck Is.rfl') rfl ?_
  refine X.u (LU.fieldO Tryd.underlying39 rfl Tryd.sizeOf22 (by decide) Is.rfl') rfl ?_
  refine X.u (LU.loadO 0 rfl ⟨Tryd.sizeOf22, Tryd.isAgg22⟩ Is.rfl' (Part.one rfl)) rfl ?_
  refine X.u (LU.weak (LU.append Tryd.underlying22 (El.of (P := Tryd.prog) (z := (.agg #[(.int .i64 0), (.int .i64 0), (.string ByteArray.empty), (.string ByteArray.empty), (.int .u8 0), (.int .u8 0), (.int .u8 0), (.int .u8 0), (.int .u8 0), (.int .u8 0), (.int .u8 0), (.int .u8 0), (.int .u8 0), (.int .u8 0), (.int .u8 0), (.int .u8 0), (.int .u8 0), (.int .u8 0), (.int .u8 0), (.int .u8 0), (.int .u8 0), (.int .u8 0), (.int .u8 0), (.int .u8 0), (.int .u8 0), (.int .u8 0), (.int .u8 0), (.int .u8 0), (.int .u8 0), (.int .u8 0), (.int .u8 0), (.int .u8 0), (.int .u8 0), (.int .u8 0), (.int .u8 0), (.int .u8 0)])) (size := 36) (bytes := 80) rfl rfl rfl) Is.rfl' Is.rfl' (SrcL.slice Tryd.underlying22 (by decide) hsz) (by simp only [Option.getD_some, Option.getD_none, byteEls_length, intEls_length, List.length_append, List.length_cons, List.length_nil, List.length_map, List.length_drop, List.length_take, Int.toNat_natCast]; omega) (by simp only [Option.getD_some, Option.getD_none, byteEls_length, intEls_length, List.length_append, List.length_cons, List.length_nil, List.length_map, List.length_drop, List.length_take, Int.toNat_natCast]; omega)) (Is.of (y := .sl 36 (ents es) .unk) (rfl))) rfl ?_
  refine X.u (LU.assignS Is.rfl') rfl ?_
  refine LL.nil (after_code ?_)
  refine LW.ret (after_end ?_)
  refine X.ret (H' := [lg g es hv b o c]) (Res.one (by exact IsS rfl)) (by repeat (exact HSub.refl _)) ?_
  exact ⟨rfl, rfl⟩
set_option maxRecDepth 100000 in
theorem head_calls (g : Nat) (es : List Ent) (hv : Value) (b o c : Nat) (hh : HeadOk hv es) : LCalls Tryd.prog 18 [pt g] [lg g es hv b o c, kw] (fun r H' => r = H32 (headE es) ∧ H' = [lg g es hv b o c, kw]) := by
  have hhl := headE_len es
  unfold HeadOk at hh
  obtain ⟨ff, fn, first, caps, rfl, _⟩ := id hh
  obtain ⟨D, hD⟩ : ∃ D, D = headE es := ⟨_, rfl⟩
  rw [← hD] at hh hhl ⊢
  clear hD
  refine LCalls.of Tryd.func18 rfl Tryd.ntmps18 Tryd.results18 rfl (fun Rf => ?_)
  refine LW.seq ?_
  refine LW.region ?_
  refine X.act (X.alloc rfl Tryd.zeroValue26 (by exact Cells.rawagg (by decide)) (fun b2 => ?_))
  refine LL.nil (after_code ?_)
  refine LW.seq ?_
  refine LW.seq ?_
  refine LW.region ?_
  refine X.u (LU.moveR Is.rfl') rfl ?_
  refine X.u (LU.nilEqS Tryd.underlying36 Is.rfl' Is.rfl') rfl ?_
  refine X.u (LU.moveR Is.rfl') rfl ?_
  refine X.doF rfl rfl (LU.moveR (by exact Is.rfl')) rfl ?_
  refine X.doF rfl rfl (LU.nilCheck (by exact Is.rfl')) rfl ?_
  refine X.doF rfl rfl (LU.fieldO Tryd.underlying39 rfl Tryd.sizeOf37 (by decide) (by exact Is.rfl')) rfl ?_
  refine X.doF rfl rfl (LU.loadO 1 rfl ⟨Tryd.sizeOf37, Tryd.isAgg37⟩ (by exact Is.rfl') (Part.one rfl)) rfl ?_
  refine X.doF rfl rfl (LU.nilFEqS Tryd.underlying37 (by exact Is.rfl') (by exact Is.rfl')) rfl ?_
  refine X.u (LU.pickF Is.rfl' (by exact Is.rfl')) rfl ?_
  refine LL.nil (after_code ?_)
  refine X.condF rfl ?_ ?_
  · rfl
  refine LW.skip (after_code ?_)
  refine LW.seq ?_
  refine LW.region ?_
  refine X.u (LU.moveR Is.rfl') rfl ?_
  refine X.u (LU.nilCheck Is.rfl') rfl ?_
  refine X.u (LU.fieldO Tryd.underlying39 rfl Tryd.sizeOf37 (by decide) Is.rfl') rfl ?_
  refine X.u (LU.loadO 1 rfl ⟨Tryd.sizeOf37, Tryd.isAgg37⟩ Is.rfl' (Part.one rfl)) rfl ?_
  refine X.act (X.callF (hh) Is.rfl' rfl (by (refine HSub.pick 2 rfl ?_); exact HSub.refl _) Opds.nil ?_)
  rintro r H' ⟨rfl, rfl⟩
  refine X.act (X.store 1 rfl Tryd.sizeOf26 Is.rfl' Is.rfl' (by exact Cells.agg) (by (simp; omega)) (by exact Nat.le_of_ble_eq_true rfl) ?_)
  refine LL.nil (after_code ?_)
  refine LW.ret (after_end ?_)
  rw [putAt_all (by simp [raws, hhl])]
  refine X.ret (H' := [lg g es (.func (.func ff) first caps) b o c, kw]) (by exact Res.cell1 0 rfl rfl ⟨Tryd.sizeOf26, Tryd.isAgg26⟩ (Part.whole (by (simp; omega))) (by exact IsA rfl)) (by repeat (first | exact HSub.refl _ | refine HSub.pick 1 rfl ?_ | refine HSub.pick 2 rfl ?_ | refine HSub.drop ?_)) ?_
  exact ⟨rfl, rfl⟩
/-! ### the document's -/
set_option maxRecDepth 100000 in
theorem rhead_calls (es : List Ent) (k : Cap) (hel : es.length < 140737488355328) (hok : ∀ e ∈ es, EntOk e) : LCalls Tryd.prog 11 [.sl 36 (ents es) k] [] (fun r H' => r = H32 (headE es) ∧ H' = []) := by
  have hhl := headE_len es
  have hd : ∀ e, es.getLast? = some e → LCalls Tryd.prog 24 [.agg (entL e)] [] (fun r H' => r = H32 (headE es) ∧ H' = []) := fun e he => by
    have : headE es = digE e := by unfold headE; rw [he]
    rw [this]
    exact rdigest_calls e (hok e (List.mem_of_getLast? he))
  have h0 : es = [] → headE es = zero32 := fun h => by rw [h]; rfl
  have hlast : es ≠ [] → es.getLast? = some (lastE es) := fun h => by
    cases hg : es.getLast? with
    | none => exact absurd (List.getLast?_eq_none_iff.1 hg) h
    | some e => unfold lastE; rw [hg]; rfl
  have hll : es ≠ [] → (entL (lastE es)).length = 36 := fun h => by
    have := (hok _ (List.mem_of_getLast? (hlast h))).2.2.2.2
    simp [this]
  obtain ⟨D, hD⟩ : ∃ D, D = headE es := ⟨_, rfl⟩
  rw [← hD] at hd h0 hhl ⊢
  clear hD
  refine LCalls.of Tryd.func11 rfl Tryd.ntmps11 Tryd.results11 rfl (fun Rf => ?_)
  refine LW.seq ?_
  refine LW.region ?_
  refine X.act (X.alloc rfl Tryd.zeroValue26 (by exact Cells.rawagg (by decide)) (fun b2 => ?_))
  refine LL.nil (after_code ?_)
  refine LW.seq ?_
  refine LW.seq ?_
  refine LW.region ?_
  refine X.u (LU.moveS Is.rfl') rfl ?_
  refine X.u (LU.lenN Tryd.underlying22 Is.rfl' (by (simp only [Option.getD_some, Option.getD_none, byteEls_length, intEls_length, List.length_append, List.length_cons, List.length_nil, List.length_map, List.length_drop, List.length_take, Int.toNat_natCast]; rfl))) rfl ?_
  refine X.u (LU.eql Is.rfl' Is.rfl') rfl ?_
  refine LL.nil (after_code ?_)
  refine X.cond rfl (fun h1 => ?_) (fun h1 => ?_)
  · have hnil : es = [] := List.length_eq_zero_iff.1 (by have := of_decide_eq_true h1; omega)
    have hz := h0 hnil
    refine LW.seq ?_
    refine LW.region ?_
    refine X.u (LU.weak (LU.buildA Tryd.underlying26 Tryd.sizeOf5 Tryd.zeroValue26 (ones rfl) Parts.nil rfl) (Is.of (y := H32 zero32) (rfl))) rfl ?_
    refine X.act (X.store 0 rfl Tryd.sizeOf26 Is.rfl' Is.rfl' (by exact Cells.agg) (by rfl) (by exact Nat.le_of_ble_eq_true rfl) ?_)
    refine LL.nil (after_code ?_)
    refine LW.ret (ret_code (after_end ?_))
    rw [putAt_all (by simp [raws, zero32])]
    refine X.ret (H' := []) (by exact Res.cell1 0 rfl rfl ⟨Tryd.sizeOf26, Tryd.isAgg26⟩ (Part.whole (by rfl)) (by exact IsA rfl)) (by repeat (first | exact HSub.refl _ | refine HSub.drop ?_)) ?_
    exact ⟨by rw [hz]; try rfl, rfl⟩
  · have hne : es ≠ [] := fun h => by rw [h] at h1; simp at h1
    have hll1 := hll hne
    have hpos : 0 < (es.length : Int) := by have := List.length_pos_iff.2 hne; omega
    refine LW.skip (after_code ?_)
    refine LW.seq ?_
    refine LW.region ?_
    refine X.u (LU.moveS Is.rfl') rfl ?_
    refine X.u (LU.moveS Is.rfl') rfl ?_
    refine X.u (LU.lenN Tryd.underlying22 Is.rfl' (by (simp only [Option.getD_some, Option.getD_none, byteEls_length, intEls_length, List.length_append, List.length_cons, List.length_nil, List.length_map, List.length_drop, List.length_take, Int.toNat_natCast]; rfl))) rfl ?_
    refine X.u (LU.subN Is.rfl' Is.rfl' (wrap_i64 (by omega) (by omega))) rfl ?_
    refine X.u (LU.at Tryd.underlying22 ⟨Tryd.sizeOf28, Tryd.isAgg28⟩ Is.rfl' Is.rfl' (by omega) (ents_last hpos) (by simp)) rfl ?_
    refine X.u (LU.load ⟨Tryd.sizeOf28, Tryd.isAgg28⟩ Is.rfl' (by assumption) (Part.whole (by assumption))) rfl ?_
    refine X.u (LU.call (hd _ (hlast hne)) Tryd.func24 rfl rfl (Opds.cons Is.rfl' Opds.nil)) rfl ?_
    refine X.act (X.store 0 rfl Tryd.sizeOf26 Is.rfl' Is.rfl' (by exact Cells.agg) (by (simp; omega)) (by exact Nat.le_of_ble_eq_true rfl) ?_)
    refine LL.nil (after_code ?_)
    refine LW.ret (after_end ?_)
    rw [putAt_all (by simp [raws, hhl])]
    refine X.ret (H' := []) (by exact Res.cell1 0 rfl rfl ⟨Tryd.sizeOf26, Tryd.isAgg26⟩ (Part.whole (by (simp; omega))) (by exact IsA rfl)) (by repeat (first | exact HSub.refl _ | refine HSub.drop ?_)) ?_
    exact ⟨rfl, rfl⟩
def fitE (p : List Ent) (e : Ent) : Bool := decide (errN p e.tick e.who e.what = 0) && decide (nxtE p e.tick e.who e.what = e)
theorem fit_of {p : List Ent} {e : Ent} (h : fitE p e = true) : errN p e.tick e.who e.what = 0 ∧ nxtE p e.tick e.who e.what = e := by
  simpa [fitE] using h
theorem fit_iff (p : List Ent) (e : Ent) : fitE p e = (((((decide ((p.length : Int) < 4096) && decide (e.seq = p.length + 1)) && decide (e.prev = headE p)) && (decide (0 ≤ e.tick) && decide (e.tick ≤ 1099511627776))) && (decide (e.who.length ≤ 16) && decide (e.what.length ≤ 512))) && (decide (p.length = 0) || decide ((lastE p).tick ≤ e.tick))) := by
  rw [Bool.eq_iff_iff]
  simp only [fitE, Bool.and_eq_true, Bool.or_eq_true, decide_eq_true_eq]
  constructor
  · rintro ⟨h1, h2⟩
    obtain ⟨_, h3, h4⟩ := nxtE_ok h1
    rw [h3] at h2
    have hs := congrArg Ent.seq h2
    have hp := congrArg Ent.prev h2
    simp only at hs hp
    unfold errN at h1
    split at h1
    · cases h1
    · split at h1
      · cases h1
      · exact ⟨⟨⟨⟨⟨by omega, by omega⟩, hp.symm⟩, by omega, by omega⟩, by omega, by omega⟩, by omega⟩
  · rintro ⟨⟨⟨⟨⟨h1, h2⟩, h3⟩, h4, h5⟩, h6, h7⟩, h8⟩
    have hE : errN p e.tick e.who e.what = 0 := by
      unfold errN
      rw [if_neg (by omega), if_neg (by omega)]
    refine ⟨hE, ?_⟩
    rw [(nxtE_ok hE).2.1]
    cases e
    simp only at h2 h3
    rw [h2, h3]
set_option maxHeartbeats 1000000 in
set_option maxRecDepth 100000 in
theorem fits_calls (p : List Ent) (k : Cap) (e : Ent) (hpl : p.length < 140737488355328) (hpo : ∀ e ∈ p, EntOk e) (he : e.prev.length = 32) : LCalls Tryd.prog 32 [.sl 36 (ents p) k, .agg (entL e)] [] (fun r H' => r = bl (fitE p e) ∧ H' = []) := by
  have hhd := rhead_calls p k hpl hpo
  have hhl := headE_len p
  have hel : (entL e).length = 36 := by simp [he]
  have hF := fit_iff p e
  have hpe := part_prev e he
  obtain ⟨D, hD⟩ : ∃ D, D = headE p := ⟨_, rfl⟩
  rw [← hD] at hhd hhl hF
  rw [hF]
  clear hF hD
  refine LCalls.of Tryd.func32 rfl Tryd.ntmps32 Tryd.results32 rfl (fun Rf => ?_)
  refine LW.seq ?_
  refine LW.region ?_
  refine X.act (X.box rfl Is.rfl' (by exact Cells.agg) (fun b3 => ?_))
  refine X.u (LU.assignR Is.rfl') rfl ?_
  refine LL.nil (after_code ?_)
  refine LW.seq ?_
  refine LW.seq ?_
  refine X.drawM 28 rfl (by kernel_rfl) rfl ?_
  refine QD.u (LU.moveS Is.rfl') rfl ?_
  refine QD.u (LU.lenN Tryd.underlying22 Is.rfl' (by (simp only [Option.getD_some, Option.getD_none, byteEls_length, intEls_length, List.length_append, List.length_cons, List.length_nil, List.length_map, List.length_drop, List.length_take, Int.toNat_natCast]; rfl))) rfl ?_
  refine QD.u (LU.geq Is.rfl' Is.rfl') rfl ?_
  refine QD.u (LU.moveR Is.rfl') rfl ?_
  refine QD.gF rfl rfl (fun hg => LU.fieldO Tryd.underlying28 rfl Tryd.sizeOf3 (by decide) (by exact Is.rfl')) rfl ?_
  refine QD.gF rfl rfl (fun hg => LU.loadO 0 rfl ⟨Tryd.sizeOf3, Tryd.isAgg3⟩ (by exact Is.whenN hg) (Part.one rfl)) rfl ?_
  refine QD.gF rfl rfl (fun hg => LU.moveS (by exact Is.rfl')) rfl ?_
  refine QD.gF rfl rfl (fun hg => LU.lenN Tryd.underlying22 (by exact Is.whenN hg) (by (simp only [Option.getD_some, Option.getD_none, byteEls_length, intEls_length, List.length_append, List.length_cons, List.length_nil, List.length_map, List.length_drop, List.length_take, Int.toNat_natCast]; rfl))) rfl ?_
  refine QD.gF rfl rfl (fun hg => LU.addN (by exact Is.whenN hg) (by exact Is.rfl') (wrap_i64 (by omega) (by omega))) rfl ?_
  refine QD.gF rfl rfl (fun hg => LU.neq (by exact Is.whenN hg) (by exact Is.whenN hg)) rfl ?_
  refine QD.u (LU.pickOr Is.rfl' Is.rfl' (fun hq => (by exact Is.whenN hq))) rfl ?_
  refine QD.u (LU.moveR Is.rfl') rfl ?_
  refine QD.gF rfl rfl (fun hg => LU.fieldO Tryd.underlying28 rfl Tryd.sizeOf26 (by decide) (by exact Is.rfl')) rfl ?_
  refine QD.gF rfl rfl (fun hg => LU.weak (LU.loadO 0 rfl ⟨Tryd.sizeOf26, Tryd.isAgg26⟩ (by exact Is.whenN hg) (Part.sub (by (simp; omega)))) (Is.of (y := H32 e.prev) (hpe))) rfl ?_
  refine QD.gF rfl rfl (fun hg => LU.moveS (by exact Is.rfl')) rfl ?_
  refine QD.gF rfl rfl (fun hg => LU.call (hhd) Tryd.func11 rfl rfl (Opds.cons (by exact Is.whenN hg) Opds.nil)) rfl ?_
  refine QD.gF rfl rfl (fun hg => LU.neqH he hhl (by exact Is.whenN hg) (by exact Is.whenN hg)) rfl ?_
  refine QD.u (LU.pickOr Is.rfl' Is.rfl' (fun hq => (by exact Is.whenN hq))) rfl ?_
  refine QD.u (LU.moveR Is.rfl') rfl ?_
  refine QD.gF rfl rfl (fun hg => LU.fieldO Tryd.underlying28 rfl Tryd.sizeOf3 (by decide) (by exact Is.rfl')) rfl ?_
  refine QD.gF rfl rfl (fun hg => LU.loadO 0 rfl ⟨Tryd.sizeOf3, Tryd.isAgg3⟩ (by exact Is.whenN hg) (Part.one rfl)) rfl ?_
  refine QD.gF rfl rfl (fun hg => LU.lss (by exact Is.whenN hg) (by exact Is.rfl')) rfl ?_
  refine QD.u (LU.pickOr Is.rfl' Is.rfl' (fun hq => (by exact Is.whenN hq))) rfl ?_
  refine QD.u (LU.moveR Is.rfl') rfl ?_
  refine QD.gF rfl rfl (fun hg => LU.fieldO Tryd.underlying28 rfl Tryd.sizeOf3 (by decide) (by exact Is.rfl')) rfl ?_
  refine QD.gF rfl rfl (fun hg => LU.loadO 0 rfl ⟨Tryd.sizeOf3, Tryd.isAgg3⟩ (by exact Is.whenN hg) (Part.one rfl)) rfl ?_
  refine QD.gF rfl rfl (fun hg => LU.gtr (by exact Is.whenN hg) (by exact Is.rfl')) rfl ?_
  refine QD.u (LU.pickOr Is.rfl' Is.rfl' (fun hq => (by exact Is.whenN hq))) rfl ?_
  refine QD.nil ?_
  refine LL.nil (after_code ?_)
  refine X.cond rfl (fun h1 => ?_) (fun h1 => ?_)
  · try have h1 := of_decide_eq_true h1
    refine LW.seq ?_
    refine LW.region ?_
    refine X.u (LU.assignR Is.rfl') rfl ?_
    refine LL.nil (after_code ?_)
    refine LW.ret (ret_code (after_end ?_))
    refine X.ret (H' := []) (Res.one (by exact IsR rfl)) (by repeat (first | exact HSub.refl _ | refine HSub.drop ?_)) ?_
    refine ⟨?_, rfl⟩
    rw [eq_comm]
    refine congrArg bl ?_
    rw [Bool.eq_false_iff]
    intro hc
    simp only [Bool.and_eq_true, Bool.or_eq_true, decide_eq_true_eq, Bool.not_eq_true', decide_eq_false_iff_not] at hc h1
    obtain ⟨⟨⟨⟨⟨c1, c2⟩, c3⟩, c4, c5⟩, c6, c7⟩, c8⟩ := hc
    rcases h1 with ((((h | h) | h) | h) | h)
    · omega
    · exact h c2
    · exact h c3
    · omega
    · omega
  · try have h1 := of_decide_eq_false h1
    refine LW.skip (after_code ?_)
    refine LW.seq ?_
    refine X.drawM 28 rfl (by kernel_rfl) rfl ?_
    refine QD.u (LU.fieldO Tryd.underlying28 rfl Tryd.sizeOf9 (by decide) Is.rfl') rfl ?_
    refine QD.u (LU.loadO 0 rfl ⟨Tryd.sizeOf9, Tryd.isAgg9⟩ Is.rfl' (Part.one rfl)) rfl ?_
    refine QD.u (LU.strlenN Tryd.underlying9 Is.rfl') rfl ?_
    refine QD.u (LU.leq Is.rfl' Is.rfl') rfl ?_
    refine QD.u (LU.moveR Is.rfl') rfl ?_
    refine QD.gT rfl rfl (fun hg => LU.fieldO Tryd.underlying28 rfl Tryd.sizeOf9 (by decide) (by exact Is.rfl')) rfl ?_
    refine QD.gT rfl rfl (fun hg => LU.loadO 0 rfl ⟨Tryd.sizeOf9, Tryd.isAgg9⟩ (by exact Is.whenE hg) (Part.one rfl)) rfl ?_
    refine QD.gT rfl rfl (fun hg => LU.strlenN Tryd.underlying9 (by exact Is.whenE hg)) rfl ?_
    refine QD.gT rfl rfl (fun hg => LU.leq (by exact Is.whenE hg) (by exact Is.rfl')) rfl ?_
    refine QD.u (LU.pickAnd Is.rfl' (fun hq => (by exact Is.whenE hq)) Is.rfl') rfl ?_
    refine QD.u (LU.moveR Is.rfl') rfl ?_
    refine QD.gT rfl rfl (fun hg => LU.moveS (by exact Is.rfl')) rfl ?_
    refine QD.gT rfl rfl (fun hg => LU.lenN Tryd.underlying22 (by exact Is.whenE hg) (by (simp only [Option.getD_some, Option.getD_none, byteEls_length, intEls_length, List.length_append, List.length_cons, List.length_nil, List.length_map, List.length_drop, List.length_take, Int.toNat_natCast]; rfl))) rfl ?_
    refine QD.gT rfl rfl (fun hg => LU.eql (by exact Is.whenE hg) (by exact Is.rfl')) rfl ?_
    refine QD.gT rfl rfl (fun hg => LU.moveR (by exact Is.whenE hg)) rfl ?_
    refine QD.gF2 rfl rfl (fun hg0 hg => LU.fieldO Tryd.underlying28 rfl Tryd.sizeOf3 (by decide) (by exact Is.rfl')) rfl ?_
    refine QD.gF2 rfl rfl (fun hg0 hg => LU.loadO 0 rfl ⟨Tryd.sizeOf3, Tryd.isAgg3⟩ (by exact Is.whenE (by rw [hg0, hg]; rfl)) (Part.one rfl)) rfl ?_
    refine QD.gF2 rfl rfl (fun hg0 hg => LU.moveS (by exact Is.rfl')) rfl ?_
    refine QD.gF2 rfl rfl (fun hg0 hg => LU.moveS (by exact Is.rfl')) rfl ?_
    refine QD.gF2 rfl rfl (fun hg0 hg => LU.lenN Tryd.underlying22 (by exact Is.whenE (by rw [hg0, hg]; rfl)) (by (simp only [Option.getD_some, Option.getD_none, byteEls_length, intEls_length, List.length_append, List.length_cons, List.length_nil, List.length_map, List.length_drop, List.length_take, Int.toNat_natCast]; rfl))) rfl ?_
    refine QD.gF2 rfl rfl (fun hg0 hg => LU.subN (by exact Is.whenE (by rw [hg0, hg]; rfl)) (by exact Is.rfl') (wrap_i64 (by omega) (by omega))) rfl ?_
    refine QD.gF2 rfl rfl (fun hg0 hg => LU.at Tryd.underlying22 ⟨Tryd.sizeOf28, Tryd.isAgg28⟩ (by exact Is.whenE (by rw [hg0, hg]; rfl)) (by exact Is.whenE (by rw [hg0, hg]; rfl)) (by (simp only [Bool.or_eq_false_iff, Bool.and_eq_true, Bool.or_eq_true, Bool.and_eq_false_imp, Bool.not_eq_true', Bool.not_eq_false', decide_eq_true_eq, decide_eq_false_iff_not] at hg; omega)) (ents_last (by have := of_decide_eq_false hg; omega)) (by simp)) rfl ?_
    refine QD.gF2 rfl rfl (fun hg0 hg => LU.fieldP Tryd.underlying28 rfl ⟨Tryd.sizeOf3, Tryd.isAgg3⟩ (by decide) (by exact Is.whenE (by rw [hg0, hg]; rfl)) (by (simp; done))) rfl ?_
    refine QD.gF2 rfl rfl (fun hg0 hg => LU.load ⟨Tryd.sizeOf3, Tryd.isAgg3⟩ (by exact Is.whenE (by rw [hg0, hg]; rfl)) (by (simp; done)) (Part.one rfl)) rfl ?_
    refine QD.gF2 rfl rfl (fun hg0 hg => LU.geq (by exact Is.whenE (by rw [hg0, hg]; rfl)) (by exact Is.whenE (by rw [hg0, hg]; rfl))) rfl ?_
    refine QD.gT rfl rfl (fun hg => LU.pickOr (by exact Is.whenE hg) (by exact Is.rfl') (fun hq => (by exact Is.whenE (by rw [hg, hq]; rfl)))) rfl ?_
    refine QD.u (LU.pickAnd Is.rfl' (fun hq => (by exact Is.whenE hq)) Is.rfl') rfl ?_
    refine QD.u (LU.assignR Is.rfl') rfl ?_
    refine QD.nil ?_
    refine LL.nil (after_code ?_)
    refine LW.ret (after_end ?_)
    refine X.ret (H' := []) (Res.one (by exact IsR rfl)) (by repeat (first | exact HSub.refl _ | refine HSub.drop ?_)) ?_
    refine ⟨congrArg bl ?_, rfl⟩
    simp only [Bool.or_eq_false_iff, decide_eq_false_iff_not, Bool.not_eq_false', decide_eq_true_eq] at h1
    obtain ⟨⟨⟨⟨h1a, h1b⟩, h1c⟩, h1d⟩, h1e⟩ := h1
    rw [Bool.eq_iff_iff]
    simp only [Bool.and_eq_true, Bool.or_eq_true, decide_eq_true_eq]
    constructor
    · rintro ⟨⟨g1, g2⟩, g3⟩
      exact ⟨⟨⟨⟨⟨by omega, h1b⟩, h1c⟩, by omega, by omega⟩, by omega, by omega⟩, by omega⟩
    · rintro ⟨⟨_, g1, g2⟩, g3⟩
      exact ⟨⟨by omega, by omega⟩, by omega⟩
end Go.Proofs.YtpcfpkfchoelcaaDoor
