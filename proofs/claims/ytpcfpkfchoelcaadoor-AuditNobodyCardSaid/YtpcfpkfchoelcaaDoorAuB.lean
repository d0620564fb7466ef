/- A log: made, noted in, told. -/
import Derived.Test.YtpcfpkfchoelcaaDoorAuA
set_option linter.unusedVariables false
set_option linter.unusedSimpArgs false
namespace Go.Proofs.YtpcfpkfchoelcaaDoor
open Go.RowKit Go.L
attribute [local irreducible] LL LW LO
abbrev entVs (e : Ent) : List Value := .int .i64 e.seq :: .int .i64 e.tick :: .string ⟨e.who.toArray⟩ :: .string ⟨e.what.toArray⟩ :: e.prev.map fun b => Value.int .u8 b.toNat
abbrev entV (e : Ent) : Value := .agg (entVs e).toArray
theorem entL_raws (e : Ent) : entL e = raws (entVs e) := by simp [raws, List.map_map]
theorem ent_raw (e : Ent) : Is (.agg (entL e)) (.raw (entV e)) := by rw [entL_raws]; exact Is.agg_raw
theorem raw_ent (e : Ent) : Is (.raw (entV e)) (.agg (entL e)) := by
  rw [entL_raws]
  refine Is.raw_agg fun v hv => ?_
  simp only [entVs, List.mem_cons, List.mem_map] at hv
  rcases hv with rfl | rfl | rfl | rfl | ⟨b, _, rfl⟩ <;> rfl
set_option maxRecDepth 100000 in
theorem edigest_calls (e : Ent) (he : EntOk e) : LCalls Tryd.prog 30 [.raw (entV e)] [kw] (fun r H' => r = H32 (digE e) ∧ H' = [kw]) := by
  refine LCalls.arg (raw_ent e) ?_
  have hdl := digE_len e
  have hp := he.2.2.2.2
  have hd := digest_calls e he
  obtain ⟨D, hD⟩ : ∃ D, D = digE e := ⟨_, rfl⟩
  rw [← hD] at hdl hd ⊢
  clear hD
  refine LCalls.of Tryd.func30 rfl Tryd.ntmps30 Tryd.results30 rfl (fun Rf => ?_)
  refine LW.seq ?_
  refine LW.region ?_
  refine X.act (X.box rfl Is.rfl' (by exact Cells.agg) (fun b1 => ?_))
  refine X.act (X.alloc rfl Tryd.zeroValue26 (by exact Cells.rawagg (by decide)) (fun b2 => ?_))
  refine LL.nil (after_code ?_)
  refine LW.seq ?_
  refine LW.region ?_
  refine X.u (LU.loadO 1 rfl ⟨Tryd.sizeOf62, Tryd.isAgg62⟩ Is.rfl' (Part.whole (by (simp; omega)))) rfl ?_
  refine X.act (X.call (hd) Tryd.func15 rfl rfl rfl (by (refine HSub.pick 2 rfl ?_); exact HSub.refl _) (Opds.cons Is.rfl' Opds.nil) ?_)
  rintro r H' ⟨rfl, rfl⟩
  refine X.act (X.store 1 rfl Tryd.sizeOf26 Is.rfl' Is.rfl' (by exact Cells.agg) (by (simp; omega)) (by exact Nat.le_of_ble_eq_true rfl) ?_)
  refine LL.nil (after_code ?_)
  refine LW.ret (after_end ?_)
  rw [putAt_all (by simp [raws, hdl])]
  refine X.ret (H' := [kw]) (by exact Res.cell1 0 rfl rfl ⟨Tryd.sizeOf26, Tryd.isAgg26⟩ (Part.whole (by (simp; omega))) (by exact IsA rfl)) (by repeat (first | exact HSub.refl _ | refine HSub.pick 1 rfl ?_ | refine HSub.drop ?_)) ?_
  exact ⟨rfl, rfl⟩
/-- The function value in a log tells its head. -/
def HeadOk (hv : Value) (es : List Ent) : Prop := FnCalls Tryd.prog hv [] [kw] (fun r H' => r = H32 (headE es) ∧ H' = [kw])
theorem head_new : HeadOk (.func (.func 31) #[] #[]) [] :=
  FnCalls.named Tryd.func31 rfl rfl fun R w0 ph w vs hi hr => by
    have := none_calls ([kw] ++ R) w0 ph w vs hi hr
    refine this.mono ?_
    rintro e w' ⟨v, ph', r, H', rfl, hle, hi', hx, h1, h2⟩
    subst h2
    exact ⟨v, ph', r, [kw], rfl, hle, hi', hx, h1, rfl⟩
theorem headE_snoc (es : List Ent) (e : Ent) : headE (es ++ [e]) = digE e := by simp [headE]
theorem head_bound {e : Ent} (he : EntOk e) (es : List Ent) : HeadOk (.func (.func 30) #[entV e] #[]) (es ++ [e]) := by
  unfold HeadOk
  rw [headE_snoc]
  exact FnCalls.bound Tryd.func30 rfl rfl (edigest_calls e he)
abbrev lg (g : Nat) (es : List Ent) (hv : Value) (b o c : Nat) : Atom := .cells g 39 [.sl 36 (ents es) (.tok b o c), .raw hv]
set_option maxRecDepth 100000 in
theorem new_calls19 : LCalls Tryd.prog 20 [] [] (fun r H' => ∃ g hv, HeadOk hv [] ∧ r = pt g ∧ H' = [lg g [] hv 0 0 0, .tail 0 0 0]) := by
  refine LCalls.of Tryd.func20 rfl Tryd.ntmps20 Tryd.results20 rfl (fun Rf => ?_)
  refine LW.seq ?_
  refine LW.region ?_
  refine X.u (LU.assignR Is.rfl') rfl ?_
  refine LL.nil (after_code ?_)
  refine LW.seq ?_
  refine LW.region ?_
  refine X.u (LU.build (places := #[(0, 1), (1, 1)]) Tryd.underlying39 Tryd.zeroValue39 (ones rfl) (by intro w; simp [Tryd.sizeOf22, Tryd.sizeOf37]) (Parts.cons Is.rfl' (by exact Cells.raw rfl) Parts.nil) rfl) rfl ?_
  refine X.act (X.box rfl Is.rfl' (by exact Cells.agg) (fun b2 => ?_))
  refine X.u (LU.assignR Is.rfl') rfl ?_
  refine LL.nil (after_code ?_)
  refine LW.ret (after_end ?_)
  refine X.ret (H' := [lg b2 [] (.func (.func 31) #[] #[]) 0 0 0, .tail 0 0 0]) (Res.one (by exact IsR rfl)) (HSub.trans (HSub.cell 0 rfl ((Is.nil 36).trans (Is.full_tok 0 0))) (HSub.trans (HSub.tail0 0 0 0 (Nat.le_refl _) _) (HSub.pick 1 rfl (HSub.refl _)))) ?_
  exact ⟨b2, _, head_new, rfl, rfl⟩
def lastE (es : List Ent) : Ent := es.getLast?.getD zeroE
def errN (es : List Ent) (tick : Int) (who what : List UInt8) : Nat :=
  if tick < 0 ∨ 1099511627776 < tick ∨ (0 < es.length ∧ tick < (lastE es).tick) then 2
  else if 16 < who.length ∨ 512 < what.length ∨ 4096 ≤ es.length then 3 else 0
def nxtE (es : List Ent) (tick : Int) (who what : List UInt8) : Ent := if errN es tick who what = 0 then ⟨(es.length : Int) + 1, tick, who, what, headE es⟩ else zeroE
def addE (es : List Ent) (tick : Int) (who what : List UInt8) : List Ent := if errN es tick who what = 0 then es ++ [nxtE es tick who what] else es
theorem ents_last {es : List Ent} (h : 0 < (es.length : Int)) : (ents es)[((es.length : Int) - 1).toNat]? = some (entL (lastE es)) := by
  rw [show ((es.length : Int) - 1).toNat = es.length - 1 by omega, List.getElem?_map]
  unfold lastE
  rw [List.getLast?_eq_getElem?]
  have : es.length - 1 < es.length := by omega
  rw [List.getElem?_eq_getElem this]; rfl
theorem laid_ent {a b c d : LV} {l : List LV} {zs : List LV} (hl : l.length = 32) (hz : zs.length = 36) : laid (#[(0, 1), (1, 1), (2, 1), (3, 1), (4, 32)][·]?) zs [(0, [a]), (1, [b]), (2, [c]), (3, [d]), (4, l)] = some (a :: b :: c :: d :: l) := by
  match zs, hz with
  | z0 :: z1 :: z2 :: z3 :: r, hz =>
    have hr : r.length = 32 := by simpa using hz
    simp [laid, putAt, hl, hr]
    show some (a :: b :: c :: d :: (l ++ List.drop 32 r)) = _
    rw [List.drop_of_length_le (by omega), List.append_nil]
theorem nxtE_ok {es : List Ent} {tick : Int} {who what : List UInt8} (h : errN es tick who what = 0) : EntOk (nxtE es tick who what) ∧ nxtE es tick who what = ⟨(es.length : Int) + 1, tick, who, what, headE es⟩ ∧ es.length < 4096 := by
  have e : nxtE es tick who what = ⟨(es.length : Int) + 1, tick, who, what, headE es⟩ := by unfold nxtE; rw [if_pos h]
  unfold errN at h
  split at h
  · cases h
  · split at h
    · cases h
    · rw [e]
      refine ⟨⟨by show _ ∧ _; simp only; omega, by show _ ∧ _; simp only; omega, by show who.length ≤ _; omega, by show what.length ≤ _; omega, headE_len es⟩, rfl, by omega⟩
set_option maxRecDepth 100000 in
theorem next_calls (g : Nat) (es : List Ent) (hv : Value) (b o c : Nat) (tick : Int) (who what : List UInt8) (hh : HeadOk hv es) (hel : es.length ≤ 4096) (ht1 : -9223372036854775808 ≤ tick) (ht2 : tick < 9223372036854775808) : LCalls Tryd.prog 29 [pt g, i64 tick, Str who, Str what] [lg g es hv b o c, kw] (fun r H' => r = .tup [.agg (entL (nxtE es tick who what)), i64 (errN es tick who what)] ∧ H' = [lg g es hv b o c, kw]) := by
  have hhl := headE_len es
  unfold HeadOk at hh
  obtain ⟨D, hD⟩ : ∃ D, D = headE es := ⟨_, rfl⟩
  have hN : errN es tick who what = 0 → nxtE es tick who what = ⟨(es.length : Int) + 1, tick, who, what, D⟩ := fun h => by rw [(nxtE_ok h).2.1, hD]
  have hZ : errN es tick who what ≠ 0 → nxtE es tick who what = zeroE := fun h => by unfold nxtE; rw [if_neg h]
  have hE : errN es tick who what = if tick < 0 ∨ 1099511627776 < tick ∨ (0 < es.length ∧ tick < (lastE es).tick) then 2 else if 16 < who.length ∨ 512 < what.length ∨ 4096 ≤ es.length then 3 else 0 := rfl
  obtain ⟨N, hNN⟩ : ∃ N, N = nxtE es tick who what := ⟨_, rfl⟩
  obtain ⟨E, hEE⟩ : ∃ E, E = errN es tick who what := ⟨_, rfl⟩
  rw [← hD] at hh hhl
  rw [← hNN, ← hEE] at hN hZ ⊢
  rw [← hEE] at hE
  clear hD hNN hEE
  refine LCalls.of Tryd.func29 rfl Tryd.ntmps29 Tryd.results29 rfl (fun Rf => ?_)
  refine LW.seq ?_
  refine LW.region ?_
  refine X.act (X.alloc rfl Tryd.zeroValue28 (by exact Cells.rawagg (by decide)) (fun b8 => ?_))
  refine X.u (LU.assignR Is.rfl') rfl ?_
  refine LL.nil (after_code ?_)
  refine LW.seq ?_
  refine LW.region ?_
  refine X.u (LU.moveR Is.rfl') rfl ?_
  refine X.u (LU.nilCheck Is.rfl') rfl ?_
  refine X.u (LU.fieldO Tryd.underlying39 rfl Tryd.sizeOf22 (by decide) Is.rfl') rfl ?_
  refine X.u (LU.loadO 1 rfl ⟨Tryd.sizeOf22, Tryd.isAgg22⟩ Is.rfl' (Part.one rfl)) rfl ?_
  refine X.u (LU.lenN Tryd.underlying22 Is.rfl' (by (simp only [Option.getD_some, Option.getD_none, byteEls_length, intEls_length, List.length_append, List.length_cons, List.length_nil, List.length_map, List.length_drop, List.length_take, Int.toNat_natCast]; rfl))) rfl ?_
  refine X.u (LU.assignR Is.rfl') rfl ?_
  refine LL.nil (after_code ?_)
  refine LW.seq ?_
  refine LW.block ?_
  refine LW.seq ?_
  refine LW.region ?_
  refine X.u (LU.moveR Is.rfl') rfl ?_
  refine X.u (LU.lss Is.rfl' Is.rfl') rfl ?_
  refine X.u (LU.moveR Is.rfl') rfl ?_
  refine X.gF rfl rfl (fun hg => LU.moveR (by exact Is.rfl')) rfl ?_
  refine X.gF rfl rfl (fun hg => LU.gtr (by exact Is.whenN hg) (by exact Is.rfl')) rfl ?_
  refine X.u (LU.pickOr Is.rfl' Is.rfl' (fun hq => (by exact Is.whenN hq))) rfl ?_
  refine X.u (LU.moveR Is.rfl') rfl ?_
  refine X.gF rfl rfl (fun hg => LU.moveR (by exact Is.rfl')) rfl ?_
  refine X.gF rfl rfl (fun hg => LU.gtr (by exact Is.whenN hg) (by exact Is.rfl')) rfl ?_
  refine X.gF rfl rfl (fun hg => LU.moveR (by exact Is.whenN hg)) rfl ?_
  refine X.gT2 rfl rfl (fun hg0 hg => LU.moveR (by exact Is.rfl')) rfl ?_
  refine X.gT2 rfl rfl (fun hg0 hg => LU.moveR (by exact Is.rfl')) rfl ?_
  refine X.gT2 rfl rfl (fun hg0 hg => LU.nilCheck (by exact Is.whenE (by rw [hg0, hg]; rfl))) rfl ?_
  refine X.gT2 rfl rfl (fun hg0 hg => LU.fieldO Tryd.underlying39 rfl Tryd.sizeOf22 (by decide) (by exact Is.whenE (by rw [hg0, hg]; rfl))) rfl ?_
  refine X.gT2 rfl rfl (fun hg0 hg => LU.loadO 1 rfl ⟨Tryd.sizeOf22, Tryd.isAgg22⟩ (by exact Is.whenE (by rw [hg0, hg]; rfl)) (Part.one rfl)) rfl ?_
  refine X.gT2 rfl rfl (fun hg0 hg => LU.moveR (by exact Is.rfl')) rfl ?_
  refine X.gT2 rfl rfl (fun hg0 hg => LU.subN (by exact Is.whenE (by rw [hg0, hg]; rfl)) (by exact Is.rfl') (wrap_i64 (by omega) (by omega))) rfl ?_
  refine X.gT2 rfl rfl (fun hg0 hg => LU.at Tryd.underlying22 ⟨Tryd.sizeOf28, Tryd.isAgg28⟩ (by exact Is.whenE (by rw [hg0, hg]; rfl)) (by exact Is.whenE (by rw [hg0, hg]; rfl)) (by (simp only [Bool.or_eq_false_iff, Bool.and_eq_true, Bool.or_eq_true, Bool.and_eq_false_imp, Bool.not_eq_true', Bool.not_eq_false', decide_eq_true_eq, decide_eq_false_iff_not] at hg; omega)) (ents_last (of_decide_eq_true hg)) (by simp)) rfl ?_
  refine X.gT2 rfl rfl (fun hg0 hg => LU.fieldP Tryd.underlying28 rfl ⟨Tryd.sizeOf3, Tryd.isAgg3⟩ (by decide) (by exact Is.whenE (by rw [hg0, hg]; rfl)) (by (simp; done))) rfl ?_
  refine X.gT2 rfl rfl (fun hg0 hg => LU.load ⟨Tryd.sizeOf3, Tryd.isAgg3⟩ (by exact Is.whenE (by rw [hg0, hg]; rfl)) (by (simp; done)) (Part.one rfl)) rfl ?_
  refine X.gT2 rfl rfl (fun hg0 hg => LU.lss (by exact Is.whenE (by rw [hg0, hg]; rfl)) (by exact Is.whenE (by rw [hg0, hg]; rfl))) rfl ?_
  refine X.gF rfl rfl (fun hg => LU.pickAnd (by exact Is.whenN hg) (fun hq => (by exact Is.whenE (by rw [hg, hq]; rfl))) (by exact Is.rfl')) rfl ?_
  refine X.u (LU.pickOr Is.rfl' Is.rfl' (fun hq => (by exact Is.whenN hq))) rfl ?_
  refine X.u (LU.assignR Is.rfl') rfl ?_
  refine LL.nil (after_code ?_)
  refine X.cond rfl (fun h2 => ?_) (fun h2 => ?_)
  · have h2 : tick < 0 ∨ 1099511627776 < tick ∨ (0 < es.length ∧ tick < (lastE es).tick) := by simp only [Bool.or_eq_true, Bool.and_eq_true, decide_eq_true_eq] at h2; omega
    rw [if_pos h2] at hE
    have hz := hZ (by omega)
    refine LW.seq ?_
    refine LW.region ?_
    refine X.u (LU.weak (LU.build (places := #[(0, 1), (1, 1), (2, 1), (3, 1), (4, 32)]) Tryd.underlying28 Tryd.zeroValue28 (ones rfl) (by intro w; simp [Tryd.sizeOf26, Tryd.sizeOf3, Tryd.sizeOf9]) Parts.nil rfl) (Is.of (y := .agg (entL zeroE)) (rfl))) rfl ?_
    refine X.act (X.store 0 rfl Tryd.sizeOf28 Is.rfl' Is.rfl' (by exact Cells.agg) (by rfl) (by exact Nat.le_of_ble_eq_true rfl) ?_)
    refine X.u (LU.assignR Is.rfl') rfl ?_
    refine LL.nil (after_code ?_)
    refine LW.ret (ret_blk (ret_code (after_end ?_)))
    rw [putAt_all (by simp [raws, zeroE, zero32])]
    refine X.ret (H' := [lg g es hv b o c, kw]) (by exact Res.cell2 0 rfl rfl ⟨Tryd.sizeOf28, Tryd.isAgg28⟩ (Part.whole (by rfl)) (by exact IsA rfl) (by exact IsR rfl)) (by repeat (first | exact HSub.refl _ | refine HSub.pick 1 rfl ?_ | refine HSub.drop ?_)) ?_
    exact ⟨by rw [hz, hE]; rfl, rfl⟩
  · have h2 : ¬ (tick < 0 ∨ 1099511627776 < tick ∨ (0 < es.length ∧ tick < (lastE es).tick)) := by simp only [Bool.or_eq_false_iff, Bool.and_eq_false_imp, decide_eq_false_iff_not, decide_eq_true_eq] at h2; omega
    rw [if_neg h2] at hE
    refine LW.seq ?_
    refine LW.region ?_
    refine X.u (LU.moveR Is.rfl') rfl ?_
    refine X.u (LU.strlenN Tryd.underlying9 Is.rfl') rfl ?_
    refine X.u (LU.gtr Is.rfl' Is.rfl') rfl ?_
    refine X.u (LU.moveR Is.rfl') rfl ?_
    refine X.gF rfl rfl (fun hg => LU.moveR (by exact Is.rfl')) rfl ?_
    refine X.gF rfl rfl (fun hg => LU.strlenN Tryd.underlying9 (by exact Is.whenN hg)) rfl ?_
    refine X.gF rfl rfl (fun hg => LU.gtr (by exact Is.whenN hg) (by exact Is.rfl')) rfl ?_
    refine X.u (LU.pickOr Is.rfl' Is.rfl' (fun hq => (by exact Is.whenN hq))) rfl ?_
    refine X.u (LU.moveR Is.rfl') rfl ?_
    refine X.gF rfl rfl (fun hg => LU.moveR (by exact Is.rfl')) rfl ?_
    refine X.gF rfl rfl (fun hg => LU.geq (by exact Is.whenN hg) (by exact Is.rfl')) rfl ?_
    refine X.u (LU.pickOr Is.rfl' Is.rfl' (fun hq => (by exact Is.whenN hq))) rfl ?_
    refine X.u (LU.assignR Is.rfl') rfl ?_
    refine LL.nil (after_code ?_)
    refine X.cond rfl (fun h4 => ?_) (fun h4 => ?_)
    · have h4 : 16 < who.length ∨ 512 < what.length ∨ 4096 ≤ es.length := by simp only [Bool.or_eq_true, decide_eq_true_eq] at h4; omega
      rw [if_pos h4] at hE
      have hz := hZ (by omega)
      refine LW.seq ?_
      refine LW.region ?_
      refine X.u (LU.weak (LU.build (places := #[(0, 1), (1, 1), (2, 1), (3, 1), (4, 32)]) Tryd.underlying28 Tryd.zeroValue28 (ones rfl) (by intro w; simp [Tryd.sizeOf26, Tryd.sizeOf3, Tryd.sizeOf9]) Parts.nil rfl) (Is.of (y := .agg (entL zeroE)) (rfl))) rfl ?_
      refine X.act (X.store 0 rfl Tryd.sizeOf28 Is.rfl' Is.rfl' (by exact Cells.agg) (by rfl) (by exact Nat.le_of_ble_eq_true rfl) ?_)
      refine X.u (LU.assignR Is.rfl') rfl ?_
      refine LL.nil (after_code ?_)
      refine LW.ret (ret_blk (ret_code (after_end ?_)))
      rw [putAt_all (by simp [raws, zeroE, zero32])]
      refine X.ret (H' := [lg g es hv b o c, kw]) (by exact Res.cell2 0 rfl rfl ⟨Tryd.sizeOf28, Tryd.isAgg28⟩ (Part.whole (by rfl)) (by exact IsA rfl) (by exact IsR rfl)) (by repeat (first | exact HSub.refl _ | refine HSub.pick 1 rfl ?_ | refine HSub.drop ?_)) ?_
      exact ⟨by rw [hz, hE]; rfl, rfl⟩
    · have h4 : ¬ (16 < who.length ∨ 512 < what.length ∨ 4096 ≤ es.length) := by simp only [Bool.or_eq_false_iff, decide_eq_false_iff_not] at h4; omega
      rw [if_neg h4] at hE
      have hz := hN (by omega)
      refine LW.skip (after_blk (after_code ?_))
      refine LW.seq ?_
      refine LW.region ?_
      refine X.u (LU.moveR Is.rfl') rfl ?_
      refine X.u (LU.addN Is.rfl' Is.rfl' (wrap_i64 (by omega) (by omega))) rfl ?_
      refine X.u (LU.moveR Is.rfl') rfl ?_
      refine X.u (LU.moveR Is.rfl') rfl ?_
      refine X.u (LU.moveR Is.rfl') rfl ?_
      refine X.u (LU.moveR Is.rfl') rfl ?_
      refine X.u (LU.nilCheck Is.rfl') rfl ?_
      refine X.u (LU.fieldO Tryd.underlying39 rfl Tryd.sizeOf37 (by decide) Is.rfl') rfl ?_
      refine X.u (LU.loadO 1 rfl ⟨Tryd.sizeOf37, Tryd.isAgg37⟩ Is.rfl' (Part.one rfl)) rfl ?_
      refine X.act (X.callF (hh) Is.rfl' rfl (by (refine HSub.pick 2 rfl ?_); exact HSub.refl _) Opds.nil ?_)
      rintro r H' ⟨rfl, rfl⟩
      refine X.u (LU.weak (LU.build (places := #[(0, 1), (1, 1), (2, 1), (3, 1), (4, 32)]) Tryd.underlying28 Tryd.zeroValue28 (ones rfl) (by intro w; simp [Tryd.sizeOf26, Tryd.sizeOf3, Tryd.sizeOf9]) (Parts.cons Is.rfl' (by exact Cells.raw rfl) (Parts.cons Is.rfl' (by exact Cells.raw rfl) (Parts.cons Is.rfl' (by exact Cells.raw rfl) (Parts.cons Is.rfl' (by exact Cells.raw rfl) (Parts.cons Is.rfl' (by exact Cells.agg) Parts.nil))))) (laid_ent (by simp [hhl]) rfl)) (Is.of (y := .agg (entL ⟨(es.length : Int) + 1, tick, who, what, D⟩)) (rfl))) rfl ?_
      refine X.act (X.store 1 rfl Tryd.sizeOf28 Is.rfl' Is.rfl' (by exact Cells.agg) (by (simp; omega)) (by exact Nat.le_of_ble_eq_true rfl) ?_)
      refine X.u (LU.assignR Is.rfl') rfl ?_
      refine LL.nil (after_code ?_)
      refine LW.ret (after_end ?_)
      rw [putAt_all (by simp [raws, hhl])]
      refine X.ret (H' := [lg g es hv b o c, kw]) (by exact Res.cell2 0 rfl rfl ⟨Tryd.sizeOf28, Tryd.isAgg28⟩ (Part.whole (by (simp; omega))) (by exact IsA rfl) (by exact IsR rfl)) (by repeat (first | exact HSub.refl _ | refine HSub.pick 1 rfl ?_ | refine HSub.pick 2 rfl ?_ | refine HSub.drop ?_)) ?_
      exact ⟨by rw [hz, hE]; rfl, rfl⟩
end Go.Proofs.YtpcfpkfchoelcaaDoor
