/- A chain of which one entry says something else is no chain of that head, unless two unlike entries have the same digest. -/
import Derived.Test.YtpcfpkfchoelcaaDoorAuJ
set_option linter.unusedVariables false
set_option linter.unusedSimpArgs false
namespace Go.Proofs.YtpcfpkfchoelcaaDoor
open Go.RowKit Go.L
attribute [local irreducible] LL LW LO
theorem turn_k19 (t : Int) (n : Nat) (h : 0 < n) : ∃ k : Nat, (IntKind.u64.wrap t).tmod (n : Int) = k ∧ k < n := by
  have h0 : 0 ≤ IntKind.u64.wrap t := by
    show (0 : Int) ≤ t % 18446744073709551616
    omega
  obtain ⟨m, hm⟩ := Int.eq_ofNat_of_zero_le h0
  refine ⟨m % n, ?_, Nat.mod_lt _ h⟩
  rw [hm, Int.ofNat_tmod]
theorem headE_take {l : List Ent} {k : Nat} {e : Ent} (h : l[k]? = some e) : headE (l.take (k + 1)) = digE e := by
  rw [take_snoc' h]; unfold headE; simp
theorem fit_prev {p : List Ent} {e : Ent} (h : fitE p e = true) : e.prev = headE p := by
  rw [fit_iff] at h
  simp only [Bool.and_eq_true, decide_eq_true_eq] at h
  exact h.1.1.1.2
theorem set_at {l : List Ent} {k : Nat} (e : Ent) (h : k < l.length) : (l.set k e)[k]? = some e := by simp [h]
/-- One entry says something else. -/
theorem turned19 {l : List Ent} {k : Nat} {e e' : Ent} (hc : Chain l) (hk : l[k]? = some e) (hd : digE e' ≠ digE e) : holdsB (l.set k e') (headE l) = false := by
  have hkl := (List.getElem?_eq_some_iff.1 hk).1
  unfold holdsB
  by_cases hlast : k + 1 = l.length
  · have h1 : headE l = digE e := by rw [← headE_take hk, hlast, List.take_length]
    have h2 : headE (l.set k e') = digE e' := by rw [← headE_take (set_at e' hkl), List.take_of_length_le (by simp; omega)]
    rw [h1, h2, decide_eq_false hd, Bool.and_false]
  · have h0 : ¬ verL (l.set k e') < 0 := fun hv => by
      have hc' := Chain.of_ver hv
      obtain ⟨x, hx⟩ := at_lt (show k + 1 < l.length by omega)
      have h1 := hc (k + 1) (by omega)
      have h2 := hc' (k + 1) (by simp; omega)
      rw [getD_get hx] at h1
      rw [getD_get (l := l.set k e') (x := x) (by rw [List.getElem?_set_ne (by omega)]; exact hx)] at h2
      have h3 := fit_prev h1
      have h4 := fit_prev h2
      rw [headE_take hk] at h3
      rw [headE_take (set_at e' hkl)] at h4
      exact hd (h4.symm.trans h3)
    rw [decide_eq_false h0, Bool.false_and]
/-! ### owned rows of entries -/
theorem ents_flat_len {l : List Ent} (h : PrevOk l) : (ents l).flatten.length = l.length * 36 := by
  induction l with
  | nil => rfl
  | cons a r ih =>
    have ha := h a (by simp)
    show ((entL a) ++ (ents r).flatten).length = _
    rw [List.length_append, ih fun e he => h e (by simp [he])]
    simp [ha]; omega
theorem ents_split (p : List Ent) (e : Ent) (q : List Ent) (rest : List LV) : (ents (p ++ e :: q)).flatten ++ rest = (ents p).flatten ++ (entL e ++ ((ents q).flatten ++ rest)) := by
  show (List.map entL (p ++ e :: q)).flatten ++ rest = _
  rw [List.map_append, List.flatten_append, List.map_cons, List.flatten_cons, List.append_assoc, List.append_assoc]
theorem ents_flat_at {l : List Ent} {k : Nat} {e : Ent} (h : PrevOk l) (hk : l[k]? = some e) (rest : List LV) (j : Nat) (hj : j < 36) : ((ents l).flatten ++ rest)[k * 36 + j]? = (entL e)[j]? := by
  obtain ⟨hkl, rfl⟩ := List.getElem?_eq_some_iff.1 hk
  have hp : PrevOk (l.take k) := fun e he => h e (List.mem_of_mem_take he)
  have hlen := ents_flat_len hp
  rw [List.length_take, Nat.min_eq_left (by omega)] at hlen
  have : l = l.take k ++ l[k] :: l.drop (k + 1) := by rw [← List.drop_eq_getElem_cons hkl, List.take_append_drop]
  have h2 : (ents l).flatten ++ rest = (ents (l.take k)).flatten ++ (entL l[k] ++ ((ents (l.drop (k + 1))).flatten ++ rest)) := by
    conv => lhs; rw [this]
    exact ents_split _ _ _ _
  rw [h2, List.getElem?_append_right (by omega), hlen, show k * 36 + j - k * 36 = j by omega, List.getElem?_append_left (by have := h _ (List.getElem_mem hkl); simp [this]; omega)]
theorem ents_put {l : List Ent} {k : Nat} {e : Ent} (h : PrevOk l) (hk : l[k]? = some e) (rest : List LV) (what : List UInt8) : putAt ((ents l).flatten ++ rest) (k * 36 + 3) [Str what] = (ents (l.set k { e with what := what })).flatten ++ rest := by
  have hkl := (List.getElem?_eq_some_iff.1 hk).1
  have he : e = l[k] := ((List.getElem?_eq_some_iff.1 hk).2).symm
  have hp : PrevOk (l.take k) := fun e he => h e (List.mem_of_mem_take he)
  have hlen := ents_flat_len hp
  rw [List.length_take, Nat.min_eq_left (by omega)] at hlen
  have h1 : l = l.take k ++ e :: l.drop (k + 1) := by rw [he, ← List.drop_eq_getElem_cons hkl, List.take_append_drop]
  have h2 : l.set k { e with what := what } = l.take k ++ { e with what := what } :: l.drop (k + 1) := List.set_eq_take_append_cons_drop.trans (if_pos hkl)
  have h3 : (ents l).flatten ++ rest = (ents (l.take k)).flatten ++ (entL e ++ ((ents (l.drop (k + 1))).flatten ++ rest)) := by
    conv => lhs; rw [h1]
    exact ents_split _ _ _ _
  rw [h2, h3]
  have h4 : (ents (l.take k ++ { e with what := what } :: l.drop (k + 1))).flatten ++ rest = (ents (l.take k)).flatten ++ (entL { e with what := what } ++ ((ents (l.drop (k + 1))).flatten ++ rest)) := ents_split _ _ _ _
  rw [h4, putAt_one _ _ _ (by rw [List.length_append, hlen]; (simp; done)), List.set_append_right _ _ (by omega), hlen, show k * 36 + 3 - k * 36 = 3 by omega]
  rfl
set_option maxRecDepth 100000 in
theorem freshO_calls (l : List Ent) (k : Cap) (hl : l.length * 200 < 140737488355328) (hlo : PrevOk l) : LCalls Tryd.prog 10 [.sl 36 (ents l) k] [] (fun r H' => ∃ b c rest, r = .raw (.slice (some ⟨b, 0, none⟩) l.length c) ∧ l.length ≤ c ∧ H' = [.cells b 28 ((ents l).flatten ++ raws rest)]) := by
  have hsz := ents_size hlo
  have hel : (ents l).length = l.length := List.length_map ..
  refine LCalls.of Tryd.func10 rfl Tryd.ntmps10 Tryd.results10 rfl (fun Rf => ?_)
  refine LW.seq ?_
  refine LW.region ?_
  refine X.u (LU.assign (Is.nil 36)) rfl ?_
  refine LL.nil (after_code ?_)
  refine LW.seq ?_
  refine LW.region ?_
  refine X.act (X.litO rfl Tryd.underlying22 Tryd.sizeOf28 Tryd.zeroValue28 (ones rfl) rfl (by decide) (by decide) Elems.nil (by simp) rfl (fun b3 => ?_))
  refine X.u (LU.moveS Is.rfl') rfl ?_
  refine X.act (X.appendO (z := (.agg #[(.int .i64 0), (.int .i64 0), (.string ByteArray.empty), (.string ByteArray.empty), (.int .u8 0), (.int .u8 0), (.int .u8 0), (.int .u8 0), (.int .u8 0), (.int .u8 0), (.int .u8 0), (.int .u8 0), (.int .u8 0), (.int .u8 0), (.int .u8 0), (.int .u8 0), (.int .u8 0), (.int .u8 0), (.int .u8 0), (.int .u8 0), (.int .u8 0), (.int .u8 0), (.int .u8 0), (.int .u8 0), (.int .u8 0), (.int .u8 0), (.int .u8 0), (.int .u8 0), (.int .u8 0), (.int .u8 0), (.int .u8 0), (.int .u8 0), (.int .u8 0), (.int .u8 0), (.int .u8 0), (.int .u8 0)])) 0 rfl rfl Tryd.underlying22 (El.of (P := Tryd.prog) (z := (.agg #[(.int .i64 0), (.int .i64 0), (.string ByteArray.empty), (.string ByteArray.empty), (.int .u8 0), (.int .u8 0), (.int .u8 0), (.int .u8 0), (.int .u8 0), (.int .u8 0), (.int .u8 0), (.int .u8 0), (.int .u8 0), (.int .u8 0), (.int .u8 0), (.int .u8 0), (.int .u8 0), (.int .u8 0), (.int .u8 0), (.int .u8 0), (.int .u8 0), (.int .u8 0), (.int .u8 0), (.int .u8 0), (.int .u8 0), (.int .u8 0), (.int .u8 0), (.int .u8 0), (.int .u8 0), (.int .u8 0), (.int .u8 0), (.int .u8 0), (.int .u8 0), (.int .u8 0), (.int .u8 0), (.int .u8 0)])) (size := 36) (bytes := 80) rfl rfl rfl) (ones rfl) Is.rfl' Is.rfl' (by simp) (SrcL.slice Tryd.underlying22 (by decide) hsz) (by simp only [Option.getD_some, Option.getD_none, byteEls_length, intEls_length, List.length_append, List.length_cons, List.length_nil, List.length_map, List.length_drop, List.length_take, Int.toNat_natCast]; omega) (by simp only [Option.getD_some, Option.getD_none, byteEls_length, intEls_length, List.length_append, List.length_cons, List.length_nil, List.length_map, List.length_drop, List.length_take, Int.toNat_natCast]; omega) (fun b5 c5 rest5 hc5 hr5 => ?_))
  refine X.weak (t := 5) (v := .raw (.slice (some ⟨b5, 0, none⟩) l.length c5)) (Is.of (congrArg (fun n => LV.raw (.slice (some ⟨b5, 0, none⟩) n c5)) hel)) ?_
  refine X.u (LU.assignR Is.rfl') rfl ?_
  refine LL.nil (after_code ?_)
  refine LW.ret (after_end ?_)
  refine X.ret (H' := [.cells b5 28 ((ents l).flatten ++ raws rest5)]) (Res.one (by exact IsR rfl)) (by repeat (exact HSub.refl _)) ?_
  exact ⟨b5, c5, rest5, rfl, by omega, rfl⟩
set_option maxRecDepth 100000 in
theorem entriesO_calls (g : Nat) (es : List Ent) (hv : Value) (b o c : Nat) (hel : es.length ≤ 4096) (hes : PrevOk es) : LCalls Tryd.prog 17 [pt g] [lg g es hv b o c] (fun r H' => ∃ b' c' rest, r = .raw (.slice (some ⟨b', 0, none⟩) es.length c') ∧ es.length ≤ c' ∧ H' = [.cells b' 28 ((ents es).flatten ++ raws rest), lg g es hv b o c]) := by
  have hsz := ents_size hes
  have hle : (ents es).length = es.length := List.length_map ..
  refine LCalls.of Tryd.func17 rfl Tryd.ntmps17 Tryd.results17 rfl (fun Rf => ?_)
  refine LW.seq ?_
  refine LW.region ?_
  refine X.u (LU.assign (Is.nil 36)) rfl ?_
  refine LL.nil (after_code ?_)
  refine LW.seq ?_
  refine LW.seq ?_
  refine LW.region ?_
  refine X.u (LU.moveR Is.rfl') rfl ?_
  refine X.u (LU.nilEqS Tryd.underlying36 Is.rfl' Is.rfl') rfl ?_
  refine LL.nil (after_code ?_)
  refine X.condF rfl ?_ ?_
  · rfl
  refine LW.skip (after_code ?_)
  refine LW.seq ?_
  refine LW.region ?_
  refine X.act (X.litO rfl Tryd.underlying22 Tryd.sizeOf28 Tryd.zeroValue28 (ones rfl) rfl (by decide) (by decide) Elems.nil (by simp) rfl (fun b5 => ?_))
  refine X.u (LU.moveR Is.rfl') rfl ?_
  refine X.u (LU.nilCheck Is.rfl') rfl ?_
  refine X.u (LU.fieldO Tryd.underlying39 rfl Tryd.sizeOf22 (by decide) Is.rfl') rfl ?_
  refine X.u (LU.loadO 1 rfl ⟨Tryd.sizeOf22, Tryd.isAgg22⟩ Is.rfl' (Part.one rfl)) rfl ?_
  refine X.act (X.appendO (z := (.agg #[(.int .i64 0), (.int .i64 0), (.string ByteArray.empty), (.string ByteArray.empty), (.int .u8 0), (.int .u8 0), (.int .u8 0), (.int .u8 0), (.int .u8 0), (.int .u8 0), (.int .u8 0), (.int .u8 0), (.int .u8 0), (.int .u8 0), (.int .u8 0), (.int .u8 0), (.int .u8 0), (.int .u8 0), (.int .u8 0), (.int .u8 0), (.int .u8 0), (.int .u8 0), (.int .u8 0), (.int .u8 0), (.int .u8 0), (.int .u8 0), (.int .u8 0), (.int .u8 0), (.int .u8 0), (.int .u8 0), (.int .u8 0), (.int .u8 0), (.int .u8 0), (.int .u8 0), (.int .u8 0), (.int .u8 0)])) 0 rfl rfl Tryd.underlying22 (El.of (P := Tryd.prog) (z := (.agg #[(.int .i64 0), (.int .i64 0), (.string ByteArray.empty), (.string ByteArray.empty), (.int .u8 0), (.int .u8 0), (.int .u8 0), (.int .u8 0), (.int .u8 0), (.int .u8 0), (.int .u8 0), (.int .u8 0), (.int .u8 0), (.int .u8 0), (.int .u8 0), (.int .u8 0), (.int .u8 0), (.int .u8 0), (.int .u8 0), (.int .u8 0), (.int .u8 0), (.int .u8 0), (.int .u8 0), (.int .u8 0), (.int .u8 0), (.int .u8 0), (.int .u8 0), (.int .u8 0), (.int .u8 0), (.int .u8 0), (.int .u8 0), (.int .u8 0), (.int .u8 0), (.int .u8 0), (.int .u8 0), (.int .u8 0)])) (size := 36) (bytes := 80) rfl rfl rfl) (ones rfl) Is.rfl' Is.rfl' (by simp) (SrcL.slice Tryd.underlying22 (by decide) hsz) (by simp only [Option.getD_some, Option.getD_none, byteEls_length, intEls_length, List.length_append, List.length_cons, List.length_nil, List.length_map, List.length_drop, List.length_take, Int.toNat_natCast]; omega) (by simp only [Option.getD_some, Option.getD_none, byteEls_length, intEls_length, List.length_append, List.length_cons, List.length_nil, List.length_map, List.length_drop, List.length_take, Int.toNat_natCast]; omega) (fun b10 c10 rest10 hc10 hr10 => ?_))
  refine X.weak (t := 10) (v := .raw (.slice (some ⟨b10, 0, none⟩) es.length c10)) (Is.of (congrArg (fun n => LV.raw (.slice (some ⟨b10, 0, none⟩) n c10)) hle)) ?_
  refine X.u (LU.assignR Is.rfl') rfl ?_
  refine LL.nil (after_code ?_)
  refine LW.ret (after_end ?_)
  refine X.ret (H' := [.cells b10 28 ((ents es).flatten ++ raws rest10), lg g es hv b o c]) (Res.one (by exact IsR rfl)) (by repeat (exact HSub.refl _)) ?_
  exact ⟨b10, c10, rest10, rfl, by omega, rfl⟩
end Go.Proofs.YtpcfpkfchoelcaaDoor
