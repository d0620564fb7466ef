/- What is told is what the document says; the mirror. -/
import Derived.Test.YtmaeepckfbnpjaaDqG
set_option linter.unusedVariables false
set_option linter.unusedSimpArgs false
namespace Go.Proofs.Ytmaeepckfbnpjaa
open Go.RowKit Go.L Go.Lib
attribute [local irreducible] LL LW LO
set_option maxHeartbeats 2000000 in
set_option maxRecDepth 100000 in
theorem dt_calls (l : List It) (h : Hs) (k : Cap) (hl : l.length < 140737488355328) (hin : ∀ x ∈ l, x.deps.length < 140737488355328) : LCalls Try.prog 4 [.sl 33 (its l) k, .agg (hsL h)] [] (fun r _ => r = .raw (.bool true)) := by
  have hx2 : h.1.length = 32 := h.2
  obtain ⟨ns, hns⟩ := isN_ex l h
  obtain ⟨az, has⟩ := isA_ex l h
  have hnl := hns.len
  have hal := has.len
  have hml := missS_len l
  refine LCalls.of Try.func4 rfl Try.ntmps4 Try.results4 rfl (fun Rf => ?_)
  refine LW.seq ?_
  refine LW.region ?_
  refine X.act (X.box rfl Is.rfl' (by exact Cells.agg) (fun b3 => ?_))
  refine X.u (LU.assignR Is.rfl') rfl ?_
  refine LL.nil (after_code ?_)
  refine LW.seq ?_
  refine LW.seq ?_
  refine LW.region ?_
  refine X.u (LU.moveS Is.rfl') rfl ?_
  refine X.u (LU.call (light_calls l k hl hin) Try.func8 rfl rfl (Opds.cons Is.rfl' Opds.nil)) rfl ?_
  refine X.u (LU.not Is.rfl') rfl ?_
  refine X.u (LU.moveR Is.rfl') rfl ?_
  refine X.gF rfl rfl (fun hg => LU.moveS (by exact Is.rfl')) rfl ?_
  refine X.gF rfl rfl (fun hg => LU.lenN Try.underlying22 (by exact Is.whenN hg) (by (simp only [Option.getD_some, Option.getD_none, byteEls_length, intEls_length, List.length_append, List.length_cons, List.length_nil, List.length_map, List.length_drop, List.length_take, Int.toNat_natCast]; rfl))) rfl ?_
  refine X.gF rfl rfl (fun hg => LU.gtr (by exact Is.whenN hg) (by exact Is.rfl')) rfl ?_
  refine X.gF rfl rfl (fun hg => LU.moveR (by exact Is.whenN hg)) rfl ?_
  refine X.gT2 rfl rfl (fun hg0 hg => LU.moveS (by exact Is.rfl')) rfl ?_
  refine X.gT2 rfl rfl (fun hg0 hg => LU.lenN Try.underlying22 (by exact Is.whenE (by rw [hg0, hg]; rfl)) (by (simp only [Option.getD_some, Option.getD_none, byteEls_length, intEls_length, List.length_append, List.length_cons, List.length_nil, List.length_map, List.length_drop, List.length_take, Int.toNat_natCast]; rfl))) rfl ?_
  refine X.gT2 rfl rfl (fun hg0 hg => LU.leq (by exact Is.whenE (by rw [hg0, hg]; rfl)) (by exact Is.rfl')) rfl ?_
  refine X.gF rfl rfl (fun hg => LU.pickAnd (by exact Is.whenN hg) (fun hq => (by exact Is.whenE (by rw [hg, hq]; rfl))) (by exact Is.rfl')) rfl ?_
  refine X.u (LU.pickOr Is.rfl' Is.rfl' (fun hq => (by exact Is.whenN hq))) rfl ?_
  refine LL.nil (after_code ?_)
  refine X.cond rfl (fun h1 => ?_) (fun h1 => ?_)
  · have h1 : True := trivial
    refine LW.seq ?_
    refine LW.region ?_
    refine X.u (LU.call (lives_calls) Try.func9 rfl rfl Opds.nil) rfl ?_
    refine X.u (LU.assignR Is.rfl') rfl ?_
    refine LL.nil (after_code ?_)
    refine LW.ret (ret_code (after_end ?_))
    refine X.ret (H' := []) (Res.one (by exact IsR rfl)) (by repeat (first | exact HSub.refl _ | refine HSub.drop ?_)) ?_
    exact rfl
  · have h1 : lightS l = true := by simp at h1; exact h1.1
    have h2 : totalD l ≤ 400 ∧ l.length ≤ 300 := by simpa [lightS] using h1
    obtain ⟨hd1, hl1⟩ := h2
    have hs1 := same_calls ns .unk .unk (by omega)
    have hs2 := same_calls az .unk .unk (by omega)
    have hs3 := same_calls (missS l) .unk .unk (by omega)
    refine LW.skip (after_code ?_)
    refine LW.seq ?_
    refine X.drawM 34 rfl (by kernel_rfl) rfl ?_
    refine QD.u (LU.moveS Is.rfl') rfl ?_
    refine QD.u (LU.weak (LU.loadO 0 rfl ⟨Try.sizeOf34, Try.isAgg34⟩ Is.rfl' (Part.sub (by (simp; omega)))) (Is.of (y := .agg (hsL h)) (hs_whole h))) rfl ?_
    refine QD.u (LU.call (needs_calls l h ns k hl (by omega) hns) Try.func14 rfl rfl (Opds.cons Is.rfl' (Opds.cons Is.rfl' Opds.nil))) rfl ?_
    refine QD.u (LU.moveS Is.rfl') rfl ?_
    refine QD.u (LU.weak (LU.loadO 0 rfl ⟨Try.sizeOf34, Try.isAgg34⟩ Is.rfl' (Part.sub (by (simp; omega)))) (Is.of (y := .agg (hsL h)) (hs_whole h))) rfl ?_
    refine QD.u (LU.call (rneeds_calls l h ns k hl (by omega) hns) Try.func15 rfl rfl (Opds.cons Is.rfl' (Opds.cons Is.rfl' Opds.nil))) rfl ?_
    refine QD.u (LU.call (hs1) Try.func13 rfl rfl (Opds.cons Is.rfl' (Opds.cons Is.rfl' Opds.nil))) rfl ?_
    refine QD.u (LU.moveR Is.rfl') rfl ?_
    refine QD.doT rfl rfl (LU.moveS (by exact Is.rfl')) rfl ?_
    refine QD.doT rfl rfl (LU.weak (LU.loadO 0 rfl ⟨Try.sizeOf34, Try.isAgg34⟩ (by exact Is.rfl') (Part.sub (by (simp; omega)))) (Is.of (y := .agg (hsL h)) (hs_whole h))) rfl ?_
    refine QD.doT rfl rfl (LU.call (above_calls l h az k hl (by omega) has) Try.func16 rfl rfl (Opds.cons (by exact Is.rfl') (Opds.cons (by exact Is.rfl') Opds.nil))) rfl ?_
    refine QD.doT rfl rfl (LU.moveS (by exact Is.rfl')) rfl ?_
    refine QD.doT rfl rfl (LU.weak (LU.loadO 0 rfl ⟨Try.sizeOf34, Try.isAgg34⟩ (by exact Is.rfl') (Part.sub (by (simp; omega)))) (Is.of (y := .agg (hsL h)) (hs_whole h))) rfl ?_
    refine QD.doT rfl rfl (LU.call (rabove_calls l h az k hl (by omega) has) Try.func17 rfl rfl (Opds.cons (by exact Is.rfl') (Opds.cons (by exact Is.rfl') Opds.nil))) rfl ?_
    refine QD.doT rfl rfl (LU.call (hs2) Try.func13 rfl rfl (Opds.cons (by exact Is.rfl') (Opds.cons (by exact Is.rfl') Opds.nil))) rfl ?_
    refine QD.u (LU.pickT Is.rfl' (by exact Is.rfl')) rfl ?_
    refine QD.u (LU.moveR Is.rfl') rfl ?_
    refine QD.doT rfl rfl (LU.moveS (by exact Is.rfl')) rfl ?_
    refine QD.doT rfl rfl (LU.call (missing_calls l k hl (by omega)) Try.func18 rfl rfl (Opds.cons (by exact Is.rfl') Opds.nil)) rfl ?_
    refine QD.doT rfl rfl (LU.moveS (by exact Is.rfl')) rfl ?_
    refine QD.doT rfl rfl (LU.call (rmissing_calls l k hl (by omega)) Try.func19 rfl rfl (Opds.cons (by exact Is.rfl') Opds.nil)) rfl ?_
    refine QD.doT rfl rfl (LU.call (hs3) Try.func13 rfl rfl (Opds.cons (by exact Is.rfl') (Opds.cons (by exact Is.rfl') Opds.nil))) rfl ?_
    refine QD.u (LU.pickT Is.rfl' (by exact Is.rfl')) rfl ?_
    refine QD.u (LU.moveR Is.rfl') rfl ?_
    refine QD.doT rfl rfl (LU.moveS (by exact Is.rfl')) rfl ?_
    refine QD.doT rfl rfl (LU.call (closed_calls l k hl (by omega)) Try.func20 rfl rfl (Opds.cons (by exact Is.rfl') Opds.nil)) rfl ?_
    refine QD.doT rfl rfl (LU.moveS (by exact Is.rfl')) rfl ?_
    refine QD.doT rfl rfl (LU.call (rclosed_calls l k hl (by omega)) Try.func21 rfl rfl (Opds.cons (by exact Is.rfl') Opds.nil)) rfl ?_
    refine QD.doT rfl rfl (LU.weak (LU.booleq Try.underlying4 (by exact Is.rfl') (by exact Is.rfl')) (asB (c := true) rfl (by simp))) rfl ?_
    refine QD.u (LU.pickT Is.rfl' (by exact Is.rfl')) rfl ?_
    refine QD.u (LU.moveR Is.rfl') rfl ?_
    refine QD.doT rfl rfl (LU.call (lives_calls) Try.func9 rfl rfl Opds.nil) rfl ?_
    refine QD.u (LU.pickT Is.rfl' (by exact Is.rfl')) rfl ?_
    refine QD.u (LU.assignR Is.rfl') rfl ?_
    refine QD.nil ?_
    refine LL.nil (after_code ?_)
    refine LW.ret (after_end ?_)
    refine X.ret (H' := []) (Res.one (by exact IsR rfl)) (by repeat (first | exact HSub.refl _ | refine HSub.drop ?_)) ?_
    exact rfl
theorem DepsTells_row (es : List (List LV)) (hc : List LV) (hq : ∀ c ∈ es, QItem c) (hb : es.length * 56 ≤ reachBytes) (hh : QArr 32 1 (QInt .u8) hc) : LCalls Try.prog 4 [.sl 33 es .unk, .agg hc] [] (fun r _ => r = .raw (.bool true)) := by
  obtain ⟨l, rfl, hl⟩ := its_of hq
  obtain ⟨h, rfl⟩ := hs_of hh
  exact dt_calls l h .unk (by have := reach_lt; simp at hb; omega) (in_lt hl)
theorem turn_k (t : Int) (n : Nat) (h : 0 < n) : ∃ k : Nat, (IntKind.u64.wrap t).tmod (n : Int) = k ∧ k < n := by
  have h0 : 0 ≤ IntKind.u64.wrap t := by
    show (0 : Int) ≤ t % 18446744073709551616
    omega
  obtain ⟨m, hm⟩ := Int.eq_ofNat_of_zero_le h0
  refine ⟨m % n, ?_, Nat.mod_lt _ h⟩
  rw [hm, Int.ofNat_tmod]
theorem place_in {l : List Hs} {h : Hs} : decide (0 ≤ placeS l h) = decide (h ∈ l) := by
  congr 1
  have := placeS_neg (l := l) (h := h)
  refine propext ⟨fun c => Classical.not_not.1 fun d => ?_, fun c => ?_⟩
  · have := this.2 d; omega
  · have : ¬ placeS l h < 0 := fun d => this.1 d c
    omega
set_option maxHeartbeats 2000000 in
set_option maxRecDepth 100000 in
theorem dm_calls (l : List It) (at_ : Int) (h : Hs) (k : Cap) (hl : l.length < 140737488355328) (hin : ∀ x ∈ l, x.deps.length < 140737488355328) : LCalls Try.prog 7 [.sl 33 (its l) k, i64 at_, .agg (hsL h)] [] (fun r _ => r = .raw (.bool true)) := by
  have hx2 : h.1.length = 32 := h.2
  obtain ⟨az, has⟩ := isA_ex l h
  have hal := has.len
  refine LCalls.of Try.func7 rfl Try.ntmps7 Try.results7 rfl (fun Rf => ?_)
  refine LW.seq ?_
  refine LW.region ?_
  refine X.act (X.box rfl Is.rfl' (by exact Cells.agg) (fun b5 => ?_))
  refine X.u (LU.assignR Is.rfl') rfl ?_
  refine LL.nil (after_code ?_)
  refine LW.seq ?_
  refine LW.seq ?_
  refine LW.region ?_
  refine X.u (LU.moveS Is.rfl') rfl ?_
  refine X.u (LU.call (light_calls l k hl hin) Try.func8 rfl rfl (Opds.cons Is.rfl' Opds.nil)) rfl ?_
  refine X.u (LU.not Is.rfl') rfl ?_
  refine X.u (LU.moveR Is.rfl') rfl ?_
  refine X.gF rfl rfl (fun hg => LU.moveS (by exact Is.rfl')) rfl ?_
  refine X.gF rfl rfl (fun hg => LU.lenN Try.underlying22 (by exact Is.whenN hg) (by (simp only [Option.getD_some, Option.getD_none, byteEls_length, intEls_length, List.length_append, List.length_cons, List.length_nil, List.length_map, List.length_drop, List.length_take, Int.toNat_natCast]; rfl))) rfl ?_
  refine X.gF rfl rfl (fun hg => LU.gtr (by exact Is.whenN hg) (by exact Is.rfl')) rfl ?_
  refine X.u (LU.pickOr Is.rfl' Is.rfl' (fun hq => (by exact Is.whenN hq))) rfl ?_
  refine X.u (LU.moveR Is.rfl') rfl ?_
  refine X.gF rfl rfl (fun hg => LU.moveS (by exact Is.rfl')) rfl ?_
  refine X.gF rfl rfl (fun hg => LU.lenN Try.underlying22 (by exact Is.whenN hg) (by (simp only [Option.getD_some, Option.getD_none, byteEls_length, intEls_length, List.length_append, List.length_cons, List.length_nil, List.length_map, List.length_drop, List.length_take, Int.toNat_natCast]; rfl))) rfl ?_
  refine X.gF rfl rfl (fun hg => LU.eql (by exact Is.whenN hg) (by exact Is.rfl')) rfl ?_
  refine X.u (LU.pickOr Is.rfl' Is.rfl' (fun hq => (by exact Is.whenN hq))) rfl ?_
  refine LL.nil (after_code ?_)
  refine X.cond rfl (fun h1 => ?_) (fun h1 => ?_)
  · have h1 : True := trivial
    refine LW.seq ?_
    refine LW.region ?_
    refine X.u (LU.call (lives_calls) Try.func9 rfl rfl Opds.nil) rfl ?_
    refine X.u (LU.assignR Is.rfl') rfl ?_
    refine LL.nil (after_code ?_)
    refine LW.ret (ret_code (after_end ?_))
    refine X.ret (H' := []) (Res.one (by exact IsR rfl)) (by repeat (first | exact HSub.refl _ | refine HSub.drop ?_)) ?_
    exact rfl
  · have h1 : lightS l = true ∧ l.length ≤ 60 ∧ l ≠ [] := by simp at h1; refine ⟨h1.1.1, by omega, h1.2⟩
    have h2 : totalD l ≤ 400 ∧ l.length ≤ 300 := by simpa [lightS] using h1.1
    obtain ⟨hd1, hl1⟩ := h2
    have hne : 0 < l.length := List.length_pos_iff.2 h1.2.2
    obtain ⟨j, hj1, hj2⟩ := turn_k at_ l.length hne
    obtain ⟨x, hx⟩ := at_lt hj2
    have hxl := it_len x
    have hxn : x.name.1.length = 32 := x.name.2
    obtain ⟨ns, hns⟩ := isN_ex l x.name
    have hnl := hns.len
    have hmir : h ∈ ns ↔ x.name ∈ az := by rw [(hns.2 (by omega)).2, (has.2 (by omega)).2]
    refine LW.skip (after_code ?_)
    refine LW.seq ?_
    refine LW.region ?_
    refine X.u (LU.moveS Is.rfl') rfl ?_
    refine X.u (LU.moveR Is.rfl') rfl ?_
    refine X.u (LU.conv Try.underlying3 Try.underlying41 Is.rfl') rfl ?_
    refine X.u (LU.moveS Is.rfl') rfl ?_
    refine X.u (LU.lenN Try.underlying22 Is.rfl' (by (simp only [Option.getD_some, Option.getD_none, byteEls_length, intEls_length, List.length_append, List.length_cons, List.length_nil, List.length_map, List.length_drop, List.length_take, Int.toNat_natCast]; rfl))) rfl ?_
    refine X.u (LU.convN Try.underlying3 Try.underlying41 Is.rfl' (wrap_u64 (by omega) (by omega))) rfl ?_
    refine X.u (LU.weak (LU.rem Is.rfl' Is.rfl' (by omega)) (Is.of (y := .raw (.int .u64 ((j : Nat) : Int))) (congrArg (fun z => LV.raw (.int .u64 z)) hj1))) rfl ?_
    refine X.u (LU.convN Try.underlying41 Try.underlying3 Is.rfl' (wrap_i64 (by omega) (by omega))) rfl ?_
    refine X.u (LU.at Try.underlying22 ⟨Try.sizeOf36, Try.isAgg36⟩ Is.rfl' Is.rfl' (by omega) (its_at hx) (it_ne x)) rfl ?_
    refine X.u (LU.fieldP Try.underlying36 rfl ⟨Try.sizeOf34, Try.isAgg34⟩ (by decide) Is.rfl' (by (simp; omega))) rfl ?_
    refine X.u (LU.weak (LU.load ⟨Try.sizeOf34, Try.isAgg34⟩ Is.rfl' (by (simp; omega)) (Part.whole (by (simp; omega)))) (Is.of (y := .agg (hsL x.name)) (congrArg LV.agg (it_name x)))) rfl ?_
    refine X.act (X.alloc rfl Try.zeroValue34 (by exact Cells.rawagg (by decide)) (fun b7 => ?_))
    refine X.act (X.store 0 rfl Try.sizeOf34 Is.rfl' Is.rfl' (by exact Cells.agg) (by (simp; omega)) (by exact Nat.le_of_ble_eq_true rfl) ?_)
    refine LL.nil (after_code ?_)
    refine LW.seq ?_
    refine X.wcells (ys := hsL x.name) (putAt_all (by rw [List.length_map, hxn]; rfl)) ?_
    refine X.drawM 17 rfl (by kernel_rfl) rfl ?_
    refine QD.u (LU.moveS Is.rfl') rfl ?_
    refine QD.u (LU.weak (LU.loadO 0 rfl ⟨Try.sizeOf34, Try.isAgg34⟩ Is.rfl' (Part.sub (by (simp; omega)))) (Is.of (y := .agg (hsL x.name)) (hs_whole x.name))) rfl ?_
    refine QD.u (LU.call (needs_calls l x.name ns k hl (by omega) hns) Try.func14 rfl rfl (Opds.cons Is.rfl' (Opds.cons Is.rfl' Opds.nil))) rfl ?_
    refine QD.u (LU.weak (LU.loadO 1 rfl ⟨Try.sizeOf34, Try.isAgg34⟩ Is.rfl' (Part.sub (by (simp; omega)))) (Is.of (y := .agg (hsL h)) (hs_whole h))) rfl ?_
    refine QD.u (LU.call (place_calls ns h .unk (by omega)) Try.func22 rfl rfl (Opds.cons Is.rfl' (Opds.cons Is.rfl' Opds.nil))) rfl ?_
    refine QD.u (LU.geq Is.rfl' Is.rfl') rfl ?_
    refine QD.u (LU.moveS Is.rfl') rfl ?_
    refine QD.u (LU.weak (LU.loadO 1 rfl ⟨Try.sizeOf34, Try.isAgg34⟩ Is.rfl' (Part.sub (by (simp; omega)))) (Is.of (y := .agg (hsL h)) (hs_whole h))) rfl ?_
    refine QD.u (LU.call (above_calls l h az k hl (by omega) has) Try.func16 rfl rfl (Opds.cons Is.rfl' (Opds.cons Is.rfl' Opds.nil))) rfl ?_
    refine QD.u (LU.weak (LU.loadO 0 rfl ⟨Try.sizeOf34, Try.isAgg34⟩ Is.rfl' (Part.sub (by (simp; omega)))) (Is.of (y := .agg (hsL x.name)) (hs_whole x.name))) rfl ?_
    refine QD.u (LU.call (place_calls az x.name .unk (by omega)) Try.func22 rfl rfl (Opds.cons Is.rfl' (Opds.cons Is.rfl' Opds.nil))) rfl ?_
    refine QD.u (LU.geq Is.rfl' Is.rfl') rfl ?_
    refine QD.u (LU.weak (LU.booleq Try.underlying4 Is.rfl' Is.rfl') (asB (c := true) rfl (by rw [place_in, place_in]; simp [hmir]))) rfl ?_
    refine QD.u (LU.moveR Is.rfl') rfl ?_
    refine QD.doT rfl rfl (LU.call (lives_calls) Try.func9 rfl rfl Opds.nil) rfl ?_
    refine QD.u (LU.pickT Is.rfl' (by exact Is.rfl')) rfl ?_
    refine QD.u (LU.assignR Is.rfl') rfl ?_
    refine QD.nil ?_
    refine LL.nil (after_code ?_)
    refine LW.ret (after_end ?_)
    refine X.ret (H' := []) (Res.one (by exact IsR rfl)) (by repeat (first | exact HSub.refl _ | refine HSub.drop ?_)) ?_
    exact rfl
theorem DepsMirror_row (es : List (List LV)) (n : Int) (hc : List LV) (hq : ∀ c ∈ es, QItem c) (hb : es.length * 56 ≤ reachBytes) (hw : (Lit.int .i64 n).wf = true) (hh : QArr 32 1 (QInt .u8) hc) : LCalls Try.prog 7 [.sl 33 es .unk, i64 n, .agg hc] [] (fun r _ => r = .raw (.bool true)) := by
  obtain ⟨l, rfl, hl⟩ := its_of hq
  obtain ⟨h, rfl⟩ := hs_of hh
  exact dm_calls l n h .unk (by have := reach_lt; simp at hb; omega) (in_lt hl)
end Go.Proofs.Ytmaeepckfbnpjaa
