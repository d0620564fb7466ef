/- Tokens: nothing but what was given out is taken. -/
import Derived.Test.YtnfeepmgdahmgaaDoorTkI
import Derived.Test.YtnfeepmgdahmgaaDoorLogBy
set_option linter.unusedVariables false
set_option linter.unusedSimpArgs false
namespace Go.Proofs.YtnfeepmgdahmgaaDoor
open Go.RowKit Go.L
attribute [local irreducible] LL LW LO
theorem bels_at {l : List UInt8} {k i : Nat} (h : i < l.length) : (bels l k)[0 + (i : Int).toNat * 1]? = some (.raw (.int .u8 (l.getD i 0).toNat)) := by
  rw [show 0 + (i : Int).toNat * 1 = i by simp]
  exact bels_get h
theorem xor8_one : ∀ b : Fin 256, xor8 b.val 1 ≠ b.val := by decide +kernel
theorem flip_ne {T : List UInt8} {k : Nat} (h : k < T.length) : T.set k (UInt8.ofNat (xor8 (T.getD k 0).toNat 1)) ≠ T := fun c => by
  have h1 : (T.set k (UInt8.ofNat (xor8 (T.getD k 0).toNat 1)))[k]? = T[k]? := by rw [c]
  rw [List.getElem?_set_self h, List.getElem?_eq_getElem h] at h1
  have h2 := congrArg UInt8.toNat (Option.some.inj h1)
  rw [List.getD_eq_getElem?_getD, List.getElem?_eq_getElem h] at h2
  have h3 : (UInt8.ofNat (xor8 T[k].toNat 1)).toNat = xor8 T[k].toNat 1 := by rw [UInt8.toNat_ofNat']; exact Nat.mod_eq_of_lt (xor8_lt _ _)
  exact xor8_one ⟨T[k].toNat, T[k].toNat_lt⟩ (h3.symm.trans h2)
theorem one_cases (T t : List UInt8) (e : En) (now : Int) (he : e.gone ≤ 0) (hn : now < e.till) : (t = T ∧ chkE [(T, e)] t now = 0 ∧ chkU [(T, e)] t now = e.user) ∨ (t ≠ T ∧ chkE [(T, e)] t now = 160 ∧ chkU [(T, e)] t now = [] ∧ revE [(T, e)] t = 160 ∧ revL [(T, e)] t = [(T, e)]) := by
  rcases atI_cases [(T, e)] t with ⟨_, hp, hi⟩ | ⟨i, e', _, hx, hp, hf, _⟩
  · right
    have h1 : chkE [(T, e)] t now = 160 := by unfold chkE; rw [hp]; rfl
    have h2 : revE [(T, e)] t = 160 := by unfold revE; rw [hp]; rfl
    refine ⟨fun c => ?_, h1, by unfold chkU; rw [h1]; rfl, h2, by unfold revL; rw [h2]; rfl⟩
    have := idxB_first (l := [(T, e)]) (t := t) (i := 0) (e := e) (by rw [c]; rfl) (fun j hj => by omega)
    rw [hi] at this; cases this
  · left
    have hi0 : i = 0 := by have := (List.getElem?_eq_some_iff.1 hx).1; simp at this; omega
    subst hi0
    have hx2 := Option.some.inj hx
    simp only [Prod.mk.injEq] at hx2
    obtain ⟨rfl, rfl⟩ := hx2
    have h1 : chkE [(T, e)] T now = 0 := by unfold chkE; rw [if_pos hp, hf]; unfold barE; rw [if_neg (by omega), if_neg (by omega)]
    exact ⟨rfl, h1, by unfold chkU; rw [if_pos h1, hf]⟩
set_option maxHeartbeats 2000000 in
set_option maxRecDepth 100000 in
theorem tnone_calls (s1 s2 user : List UInt8) (at_ : Int) (hs1 : s1.length < 140737488355328) (hs2 : s2.length < 140737488355328) (hu : user.length < 140737488355328) : LCalls Tryd.prog 6 [.agg [Bytes s1 .unk, Bytes s2 .unk], Str user, i64 at_] [kw, pw] (fun r H' => r = bl true ∧ H' = [kw, pw]) := by
  refine LCalls.of Tryd.func6 rfl Tryd.ntmps6 Tryd.results6 rfl (fun Rf => ?_)
  refine LW.seq ?_
  refine LW.region ?_
  refine X.act (X.box rfl Is.rfl' (by exact Cells.agg) (fun b3 => ?_))
  refine X.u (LU.assignR Is.rfl') rfl ?_
  refine LL.nil (after_code ?_)
  refine LW.seq ?_
  refine X.drawM 6 rfl (by kernel_rfl) rfl ?_
  refine QD.u (LU.fieldO Tryd.underlying52 rfl Tryd.sizeOf22 (by decide) Is.rfl') rfl ?_
  refine QD.u (LU.loadO 0 rfl ⟨Tryd.sizeOf22, Tryd.isAgg22⟩ Is.rfl' (Part.one rfl)) rfl ?_
  refine QD.u (LU.fieldO Tryd.underlying52 rfl Tryd.sizeOf22 (by decide) Is.rfl') rfl ?_
  refine QD.u (LU.loadO 0 rfl ⟨Tryd.sizeOf22, Tryd.isAgg22⟩ Is.rfl' (Part.one rfl)) rfl ?_
  refine QD.u (LU.assignS Is.rfl') rfl ?_
  refine QD.u (LU.assignS Is.rfl') rfl ?_
  refine QD.nil ?_
  refine LL.nil (after_code ?_)
  refine LW.seq ?_
  refine LW.seq ?_
  refine LW.region ?_
  refine X.u (LU.moveS Is.rfl') rfl ?_
  refine X.u (LU.lenN Tryd.underlying22 Is.rfl' (by (simp only [Option.getD_some, Option.getD_none, byteEls_length, intEls_length, List.length_append, List.length_cons, List.length_nil, List.length_map, List.length_drop, List.length_take, Int.toNat_natCast]; rfl))) rfl ?_
  refine X.u (LU.moveS Is.rfl') rfl ?_
  refine X.u (LU.lenN Tryd.underlying22 Is.rfl' (by (simp only [Option.getD_some, Option.getD_none, byteEls_length, intEls_length, List.length_append, List.length_cons, List.length_nil, List.length_map, List.length_drop, List.length_take, Int.toNat_natCast]; rfl))) rfl ?_
  refine X.u (LU.weak (LU.add Is.rfl' Is.rfl') (asI (b := ((s1.length + s2.length : Nat) : Int)) rfl (by rw [wrap_i64 (by omega) (by omega)]; omega))) rfl ?_
  refine X.u (LU.moveR Is.rfl') rfl ?_
  refine X.u (LU.strlenN Tryd.underlying9 Is.rfl') rfl ?_
  refine X.u (LU.weak (LU.add Is.rfl' Is.rfl') (asI (b := ((s1.length + s2.length + user.length : Nat) : Int)) rfl (by rw [wrap_i64 (by omega) (by omega)]; omega))) rfl ?_
  refine X.u (LU.gtr Is.rfl' Is.rfl') rfl ?_
  refine LL.nil (after_code ?_)
  refine X.cond rfl (fun h2 => ?_) (fun h2 => ?_)
  · try have h2 := of_decide_eq_true h2
    refine LW.seq ?_
    refine LW.region ?_
    refine X.act (X.call (lives16_calls) Tryd.func14 rfl rfl rfl (by (refine HSub.pick 1 rfl ?_); (refine HSub.pick 1 rfl ?_); exact HSub.refl _) Opds.nil ?_)
    rintro r H' ⟨rfl, rfl⟩
    refine X.u (LU.assignR Is.rfl') rfl ?_
    refine LL.nil (after_code ?_)
    refine LW.ret (ret_code (after_end ?_))
    refine X.ret (H' := [kw, pw]) (Res.one (by exact IsR rfl)) (by repeat (first | exact HSub.refl _ | refine HSub.pick 0 rfl ?_ | refine HSub.drop ?_)) ?_
    exact ⟨rfl, rfl⟩
  · have h2 : s1.length + s2.length + user.length ≤ 1000 := by have := of_decide_eq_false h2; omega
    refine LW.skip (after_code ?_)
    refine LW.seq ?_
    refine LW.region ?_
    refine X.u (LU.moveS Is.rfl') rfl ?_
    refine X.act (X.call (newb_calls s1 .unk (by omega)) Tryd.func15 rfl rfl rfl (HSub.refl _) (Opds.cons Is.rfl' Opds.nil) ?_)
    rintro r H' ⟨g, m, rfl, rfl⟩
    refine X.u (LU.moveS Is.rfl') rfl ?_
    refine X.act (X.call (newb_calls s2 .unk (by omega)) Tryd.func15 rfl rfl rfl (HSub.refl _) (Opds.cons Is.rfl' Opds.nil) ?_)
    rintro r H' ⟨g2, m2, rfl, rfl⟩
    refine X.u (LU.assignR Is.rfl') rfl ?_
    refine X.u (LU.assignR Is.rfl') rfl ?_
    refine LL.nil (after_code ?_)
    refine LW.seq ?_
    refine LW.region ?_
    refine X.u (LU.moveR Is.rfl') rfl ?_
    refine X.u (LU.moveR Is.rfl') rfl ?_
    refine X.act (X.call (issueI g m (BkI.nil s1) user 0 50 (by omega) (by omega)) Tryd.func16 rfl rfl rfl (by (refine HSub.pick 2 rfl ?_); (refine HSub.pick 2 rfl ?_); (refine HSub.pick 3 rfl ?_); (refine HSub.pick 3 rfl ?_); exact HSub.refl _) (Opds.cons Is.rfl' (Opds.cons Is.rfl' (Opds.cons Is.rfl' (Opds.cons Is.rfl' Opds.nil)))) ?_)
    rintro r H' ⟨rfl, rfl⟩
    refine X.u (LU.moveT Is.rfl') rfl ?_
    refine X.u (LU.extract Is.rfl' rfl) rfl ?_
    refine X.u (LU.extract Is.rfl' rfl) rfl ?_
    refine X.u (LU.assignR Is.rfl') rfl ?_
    refine X.u (LU.assignR Is.rfl') rfl ?_
    refine LL.nil (after_code ?_)
    refine LW.seq ?_
    refine LW.region ?_
    refine X.u (LU.moveR Is.rfl') rfl ?_
    refine X.u (LU.moveR Is.rfl') rfl ?_
    refine X.act (X.call (issueI g2 m2 (BkI.nil s2) user 0 50 (by omega) (by omega)) Tryd.func16 rfl rfl rfl (by (refine HSub.pick 4 rfl ?_); (refine HSub.pick 4 rfl ?_); (refine HSub.pick 2 rfl ?_); (refine HSub.pick 2 rfl ?_); exact HSub.refl _) (Opds.cons Is.rfl' (Opds.cons Is.rfl' (Opds.cons Is.rfl' (Opds.cons Is.rfl' Opds.nil)))) ?_)
    rintro r H' ⟨rfl, rfl⟩
    refine X.u (LU.moveT Is.rfl') rfl ?_
    refine X.u (LU.extract Is.rfl' rfl) rfl ?_
    refine X.u (LU.extract Is.rfl' rfl) rfl ?_
    refine X.u (LU.assignR Is.rfl') rfl ?_
    refine X.u (LU.assignR Is.rfl') rfl ?_
    refine LL.nil (after_code ?_)
    refine LW.seq ?_
    refine LW.seq ?_
    refine LW.region ?_
    refine X.u (LU.moveR Is.rfl') rfl ?_
    refine X.u (LU.moveR Is.rfl') rfl ?_
    refine X.u (LU.weak (LU.neq Is.rfl' Is.rfl') (asB (c := false) rfl (by simp))) rfl ?_
    refine LL.nil (after_code ?_)
    refine X.condF rfl ?_ ?_
    · rfl
    refine LW.skip (after_code ?_)
    refine LW.seq ?_
    refine LW.seq ?_
    refine LW.region ?_
    refine X.u (LU.moveR Is.rfl') rfl ?_
    refine X.u (LU.neq Is.rfl' Is.rfl') rfl ?_
    refine LL.nil (after_code ?_)
    refine X.cond rfl (fun h9 => ?_) (fun h9 => ?_)
    · have h9 : issE ([] : Bk).length user 0 50 ≠ 0 := by simpa using h9
      have hbad : user = [] ∨ user.contains 46 = true := by
        rcases iss_ne (by decide) h9 with c | c | c | c | c
        · exact .inl c
        · omega
        · omega
        · omega
        · exact .inr c
      refine LW.seq ?_
      refine LW.region ?_
      refine X.u (LU.moveR Is.rfl') rfl ?_
      refine X.u (LU.streqN Is.rfl' Is.rfl') rfl ?_
      refine X.u (LU.moveR Is.rfl') rfl ?_
      refine X.gF rfl rfl (fun hg => LU.moveR (by exact Is.rfl')) rfl ?_
      refine X.gF rfl rfl (fun hg => LU.call (haspt_calls user (by omega)) Tryd.func18 rfl rfl (Opds.cons (by exact Is.whenN hg) Opds.nil)) rfl ?_
      refine X.u (LU.weak (LU.pickOr Is.rfl' Is.rfl' (fun hq => (by exact Is.whenN hq))) (asB (c := true) rfl (by rcases hbad with c | c; (rw [decide_eq_true c]; rfl); (rw [c, Bool.or_true])))) rfl ?_
      refine X.u (LU.moveR Is.rfl') rfl ?_
      refine X.actG rfl rfl (X.call (lives16_calls) Tryd.func14 rfl rfl rfl (by (refine HSub.pick 2 rfl ?_); (refine HSub.pick 2 rfl ?_); exact HSub.refl _) Opds.nil ?_)
      rintro r H' ⟨rfl, rfl⟩
      refine X.u (LU.pickT Is.rfl' (by exact Is.rfl')) rfl ?_
      refine X.u (LU.assignR Is.rfl') rfl ?_
      refine LL.nil (after_code ?_)
      refine LW.ret (ret_code (after_end ?_))
      refine X.ret (H' := [kw, pw]) (Res.one (by exact IsR rfl)) (by repeat (first | exact HSub.refl _ | refine HSub.pick 0 rfl ?_ | refine HSub.drop ?_)) ?_
      exact ⟨rfl, rfl⟩
    · have h9 : issE ([] : Bk).length user 0 50 = 0 := by simpa using h9
      have hT1 : issT s1 ([] : Bk).length user 0 50 = ttext s1 1 user 50 := by unfold issT; rw [if_pos h9]; rfl
      have hT2 : issT s2 ([] : Bk).length user 0 50 = ttext s2 1 user 50 := by unfold issT; rw [if_pos h9]; rfl
      have hL1 : issL s1 [] user 0 50 = [(ttext s1 1 user 50, ⟨user, 50, 0⟩)] := by unfold issL; rw [if_pos h9]; rfl
      have hB1 := (BkI.nil s1).issue user 0 50 (by omega)
      have hl1 := ttext_len (sec := s1) (n := 1) (user := user) (till := 50) (by omega) (by omega)
      have hl2 := ttext_len (sec := s2) (n := 1) (user := user) (till := 50) (by omega) (by omega)
      have hT0 : ttext s1 1 user 50 ≠ [] := fun c => by
        have := congrArg List.length c
        rw [ttext_form] at this
        simp at this
      rw [hL1] at hB1
      rw [hT1, hT2, hL1]
      obtain ⟨T1, hq1⟩ : ∃ T, T = ttext s1 1 user 50 := ⟨_, rfl⟩
      obtain ⟨T2, hq2⟩ : ∃ T, T = ttext s2 1 user 50 := ⟨_, rfl⟩
      rw [← hq1] at hB1 hl1 hT0
      rw [← hq2] at hl2
      rw [← hq1, ← hq2]
      have hone := one_cases T1 T2 ⟨user, 50, 0⟩ 1 (Int.le_refl _) (by show (1 : Int) < 50; omega)
      have hck := checkI g m hB1 T2 1 (by omega)
      obtain ⟨E, hE⟩ : ∃ E, E = chkE [(T1, (⟨user, 50, 0⟩ : En))] T2 1 := ⟨_, rfl⟩
      obtain ⟨U, hU⟩ : ∃ U, U = chkU [(T1, (⟨user, 50, 0⟩ : En))] T2 1 := ⟨_, rfl⟩
      rw [← hE, ← hU] at hone hck
      have hEU : (T2 = T1 ∧ E = 0 ∧ U = user) ∨ (T2 ≠ T1 ∧ E = 160 ∧ U = []) := by
        rcases hone with c | c
        · exact .inl c
        · exact .inr ⟨c.1, c.2.1, c.2.2.1⟩
      obtain ⟨k, hk1, hk2⟩ := turn_k16 at_ T1.length (List.length_pos_iff.2 hT0)
      obtain ⟨T3, hq3⟩ : ∃ T, T = T1.set k (UInt8.ofNat (xor8 (T1.getD k 0).toNat 1)) := ⟨_, rfl⟩
      have hT3 : T3 ≠ T1 := by rw [hq3]; exact flip_ne hk2
      have hl3 : T3.length = T1.length := by rw [hq3, List.length_set]
      have hck3 := checkI g m hB1 T3 1 (by omega)
      have hrv3 := revokeI g m hB1 T3 (by omega)
      rcases one_cases T1 T3 ⟨user, 50, 0⟩ 1 (Int.le_refl _) (by show (1 : Int) < 50; omega) with c | ⟨_, c1, c2, c3, c4⟩
      · exact (hT3 c.1).elim
      rw [c1, c2] at hck3
      rw [c3, c4] at hrv3
      refine LW.skip (after_code ?_)
      refine LW.seq ?_
      refine LW.region ?_
      refine X.u (LU.moveR Is.rfl') rfl ?_
      refine X.u (LU.moveR Is.rfl') rfl ?_
      refine X.act (X.call (hck) Tryd.func19 rfl rfl rfl (by (refine HSub.pick 4 rfl ?_); (refine HSub.pick 4 rfl ?_); exact HSub.refl _) (Opds.cons Is.rfl' (Opds.cons Is.rfl' (Opds.cons Is.rfl' Opds.nil))) ?_)
      rintro r H' ⟨rfl, rfl⟩
      refine X.u (LU.moveT Is.rfl') rfl ?_
      refine X.u (LU.extract Is.rfl' rfl) rfl ?_
      refine X.u (LU.extract Is.rfl' rfl) rfl ?_
      refine X.u (LU.assignR Is.rfl') rfl ?_
      refine X.u (LU.assignR Is.rfl') rfl ?_
      refine LL.nil (after_code ?_)
      refine LW.seq ?_
      refine LW.seq ?_
      refine LW.region ?_
      refine X.u (LU.moveR Is.rfl') rfl ?_
      refine X.u (LU.eql Is.rfl' Is.rfl') rfl ?_
      refine X.u (LU.moveR Is.rfl') rfl ?_
      refine X.u (LU.moveR Is.rfl') rfl ?_
      refine X.u (LU.streqN Is.rfl' Is.rfl') rfl ?_
      refine X.u (LU.boolne Tryd.underlying4 Is.rfl' Is.rfl') rfl ?_
      refine X.u (LU.moveR Is.rfl') rfl ?_
      refine X.gF rfl rfl (fun hg => LU.moveR (by exact Is.rfl')) rfl ?_
      refine X.gF rfl rfl (fun hg => LU.eql (by exact Is.whenN hg) (by exact Is.rfl')) rfl ?_
      refine X.gF rfl rfl (fun hg => LU.moveR (by exact Is.whenN hg)) rfl ?_
      refine X.gT2 rfl rfl (fun hg0 hg => LU.moveR (by exact Is.rfl')) rfl ?_
      refine X.gT2 rfl rfl (fun hg0 hg => LU.moveR (by exact Is.rfl')) rfl ?_
      refine X.gT2 rfl rfl (fun hg0 hg => LU.strneN (by exact Is.whenE (by rw [hg0, hg]; rfl)) (by exact Is.whenE (by rw [hg0, hg]; rfl))) rfl ?_
      refine X.gF rfl rfl (fun hg => LU.pickAnd (by exact Is.whenN hg) (fun hq => (by exact Is.whenE (by rw [hg, hq]; rfl))) (by exact Is.rfl')) rfl ?_
      refine X.u (LU.pickOr Is.rfl' Is.rfl' (fun hq => (by exact Is.whenN hq))) rfl ?_
      refine X.u (LU.moveR Is.rfl') rfl ?_
      refine X.gF rfl rfl (fun hg => LU.moveR (by exact Is.rfl')) rfl ?_
      refine X.gF rfl rfl (fun hg => LU.neq (by exact Is.whenN hg) (by exact Is.rfl')) rfl ?_
      refine X.gF rfl rfl (fun hg => LU.moveR (by exact Is.whenN hg)) rfl ?_
      refine X.gT2 rfl rfl (fun hg0 hg => LU.moveR (by exact Is.rfl')) rfl ?_
      refine X.gT2 rfl rfl (fun hg0 hg => LU.neq (by exact Is.whenE (by rw [hg0, hg]; rfl)) (by exact Is.rfl')) rfl ?_
      refine X.gF rfl rfl (fun hg => LU.pickAnd (by exact Is.whenN hg) (fun hq => (by exact Is.whenE (by rw [hg, hq]; rfl))) (by exact Is.rfl')) rfl ?_
      refine X.u (LU.weak (LU.pickOr Is.rfl' Is.rfl' (fun hq => (by exact Is.whenN hq))) (asB (c := false) rfl (by rcases hEU with ⟨a1, a2, a3⟩ | ⟨a1, a2, a3⟩ <;> simp [a1, a2, a3]))) rfl ?_
      refine LL.nil (after_code ?_)
      refine X.condF rfl ?_ ?_
      · rfl
      refine LW.skip (after_code ?_)
      refine LW.seq ?_
      refine LW.seq ?_
      refine LW.region ?_
      refine X.u (LU.moveR Is.rfl') rfl ?_
      refine X.u (LU.weak (LU.streqN Is.rfl' Is.rfl') (asB (c := false) rfl (by exact decide_eq_false hT0))) rfl ?_
      refine LL.nil (after_code ?_)
      refine X.condF rfl ?_ ?_
      · rfl
      refine LW.skip (after_code ?_)
      refine LW.seq ?_
      refine LW.region ?_
      refine X.u (LU.moveR Is.rfl') rfl ?_
      refine X.act (X.bytesO rfl Tryd.underlying9 Tryd.underlying22 Tryd.underlying5 Is.rfl' (fun b96 c96 k96 hc96 => ?_))
      refine X.u (LU.assignR Is.rfl') rfl ?_
      refine LL.nil (after_code ?_)
      refine LW.seq ?_
      refine LW.region ?_
      refine X.u (LU.moveR Is.rfl') rfl ?_
      refine X.u (LU.moveR Is.rfl') rfl ?_
      refine X.u (LU.conv Tryd.underlying3 Tryd.underlying53 Is.rfl') rfl ?_
      refine X.u (LU.moveR Is.rfl') rfl ?_
      refine X.u (LU.lenO Tryd.underlying22 Is.rfl') rfl ?_
      refine X.u (LU.convN Tryd.underlying3 Tryd.underlying53 Is.rfl' (wrap_u64 (by omega) (by omega))) rfl ?_
      refine X.u (LU.weak (LU.rem Is.rfl' Is.rfl' (by omega)) (Is.of (y := .raw (.int .u64 ((k : Nat) : Int))) (congrArg (fun z => LV.raw (.int .u64 z)) hk1))) rfl ?_
      refine X.u (LU.convN Tryd.underlying53 Tryd.underlying3 Is.rfl' (wrap_i64 (by omega) (by omega))) rfl ?_
      refine X.u (LU.atO Tryd.underlying22 Tryd.sizeOf5 Is.rfl' Is.rfl' (by omega) (by omega)) rfl ?_
      refine X.u (LU.loadB 0 rfl ⟨Tryd.sizeOf5, Tryd.isAgg5⟩ Is.rfl' (Part.one (bels_at hk2))) rfl ?_
      refine X.u (LU.xor8 Is.rfl' Is.rfl') rfl ?_
      refine X.u (LU.atO Tryd.underlying22 Tryd.sizeOf5 Is.rfl' Is.rfl' (by omega) (by omega)) rfl ?_
      refine X.act (X.storeB 0 rfl Tryd.sizeOf5 Is.rfl' Is.rfl' (xor8_lt _ _) (by simp; omega) ?_)
      refine LL.nil (after_code ?_)
      refine LW.seq ?_
      rw [show 0 + (k : Int).toNat * 1 = k by simp, ← hq3]
      refine LW.freezeB (t := 17) 0 rfl (by rw [hl3]; rfl) (by omega) ?_
      refine LW.region ?_
      refine X.u (LU.moveR Is.rfl') rfl ?_
      refine X.u (LU.moveS Is.rfl') rfl ?_
      refine X.u (LU.tostr Tryd.underlying22 Tryd.underlying5 Tryd.underlying9 Is.rfl') rfl ?_
      refine X.act (X.call (hck3) Tryd.func19 rfl rfl rfl (by (refine HSub.pick 0 rfl ?_); (refine HSub.pick 0 rfl ?_); exact HSub.refl _) (Opds.cons Is.rfl' (Opds.cons Is.rfl' (Opds.cons Is.rfl' Opds.nil))) ?_)
      rintro r H' ⟨rfl, rfl⟩
      refine X.u (LU.moveT Is.rfl') rfl ?_
      refine X.u (LU.extract Is.rfl' rfl) rfl ?_
      refine X.u (LU.extract Is.rfl' rfl) rfl ?_
      refine X.u (LU.assignR Is.rfl') rfl ?_
      refine X.u (LU.assignR Is.rfl') rfl ?_
      refine LL.nil (after_code ?_)
      refine LW.seq ?_
      refine LW.region ?_
      refine X.u (LU.moveR Is.rfl') rfl ?_
      refine X.u (LU.weak (LU.eql Is.rfl' Is.rfl') (asB (c := true) rfl (by rfl))) rfl ?_
      refine X.u (LU.moveR Is.rfl') rfl ?_
      refine X.doT rfl rfl (LU.moveR (by exact Is.rfl')) rfl ?_
      refine X.doT rfl rfl (LU.moveS (by exact Is.rfl')) rfl ?_
      refine X.doT rfl rfl (LU.tostr Tryd.underlying22 Tryd.underlying5 Tryd.underlying9 (by exact Is.rfl')) rfl ?_
      refine X.actG rfl rfl (X.call (hrv3) Tryd.func20 rfl rfl rfl (by (refine HSub.pick 0 rfl ?_); (refine HSub.pick 0 rfl ?_); exact HSub.refl _) (Opds.cons (by exact Is.rfl') (Opds.cons (by exact Is.rfl') Opds.nil)) ?_)
      rintro r H' ⟨rfl, rfl⟩
      refine X.doT rfl rfl (LU.weak (LU.eql (by exact Is.rfl') (by exact Is.rfl')) (asB (c := true) rfl (by rfl))) rfl ?_
      refine X.u (LU.pickT Is.rfl' (by exact Is.rfl')) rfl ?_
      refine X.u (LU.moveR Is.rfl') rfl ?_
      refine X.doT rfl rfl (LU.moveR (by exact Is.rfl')) rfl ?_
      refine X.actG rfl rfl (X.call (len16_calls g m s1 [(T1, ⟨user, 50, 0⟩)]) Tryd.func17 rfl rfl rfl (by (refine HSub.pick 0 rfl ?_); (refine HSub.pick 0 rfl ?_); exact HSub.refl _) (Opds.cons (by exact Is.rfl') Opds.nil) ?_)
      rintro r H' ⟨rfl, rfl⟩
      refine X.doT rfl rfl (LU.weak (LU.eql (by exact Is.rfl') (by exact Is.rfl')) (asB (c := true) rfl (by rfl))) rfl ?_
      refine X.u (LU.pickT Is.rfl' (by exact Is.rfl')) rfl ?_
      refine X.u (LU.moveR Is.rfl') rfl ?_
      refine X.actG rfl rfl (X.call (lives16_calls) Tryd.func14 rfl rfl rfl (by (refine HSub.pick 4 rfl ?_); (refine HSub.pick 4 rfl ?_); exact HSub.refl _) Opds.nil ?_)
      rintro r H' ⟨rfl, rfl⟩
      refine X.u (LU.pickT Is.rfl' (by exact Is.rfl')) rfl ?_
      refine X.u (LU.assignR Is.rfl') rfl ?_
      refine LL.nil (after_code ?_)
      refine LW.ret (after_end ?_)
      refine X.ret (H' := [kw, pw]) (Res.one (by exact IsR rfl)) (by repeat (first | exact HSub.refl _ | refine HSub.pick 0 rfl ?_ | refine HSub.drop ?_)) ?_
      exact ⟨rfl, rfl⟩
theorem pair_of {xs : List LV} (h : QCons 1 (QSl 1 1 (QInt .u8)) (QCons 1 (QSl 1 1 (QInt .u8)) QNil) xs) : ∃ a b : List UInt8, xs = [Bytes a .unk, Bytes b .unk] ∧ a.length < 140737488355328 ∧ b.length < 140737488355328 := by
  obtain ⟨_, _, rfl, _, ⟨es, rfl, h1, h2⟩, _, _, rfl, _, ⟨fs, rfl, h3, h4⟩, rfl⟩ := h
  obtain ⟨a, rfl⟩ := decode_bytes h1
  obtain ⟨b, rfl⟩ := decode_bytes h3
  rw [byteEls_length] at h2 h4
  have hr := reachBytes_lt
  exact ⟨a, b, rfl, by omega, by omega⟩
theorem TokenNone_row (x0 : List LV) (user : List UInt8) (at_ : Int) (h0 : QCons 1 (QSl 1 1 (QInt .u8)) (QCons 1 (QSl 1 1 (QInt .u8)) QNil) x0) (h1 : user.length ≤ reachBytes) (h2 : (Lit.int .i64 at_).wf = true) : LCalls Tryd.prog 6 [.agg x0, Str user, i64 at_] [kw, pw] (fun r H' => r = .raw (.bool true) ∧ H' = [kw, pw]) := by
  obtain ⟨a, b, rfl, ha, hb⟩ := pair_of h0
  have hr := reachBytes_lt
  exact tnone_calls a b user at_ ha hb (by omega)
end Go.Proofs.YtnfeepmgdahmgaaDoor
