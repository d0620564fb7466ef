/- Tokens: a token at each time; a book that no call made. -/
import Derived.Test.YtnfeepmgdahmgaaDoorTkE
set_option linter.unusedVariables false
set_option linter.unusedSimpArgs false
namespace Go.Proofs.YtnfeepmgdahmgaaDoor
open Go.RowKit Go.L
attribute [local irreducible] LL LW LO
structure Ac where
  kind : Int
  user : List UInt8
  text : List UInt8
  now : Int
  till : Int
  n : Int
  odd : Bool
abbrev acL (a : Ac) : List LV := [i64 a.kind, Str a.user, Str a.text, i64 a.now, i64 a.till, i64 a.n, bl a.odd]
theorem iss_ne {n : Nat} {user : List UInt8} {now till : Int} (hn : n < 256) (h : issE n user now till ≠ 0) : user = [] ∨ now < 0 ∨ 1099511627776 < till ∨ till ≤ now ∨ user.contains 46 = true := by
  unfold issE at h
  split at h
  · rename_i hc
    rcases hc with c | c | c | c
    · exact .inl c
    · exact .inr (.inr (.inr (.inr c)))
    · exact .inr (.inl c)
    · exact .inr (.inr (.inl c))
  · split at h
    · rename_i hc; exact .inr (.inr (.inr (.inl hc)))
    · split at h
      · omega
      · exact (h rfl).elim
theorem iss_len (sec : List UInt8) (l : Bk) (user : List UInt8) (now till : Int) : (issL sec l user now till).length ≤ l.length + 1 := by
  unfold issL; split
  · rw [List.length_append]; exact Nat.le_refl _
  · omega
set_option maxHeartbeats 2000000 in
set_option maxRecDepth 100000 in
theorem taken_calls (sec : List UInt8) (us : List (List UInt8)) (a : Ac) (hs : sec.length < 140737488355328) (hus : us.length < 140737488355328) (hua : a.user.length < 140737488355328) (hul : ∀ u ∈ us, u.length < 140737488355328) : LCalls Tryd.prog 4 [Bytes sec .unk, .sl 1 (strs us) .unk, .agg (acL a)] [kw, pw] (fun r H' => r = bl true ∧ H' = [kw, pw]) := by
  refine LCalls.of Tryd.func4 rfl Tryd.ntmps4 Tryd.results4 rfl (fun Rf => ?_)
  refine LW.seq ?_
  refine LW.region ?_
  refine X.act (X.box rfl Is.rfl' (by exact Cells.agg) (fun b5 => ?_))
  refine X.u (LU.assignR Is.rfl') rfl ?_
  refine LL.nil (after_code ?_)
  refine LW.seq ?_
  refine LW.seq ?_
  refine LW.region ?_
  refine X.u (LU.moveS Is.rfl') rfl ?_
  refine X.u (LU.lenN Tryd.underlying23 Is.rfl' (by (simp only [Option.getD_some, Option.getD_none, byteEls_length, intEls_length, List.length_append, List.length_cons, List.length_nil, List.length_map, List.length_drop, List.length_take, Int.toNat_natCast]; rfl))) rfl ?_
  refine X.u (LU.gtr Is.rfl' Is.rfl') rfl ?_
  refine X.u (LU.moveR Is.rfl') rfl ?_
  refine X.gF rfl rfl (fun hg => LU.moveS (by exact Is.rfl')) rfl ?_
  refine X.gF rfl rfl (fun hg => LU.lenN Tryd.underlying22 (by exact Is.whenN hg) (by (simp only [Option.getD_some, Option.getD_none, byteEls_length, intEls_length, List.length_append, List.length_cons, List.length_nil, List.length_map, List.length_drop, List.length_take, Int.toNat_natCast]; rfl))) rfl ?_
  refine X.gF rfl rfl (fun hg => LU.fieldO Tryd.underlying33 rfl Tryd.sizeOf9 (by decide) (by exact Is.rfl')) rfl ?_
  refine X.gF rfl rfl (fun hg => LU.loadO 0 rfl ⟨Tryd.sizeOf9, Tryd.isAgg9⟩ (by exact Is.whenN hg) (Part.one rfl)) rfl ?_
  refine X.gF rfl rfl (fun hg => LU.strlenN Tryd.underlying9 (by exact Is.whenN hg)) rfl ?_
  refine X.gF rfl rfl (fun hg => LU.addN (by exact Is.whenN hg) (by exact Is.whenN hg) (wrap_i64 (by omega) (by omega))) rfl ?_
  refine X.gF rfl rfl (fun hg => LU.gtr (by exact Is.whenN hg) (by exact Is.rfl')) rfl ?_
  refine X.u (LU.pickOr Is.rfl' Is.rfl' (fun hq => (by exact Is.whenN hq))) rfl ?_
  refine LL.nil (after_code ?_)
  refine X.cond rfl (fun h1 => ?_) (fun h1 => ?_)
  · try have h1 := of_decide_eq_true h1
    refine LW.seq ?_
    refine LW.region ?_
    refine X.act (X.call (lives16_calls) Tryd.func14 rfl rfl rfl (by (refine HSub.pick 1 rfl ?_); (refine HSub.pick 1 rfl ?_); exact HSub.refl _) Opds.nil ?_)
    rintro r H' ⟨rfl, rfl⟩
    refine X.u (LU.assignR Is.rfl') rfl ?_
    refine LL.nil (after_code ?_)
    refine LW.ret (ret_code (after_end ?_))
    refine X.ret (H' := [kw, pw]) (Res.one (by exact IsR rfl)) (by repeat (first | exact HSub.refl _ | refine HSub.pick 0 rfl ?_ | refine HSub.drop ?_)) ?_
    exact ⟨rfl, rfl⟩
  · have h1 : us.length ≤ 50 ∧ sec.length + a.user.length ≤ 1000 := by simp at h1; omega
    obtain ⟨hu2, hs2⟩ := h1
    refine LW.skip (after_code ?_)
    refine LW.seq ?_
    refine LW.region ?_
    refine X.u (LU.moveS Is.rfl') rfl ?_
    refine X.act (X.call (newb_calls sec .unk (by omega)) Tryd.func15 rfl rfl rfl (HSub.refl _) (Opds.cons Is.rfl' Opds.nil) ?_)
    rintro r H' ⟨g, m, rfl, rfl⟩
    refine X.u (LU.assignR Is.rfl') rfl ?_
    refine LL.nil (after_code ?_)
    refine LW.seq ?_
    refine LW.seq ?_
    refine LW.region ?_
    refine X.u (LU.moveS Is.rfl') rfl ?_
    refine X.u (LU.lenN Tryd.underlying23 Is.rfl' (by (simp only [Option.getD_some, Option.getD_none, byteEls_length, intEls_length, List.length_append, List.length_cons, List.length_nil, List.length_map, List.length_drop, List.length_take, Int.toNat_natCast]; rfl))) rfl ?_
    refine X.u (LU.moveR Is.rfl') rfl ?_
    refine LL.nil (after_code ?_)
    refine LW.block ?_
    refine X.loopK (α := Nat × Bk) (fun ⟨i, l⟩ => [(36, i64 i)]) [5, 6, 7, 34, 35] (fun ⟨i, l⟩ => bkC g m sec :: bkM m l :: kw :: pw :: .cells b5 33 (acL a) :: Rf) (fun ⟨i, l⟩ => i ≤ us.length ∧ BkI sec l ∧ l.length ≤ i) (fun ⟨i, l⟩ => us.length - i) ((0, [])) (EnvLe.cons (by rfl) (EnvLe.nil)) (by repeat (first | exact HSub.refl _ | refine HSub.pick 0 rfl ?_ | refine HSub.pick 1 rfl ?_)) ?_ ?_
    · exact ⟨Nat.zero_le _, BkI.nil sec, Nat.le_refl _⟩
    · rintro ⟨i, l⟩ hI
      obtain ⟨hi, hB, hli⟩ := hI
      refine LW.seq ?_
      refine LW.region ?_
      refine X.u (LU.lss Is.rfl' Is.rfl') rfl ?_
      refine LL.nil (after_code ?_)
      refine LW.seq ?_
      refine X.cond rfl (fun h5 => ?_) (fun h5 => ?_)
      · try have h5 := of_decide_eq_true h5
        refine LW.skip (after_code ?_)
        refine LW.seq ?_
        refine LW.block ?_
        refine LW.seq ?_
        obtain ⟨u, hu⟩ := at_lt (show i < us.length by omega)
        have hul2 := hul u (List.mem_of_getElem? hu)
        refine LW.region ?_
        refine X.u (LU.at Tryd.underlying23 ⟨Tryd.sizeOf9, Tryd.isAgg9⟩ Is.rfl' Is.rfl' (by omega) (strs_at hu) (by simp)) rfl ?_
        refine X.u (LU.load ⟨Tryd.sizeOf9, Tryd.isAgg9⟩ Is.rfl' (by (simp; done)) (Part.one rfl)) rfl ?_
        refine X.u (LU.assignR Is.rfl') rfl ?_
        refine LL.nil (after_code ?_)
        refine LW.seq ?_
        refine LW.region ?_
        refine X.u (LU.moveR Is.rfl') rfl ?_
        refine X.u (LU.strlenN Tryd.underlying9 Is.rfl') rfl ?_
        refine X.u (LU.lss Is.rfl' Is.rfl') rfl ?_
        refine LL.nil (after_code ?_)
        refine X.cond rfl (fun h7 => ?_) (fun h7 => ?_)
        · have h7 : u.length < 1000 := by have := of_decide_eq_true h7; omega
          have hiss := issueI g m hB u 0 100 (by omega) (by omega)
          have hB2 := hB.issue u 0 100 (by omega)
          have hln := iss_len sec l u 0 100
          refine LW.region ?_
          refine X.u (LU.moveR Is.rfl') rfl ?_
          refine X.u (LU.moveR Is.rfl') rfl ?_
          refine X.act (X.call (hiss) Tryd.func16 rfl rfl rfl (by (refine HSub.pick 0 rfl ?_); (refine HSub.pick 0 rfl ?_); (refine HSub.pick 0 rfl ?_); (refine HSub.pick 0 rfl ?_); exact HSub.refl _) (Opds.cons Is.rfl' (Opds.cons Is.rfl' (Opds.cons Is.rfl' (Opds.cons Is.rfl' Opds.nil)))) ?_)
          rintro r H' ⟨rfl, rfl⟩
          refine LL.nil (after_blk (after_code ?_))
          refine LW.region ?_
          refine X.u (LU.addN Is.rfl' Is.rfl' (wrap_i64 (by omega) (by omega))) rfl ?_
          refine X.u (LU.moveR Is.rfl') rfl ?_
          refine LL.nil (after_rnd ?_)
          refine X.next ((i + 1, issL sec l u 0 100)) rfl (EnvLe.cons (by rfl) (EnvLe.nil)) (Keeps.cons (by exact Eq.trans (b := .raw _) rfl rfl) (Keeps.cons (by exact Eq.trans (b := .raw _) rfl rfl) (Keeps.cons (by exact Eq.trans (b := .raw _) rfl rfl) (Keeps.cons (by exact Eq.trans (b := .sl _ _ _) rfl rfl) (Keeps.cons (by exact Eq.trans (b := .raw _) rfl rfl) (Keeps.nil)))))) (by repeat (exact HSub.refl _)) ?_ ?_
          · exact ⟨by omega, hB2, by omega⟩
          · (simp; omega)
        · try have h7 := of_decide_eq_false h7
          refine LW.skip (after_blk (after_code ?_))
          refine LW.region ?_
          refine X.u (LU.addN Is.rfl' Is.rfl' (wrap_i64 (by omega) (by omega))) rfl ?_
          refine X.u (LU.moveR Is.rfl') rfl ?_
          refine LL.nil (after_rnd ?_)
          refine X.next ((i + 1, l)) rfl (EnvLe.cons (by rfl) (EnvLe.nil)) (Keeps.cons (by exact Eq.trans (b := .raw _) rfl rfl) (Keeps.cons (by exact Eq.trans (b := .raw _) rfl rfl) (Keeps.cons (by exact Eq.trans (b := .raw _) rfl rfl) (Keeps.cons (by exact Eq.trans (b := .sl _ _ _) rfl rfl) (Keeps.cons (by exact Eq.trans (b := .raw _) rfl rfl) (Keeps.nil)))))) (by repeat (exact HSub.refl _)) ?_ ?_
          · exact ⟨by omega, hB, by omega⟩
          · (simp; omega)
      · try have h5 := of_decide_eq_false h5
        refine LW.exit (exit_code (exit_rnd (exit_blk (after_code ?_))))
        refine LW.seq ?_
        have hissA := issueI g m hB a.user a.now a.till (by omega) (by omega)
        have hBA := hB.issue a.user a.now a.till (by omega)
        have hln := iss_len sec l a.user a.now a.till
        refine LW.region ?_
        refine X.u (LU.moveR Is.rfl') rfl ?_
        refine X.u (LU.fieldO Tryd.underlying33 rfl Tryd.sizeOf9 (by decide) Is.rfl') rfl ?_
        refine X.u (LU.loadO 4 rfl ⟨Tryd.sizeOf9, Tryd.isAgg9⟩ Is.rfl' (Part.one rfl)) rfl ?_
        refine X.u (LU.fieldO Tryd.underlying33 rfl Tryd.sizeOf3 (by decide) Is.rfl') rfl ?_
        refine X.u (LU.loadO 4 rfl ⟨Tryd.sizeOf3, Tryd.isAgg3⟩ Is.rfl' (Part.one rfl)) rfl ?_
        refine X.u (LU.fieldO Tryd.underlying33 rfl Tryd.sizeOf3 (by decide) Is.rfl') rfl ?_
        refine X.u (LU.loadO 4 rfl ⟨Tryd.sizeOf3, Tryd.isAgg3⟩ Is.rfl' (Part.one rfl)) rfl ?_
        refine X.act (X.call (hissA) Tryd.func16 rfl rfl rfl (by (refine HSub.pick 0 rfl ?_); (refine HSub.pick 0 rfl ?_); (refine HSub.pick 0 rfl ?_); (refine HSub.pick 0 rfl ?_); exact HSub.refl _) (Opds.cons Is.rfl' (Opds.cons Is.rfl' (Opds.cons Is.rfl' (Opds.cons Is.rfl' Opds.nil)))) ?_)
        rintro r H' ⟨rfl, rfl⟩
        refine X.u (LU.moveT Is.rfl') rfl ?_
        refine X.u (LU.extract Is.rfl' rfl) rfl ?_
        refine X.u (LU.extract Is.rfl' rfl) rfl ?_
        refine X.u (LU.assignR Is.rfl') rfl ?_
        refine X.u (LU.assignR Is.rfl') rfl ?_
        refine LL.nil (after_code ?_)
        refine LW.seq ?_
        refine LW.seq ?_
        refine LW.region ?_
        refine X.u (LU.moveR Is.rfl') rfl ?_
        refine X.u (LU.neq Is.rfl' Is.rfl') rfl ?_
        refine LL.nil (after_code ?_)
        refine X.cond rfl (fun h11 => ?_) (fun h11 => ?_)
        · have h11 : issE l.length a.user a.now a.till ≠ 0 := by simpa using h11
          have hbad := iss_ne (by omega) h11
          have hT : issT sec l.length a.user a.now a.till = [] := by unfold issT; rw [if_neg h11]
          rw [hT]
          refine LW.seq ?_
          refine LW.region ?_
          refine X.u (LU.moveR Is.rfl') rfl ?_
          refine X.u (LU.weak (LU.streqN Is.rfl' Is.rfl') (asB (c := true) rfl (by rfl))) rfl ?_
          refine X.u (LU.moveR Is.rfl') rfl ?_
          refine X.doT rfl rfl (LU.fieldO Tryd.underlying33 rfl Tryd.sizeOf9 (by decide) (by exact Is.rfl')) rfl ?_
          refine X.doT rfl rfl (LU.loadO 4 rfl ⟨Tryd.sizeOf9, Tryd.isAgg9⟩ (by exact Is.rfl') (Part.one rfl)) rfl ?_
          refine X.doT rfl rfl (LU.streqN (by exact Is.rfl') (by exact Is.rfl')) rfl ?_
          refine X.doT rfl rfl (LU.moveR (by exact Is.rfl')) rfl ?_
          refine X.gF rfl rfl (fun hg => LU.fieldO Tryd.underlying33 rfl Tryd.sizeOf3 (by decide) (by exact Is.rfl')) rfl ?_
          refine X.gF rfl rfl (fun hg => LU.loadO 4 rfl ⟨Tryd.sizeOf3, Tryd.isAgg3⟩ (by exact Is.whenN hg) (Part.one rfl)) rfl ?_
          refine X.gF rfl rfl (fun hg => LU.lss (by exact Is.whenN hg) (by exact Is.rfl')) rfl ?_
          refine X.doT rfl rfl (LU.pickOr (by exact Is.rfl') (by exact Is.rfl') (fun hq => (by exact Is.whenN hq))) rfl ?_
          refine X.doT rfl rfl (LU.moveR (by exact Is.rfl')) rfl ?_
          refine X.gF rfl rfl (fun hg => LU.fieldO Tryd.underlying33 rfl Tryd.sizeOf3 (by decide) (by exact Is.rfl')) rfl ?_
          refine X.gF rfl rfl (fun hg => LU.loadO 4 rfl ⟨Tryd.sizeOf3, Tryd.isAgg3⟩ (by exact Is.whenN hg) (Part.one rfl)) rfl ?_
          refine X.gF rfl rfl (fun hg => LU.gtr (by exact Is.whenN hg) (by exact Is.rfl')) rfl ?_
          refine X.doT rfl rfl (LU.pickOr (by exact Is.rfl') (by exact Is.rfl') (fun hq => (by exact Is.whenN hq))) rfl ?_
          refine X.doT rfl rfl (LU.moveR (by exact Is.rfl')) rfl ?_
          refine X.gF rfl rfl (fun hg => LU.fieldO Tryd.underlying33 rfl Tryd.sizeOf3 (by decide) (by exact Is.rfl')) rfl ?_
          refine X.gF rfl rfl (fun hg => LU.loadO 4 rfl ⟨Tryd.sizeOf3, Tryd.isAgg3⟩ (by exact Is.whenN hg) (Part.one rfl)) rfl ?_
          refine X.gF rfl rfl (fun hg => LU.fieldO Tryd.underlying33 rfl Tryd.sizeOf3 (by decide) (by exact Is.rfl')) rfl ?_
          refine X.gF rfl rfl (fun hg => LU.loadO 4 rfl ⟨Tryd.sizeOf3, Tryd.isAgg3⟩ (by exact Is.whenN hg) (Part.one rfl)) rfl ?_
          refine X.gF rfl rfl (fun hg => LU.leq (by exact Is.whenN hg) (by exact Is.whenN hg)) rfl ?_
          refine X.doT rfl rfl (LU.pickOr (by exact Is.rfl') (by exact Is.rfl') (fun hq => (by exact Is.whenN hq))) rfl ?_
          refine X.doT rfl rfl (LU.moveR (by exact Is.rfl')) rfl ?_
          refine X.gF rfl rfl (fun hg => LU.fieldO Tryd.underlying33 rfl Tryd.sizeOf9 (by decide) (by exact Is.rfl')) rfl ?_
          refine X.gF rfl rfl (fun hg => LU.loadO 4 rfl ⟨Tryd.sizeOf9, Tryd.isAgg9⟩ (by exact Is.whenN hg) (Part.one rfl)) rfl ?_
          refine X.gF rfl rfl (fun hg => LU.call (haspt_calls a.user (by omega)) Tryd.func18 rfl rfl (Opds.cons (by exact Is.whenN hg) Opds.nil)) rfl ?_
          refine X.doT rfl rfl (LU.weak (LU.pickOr (by exact Is.rfl') (by exact Is.rfl') (fun hq => (by exact Is.whenN hq))) (asB (c := true) rfl (by simpa [or_assoc] using hbad))) rfl ?_
          refine X.u (LU.pickT Is.rfl' (by exact Is.rfl')) rfl ?_
          refine X.u (LU.moveR Is.rfl') rfl ?_
          refine X.actG rfl rfl (X.call (lives16_calls) Tryd.func14 rfl rfl rfl (by (refine HSub.pick 2 rfl ?_); (refine HSub.pick 2 rfl ?_); exact HSub.refl _) Opds.nil ?_)
          rintro r H' ⟨rfl, rfl⟩
          refine X.u (LU.pickT Is.rfl' (by exact Is.rfl')) rfl ?_
          refine X.u (LU.assignR Is.rfl') rfl ?_
          refine LL.nil (after_code ?_)
          refine LW.ret (ret_code (after_end ?_))
          refine X.ret (H' := [kw, pw]) (Res.one (by exact IsR rfl)) (by repeat (first | exact HSub.refl _ | refine HSub.pick 0 rfl ?_ | refine HSub.drop ?_)) ?_
          exact ⟨rfl, rfl⟩
        · have h11 : issE l.length a.user a.now a.till = 0 := by simpa using h11
          obtain ⟨k1, k2, k3, k4, k5, k6⟩ := iss0 h11
          obtain ⟨tn, htn⟩ := Int.eq_ofNat_of_zero_le (show 0 ≤ a.till by omega)
          have hT : issT sec l.length a.user a.now a.till = ttext sec (l.length + 1) a.user tn := by unfold issT; rw [if_pos h11, htn, Int.toNat_natCast]
          have hL : issL sec l a.user a.now a.till = l ++ [(ttext sec (l.length + 1) a.user tn, ⟨a.user, a.till, 0⟩)] := by unfold issL; rw [if_pos h11, htn, Int.toNat_natCast]
          have htl := ttext_len (sec := sec) (n := l.length + 1) (user := a.user) (till := tn) (by omega) (by omega)
          obtain ⟨f1, f2⟩ := fE_last hB a.user tn ⟨a.user, a.till, 0⟩
          obtain ⟨v1, v2⟩ := fE_last hB a.user tn ⟨a.user, a.till, 1⟩
          rw [hL] at hBA
          have hrev : revE (l ++ [(ttext sec (l.length + 1) a.user tn, ⟨a.user, a.till, 0⟩)]) (ttext sec (l.length + 1) a.user tn) = 0 := by unfold revE; rw [if_pos f2, f1]; rfl
          have hrl : revL (l ++ [(ttext sec (l.length + 1) a.user tn, ⟨a.user, a.till, 0⟩)]) (ttext sec (l.length + 1) a.user tn) = l ++ [(ttext sec (l.length + 1) a.user tn, ⟨a.user, a.till, 1⟩)] := by
            obtain ⟨i, e, he, hi, hfe, hge⟩ := rev0 hrev
            have hii : i = l.length := by
              have := idxB_of hBA.keys (t := ttext sec (l.length + 1) a.user tn) (i := l.length) (e := ⟨a.user, a.till, 0⟩) (by simp)
              rw [hi] at this; exact Option.some.inj this
            unfold revL
            rw [if_pos hrev, hi, f1, hii]
            show List.set (l ++ [_]) l.length _ = _
            rw [List.set_append_right _ _ (Nat.le_refl _), Nat.sub_self]
            rfl
          have hBR := hBA.revoke (ttext sec (l.length + 1) a.user tn)
          rw [hrl] at hBR
          obtain ⟨T, hTT⟩ : ∃ T, T = ttext sec (l.length + 1) a.user tn := ⟨_, rfl⟩
          rw [← hTT] at hT hL htl f1 f2 v1 v2 hrev hrl hBA hBR
          obtain ⟨l1, hl1⟩ : ∃ l1, l1 = l ++ [(T, (⟨a.user, a.till, 0⟩ : En))] := ⟨_, rfl⟩
          obtain ⟨l2, hl2⟩ : ∃ l2, l2 = l ++ [(T, (⟨a.user, a.till, 1⟩ : En))] := ⟨_, rfl⟩
          rw [← hl1] at hL f1 f2 hrev hrl hBA
          rw [← hl2] at v1 v2 hrl hBR
          have c1 : chkE l1 T (a.till - 1) = 0 := by unfold chkE; rw [if_pos f2, f1]; unfold barE; rw [if_neg (by show ¬ (0 : Int) < 0; omega), if_neg (by show ¬ a.till ≤ a.till - 1; omega)]
          have c1u : chkU l1 T (a.till - 1) = a.user := by unfold chkU; rw [if_pos c1, f1]
          have c2 : chkE l1 T a.till = 162 := by unfold chkE; rw [if_pos f2, f1]; unfold barE; rw [if_neg (by show ¬ (0 : Int) < 0; omega), if_pos (Int.le_refl _)]
          have c3 : chkE l2 T a.now = 161 := by unfold chkE; rw [if_pos v2, v1]; rfl
          have c4 : revE l2 T = 161 := by unfold revE; rw [if_pos v2, v1]; rfl
          have k1c := checkI g m hBA T (a.till - 1) (by omega)
          have k2c := checkI g m hBA T a.till (by omega)
          have k3c := revokeI g m hBA T (by omega)
          have k4c := checkI g m hBR T a.now (by omega)
          have k5c := revokeI g m hBR T (by omega)
          rw [hT, hL]
          refine LW.skip (after_code ?_)
          refine LW.seq ?_
          refine LW.region ?_
          refine X.u (LU.moveR Is.rfl') rfl ?_
          refine X.u (LU.moveR Is.rfl') rfl ?_
          refine X.u (LU.fieldO Tryd.underlying33 rfl Tryd.sizeOf3 (by decide) Is.rfl') rfl ?_
          refine X.u (LU.loadO 4 rfl ⟨Tryd.sizeOf3, Tryd.isAgg3⟩ Is.rfl' (Part.one rfl)) rfl ?_
          refine X.u (LU.subN Is.rfl' Is.rfl' (wrap_i64 (by omega) (by omega))) rfl ?_
          refine X.act (X.call (k1c) Tryd.func19 rfl rfl rfl (by (refine HSub.pick 0 rfl ?_); (refine HSub.pick 0 rfl ?_); exact HSub.refl _) (Opds.cons Is.rfl' (Opds.cons Is.rfl' (Opds.cons Is.rfl' Opds.nil))) ?_)
          rintro r H' ⟨rfl, rfl⟩
          refine X.u (LU.moveT Is.rfl') rfl ?_
          refine X.u (LU.extract Is.rfl' rfl) rfl ?_
          refine X.u (LU.extract Is.rfl' rfl) rfl ?_
          refine X.u (LU.assignR Is.rfl') rfl ?_
          refine X.u (LU.assignR Is.rfl') rfl ?_
          refine LL.nil (after_code ?_)
          refine LW.seq ?_
          refine LW.region ?_
          refine X.u (LU.moveR Is.rfl') rfl ?_
          refine X.u (LU.moveR Is.rfl') rfl ?_
          refine X.u (LU.fieldO Tryd.underlying33 rfl Tryd.sizeOf3 (by decide) Is.rfl') rfl ?_
          refine X.u (LU.loadO 4 rfl ⟨Tryd.sizeOf3, Tryd.isAgg3⟩ Is.rfl' (Part.one rfl)) rfl ?_
          refine X.act (X.call (k2c) Tryd.func19 rfl rfl rfl (by (refine HSub.pick 0 rfl ?_); (refine HSub.pick 0 rfl ?_); exact HSub.refl _) (Opds.cons Is.rfl' (Opds.cons Is.rfl' (Opds.cons Is.rfl' Opds.nil))) ?_)
          rintro r H' ⟨rfl, rfl⟩
          refine X.u (LU.moveT Is.rfl') rfl ?_
          refine X.u (LU.extract Is.rfl' rfl) rfl ?_
          refine X.u (LU.extract Is.rfl' rfl) rfl ?_
          refine X.u (LU.assignR Is.rfl') rfl ?_
          refine X.u (LU.assignR Is.rfl') rfl ?_
          refine LL.nil (after_code ?_)
          refine LW.seq ?_
          refine LW.region ?_
          refine X.u (LU.moveR Is.rfl') rfl ?_
          refine X.u (LU.moveR Is.rfl') rfl ?_
          refine X.act (X.call (k3c) Tryd.func20 rfl rfl rfl (by (refine HSub.pick 0 rfl ?_); (refine HSub.pick 0 rfl ?_); exact HSub.refl _) (Opds.cons Is.rfl' (Opds.cons Is.rfl' Opds.nil)) ?_)
          rintro r H' ⟨rfl, rfl⟩
          refine X.u (LU.assignR Is.rfl') rfl ?_
          refine LL.nil (after_code ?_)
          refine LW.seq ?_
          rw [hrl]
          refine LW.region ?_
          refine X.u (LU.moveR Is.rfl') rfl ?_
          refine X.u (LU.moveR Is.rfl') rfl ?_
          refine X.u (LU.fieldO Tryd.underlying33 rfl Tryd.sizeOf3 (by decide) Is.rfl') rfl ?_
          refine X.u (LU.loadO 4 rfl ⟨Tryd.sizeOf3, Tryd.isAgg3⟩ Is.rfl' (Part.one rfl)) rfl ?_
          refine X.act (X.call (k4c) Tryd.func19 rfl rfl rfl (by (refine HSub.pick 0 rfl ?_); (refine HSub.pick 0 rfl ?_); exact HSub.refl _) (Opds.cons Is.rfl' (Opds.cons Is.rfl' (Opds.cons Is.rfl' Opds.nil))) ?_)
          rintro r H' ⟨rfl, rfl⟩
          refine X.u (LU.moveT Is.rfl') rfl ?_
          refine X.u (LU.extract Is.rfl' rfl) rfl ?_
          refine X.u (LU.extract Is.rfl' rfl) rfl ?_
          refine X.u (LU.assignR Is.rfl') rfl ?_
          refine X.u (LU.assignR Is.rfl') rfl ?_
          refine LL.nil (after_code ?_)
          refine LW.seq ?_
          refine LW.region ?_
          refine X.u (LU.moveR Is.rfl') rfl ?_
          refine X.u (LU.fieldO Tryd.underlying33 rfl Tryd.sizeOf9 (by decide) Is.rfl') rfl ?_
          refine X.u (LU.loadO 4 rfl ⟨Tryd.sizeOf9, Tryd.isAgg9⟩ Is.rfl' (Part.one rfl)) rfl ?_
          refine X.u (LU.weak (LU.streqN Is.rfl' Is.rfl') (asB (c := true) rfl (by rw [c1u]; simp))) rfl ?_
          refine X.u (LU.moveR Is.rfl') rfl ?_
          refine X.doT rfl rfl (LU.moveR (by exact Is.rfl')) rfl ?_
          refine X.doT rfl rfl (LU.weak (LU.eql (by exact Is.rfl') (by exact Is.rfl')) (asB (c := true) rfl (by rw [c1]; rfl))) rfl ?_
          refine X.u (LU.pickT Is.rfl' (by exact Is.rfl')) rfl ?_
          refine X.u (LU.moveR Is.rfl') rfl ?_
          refine X.doT rfl rfl (LU.moveR (by exact Is.rfl')) rfl ?_
          refine X.doT rfl rfl (LU.weak (LU.eql (by exact Is.rfl') (by exact Is.rfl')) (asB (c := true) rfl (by rw [c2]; rfl))) rfl ?_
          refine X.u (LU.pickT Is.rfl' (by exact Is.rfl')) rfl ?_
          refine X.u (LU.moveR Is.rfl') rfl ?_
          refine X.doT rfl rfl (LU.moveR (by exact Is.rfl')) rfl ?_
          refine X.doT rfl rfl (LU.weak (LU.eql (by exact Is.rfl') (by exact Is.rfl')) (asB (c := true) rfl (by rw [hrev]; rfl))) rfl ?_
          refine X.u (LU.pickT Is.rfl' (by exact Is.rfl')) rfl ?_
          refine X.u (LU.moveR Is.rfl') rfl ?_
          refine X.doT rfl rfl (LU.moveR (by exact Is.rfl')) rfl ?_
          refine X.doT rfl rfl (LU.weak (LU.eql (by exact Is.rfl') (by exact Is.rfl')) (asB (c := true) rfl (by rw [c3]; rfl))) rfl ?_
          refine X.u (LU.pickT Is.rfl' (by exact Is.rfl')) rfl ?_
          refine X.u (LU.moveR Is.rfl') rfl ?_
          refine X.doT rfl rfl (LU.moveR (by exact Is.rfl')) rfl ?_
          refine X.doT rfl rfl (LU.moveR (by exact Is.rfl')) rfl ?_
          refine X.actG rfl rfl (X.call (k5c) Tryd.func20 rfl rfl rfl (by (refine HSub.pick 0 rfl ?_); (refine HSub.pick 0 rfl ?_); exact HSub.refl _) (Opds.cons (by exact Is.rfl') (Opds.cons (by exact Is.rfl') Opds.nil)) ?_)
          rintro r H' ⟨rfl, rfl⟩
          refine X.doT rfl rfl (LU.weak (LU.eql (by exact Is.rfl') (by exact Is.rfl')) (asB (c := true) rfl (by rw [c4]; rfl))) rfl ?_
          refine X.u (LU.pickT Is.rfl' (by exact Is.rfl')) rfl ?_
          refine X.u (LU.moveR Is.rfl') rfl ?_
          refine X.actG rfl rfl (X.call (lives16_calls) Tryd.func14 rfl rfl rfl (by (refine HSub.pick 2 rfl ?_); (refine HSub.pick 2 rfl ?_); exact HSub.refl _) Opds.nil ?_)
          rintro r H' ⟨rfl, rfl⟩
          refine X.u (LU.pickT Is.rfl' (by exact Is.rfl')) rfl ?_
          refine X.u (LU.assignR Is.rfl') rfl ?_
          refine LL.nil (after_code ?_)
          refine LW.ret (after_end ?_)
          refine X.ret (H' := [kw, pw]) (Res.one (by exact IsR rfl)) (by repeat (first | exact HSub.refl _ | refine HSub.pick 0 rfl ?_ | refine HSub.drop ?_)) ?_
          exact ⟨rfl, rfl⟩
abbrev QAc : List LV → Prop := QCons 1 (QInt .i64) (QCons 1 QStr (QCons 1 QStr (QCons 1 (QInt .i64) (QCons 1 (QInt .i64) (QCons 1 (QInt .i64) (QCons 1 QBool QNil))))))
def AcOk (a : Ac) : Prop := a.user.length ≤ reachBytes ∧ a.text.length ≤ reachBytes
theorem ac_of (c : List LV) (h : QAc c) : ∃ a : Ac, c = acL a ∧ AcOk a := by
  obtain ⟨_, _, rfl, _, ⟨k, rfl, _⟩, _, _, rfl, _, ⟨u, rfl, hu⟩, _, _, rfl, _, ⟨t, rfl, ht⟩, _, _, rfl, _, ⟨nw, rfl, _⟩, _, _, rfl, _, ⟨tl, rfl, _⟩, _, _, rfl, _, ⟨n, rfl, _⟩, _, _, rfl, _, ⟨o, rfl⟩, rfl⟩ := h
  exact ⟨⟨k, u, t, nw, tl, n, o⟩, rfl, hu, ht⟩
theorem acs_of {es : List (List LV)} (h : ∀ c ∈ es, QAc c) : ∃ l : List Ac, es = l.map acL ∧ ∀ a ∈ l, AcOk a := Go.L.decode acL _ (fun c hc => ac_of c (h c hc))
theorem TokenTaken_row (x0 x1 : List (List LV)) (x2 : List LV) (h0 : ∀ c ∈ x0, QInt .u8 c) (h1 : x0.length * 1 ≤ reachBytes) (h2 : ∀ c ∈ x1, QStr c) (h3 : x1.length * 16 ≤ reachBytes) (h4 : QAc x2) : LCalls Tryd.prog 4 [.sl 1 x0 .unk, .sl 1 x1 .unk, .agg x2] [kw, pw] (fun r H' => r = .raw (.bool true) ∧ H' = [kw, pw]) := by
  obtain ⟨sec, rfl⟩ := decode_bytes h0
  obtain ⟨us, rfl, hu⟩ := strs_of h2
  obtain ⟨a, rfl, ha⟩ := ac_of x2 h4
  rw [byteEls_length] at h1
  rw [List.length_map] at h3
  have hr := reachBytes_lt
  exact taken_calls sec us a (by omega) (by omega) (by have := ha.1; omega) (fun u hx => by have := hu u hx; omega)
end Go.Proofs.YtnfeepmgdahmgaaDoor
