/- Tokens: what a book has; the chapter's example; no two are the same. -/
import Derived.Test.YtnfeepmgdahmgaaDoorTkC
import Derived.Test.YtnfeepmgdahmgaaDoorLgB
set_option linter.unusedVariables false
set_option linter.unusedSimpArgs false
namespace Go.Proofs.YtnfeepmgdahmgaaDoor
open Go.RowKit Go.L
attribute [local irreducible] LL LW LO
/-! digits -/
def valD (l : List UInt8) : Nat := l.foldl (fun v c => 10 * v + (c.toNat - 48)) 0
theorem dig_val {k : Nat} (h : k < 10) : (UInt8.ofNat (48 + k)).toNat = 48 + k := by
  rw [UInt8.toNat_ofNat']; omega
theorem val_dec (m : Nat) : valD (Lib.decDigits m) = m ∧ (46 : UInt8) ∉ Lib.decDigits m := by
  induction m using Nat.strongRecOn with
  | ind m ih =>
    rw [Lib.decDigits]
    split
    · rename_i h
      refine ⟨by simp only [valD, List.foldl_cons, List.foldl_nil]; rw [dig_val h]; omega, ?_⟩
      simp only [List.mem_singleton]
      intro c
      have := congrArg UInt8.toNat c
      rw [dig_val h] at this
      have h46 : (46 : UInt8).toNat = 46 := rfl
      omega
    · rename_i h
      obtain ⟨h1, h2⟩ := ih (m / 10) (by omega)
      have hk : m % 10 < 10 := Nat.mod_lt _ (by omega)
      refine ⟨?_, ?_⟩
      · show (Lib.decDigits (m / 10) ++ [UInt8.ofNat (48 + m % 10)]).foldl _ 0 = m
        rw [List.foldl_append]
        have : (Lib.decDigits (m / 10)).foldl (fun v (c : UInt8) => 10 * v + (c.toNat - 48)) 0 = m / 10 := h1
        rw [this]
        simp only [List.foldl_cons, List.foldl_nil]
        rw [dig_val hk]; omega
      · rw [List.mem_append, List.mem_singleton]
        rintro (c | c)
        · exact h2 c
        · have := congrArg UInt8.toNat c
          rw [dig_val hk] at this
          have h46 : (46 : UInt8).toNat = 46 := rfl
          omega
theorem dec_inj {m n : Nat} (h : Lib.decDigits m = Lib.decDigits n) : m = n := by rw [← (val_dec m).1, ← (val_dec n).1, h]
theorem pt_inj : ∀ {a b x y : List UInt8}, (46 : UInt8) ∉ a → (46 : UInt8) ∉ b → a ++ 46 :: x = b ++ 46 :: y → a = b ∧ x = y
  | [], [], x, y, _, _, h => ⟨rfl, by simpa using h⟩
  | [], b :: bs, x, y, _, hb, h => by
    simp only [List.nil_append, List.cons_append, List.cons.injEq] at h
    exact (hb (by rw [h.1]; simp)).elim
  | a :: xs, [], x, y, ha, _, h => by
    simp only [List.nil_append, List.cons_append, List.cons.injEq] at h
    exact (ha (by rw [h.1]; simp)).elim
  | a :: xs, b :: bs, x, y, ha, hb, h => by
    simp only [List.cons_append, List.cons.injEq] at h
    obtain ⟨h1, h2⟩ := pt_inj (fun c => ha (List.mem_cons_of_mem _ c)) (fun c => hb (List.mem_cons_of_mem _ c)) h.2
    exact ⟨by rw [h.1, h1], h2⟩
theorem ttext_form (sec : List UInt8) (n : Nat) (user : List UInt8) (till : Nat) : ttext sec n user till = Lib.decDigits n ++ 46 :: (user ++ 46 :: (Lib.decDigits till ++ 46 :: hexB (tagB sec (tpre n user till)))) := by
  simp [ttext, tpre]
theorem ttext_num {sec sec' : List UInt8} {m n : Nat} {u v : List UInt8} {s t : Nat} (h : ttext sec m u s = ttext sec' n v t) : m = n := by
  rw [ttext_form, ttext_form] at h
  exact dec_inj (pt_inj (val_dec m).2 (val_dec n).2 h).1
theorem ttext_user {sec sec' : List UInt8} {m n : Nat} {u v : List UInt8} {s t : Nat} (hu : (46 : UInt8) ∉ u) (hv : (46 : UInt8) ∉ v) (h : ttext sec m u s = ttext sec' n v t) : u = v ∧ s = t := by
  rw [ttext_form, ttext_form] at h
  have h2 := pt_inj hu hv (pt_inj (val_dec m).2 (val_dec n).2 h).2
  exact ⟨h2.1, dec_inj (pt_inj (val_dec s).2 (val_dec t).2 h2.2).1⟩
/-! what a book has -/
structure EnOk (sec : List UInt8) (i : Nat) (t : List UInt8) (e : En) : Prop where
  text : t = ttext sec (i + 1) e.user e.till.toNat
  dot : e.user.contains 46 = false
  len : e.user.length ≤ 100000
  t0 : 0 ≤ e.till
  t1 : e.till ≤ 1099511627776
  g0 : 0 ≤ e.gone
def BkI (sec : List UInt8) (l : Bk) : Prop := l.length ≤ 256 ∧ ∀ (i : Nat) (t : List UInt8) (e : En), l[i]? = some (t, e) → EnOk sec i t e
theorem BkI.nil (sec : List UInt8) : BkI sec [] := ⟨by simp, fun i t e h => by simp at h⟩
theorem BkI.keys {sec : List UInt8} {l : Bk} (h : BkI sec l) : KeysU l := fun i j p q hp hq e => by
  have h1 := (h.2 i p.1 p.2 hp).text
  have h2 := (h.2 j q.1 q.2 hq).text
  rw [h1, h2] at e
  have := ttext_num e
  omega
theorem BkI.lens {sec : List UInt8} {l : Bk} (h : BkI sec l) : ∀ p ∈ l, p.1.length < 140737488355328 := fun p hp => by
  obtain ⟨i, hi, rfl⟩ := List.getElem_of_mem hp
  have hk := h.2 i l[i].1 l[i].2 (List.getElem?_eq_getElem hi)
  have := ttext_len (sec := sec) (n := i + 1) (user := l[i].2.user) (till := l[i].2.till.toNat) (by have := h.1; omega) (by have := hk.t1; omega)
  rw [← hk.text] at this
  have := hk.len
  omega
theorem BkI.gone {sec : List UInt8} {l : Bk} (h : BkI sec l) : Gone0 l := fun i p hp => (h.2 i p.1 p.2 hp).g0
theorem BkI.fresh {sec : List UInt8} {l : Bk} (h : BkI sec l) (user : List UInt8) (till : Nat) : idxB l (ttext sec (l.length + 1) user till) = none := by
  cases hx : idxB l (ttext sec (l.length + 1) user till) with
  | none => rfl
  | some i =>
    obtain ⟨e, he⟩ := idxB_some hx
    have := ttext_num (h.2 i _ _ he).text
    have := (List.getElem?_eq_some_iff.1 he).1
    omega
theorem BkI.issue {sec : List UInt8} {l : Bk} (h : BkI sec l) (user : List UInt8) (now till : Int) (hu : user.length ≤ 100000) : BkI sec (issL sec l user now till) := by
  unfold issL
  split
  · rename_i hz
    obtain ⟨k1, k2, k3, k4, k5, k6⟩ := iss0 hz
    refine ⟨by rw [List.length_append, List.length_singleton]; omega, fun i t e hi => ?_⟩
    by_cases c : i < l.length
    · rw [List.getElem?_append_left c] at hi
      exact h.2 i t e hi
    · rw [List.getElem?_append_right (by omega)] at hi
      have hlt := (List.getElem?_eq_some_iff.1 hi).1
      rw [List.length_singleton] at hlt
      have h0 : i - l.length = 0 := by omega
      rw [h0] at hi
      have hi2 := Option.some.inj hi
      simp only [Prod.mk.injEq] at hi2
      obtain ⟨rfl, rfl⟩ := hi2
      exact ⟨by rw [show i = l.length by omega], k2, hu, by show 0 ≤ till; omega, k4, Int.le_refl 0⟩
  · exact h
theorem BkI.revoke {sec : List UInt8} {l : Bk} (h : BkI sec l) (tok : List UInt8) : BkI sec (revL l tok) := by
  by_cases hz : revE l tok = 0
  · obtain ⟨i, e, he, hi, hfe, hge⟩ := rev0 hz
    have hL : revL l tok = l.set i (tok, { e with gone := e.gone + 1 }) := by unfold revL; rw [if_pos hz, hi, hfe]
    rw [hL]
    have hil := (List.getElem?_eq_some_iff.1 he).1
    refine ⟨by rw [List.length_set]; exact h.1, fun j t e2 hj => ?_⟩
    by_cases c : i = j
    · subst c
      rw [List.getElem?_set_self hil] at hj
      have hj2 := Option.some.inj hj
      simp only [Prod.mk.injEq] at hj2
      obtain ⟨rfl, rfl⟩ := hj2
      have hk := h.2 i _ _ he
      exact ⟨hk.text, hk.dot, hk.len, hk.t0, hk.t1, by have := hk.g0; show 0 ≤ e.gone + 1; omega⟩
    · rw [List.getElem?_set_ne c] at hj
      exact h.2 j t e2 hj
  · have hL : revL l tok = l := by unfold revL; rw [if_neg hz]
    rw [hL]; exact h
theorem issueI (g m : Nat) {sec : List UInt8} {l : Bk} (h : BkI sec l) (user : List UInt8) (now till : Int) (hs : sec.length ≤ 100000) (hu : user.length ≤ 100000) : LCalls Tryd.prog 16 [pt g, Str user, i64 now, i64 till] [bkC g m sec, bkM m l, kw, pw] (fun r H' => r = .tup [Str (issT sec l.length user now till), i64 (issE l.length user now till)] ∧ H' = [bkC g m sec, bkM m (issL sec l user now till), kw, pw]) :=
  issue_calls g m sec user now till l hs hu (by have := h.1; omega) (fun _ => h.fresh user till.toNat)
theorem checkI (g m : Nat) {sec : List UInt8} {l : Bk} (h : BkI sec l) (tok : List UInt8) (now : Int) (ht : tok.length < 140737488355328) : LCalls Tryd.prog 19 [pt g, Str tok, i64 now] [bkC g m sec, bkM m l] (fun r H' => r = .tup [Str (chkU l tok now), i64 (chkE l tok now)] ∧ H' = [bkC g m sec, bkM m l]) :=
  check16_calls g m sec tok l now h.keys ht h.lens h.gone
theorem revokeI (g m : Nat) {sec : List UInt8} {l : Bk} (h : BkI sec l) (tok : List UInt8) (ht : tok.length < 140737488355328) : LCalls Tryd.prog 20 [pt g, Str tok] [bkC g m sec, bkM m l] (fun r H' => r = i64 (revE l tok) ∧ H' = [bkC g m sec, bkM m (revL l tok)]) :=
  revoke_calls g m sec tok l h.keys ht h.lens h.gone
/-- What was just given out is found. -/
theorem fE_last {sec : List UInt8} {l : Bk} (h : BkI sec l) (user : List UInt8) (till : Nat) (e : En) : fE (l ++ [(ttext sec (l.length + 1) user till, e)]) (ttext sec (l.length + 1) user till) = e ∧ fP (l ++ [(ttext sec (l.length + 1) user till, e)]) (ttext sec (l.length + 1) user till) = 0 := by
  have hi : idxB (l ++ [(ttext sec (l.length + 1) user till, e)]) (ttext sec (l.length + 1) user till) = some l.length := by
    cases hx : idxB (l ++ [(ttext sec (l.length + 1) user till, e)]) (ttext sec (l.length + 1) user till) with
    | none => exact (idxB_none hx (i := l.length) (p := (ttext sec (l.length + 1) user till, e)) (by simp) rfl).elim
    | some j =>
      obtain ⟨e', he'⟩ := idxB_some hx
      by_cases c : j < l.length
      · rw [List.getElem?_append_left c] at he'
        have := ttext_num (h.2 j _ _ he').text
        omega
      · have := (List.getElem?_eq_some_iff.1 he').1
        rw [List.length_append, List.length_singleton] at this
        rw [show j = l.length by omega]
  unfold fE fP
  rw [hi]
  exact ⟨by simp, rfl⟩
abbrev ann : List UInt8 := [97, 110, 110]
theorem iss_ann : issE 0 ann 0 9 = 0 := by decide
theorem ann_text (sec : List UInt8) : (ttext sec 1 ann 9).length = 72 ∧ (ttext sec 1 ann 9).take 8 = [49, 46, 97, 110, 110, 46, 57, 46] := by
  have h1 : Lib.decDigits 1 = [49] := Lib.decDigits_one (by omega)
  have h9 : Lib.decDigits 9 = [57] := Lib.decDigits_one (by omega)
  have hp : tpre 1 ann 9 = [49, 46, 97, 110, 110, 46, 57] := by unfold tpre; rw [h1, h9]; rfl
  have hl := hexB_len (tagB sec (tpre 1 ann 9))
  rw [tagB_len] at hl
  unfold ttext
  rw [hp] at hl ⊢
  exact ⟨by simp [hl], by simp⟩
set_option maxHeartbeats 1000000 in
set_option maxRecDepth 100000 in
theorem lives16_calls : LCalls Tryd.prog 14 [] [kw, pw] (fun r H' => r = bl true ∧ H' = [kw, pw]) := by
  have hN : BkI [107] [] := BkI.nil _
  have his := fun g m => issueI g m hN ann 0 9 (by simp) (by simp)
  have hB := hN.issue ann 0 9 (by simp)
  obtain ⟨l, hl⟩ : ∃ l, l = issL [107] [] ann 0 9 := ⟨_, rfl⟩
  have hT : issT [107] 0 ann 0 9 = ttext [107] 1 ann 9 := by unfold issT; rw [if_pos iss_ann]; rfl
  have hL : l = [] ++ [(ttext [107] 1 ann 9, ⟨ann, 9, 0⟩)] := by rw [hl]; unfold issL; rw [if_pos (show issE ([] : Bk).length ann 0 9 = 0 from iss_ann)]; rfl
  obtain ⟨f1, f2⟩ := fE_last hN ann 9 ⟨ann, 9, 0⟩
  rw [show (([] : Bk).length + 1) = 1 from rfl, ← hL] at f1 f2
  obtain ⟨t1, t2⟩ := ann_text [107]
  obtain ⟨T, hTT⟩ : ∃ T, T = ttext [107] 1 ann 9 := ⟨_, rfl⟩
  rw [← hTT] at t1 t2 f1 f2 hT
  rw [← hl] at hB his
  have hc8 : chkE l T 8 = 0 ∧ chkU l T 8 = ann := by
    have h : chkE l T 8 = 0 := by unfold chkE; rw [if_pos f2, f1]; rfl
    exact ⟨h, by unfold chkU; rw [if_pos h, f1]⟩
  have hc9 : chkE l T 9 = 162 := by unfold chkE; rw [if_pos f2, f1]; rfl
  simp only [List.length_nil, hT, iss_ann] at his
  have hk8 := fun g m => checkI g m hB T 8 (by omega)
  have hk9 := fun g m => checkI g m hB T 9 (by omega)
  simp only [hc8.1, hc8.2, hc9] at hk8 hk9
  refine LCalls.of Tryd.func14 rfl Tryd.ntmps14 Tryd.results14 rfl (fun Rf => ?_)
  refine LW.seq ?_
  refine LW.region ?_
  refine X.u (LU.assignR Is.rfl') rfl ?_
  refine LL.nil (after_code ?_)
  refine LW.seq ?_
  refine LW.region ?_
  refine X.act (X.litO rfl Tryd.underlying22 Tryd.sizeOf5 Tryd.zeroValue5 (ones rfl) rfl (by decide) (by decide) (Elems.cons Is.rfl' (by exact Cells.raw rfl) Elems.nil) (by simp) rfl (fun b8 => ?_))
  refine X.act (X.mark (size := 1) 0 rfl rfl Tryd.underlying22 Tryd.underlying5 Is.rfl' (by simp) rfl (Nat.le_refl _) ?_)
  refine X.act (X.call (newb_calls [107] _ (by simp)) Tryd.func15 rfl rfl rfl (HSub.refl _) (Opds.cons Is.rfl' Opds.nil) ?_)
  rintro r H' ⟨g, m, rfl, rfl⟩
  refine X.u (LU.assignR Is.rfl') rfl ?_
  refine LL.nil (after_code ?_)
  refine LW.seq ?_
  refine LW.region ?_
  refine X.u (LU.moveR Is.rfl') rfl ?_
  refine X.act (X.call (his g m) Tryd.func16 rfl rfl rfl (by (refine HSub.pick 0 rfl ?_); (refine HSub.pick 0 rfl ?_); (refine HSub.pick 0 rfl ?_); (refine HSub.pick 0 rfl ?_); exact HSub.refl _) (Opds.cons Is.rfl' (Opds.cons Is.rfl' (Opds.cons Is.rfl' (Opds.cons Is.rfl' Opds.nil)))) ?_)
  rintro r H' ⟨rfl, rfl⟩
  refine X.u (LU.moveT Is.rfl') rfl ?_
  refine X.u (LU.extract Is.rfl' rfl) rfl ?_
  refine X.u (LU.extract Is.rfl' rfl) rfl ?_
  refine X.u (LU.assignR Is.rfl') rfl ?_
  refine X.u (LU.assignR Is.rfl') rfl ?_
  refine LL.nil (after_code ?_)
  refine LW.seq ?_
  refine LW.region ?_
  refine X.u (LU.moveR Is.rfl') rfl ?_
  refine X.u (LU.moveR Is.rfl') rfl ?_
  refine X.act (X.call (hk8 g m) Tryd.func19 rfl rfl rfl (by (refine HSub.pick 0 rfl ?_); (refine HSub.pick 0 rfl ?_); exact HSub.refl _) (Opds.cons Is.rfl' (Opds.cons Is.rfl' (Opds.cons Is.rfl' Opds.nil))) ?_)
  rintro r H' ⟨rfl, rfl⟩
  refine X.u (LU.moveT Is.rfl') rfl ?_
  refine X.u (LU.extract Is.rfl' rfl) rfl ?_
  refine X.u (LU.extract Is.rfl' rfl) rfl ?_
  refine X.u (LU.assignR Is.rfl') rfl ?_
  refine X.u (LU.assignR Is.rfl') rfl ?_
  refine LL.nil (after_code ?_)
  refine LW.seq ?_
  refine LW.region ?_
  refine X.u (LU.moveR Is.rfl') rfl ?_
  refine X.u (LU.moveR Is.rfl') rfl ?_
  refine X.act (X.call (hk9 g m) Tryd.func19 rfl rfl rfl (by (refine HSub.pick 0 rfl ?_); (refine HSub.pick 0 rfl ?_); exact HSub.refl _) (Opds.cons Is.rfl' (Opds.cons Is.rfl' (Opds.cons Is.rfl' Opds.nil))) ?_)
  rintro r H' ⟨rfl, rfl⟩
  refine X.u (LU.moveT Is.rfl') rfl ?_
  refine X.u (LU.extract Is.rfl' rfl) rfl ?_
  refine X.u (LU.extract Is.rfl' rfl) rfl ?_
  refine X.u (LU.assignR Is.rfl') rfl ?_
  refine X.u (LU.assignR Is.rfl') rfl ?_
  refine LL.nil (after_code ?_)
  refine LW.seq ?_
  refine LW.region ?_
  refine X.u (LU.moveR Is.rfl') rfl ?_
  refine X.u (LU.eql Is.rfl' Is.rfl') rfl ?_
  refine X.u (LU.moveR Is.rfl') rfl ?_
  refine X.doT rfl rfl (LU.moveR (by exact Is.rfl')) rfl ?_
  refine X.doT rfl rfl (LU.strlenN Tryd.underlying9 (by exact Is.rfl')) rfl ?_
  refine X.doT rfl rfl (LU.weak (LU.eql (by exact Is.rfl') (by exact Is.rfl')) (asB (c := true) rfl (by rw [t1]; rfl))) rfl ?_
  refine X.u (LU.pickT Is.rfl' (by exact Is.rfl')) rfl ?_
  refine X.u (LU.moveR Is.rfl') rfl ?_
  refine X.doT rfl rfl (LU.moveR (by exact Is.rfl')) rfl ?_
  refine X.doT rfl rfl (LU.weak (LU.strsliceN (s := T) (l := none) (h := some 8) Tryd.underlying9 trivial ⟨_, (by exact Is.rfl')⟩ (by simp) (by simp) (by simp only [Option.getD_some]; omega) (by exact Is.rfl')) (Is.of (y := Str [49, 46, 97, 110, 110, 46, 57, 46]) (congrArg Str (by simpa using t2)))) rfl ?_
  refine X.doT rfl rfl (LU.weak (LU.streqN (by exact Is.rfl') (by exact Is.rfl')) (asB (c := true) rfl (by rfl))) rfl ?_
  refine X.u (LU.pickT Is.rfl' (by exact Is.rfl')) rfl ?_
  refine X.u (LU.moveR Is.rfl') rfl ?_
  refine X.doT rfl rfl (LU.moveR (by exact Is.rfl')) rfl ?_
  refine X.doT rfl rfl (LU.weak (LU.streqN (by exact Is.rfl') (by exact Is.rfl')) (asB (c := true) rfl (by rfl))) rfl ?_
  refine X.u (LU.pickT Is.rfl' (by exact Is.rfl')) rfl ?_
  refine X.u (LU.moveR Is.rfl') rfl ?_
  refine X.doT rfl rfl (LU.moveR (by exact Is.rfl')) rfl ?_
  refine X.doT rfl rfl (LU.weak (LU.eql (by exact Is.rfl') (by exact Is.rfl')) (asB (c := true) rfl (by rfl))) rfl ?_
  refine X.u (LU.pickT Is.rfl' (by exact Is.rfl')) rfl ?_
  refine X.u (LU.moveR Is.rfl') rfl ?_
  refine X.doT rfl rfl (LU.moveR (by exact Is.rfl')) rfl ?_
  refine X.doT rfl rfl (LU.weak (LU.eql (by exact Is.rfl') (by exact Is.rfl')) (asB (c := true) rfl (by rfl))) rfl ?_
  refine X.u (LU.pickT Is.rfl' (by exact Is.rfl')) rfl ?_
  refine X.u (LU.moveR Is.rfl') rfl ?_
  refine X.u (LU.pickT Is.rfl' (by exact Is.rfl')) rfl ?_
  refine X.u (LU.moveR Is.rfl') rfl ?_
  refine X.u (LU.pickT Is.rfl' (by exact Is.rfl')) rfl ?_
  refine X.u (LU.assignR Is.rfl') rfl ?_
  refine LL.nil (after_code ?_)
  refine LW.ret (after_end ?_)
  refine X.ret (H' := [kw, pw]) (Res.one (by exact IsR rfl)) (by repeat (first | exact HSub.refl _ | refine HSub.pick 2 rfl ?_ | refine HSub.drop ?_)) ?_
  exact ⟨rfl, rfl⟩
end Go.Proofs.YtnfeepmgdahmgaaDoor
