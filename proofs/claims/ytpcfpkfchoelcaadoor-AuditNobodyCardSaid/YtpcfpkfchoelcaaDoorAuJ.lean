/- What a log has is a chain at all times, and so is each beginning of it; no entry that was noted ever changes. -/
import Derived.Test.YtpcfpkfchoelcaaDoorAuI
set_option linter.unusedVariables false
set_option linter.unusedSimpArgs false
namespace Go.Proofs.YtpcfpkfchoelcaaDoor
open Go.RowKit Go.L
attribute [local irreducible] LL LW LO
def Chain (l : List Ent) : Prop := ∀ j, j < l.length → fitE (l.take j) (l.getD j zeroE) = true
theorem Chain.nil : Chain [] := fun j hj => by simp at hj
theorem Chain.ver {l : List Ent} (h : Chain l) : verL l = -1 := ver_good h
theorem Chain.of_ver {l : List Ent} (h : verL l < 0) : Chain l := by
  rcases ver_cases l with ⟨_, h1⟩ | ⟨i, _, h1, _⟩
  · exact h1
  · omega
theorem Chain.snoc {l : List Ent} {e : Ent} (h : Chain l) (he : fitE l e = true) : Chain (l ++ [e]) := fun j hj => by
  rw [List.length_append, List.length_singleton] at hj
  by_cases hjl : j < l.length
  · rw [List.take_append_of_le_length (by omega), List.getD_eq_getElem?_getD, List.getElem?_append_left hjl, ← List.getD_eq_getElem?_getD]
    exact h j hjl
  · obtain rfl : j = l.length := by omega
    rw [List.take_left, List.getD_eq_getElem?_getD, List.getElem?_concat_length]
    exact he
theorem Chain.take {l : List Ent} (h : Chain l) (n : Nat) : Chain (l.take n) := fun j hj => by
  rw [List.length_take] at hj
  rw [List.take_take, Nat.min_eq_left (by omega), List.getD_eq_getElem?_getD, List.getElem?_take_of_lt (by omega), ← List.getD_eq_getElem?_getD]
  exact h j (by omega)
theorem fit_nxt {es : List Ent} {tick : Int} {who what : List UInt8} (h : errN es tick who what = 0) : fitE es (nxtE es tick who what) = true := by
  have hn := (nxtE_ok h).2.1
  unfold fitE
  have h1 : (nxtE es tick who what).tick = tick := by rw [hn]
  have h2 : (nxtE es tick who what).who = who := by rw [hn]
  have h3 : (nxtE es tick who what).what = what := by rw [hn]
  rw [h1, h2, h3, decide_eq_true h, decide_eq_true rfl]; rfl
/-- What stands after a call. -/
theorem add_facts {es : List Ent} (hc : Chain es) (ho : ∀ e ∈ es, EntOk e) (tick : Int) (who what : List UInt8) :
    Chain (addE es tick who what) ∧ (∀ e ∈ addE es tick who what, EntOk e) ∧ (addE es tick who what).length ≤ es.length + 1 ∧ es.length ≤ (addE es tick who what).length ∧ (addE es tick who what).take es.length = es := by
  unfold addE
  by_cases h : errN es tick who what = 0
  · rw [if_pos h]
    refine ⟨hc.snoc (fit_nxt h), fun e he => ?_, by simp, by simp, by simp⟩
    rcases List.mem_append.1 he with he | he
    · exact ho e he
    · rw [List.mem_singleton.1 he]; exact (nxtE_ok h).1
  · rw [if_neg h]
    exact ⟨hc, ho, by omega, by omega, by simp⟩
abbrev QAc : List LV → Prop := QCons 1 (QInt .i64) (QCons 1 QStr (QCons 1 QStr (QCons 1 QBool QNil)))
theorem of_ac {c : List LV} (h : QAc c) : ∃ a : Ac, c = acL a ∧ AcOk a := by
  obtain ⟨_, _, rfl, _, ⟨n1, rfl, w1⟩, _, _, rfl, _, ⟨s1, rfl, w3⟩, _, _, rfl, _, ⟨s2, rfl, w4⟩, _, _, rfl, _, ⟨bb, rfl⟩, rfl⟩ := h
  have hr := reachBytes_lt
  exact ⟨⟨n1, s1, s2, bb⟩, by simp, wf_i64 w1, by show s1.length ≤ _; omega, by show s2.length ≤ _; omega⟩
theorem of_acs {x : List (List LV)} (h : ∀ c ∈ x, QAc c) : ∃ l : List Ac, x = acts l ∧ ∀ a ∈ l, AcOk a := Go.L.decode acL AcOk fun c hc => of_ac (h c hc)
set_option maxHeartbeats 2000000 in
set_option maxRecDepth 100000 in
theorem ac_calls (l : List Ac) (hl : l.length < 140737488355328) (hok : ∀ a ∈ l, AcOk a) : LCalls Tryd.prog 5 [.sl 4 (acts l) .unk] [kw] (fun r H' => r = bl true ∧ H' = [kw]) := by
  refine LCalls.of Tryd.func5 rfl Tryd.ntmps5 Tryd.results5 rfl (fun Rf => ?_)
  refine LW.seq ?_
  refine LW.region ?_
  refine X.u (LU.assignR Is.rfl') rfl ?_
  refine LL.nil (after_code ?_)
  refine LW.seq ?_
  refine LW.seq ?_
  refine LW.region ?_
  refine X.u (LU.moveS Is.rfl') rfl ?_
  refine X.act (X.call (few_calls l .unk hl hok) Tryd.func19 rfl rfl rfl (HSub.refl _) (Opds.cons Is.rfl' Opds.nil) ?_)
  rintro r H' ⟨fb, rfl, rfl, hfew⟩
  refine X.u (LU.not Is.rfl') rfl ?_
  refine LL.nil (after_code ?_)
  refine X.cond rfl (fun h1 => ?_) (fun h1 => ?_)
  · try have h1 := of_decide_eq_true h1
    refine LW.seq ?_
    refine LW.region ?_
    refine X.u (LU.call1 0 rfl (lives19_calls) Tryd.func9 rfl rfl Opds.nil) rfl ?_
    refine X.u (LU.assignR Is.rfl') rfl ?_
    refine LL.nil (after_code ?_)
    refine LW.ret (ret_code (after_end ?_))
    refine X.ret (H' := [kw]) (Res.one (by exact IsR rfl)) (by repeat (exact HSub.refl _)) ?_
    exact ⟨rfl, rfl⟩
  · have h60 : l.length ≤ 60 := hfew (by simpa using h1)
    refine LW.skip (after_code ?_)
    refine LW.seq ?_
    refine LW.region ?_
    refine X.act (X.call (new_calls19) Tryd.func20 rfl rfl rfl (HSub.refl _) Opds.nil ?_)
    rintro r H' ⟨g, hv0, hh0, rfl, rfl⟩
    refine X.u (LU.assignR Is.rfl') rfl ?_
    refine LL.nil (after_code ?_)
    refine LW.seq ?_
    refine LW.region ?_
    refine X.u (LU.weak (LU.assign (Is.nil 36)) ((Is.unk : Is (.sl 36 [] _) _))) rfl ?_
    refine LL.nil (after_code ?_)
    refine LW.seq ?_
    refine LW.seq ?_
    refine LW.region ?_
    refine X.u (LU.moveS Is.rfl') rfl ?_
    refine X.u (LU.lenN Tryd.underlying46 Is.rfl' (by (simp only [Option.getD_some, Option.getD_none, byteEls_length, intEls_length, List.length_append, List.length_cons, List.length_nil, List.length_map, List.length_drop, List.length_take, Int.toNat_natCast]; rfl))) rfl ?_
    refine X.u (LU.moveR Is.rfl') rfl ?_
    refine LL.nil (after_code ?_)
    refine LW.block ?_
    refine X.loopK (α := Nat × List Ent × Value × Nat × Nat × Nat) (fun ⟨i, es, hv, b, o, c⟩ => [(16, i64 i), (4, .sl 36 (ents es) .unk)]) [0, 3, 14, 15] (fun ⟨i, es, hv, b, o, c⟩ => lg g es hv b o c :: .tail b o c :: kw :: Rf) (fun ⟨i, es, hv, b, o, c⟩ => i ≤ l.length ∧ es.length ≤ i ∧ HeadOk hv es ∧ Chain es ∧ ∀ e ∈ es, EntOk e) (fun ⟨i, es, hv, b, o, c⟩ => l.length - i) ((0, [], hv0, 0, 0, 0)) (EnvLe.cons (by rfl) (EnvLe.cons (by rfl) (EnvLe.nil))) (by repeat (exact HSub.refl _)) ?_ ?_
    · exact ⟨Nat.zero_le _, Nat.le_refl _, hh0, Chain.nil, by simp⟩
    · rintro ⟨i, es, hv, b, o, c⟩ hI
      obtain ⟨hi, hel, hh, hch, heo⟩ := hI
      refine LW.seq ?_
      refine LW.region ?_
      refine X.u (LU.lss Is.rfl' Is.rfl') rfl ?_
      refine LL.nil (after_code ?_)
      refine LW.seq ?_
      refine X.cond rfl (fun h6 => ?_) (fun h6 => ?_)
      · try have h6 := of_decide_eq_true h6
        refine LW.skip (after_code ?_)
        refine LW.seq ?_
        refine LW.block ?_
        refine LW.seq ?_
        obtain ⟨x, hx⟩ := at_lt (show i < l.length by omega)
        obtain ⟨hx1, hx2, hx3⟩ := hok x (List.mem_of_getElem? hx)
        have hap := append_calls19 g es hv b o c x.tick x.who x.what hh (by omega) (fun e he => (heo e he).2.2.2.2) hx1.1 hx1.2
        obtain ⟨hc2, ho2, hl2, hl3, htk⟩ := add_facts hch heo x.tick x.who x.what
        obtain ⟨E2, hE2⟩ : ∃ E2, E2 = addE es x.tick x.who x.what := ⟨_, rfl⟩
        rw [← hE2] at hap hc2 ho2 hl2 hl3 htk
        clear hE2
        have hvf := verify_calls E2 .unk (by omega) ho2
        have hhl := headE_len E2
        have hho := holds_calls E2 .unk (headE E2) (by omega) ho2 hhl
        rw [holds_head, hc2.ver] at hho
        rw [hc2.ver] at hvf
        have hsm := same_calls (E2.take es.length) es .unk .unk (by simp; omega) (by omega) (fun e he => (ho2 e (List.mem_of_mem_take he)).2.2.2.2) (fun e he => (heo e he).2.2.2.2)
        rw [decide_eq_true htk] at hsm
        refine LW.region ?_
        refine X.u (LU.at Tryd.underlying46 ⟨Tryd.sizeOf35, Tryd.isAgg35⟩ Is.rfl' Is.rfl' (by omega) (acts_at hx) (by simp)) rfl ?_
        refine X.u (LU.load ⟨Tryd.sizeOf35, Tryd.isAgg35⟩ Is.rfl' (by (simp; done)) (Part.whole (by (simp; done)))) rfl ?_
        refine X.act (X.alloc rfl Tryd.zeroValue35 (by exact Cells.rawagg (by decide)) (fun b6 => ?_))
        refine X.act (X.store 0 rfl Tryd.sizeOf35 Is.rfl' Is.rfl' (by exact Cells.agg) (by (simp; done)) (by exact Nat.le_of_ble_eq_true rfl) ?_)
        refine LL.nil (after_code ?_)
        refine LW.seq ?_
        refine X.wcells (ys := acL x) (putAt_all (by simp [raws])) ?_
        refine LW.region ?_
        refine X.u (LU.moveR Is.rfl') rfl ?_
        refine X.u (LU.fieldO Tryd.underlying35 rfl Tryd.sizeOf3 (by decide) Is.rfl') rfl ?_
        refine X.u (LU.loadO 0 rfl ⟨Tryd.sizeOf3, Tryd.isAgg3⟩ Is.rfl' (Part.one rfl)) rfl ?_
        refine X.u (LU.fieldO Tryd.underlying35 rfl Tryd.sizeOf9 (by decide) Is.rfl') rfl ?_
        refine X.u (LU.loadO 0 rfl ⟨Tryd.sizeOf9, Tryd.isAgg9⟩ Is.rfl' (Part.one rfl)) rfl ?_
        refine X.u (LU.fieldO Tryd.underlying35 rfl Tryd.sizeOf9 (by decide) Is.rfl') rfl ?_
        refine X.u (LU.loadO 0 rfl ⟨Tryd.sizeOf9, Tryd.isAgg9⟩ Is.rfl' (Part.one rfl)) rfl ?_
        refine X.act (X.call (hap) Tryd.func16 rfl rfl rfl (by (refine HSub.pick 1 rfl ?_); (refine HSub.pick 1 rfl ?_); (refine HSub.pick 1 rfl ?_); exact HSub.refl _) (Opds.cons Is.rfl' (Opds.cons Is.rfl' (Opds.cons Is.rfl' (Opds.cons Is.rfl' Opds.nil)))) ?_)
        rintro r H' ⟨hv2, b2_, o2_, c2_, hh2, rfl, rfl⟩
        refine LL.nil (after_code ?_)
        refine LW.seq ?_
        refine LW.region ?_
        refine X.u (LU.moveR Is.rfl') rfl ?_
        refine X.u (LU.call1 0 rfl (entries_calls g E2 hv2 b2_ o2_ c2_ (by omega) (fun e he => (ho2 e he).2.2.2.2)) Tryd.func17 rfl rfl (Opds.cons Is.rfl' Opds.nil)) rfl ?_
        refine X.u (LU.assignS Is.rfl') rfl ?_
        refine LL.nil (after_code ?_)
        refine LW.seq ?_
        refine LW.seq ?_
        refine LW.region ?_
        refine X.u (LU.moveS Is.rfl') rfl ?_
        refine X.u (LU.call1 2 rfl (hvf) Tryd.func13 rfl rfl (Opds.cons Is.rfl' Opds.nil)) rfl ?_
        refine X.u (LU.weak (LU.neq Is.rfl' Is.rfl') (asB (c := false) rfl (by rfl))) rfl ?_
        refine X.u (LU.moveR Is.rfl') rfl ?_
        refine X.doF rfl rfl (LU.moveS (by exact Is.rfl')) rfl ?_
        refine X.doF rfl rfl (LU.moveR (by exact Is.rfl')) rfl ?_
        refine X.actG rfl rfl (X.call (head_calls g E2 hv2 b2_ o2_ c2_ hh2) Tryd.func18 rfl rfl rfl (by (refine HSub.pick 0 rfl ?_); (refine HSub.pick 1 rfl ?_); exact HSub.refl _) (Opds.cons (by exact Is.rfl') Opds.nil) ?_)
        rintro r H' ⟨rfl, rfl⟩
        refine X.doF rfl rfl (LU.weak (LU.call1 1 rfl (hho) Tryd.func12 rfl rfl (Opds.cons (by exact Is.rfl') (Opds.cons (by exact Is.rfl') Opds.nil))) (asB (c := true) rfl (by rfl))) rfl ?_
        refine X.doF rfl rfl (LU.not (by exact Is.rfl')) rfl ?_
        refine X.u (LU.pickF Is.rfl' (by exact Is.rfl')) rfl ?_
        refine X.u (LU.moveR Is.rfl') rfl ?_
        refine X.doF rfl rfl (LU.moveS (by exact Is.rfl')) rfl ?_
        refine X.doF rfl rfl (LU.lenN Tryd.underlying22 (by exact Is.rfl') (by (simp only [Option.getD_some, Option.getD_none, byteEls_length, intEls_length, List.length_append, List.length_cons, List.length_nil, List.length_map, List.length_drop, List.length_take, Int.toNat_natCast]; rfl))) rfl ?_
        refine X.doF rfl rfl (LU.moveS (by exact Is.rfl')) rfl ?_
        refine X.doF rfl rfl (LU.lenN Tryd.underlying22 (by exact Is.rfl') (by (simp only [Option.getD_some, Option.getD_none, byteEls_length, intEls_length, List.length_append, List.length_cons, List.length_nil, List.length_map, List.length_drop, List.length_take, Int.toNat_natCast]; rfl))) rfl ?_
        refine X.doF rfl rfl (LU.weak (LU.lss (by exact Is.rfl') (by exact Is.rfl')) (asB (c := false) rfl (by simp; omega))) rfl ?_
        refine X.u (LU.pickF Is.rfl' (by exact Is.rfl')) rfl ?_
        refine X.u (LU.moveR Is.rfl') rfl ?_
        refine X.doF rfl rfl (LU.moveS (by exact Is.rfl')) rfl ?_
        refine X.doF rfl rfl (LU.moveS (by exact Is.rfl')) rfl ?_
        refine X.doF rfl rfl (LU.lenN Tryd.underlying22 (by exact Is.rfl') (by (simp only [Option.getD_some, Option.getD_none, byteEls_length, intEls_length, List.length_append, List.length_cons, List.length_nil, List.length_map, List.length_drop, List.length_take, Int.toNat_natCast]; rfl))) rfl ?_
        refine X.doF rfl rfl (LU.takeEnt (by exact Is.rfl') (by exact Is.rfl') (by omega)) rfl ?_
        refine X.doF rfl rfl (LU.moveS (by exact Is.rfl')) rfl ?_
        refine X.doF rfl rfl (LU.call (hsm) Tryd.func14 rfl rfl (Opds.cons (by exact Is.rfl') (Opds.cons (by exact Is.rfl') Opds.nil))) rfl ?_
        refine X.doF rfl rfl (LU.not (by exact Is.rfl')) rfl ?_
        refine X.u (LU.pickF Is.rfl' (by exact Is.rfl')) rfl ?_
        refine LL.nil (after_code ?_)
        refine X.condF rfl ?_ ?_
        · rfl
        refine LW.skip (after_code ?_)
        refine LW.region ?_
        refine X.u (LU.moveS Is.rfl') rfl ?_
        refine X.u (LU.assignS Is.rfl') rfl ?_
        refine LL.nil (after_blk (after_code ?_))
        refine LW.region ?_
        refine X.u (LU.addN Is.rfl' Is.rfl' (wrap_i64 (by omega) (by omega))) rfl ?_
        refine X.u (LU.moveR Is.rfl') rfl ?_
        refine LL.nil (after_rnd ?_)
        refine X.next ((i + 1, E2, hv2, b2_, o2_, c2_)) rfl (EnvLe.cons (by rfl) (EnvLe.cons (by rfl) (EnvLe.nil))) (Keeps.cons (by exact Eq.trans (b := .sl _ _ _) rfl rfl) (Keeps.cons (by exact Eq.trans (b := .raw _) rfl rfl) (Keeps.cons (by exact Eq.trans (b := .sl _ _ _) rfl rfl) (Keeps.cons (by exact Eq.trans (b := .raw _) rfl rfl) (Keeps.nil))))) (by repeat (first | exact HSub.refl _ | refine HSub.pick 0 rfl ?_ | refine HSub.pick 1 rfl ?_ | refine HSub.drop ?_)) ?_ ?_
        · exact ⟨by omega, by omega, hh2, hc2, ho2⟩
        · (simp; omega)
      · try have h6 := of_decide_eq_false h6
        obtain rfl : i = l.length := by omega
        refine LW.exit (exit_code (exit_rnd (exit_blk (after_code ?_))))
        refine LW.seq ?_
        refine LW.seq ?_
        refine LW.region ?_
        refine X.u (LU.moveS Is.rfl') rfl ?_
        refine X.u (LU.lenN Tryd.underlying22 Is.rfl' (by (simp only [Option.getD_some, Option.getD_none, byteEls_length, intEls_length, List.length_append, List.length_cons, List.length_nil, List.length_map, List.length_drop, List.length_take, Int.toNat_natCast]; rfl))) rfl ?_
        refine X.u (LU.moveR Is.rfl') rfl ?_
        refine LL.nil (after_code ?_)
        refine LW.block ?_
        refine X.loopK (α := Nat) (fun j => [(60, i64 j)]) [0, 4, 59] (fun j => kw :: Rf) (fun j => j ≤ es.length) (fun j => es.length - j) (0) (EnvLe.cons (by rfl) (EnvLe.nil)) (by repeat (first | exact HSub.refl _ | refine HSub.pick 2 rfl ?_ | refine HSub.drop ?_)) ?_ ?_
        · exact Nat.zero_le _
        · rintro j hI
          refine LW.seq ?_
          refine LW.region ?_
          refine X.u (LU.lss Is.rfl' Is.rfl') rfl ?_
          refine LL.nil (after_code ?_)
          refine LW.seq ?_
          refine X.cond rfl (fun h15 => ?_) (fun h15 => ?_)
          · try have h15 := of_decide_eq_true h15
            refine LW.skip (after_code ?_)
            refine LW.seq ?_
            refine LW.block ?_
            refine LW.seq ?_
            have hvt := verify_calls (es.take j) .unk (by simp; omega) (fun e he => heo e (List.mem_of_mem_take he))
            rw [(hch.take j).ver] at hvt
            refine LW.region ?_
            refine X.u (LU.moveR Is.rfl') rfl ?_
            refine X.u (LU.assignR Is.rfl') rfl ?_
            refine LL.nil (after_code ?_)
            refine LW.seq ?_
            refine LW.region ?_
            refine X.u (LU.moveS Is.rfl') rfl ?_
            refine X.u (LU.moveR Is.rfl') rfl ?_
            refine X.u (LU.takeEnt Is.rfl' Is.rfl' (by omega)) rfl ?_
            refine X.u (LU.call1 0 rfl (hvt) Tryd.func13 rfl rfl (Opds.cons Is.rfl' Opds.nil)) rfl ?_
            refine X.u (LU.weak (LU.neq Is.rfl' Is.rfl') (asB (c := false) rfl (by rfl))) rfl ?_
            refine LL.nil (after_code ?_)
            refine X.condF rfl ?_ ?_
            · rfl
            refine LW.skip (after_blk (after_code ?_))
            refine LW.region ?_
            refine X.u (LU.addN Is.rfl' Is.rfl' (wrap_i64 (by omega) (by omega))) rfl ?_
            refine X.u (LU.moveR Is.rfl') rfl ?_
            refine LL.nil (after_rnd ?_)
            refine X.next (j + 1) rfl (EnvLe.cons (by rfl) (EnvLe.nil)) (Keeps.cons (by exact Eq.trans (b := .sl _ _ _) rfl rfl) (Keeps.cons (by exact Eq.trans (b := .sl _ _ _) rfl rfl) (Keeps.cons (by exact Eq.trans (b := .raw _) rfl rfl) (Keeps.nil)))) (by repeat (exact HSub.refl _)) ?_ ?_
            · omega
            · omega
          · try have h15 := of_decide_eq_false h15
            refine LW.exit (exit_code (exit_rnd (exit_blk (after_code ?_))))
            refine LW.seq ?_
            refine LW.region ?_
            refine X.u (LU.moveS Is.rfl') rfl ?_
            refine X.u (LU.lenN Tryd.underlying22 Is.rfl' (by (simp only [Option.getD_some, Option.getD_none, byteEls_length, intEls_length, List.length_append, List.length_cons, List.length_nil, List.length_map, List.length_drop, List.length_take, Int.toNat_natCast]; rfl))) rfl ?_
            refine X.u (LU.moveS Is.rfl') rfl ?_
            refine X.u (LU.lenN Tryd.underlying46 Is.rfl' (by (simp only [Option.getD_some, Option.getD_none, byteEls_length, intEls_length, List.length_append, List.length_cons, List.length_nil, List.length_map, List.length_drop, List.length_take, Int.toNat_natCast]; rfl))) rfl ?_
            refine X.u (LU.weak (LU.leq Is.rfl' Is.rfl') (asB (c := true) rfl (by simp; omega))) rfl ?_
            refine X.u (LU.moveR Is.rfl') rfl ?_
            refine X.doT rfl rfl (LU.call1 0 rfl (lives19_calls) Tryd.func9 rfl rfl Opds.nil) rfl ?_
            refine X.u (LU.pickT Is.rfl' (by exact Is.rfl')) rfl ?_
            refine X.u (LU.assignR Is.rfl') rfl ?_
            refine LL.nil (after_code ?_)
            refine LW.ret (after_end ?_)
            refine X.ret (H' := [kw]) (Res.one (by exact IsR rfl)) (by repeat (exact HSub.refl _)) ?_
            exact ⟨rfl, rfl⟩
theorem AuditChain_row (x0 : List (List LV)) (h0 : ∀ c ∈ x0, QAc c) (h1 : x0.length * 48 ≤ reachBytes) : LCalls Tryd.prog 5 [.sl 4 x0 .unk] [kw] (fun r H' => r = bl true ∧ H' = [kw]) := by
  obtain ⟨l, rfl, hin⟩ := of_acs h0
  rw [List.length_map] at h1
  have hr := reachBytes_lt
  exact ac_calls l (by omega) hin
end Go.Proofs.YtpcfpkfchoelcaaDoor
