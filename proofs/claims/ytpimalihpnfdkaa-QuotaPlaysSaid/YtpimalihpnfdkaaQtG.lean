/- What is used is what was charged less what was given back. -/
import Derived.Test.YtpimalihpnfdkaaQtF
set_option linter.unusedVariables false
set_option linter.unusedSimpArgs false
namespace Go.Proofs.Ytpimalihpnfdkaa
open Go.RowKit Go.L
abbrev Act := Int × Int × Int × Int × Int
abbrev i64B (n : Int) : Prop := -9223372036854775808 ≤ n ∧ n < 9223372036854775808
abbrev Acts (l : List Act) : LV := .sl 5 (l.map encAct) .unk
set_option maxRecDepth 100000 in
theorem never_calls (B R W : Int) (acts : List Act) (hl : acts.length < 140737488355328) (ha : ∀ a ∈ acts, i64B a.2.1) : LCalls Try.prog 4 [lim B R W, Acts acts] [] (fun r H' => r = bl true ∧ H' = []) := by
  refine LCalls.of Try.func4 rfl Try.ntmps4 Try.results4 rfl (fun Rf => ?_)
  refine LW.seq ?_
  refine LW.region ?_
  refine X.act (X.box rfl Is.rfl' (by exact Cells.agg) (fun b2 => ?_))
  refine X.u (LU.assignR Is.rfl') rfl ?_
  refine LL.nil (after_code ?_)
  refine LW.seq ?_
  refine LW.region ?_
  refine X.u (LU.loadO 0 rfl ⟨Try.sizeOf23, Try.isAgg23⟩ Is.rfl' (Part.whole (by rfl))) rfl ?_
  refine X.act (X.call (new_calls B R W) Try.func13 rfl rfl rfl (R := .cells b2 23 [i64 B, i64 R, i64 W] :: Rf) (HSub.refl _) (Opds.cons Is.rfl' Opds.nil) ?_)
  rintro r H' (⟨hn, rfl, rfl⟩ | ⟨hr, g, rfl, rfl⟩)
  · refine X.u (LU.moveT Is.rfl') rfl ?_
    refine X.u (LU.extract Is.rfl' rfl) rfl ?_
    refine X.u (LU.extract Is.rfl' rfl) rfl ?_
    refine X.u (LU.assignR Is.rfl') rfl ?_
    refine X.u (LU.assignR Is.rfl') rfl ?_
    refine LL.nil (after_code ?_)
    refine LW.seq ?_
    refine LW.seq ?_
    refine LW.region ?_
    refine X.u (LU.moveR Is.rfl') rfl ?_
    refine X.u (LU.neq Is.rfl' Is.rfl') rfl ?_
    refine LL.nil (after_code ?_)
    refine X.condT rfl ?_ ?_
    · rfl
    refine LW.seq ?_
    refine LW.region ?_
    refine X.u (LU.moveR Is.rfl') rfl ?_
    refine X.u (LU.weak (LU.nilEqN Try.underlying25 Is.rfl' Is.rfl') (asB (c := true) rfl (by rfl))) rfl ?_
    refine X.u (LU.moveR Is.rfl') rfl ?_
    refine X.doT rfl rfl (LU.moveR (by exact Is.rfl')) rfl ?_
    refine X.doT rfl rfl (LU.weak (LU.eql (by exact Is.rfl') (by exact Is.rfl')) (asB (c := true) rfl (by rfl))) rfl ?_
    refine X.u (LU.pickT Is.rfl' (by exact Is.rfl')) rfl ?_
    refine X.u (LU.moveR Is.rfl') rfl ?_
    refine X.doT rfl rfl (LU.call (lives_calls) Try.func14 rfl rfl Opds.nil) rfl ?_
    refine X.u (LU.pickT Is.rfl' (by exact Is.rfl')) rfl ?_
    refine X.u (LU.assignR Is.rfl') rfl ?_
    refine LL.nil (after_code ?_)
    refine LW.ret (ret_code (after_end ?_))
    refine X.ret (H' := []) (Res.one (by exact IsR rfl)) (by repeat (first | exact HSub.refl _ | refine HSub.pick 0 rfl ?_ | refine HSub.pick 1 rfl ?_ | refine HSub.pick 2 rfl ?_ | refine HSub.pick 3 rfl ?_ | refine HSub.pick 4 rfl ?_ | refine HSub.drop ?_)) ?_
    exact ⟨rfl, rfl⟩
  · refine X.u (LU.moveT Is.rfl') rfl ?_
    refine X.u (LU.extract Is.rfl' rfl) rfl ?_
    refine X.u (LU.extract Is.rfl' rfl) rfl ?_
    refine X.u (LU.assignR Is.rfl') rfl ?_
    refine X.u (LU.assignR Is.rfl') rfl ?_
    refine LL.nil (after_code ?_)
    refine LW.seq ?_
    refine LW.seq ?_
    refine LW.region ?_
    refine X.u (LU.moveR Is.rfl') rfl ?_
    refine X.u (LU.neq Is.rfl' Is.rfl') rfl ?_
    refine LL.nil (after_code ?_)
    refine X.condF rfl ?_ ?_
    · rfl
    refine LW.skip (after_code ?_)
    refine LW.seq ?_
    refine LW.region ?_
    refine X.u (LU.assignR Is.rfl') rfl ?_
    refine LL.nil (after_code ?_)
    refine LW.seq ?_
    refine LW.seq ?_
    refine LW.region ?_
    refine X.u (LU.moveS Is.rfl') rfl ?_
    refine X.u (LU.lenN Try.underlying32 Is.rfl' (by (simp only [Option.getD_some, Option.getD_none, byteEls_length, intEls_length, List.length_append, List.length_cons, List.length_nil, List.length_map, List.length_drop, List.length_take, Int.toNat_natCast]; rfl))) rfl ?_
    refine X.u (LU.moveR Is.rfl') rfl ?_
    refine LL.nil (after_code ?_)
    refine LW.block ?_
    refine X.loopK (α := Nat × M) (fun ⟨i, m⟩ => [(29, i64 i), (7, i64 m.used)]) [2, 5, 27, 28] (fun ⟨i, m⟩ => [mA g m, .cells b2 23 [i64 B, i64 R, i64 W]] ++ Rf) (fun ⟨i, m⟩ => i ≤ acts.length ∧ Ok m ∧ m.B = B ∧ m.used ≤ B) (fun ⟨i, m⟩ => acts.length - i) ((0, newM B R W)) (EnvLe.cons (by rfl) (EnvLe.cons (by rfl) (EnvLe.nil))) (by exact HSub.refl _) ?_ ?_
    · exact ⟨Nat.zero_le _, ok_new hr, rfl, by have := hr; unfold rightP at this; exact this.1⟩
    · rintro ⟨i, m⟩ hI
      obtain ⟨hi, hok, hB, hub⟩ := hI
      have hu0 := hok.u0
      have hu1 := hok.u1
      have hrr := hok.r
      unfold rightP at hrr
      rw [hB] at hrr
      refine LW.seq ?_
      refine LW.region ?_
      refine X.u (LU.lss Is.rfl' Is.rfl') rfl ?_
      refine LL.nil (after_code ?_)
      refine LW.seq ?_
      refine X.cond rfl (fun h6 => ?_) (fun h6 => ?_)
      · have h6 := of_decide_eq_true h6
        have hit : i < acts.length := by omega
        have han := ha _ (List.getElem_mem hit)
        refine LW.skip (after_code ?_)
        refine LW.seq ?_
        refine LW.block ?_
        refine LW.seq ?_
        refine LW.region ?_
        refine X.u (LU.moveR Is.rfl') rfl ?_
        refine X.u (LU.at Try.underlying32 ⟨Try.sizeOf34, Try.isAgg34⟩ Is.rfl' Is.rfl' (by omega) (mapEls_at hit) (by simp)) rfl ?_
        refine X.u (LU.load ⟨Try.sizeOf34, Try.isAgg34⟩ Is.rfl' (by rfl) (Part.whole (by rfl))) rfl ?_
        refine X.act (X.alloc rfl Try.zeroValue34 (by exact Cells.rawagg (by decide)) (fun b9 => ?_))
        refine X.u (LU.assignR Is.rfl') rfl ?_
        refine X.act (X.store 0 rfl Try.sizeOf34 Is.rfl' Is.rfl' (by exact Cells.agg) (by rfl) (by exact Nat.le_of_ble_eq_true rfl) ?_)
        refine LL.nil (after_code ?_)
        refine LW.seq ?_
        refine LW.seq ?_
        refine LW.region ?_
        refine X.u (LU.moveR Is.rfl') rfl ?_
        refine X.u (LU.gtr Is.rfl' Is.rfl') rfl ?_
        refine LL.nil (after_code ?_)
        refine X.cond rfl (fun h8 => ?_) (fun h8 => ?_)
        · refine LW.exit (exit_code (exit_blk' rfl (exit_code (exit_rnd (exit_blk (after_code ?_))))))
          refine LW.seq ?_
          refine LW.region ?_
          refine X.u (LU.call (lives_calls) Try.func14 rfl rfl Opds.nil) rfl ?_
          refine X.u (LU.assignR Is.rfl') rfl ?_
          refine LL.nil (after_code ?_)
          refine LW.ret (after_end ?_)
          refine X.ret (H' := []) (Res.one (by exact IsR rfl)) (by repeat (first | exact HSub.refl _ | refine HSub.pick 0 rfl ?_ | refine HSub.pick 1 rfl ?_ | refine HSub.pick 2 rfl ?_ | refine HSub.pick 3 rfl ?_ | refine HSub.pick 4 rfl ?_ | refine HSub.drop ?_)) ?_
          exact ⟨rfl, rfl⟩
        · refine LW.skip (after_code ?_)
          refine X.meetK (α := M) (fun m2 => [(7, i64 m2.used)]) [2, 5, 27, 28, 29] (fun m2 => [mA g m2, .cells b9 34 (encAct (acts[i]'hit)), .cells b2 23 [i64 B, i64 R, i64 W]] ++ Rf) (fun m2 => Ok m2 ∧ m2.B = B ∧ m2.used ≤ B) ?_ ?_
          · refine LW.seq ?_
            refine LW.region ?_
            refine X.u (LU.fieldO Try.underlying34 rfl Try.sizeOf3 (by decide) Is.rfl') rfl ?_
            refine X.u (LU.loadO 0 rfl ⟨Try.sizeOf3, Try.isAgg3⟩ Is.rfl' (Part.one rfl)) rfl ?_
            refine LL.nil (after_code ?_)
            refine LW.block ?_
            refine LW.seq ?_
            refine LW.region ?_
            refine X.u (LU.eql Is.rfl' Is.rfl') rfl ?_
            refine X.u (LU.assignR Is.rfl') rfl ?_
            refine LL.nil (after_code ?_)
            refine X.cond rfl (fun h10 => ?_) (fun h10 => ?_)
            · refine LW.seq ?_
              refine LW.region ?_
              refine X.u (LU.moveR Is.rfl') rfl ?_
              refine X.u (LU.fieldO Try.underlying34 rfl Try.sizeOf3 (by decide) Is.rfl') rfl ?_
              refine X.u (LU.loadO 0 rfl ⟨Try.sizeOf3, Try.isAgg3⟩ Is.rfl' (Part.one rfl)) rfl ?_
              refine X.act (X.call1 1 rfl (charge_any g (acts[i]'hit).2.1 hok han.1 han.2) Try.func16 rfl rfl rfl (Opds.cons Is.rfl' (Opds.cons Is.rfl' Opds.nil)) ?_)
              rintro r H' ⟨e1, m1, rfl, rfl, ok1, hc⟩
              refine X.u (LU.assignR Is.rfl') rfl ?_
              refine LL.nil (after_code ?_)
              refine LW.seq ?_
              refine LW.region ?_
              refine X.u (LU.moveR Is.rfl') rfl ?_
              refine X.u (LU.eql Is.rfl' Is.rfl') rfl ?_
              refine LL.nil (after_code ?_)
              refine X.cond rfl (fun h12 => ?_) (fun h12 => ?_)
              · have h12 := of_decide_eq_true h12
                obtain ⟨hn0, hnb, hm1⟩ : 0 ≤ (acts[i]'hit).2.1 ∧ (acts[i]'hit).2.1 ≤ m.B - m.used ∧ m1 = { m with used := m.used + (acts[i]'hit).2.1 } := by rcases hc with ⟨_, h, _⟩ | ⟨_, _, h, _⟩ | ⟨a, b, _, c⟩; omega; omega; exact ⟨a, b, c⟩
                refine LW.seq ?_
                refine LW.seq ?_
                refine LW.region ?_
                refine X.u (LU.fieldO Try.underlying34 rfl Try.sizeOf3 (by decide) Is.rfl') rfl ?_
                refine X.u (LU.loadO 1 rfl ⟨Try.sizeOf3, Try.isAgg3⟩ Is.rfl' (Part.one rfl)) rfl ?_
                refine X.u (LU.lss Is.rfl' Is.rfl') rfl ?_
                refine X.u (LU.moveR Is.rfl') rfl ?_
                refine X.gF rfl rfl (fun hg => LU.fieldO Try.underlying34 rfl Try.sizeOf3 (by decide) (by exact Is.rfl')) rfl ?_
                refine X.gF rfl rfl (fun hg => LU.loadO 1 rfl ⟨Try.sizeOf3, Try.isAgg3⟩ (by exact Is.whenN hg) (Part.one rfl)) rfl ?_
                refine X.gF rfl rfl (fun hg => LU.fieldO Try.underlying23 rfl Try.sizeOf3 (by decide) (by exact Is.rfl')) rfl ?_
                refine X.gF rfl rfl (fun hg => LU.loadO 2 rfl ⟨Try.sizeOf3, Try.isAgg3⟩ (by exact Is.whenN hg) (Part.one rfl)) rfl ?_
                refine X.gF rfl rfl (fun hg => LU.moveR (by exact Is.rfl')) rfl ?_
                refine X.gF rfl rfl (fun hg => LU.subN (by exact Is.whenN hg) (by exact Is.whenN hg) (wrap_i64 (by omega) (by omega))) rfl ?_
                refine X.gF rfl rfl (fun hg => LU.gtr (by exact Is.whenN hg) (by exact Is.whenN hg)) rfl ?_
                refine X.u (LU.pickOr Is.rfl' Is.rfl' (fun hq => (by exact Is.whenN hq))) rfl ?_
                refine LL.nil (after_code ?_)
                refine X.condF rfl ?_ ?_
                · rw [Bool.or_eq_false_iff, decide_eq_false_iff_not, decide_eq_false_iff_not]; exact ⟨by omega, by omega⟩
                refine LW.skip (after_code ?_)
                refine LW.region ?_
                refine X.u (LU.moveR Is.rfl') rfl ?_
                refine X.u (LU.fieldO Try.underlying34 rfl Try.sizeOf3 (by decide) Is.rfl') rfl ?_
                refine X.u (LU.loadO 1 rfl ⟨Try.sizeOf3, Try.isAgg3⟩ Is.rfl' (Part.one rfl)) rfl ?_
                refine X.u (LU.weak (LU.addN Is.rfl' Is.rfl' (wrap_i64 (by omega) (by omega))) (asI (b := m1.used) rfl (by rw [hm1]))) rfl ?_
                refine X.u (LU.assignR Is.rfl') rfl ?_
                refine LL.nil (after_blk (after_rnd ?_))
                refine X.meets (m1) rfl (EnvLe.cons (by rfl) (EnvLe.nil)) (Keeps.cons rfl (Keeps.cons rfl (Keeps.cons rfl (Keeps.cons rfl (Keeps.cons rfl (Keeps.nil)))))) (by exact HSub.refl _) ?_
                exact ⟨ok1, by rw [hm1]; exact hB, by rw [hm1]; show m.used + _ ≤ B; omega⟩
              · have h12 := of_decide_eq_false h12
                have hm1 : m1 = m := by rcases hc with ⟨_, _, h⟩ | ⟨_, _, _, h⟩ | ⟨_, _, h, _⟩; exact h; exact h; omega
                have hmu : m1.used = m.used := by rw [hm1]
                refine LW.seq ?_
                refine LW.region ?_
                refine X.u (LU.moveR Is.rfl') rfl ?_
                refine X.u (LU.eql Is.rfl' Is.rfl') rfl ?_
                refine X.u (LU.moveR Is.rfl') rfl ?_
                refine X.gT rfl rfl (fun hg => LU.fieldO Try.underlying34 rfl Try.sizeOf3 (by decide) (by exact Is.rfl')) rfl ?_
                refine X.gT rfl rfl (fun hg => LU.loadO 1 rfl ⟨Try.sizeOf3, Try.isAgg3⟩ (by exact Is.whenE hg) (Part.one rfl)) rfl ?_
                refine X.gT rfl rfl (fun hg => LU.fieldO Try.underlying23 rfl Try.sizeOf3 (by decide) (by exact Is.rfl')) rfl ?_
                refine X.gT rfl rfl (fun hg => LU.loadO 2 rfl ⟨Try.sizeOf3, Try.isAgg3⟩ (by exact Is.whenE hg) (Part.one rfl)) rfl ?_
                refine X.gT rfl rfl (fun hg => LU.moveR (by exact Is.rfl')) rfl ?_
                refine X.gT rfl rfl (fun hg => LU.subN (by exact Is.whenE hg) (by exact Is.whenE hg) (wrap_i64 (by omega) (by omega))) rfl ?_
                refine X.gT rfl rfl (fun hg => LU.leq (by exact Is.whenE hg) (by exact Is.whenE hg)) rfl ?_
                refine X.u (LU.pickAnd Is.rfl' (fun hq => (by exact Is.whenE hq)) Is.rfl') rfl ?_
                refine LL.nil (after_code ?_)
                refine X.condF rfl ?_ ?_
                · cases h : decide (e1 = 180) <;> simp only [Bool.true_and, Bool.false_and]; have h := of_decide_eq_true h; rw [decide_eq_false_iff_not]; rcases hc with ⟨_, h', _⟩ | ⟨_, h', _, _⟩ | ⟨_, _, h', _⟩ <;> omega
                refine LW.skip (after_blk (after_rnd ?_))
                refine X.meets (m1) rfl (EnvLe.cons (by exact raw_int (by omega)) (EnvLe.nil)) (Keeps.cons rfl (Keeps.cons rfl (Keeps.cons rfl (Keeps.cons rfl (Keeps.cons rfl (Keeps.nil)))))) (by exact HSub.refl _) ?_
                exact ⟨ok1, by rw [hm1]; exact hB, by rw [hm1]; exact hub⟩
            · refine LW.seq ?_
              refine LW.region ?_
              refine X.u (LU.eql Is.rfl' Is.rfl') rfl ?_
              refine X.u (LU.assignR Is.rfl') rfl ?_
              refine LL.nil (after_code ?_)
              refine X.cond rfl (fun h18 => ?_) (fun h18 => ?_)
              · refine LW.seq ?_
                refine LW.region ?_
                refine X.u (LU.moveR Is.rfl') rfl ?_
                refine X.u (LU.fieldO Try.underlying34 rfl Try.sizeOf3 (by decide) Is.rfl') rfl ?_
                refine X.u (LU.loadO 0 rfl ⟨Try.sizeOf3, Try.isAgg3⟩ Is.rfl' (Part.one rfl)) rfl ?_
                refine X.act (X.call1 1 rfl (refund_any g (acts[i]'hit).2.1 hok han.1 han.2) Try.func17 rfl rfl rfl (Opds.cons Is.rfl' (Opds.cons Is.rfl' Opds.nil)) ?_)
                rintro r H' ⟨e1, m1, rfl, rfl, ok1, hc⟩
                refine X.u (LU.eql Is.rfl' Is.rfl') rfl ?_
                refine LL.nil (after_code ?_)
                refine X.cond rfl (fun h19 => ?_) (fun h19 => ?_)
                · have h19 := of_decide_eq_true h19
                  obtain ⟨hn0, hnb, hm1⟩ : 0 ≤ (acts[i]'hit).2.1 ∧ (acts[i]'hit).2.1 ≤ m.used ∧ m1 = { m with used := m.used - (acts[i]'hit).2.1 } := by rcases hc with ⟨_, h, _⟩ | ⟨a, b, _, c⟩; omega; exact ⟨a, b, c⟩
                  refine LW.seq ?_
                  refine LW.seq ?_
                  refine LW.region ?_
                  refine X.u (LU.fieldO Try.underlying34 rfl Try.sizeOf3 (by decide) Is.rfl') rfl ?_
                  refine X.u (LU.loadO 1 rfl ⟨Try.sizeOf3, Try.isAgg3⟩ Is.rfl' (Part.one rfl)) rfl ?_
                  refine X.u (LU.lss Is.rfl' Is.rfl') rfl ?_
                  refine X.u (LU.moveR Is.rfl') rfl ?_
                  refine X.gF rfl rfl (fun hg => LU.fieldO Try.underlying34 rfl Try.sizeOf3 (by decide) (by exact Is.rfl')) rfl ?_
                  refine X.gF rfl rfl (fun hg => LU.loadO 1 rfl ⟨Try.sizeOf3, Try.isAgg3⟩ (by exact Is.whenN hg) (Part.one rfl)) rfl ?_
                  refine X.gF rfl rfl (fun hg => LU.moveR (by exact Is.rfl')) rfl ?_
                  refine X.gF rfl rfl (fun hg => LU.gtr (by exact Is.whenN hg) (by exact Is.whenN hg)) rfl ?_
                  refine X.u (LU.pickOr Is.rfl' Is.rfl' (fun hq => (by exact Is.whenN hq))) rfl ?_
                  refine LL.nil (after_code ?_)
                  refine X.condF rfl ?_ ?_
                  · rw [Bool.or_eq_false_iff, decide_eq_false_iff_not, decide_eq_false_iff_not]; exact ⟨by omega, by omega⟩
                  refine LW.skip (after_code ?_)
                  refine LW.region ?_
                  refine X.u (LU.moveR Is.rfl') rfl ?_
                  refine X.u (LU.fieldO Try.underlying34 rfl Try.sizeOf3 (by decide) Is.rfl') rfl ?_
                  refine X.u (LU.loadO 1 rfl ⟨Try.sizeOf3, Try.isAgg3⟩ Is.rfl' (Part.one rfl)) rfl ?_
                  refine X.u (LU.weak (LU.subN Is.rfl' Is.rfl' (wrap_i64 (by omega) (by omega))) (asI (b := m1.used) rfl (by rw [hm1]))) rfl ?_
                  refine X.u (LU.assignR Is.rfl') rfl ?_
                  refine LL.nil (after_blk (after_rnd ?_))
                  refine X.meets (m1) rfl (EnvLe.cons (by rfl) (EnvLe.nil)) (Keeps.cons rfl (Keeps.cons rfl (Keeps.cons rfl (Keeps.cons rfl (Keeps.cons rfl (Keeps.nil)))))) (by exact HSub.refl _) ?_
                  exact ⟨ok1, by rw [hm1]; exact hB, by rw [hm1]; show m.used - _ ≤ B; omega⟩
                · have h19 := of_decide_eq_false h19
                  have hm1 : m1 = m := by rcases hc with ⟨_, _, h⟩ | ⟨_, _, h, _⟩; exact h; omega
                  have hmu : m1.used = m.used := by rw [hm1]
                  refine LW.skip (after_blk (after_rnd ?_))
                  refine X.meets (m1) rfl (EnvLe.cons (by exact raw_int (by omega)) (EnvLe.nil)) (Keeps.cons rfl (Keeps.cons rfl (Keeps.cons rfl (Keeps.cons rfl (Keeps.cons rfl (Keeps.nil)))))) (by exact HSub.refl _) ?_
                  exact ⟨ok1, by rw [hm1]; exact hB, by rw [hm1]; exact hub⟩
              · refine LW.skip (after_blk (after_rnd ?_))
                refine X.meets (m) rfl (EnvLe.cons (by rfl) (EnvLe.nil)) (Keeps.cons rfl (Keeps.cons rfl (Keeps.cons rfl (Keeps.cons rfl (Keeps.cons rfl (Keeps.nil)))))) (by repeat (first | exact HSub.refl _ | refine HSub.pick 0 rfl ?_ | refine HSub.pick 1 rfl ?_ | refine HSub.pick 2 rfl ?_ | refine HSub.pick 3 rfl ?_ | refine HSub.pick 4 rfl ?_ | refine HSub.drop ?_)) ?_
                exact ⟨hok, hB, hub⟩
          · rintro m2 hI
            have h2 := hI
            have hv0 := h2.1.u0
            have hv1 := h2.2.2
            refine LW.seq ?_
            refine LW.region ?_
            refine X.u (LU.moveR Is.rfl') rfl ?_
            refine X.u (LU.call1 0 rfl (used_ok g h2.1) Try.func18 rfl rfl (Opds.cons Is.rfl' Opds.nil)) rfl ?_
            refine X.u (LU.moveR Is.rfl') rfl ?_
            refine X.u (LU.neq Is.rfl' Is.rfl') rfl ?_
            refine X.u (LU.moveR Is.rfl') rfl ?_
            refine X.gF rfl rfl (fun hg => LU.moveR (by exact Is.rfl')) rfl ?_
            refine X.gF rfl rfl (fun hg => LU.lss (by exact Is.whenN hg) (by exact Is.rfl')) rfl ?_
            refine X.u (LU.pickOr Is.rfl' Is.rfl' (fun hq => (by exact Is.whenN hq))) rfl ?_
            refine X.u (LU.moveR Is.rfl') rfl ?_
            refine X.gF rfl rfl (fun hg => LU.moveR (by exact Is.rfl')) rfl ?_
            refine X.gF rfl rfl (fun hg => LU.fieldO Try.underlying23 rfl Try.sizeOf3 (by decide) (by exact Is.rfl')) rfl ?_
            refine X.gF rfl rfl (fun hg => LU.loadO 2 rfl ⟨Try.sizeOf3, Try.isAgg3⟩ (by exact Is.whenN hg) (Part.one rfl)) rfl ?_
            refine X.gF rfl rfl (fun hg => LU.gtr (by exact Is.whenN hg) (by exact Is.whenN hg)) rfl ?_
            refine X.u (LU.pickOr Is.rfl' Is.rfl' (fun hq => (by exact Is.whenN hq))) rfl ?_
            refine LL.nil (after_code ?_)
            refine X.condF rfl ?_ ?_
            · simp only [Bool.or_eq_false_iff, decide_eq_false_iff_not, Bool.not_eq_false', decide_eq_true_eq, true_and]; omega
            refine LW.skip (after_blk (after_code ?_))
            refine LW.region ?_
            refine X.u (LU.addN Is.rfl' Is.rfl' (wrap_i64 (by omega) (by omega))) rfl ?_
            refine X.u (LU.moveR Is.rfl') rfl ?_
            refine LL.nil (after_rnd ?_)
            refine X.next ((i + 1, m2)) rfl (EnvLe.cons (by rfl) (EnvLe.cons (by rfl) (EnvLe.nil))) (Keeps.cons rfl (Keeps.cons rfl (Keeps.cons rfl (Keeps.cons rfl (Keeps.nil))))) (by repeat (first | exact HSub.refl _ | refine HSub.pick 0 rfl ?_ | refine HSub.pick 1 rfl ?_ | refine HSub.pick 2 rfl ?_ | refine HSub.pick 3 rfl ?_ | refine HSub.pick 4 rfl ?_ | refine HSub.drop ?_)) ?_ ?_
            · exact ⟨by omega, h2.1, h2.2.1, h2.2.2⟩
            · (simp; omega)
      · refine LW.exit (exit_code (exit_rnd (exit_blk (after_code ?_))))
        refine LW.seq ?_
        refine LW.region ?_
        refine X.u (LU.call (lives_calls) Try.func14 rfl rfl Opds.nil) rfl ?_
        refine X.u (LU.assignR Is.rfl') rfl ?_
        refine LL.nil (after_code ?_)
        refine LW.ret (after_end ?_)
        refine X.ret (H' := []) (Res.one (by exact IsR rfl)) (by repeat (first | exact HSub.refl _ | refine HSub.pick 0 rfl ?_ | refine HSub.pick 1 rfl ?_ | refine HSub.pick 2 rfl ?_ | refine HSub.pick 3 rfl ?_ | refine HSub.pick 4 rfl ?_ | refine HSub.drop ?_)) ?_
        exact ⟨rfl, rfl⟩
abbrev QAct : List LV → Prop := QCons 1 (QInt .i64) (QCons 1 (QInt .i64) (QCons 3 QLim QNil))
theorem act_of {xs : List LV} (h : QAct xs) : ∃ a : Act, xs = encAct a ∧ i64B a.2.1 := by
  obtain ⟨_, _, rfl, _, ⟨k, rfl, _⟩, _, _, rfl, _, ⟨n, rfl, hn⟩, _, _, rfl, _, hq, rfl⟩ := h
  obtain ⟨B, R, W, rfl⟩ := lim_of hq
  exact ⟨(k, n, B, R, W), rfl, wf_i64 hn⟩
theorem acts_of {es : List (List LV)} (h : ∀ c ∈ es, QAct c) : ∃ l : List Act, es = l.map encAct ∧ ∀ a ∈ l, i64B a.2.1 := Go.L.decode encAct _ (fun c hc => act_of (h c hc))
theorem QuotaNever_row (x0 : List LV) (es : List (List LV)) (h0 : QLim x0) (h1 : ∀ c ∈ es, QAct c) (h2 : es.length * 40 ≤ reachBytes) : LCalls Try.prog 4 [.agg x0, .sl 5 es .unk] [] (fun r _ => r = bl true) := by
  obtain ⟨B, R, W, rfl⟩ := lim_of h0
  obtain ⟨l, rfl, hl⟩ := acts_of h1
  rw [List.length_map] at h2
  have hr := reachBytes_lt
  exact (never_calls B R W l (by omega) hl).mono fun r H' h => h.1
theorem QuotaNobody_row (x0 : List LV) (h0 : QAct x0) : LCalls Try.prog 7 [.agg x0] [] (fun r _ => r = bl true) := by
  obtain ⟨⟨k, n, B, R, W⟩, rfl, _⟩ := act_of h0
  exact (nobody_calls k n B R W).mono fun r H' h => h.1
end Go.Proofs.Ytpimalihpnfdkaa
