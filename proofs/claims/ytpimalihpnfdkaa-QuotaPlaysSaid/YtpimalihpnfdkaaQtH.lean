/- A meter answers as the document says. -/
import Derived.Test.YtpimalihpnfdkaaQtG
set_option linter.unusedVariables false
set_option linter.unusedSimpArgs false
namespace Go.Proofs.Ytpimalihpnfdkaa
open Go.RowKit Go.L
abbrev rmM (m : M) (hs : List Int) : LV := rm m.B m.R m.W m.used hs
abbrev rmC (m : M) (hs : List Int) : List LV := [i64 m.B, i64 m.R, i64 m.W, i64 m.used, Ints hs .unk]
/-- The meter and the document's. -/
structure RelP (m : M) (hs : List Int) : Prop where
  okm : Ok m
  rng : ∀ x ∈ hs, 0 ≤ x ∧ x < 9223372036854775808
  len : m.hits ≤ hs.length
  at_ : (hs = [] ∧ m.hits = 0) ∨ (0 < m.hits ∧ hs ≠ [] ∧ (hs.getLast?.getD 0).tdiv m.W = m.at_ ∧ (∀ x ∈ hs, x.tdiv m.W ≤ m.at_) ∧ (hs.countP (fun x => decide (x.tdiv m.W = m.at_)) : Int) = m.hits)
theorem relp_rel {m : M} {hs : List Int} (h : RelP m hs) : Rel m.B m.R m.W m hs := ⟨h.okm, ⟨rfl, rfl, rfl⟩, h.rng, h.len, h.at_.imp id fun ⟨a, _, _, b, c⟩ => ⟨a, b, c⟩⟩
theorem relp_last {m : M} {hs : List Int} (h : RelP m hs) (t : Int) : hitsM m t = refLast m.W hs t := by
  unfold hitsM refLast
  rcases h.at_ with ⟨rfl, h0⟩ | ⟨hp, hne, hl, hall, hc⟩
  · rw [h0]; simp
  · have hne' : hs.length ≠ 0 := fun h => hne (List.eq_nil_of_length_eq_zero h)
    rw [hl]
    by_cases hn : t < 0
    · rw [if_pos (.inl hn), if_pos (.inr (.inl hn))]
    · by_cases hw : t.tdiv m.W = m.at_
      · rw [if_neg (by omega), if_neg (by rw [hw]; simp [hn, hne'])]
        unfold cnt
        rw [if_pos (by omega), hw]
        exact hc.symm
      · rw [if_pos (.inr hw), if_pos (.inr (.inr (fun h => hw h.symm)))]
def hsN (m : M) (hs : List Int) (t : Int) : List Int := if (hitM m t).2 = 0 then hs ++ [t] else hs
theorem refHit_eq {m : M} {hs : List Int} (h : RelP m hs) (t : Int) : refHit m.R m.W hs t = (hsN m hs t, (hitM m t).2) := by
  unfold refHit hsN hitM
  have hg : (t < 0 ∨ 0 < hs.length ∧ t.tdiv m.W < (hs.getLast?.getD 0).tdiv m.W) ↔ (t < 0 ∨ 0 < m.hits ∧ t.tdiv m.W < m.at_) := by
    rcases h.at_ with ⟨rfl, h0⟩ | ⟨hp, hne, hl, _, _⟩
    · rw [h0]; simp
    · have : 0 < hs.length := List.length_pos_iff.2 hne
      rw [hl]
      omega
  by_cases h1 : t < 0 ∨ 0 < m.hits ∧ t.tdiv m.W < m.at_
  · rw [if_pos (hg.2 h1), if_pos h1]; rfl
  · rw [if_neg (fun h => h1 (hg.1 h)), if_neg h1]
    have ht : 0 ≤ t := by omega
    rw [rel_n (relp_rel h) t ht (fun h => h1 (.inr h))]
    by_cases h2 : m.R ≤ (cnt m.W t hs : Int)
    · rw [if_pos h2, if_pos h2]; rfl
    · rw [if_neg h2, if_neg h2]; rfl
theorem relp_hit {m : M} {hs : List Int} (h : RelP m hs) (hl : hs.length < 1000) (t : Int) (ht : t < 9223372036854775808) : RelP (hitM m t).1 (hsN m hs t) := by
  have hr := rel_hit (relp_rel h) hl t ht
  unfold hsN
  by_cases h0 : (hitM m t).2 = 0
  · rw [if_pos h0]
    obtain ⟨h1, h2, h3⟩ := hr.1 h0
    refine ⟨h3.okm, h3.rng, h3.len, ?_⟩
    rcases h3.at_ with ⟨hn, _⟩ | ⟨a, b, c⟩
    · simp at hn
    · rw [h3.lim.2.2]
      refine .inr ⟨a, by simp, ?_, b, c⟩
      have : (hitM m t).1.at_ = t.tdiv m.W := by
        unfold hitM at h0 ⊢
        split at h0
        · simp at h0
        · rename_i q
          split at h0
          · simp at h0
          · rename_i q2
            rw [if_neg q, if_neg q2]
      rw [this]
      simp
  · rw [if_neg h0, hr.2.1 h0]
    exact h
theorem relp_charge {m : M} {hs : List Int} (h : RelP m hs) (n : Int) : RelP (chargeM m n).1 hs := by
  have ho := ok_charge h.okm n
  unfold chargeM at ho ⊢
  split
  · exact h
  · rename_i q
    split
    · exact h
    · rename_i q2
      rw [if_neg q, if_neg q2] at ho
      exact ⟨ho, h.rng, h.len, h.at_⟩
theorem relp_refund {m : M} {hs : List Int} (h : RelP m hs) (n : Int) : RelP (refundM m n).1 hs := by
  have ho := ok_refund h.okm n
  unfold refundM at ho ⊢
  split
  · exact h
  · rename_i q
    rw [if_neg q] at ho
    exact ⟨ho, h.rng, h.len, h.at_⟩
theorem relp_set {m : M} {hs : List Int} (h : RelP m hs) (B R W : Int) : RelP (setM m B R W).1 (if rightP B R W then [] else hs) := by
  unfold setM
  split
  · rename_i q
    exact ⟨⟨q, Int.le_refl _, (by show (0 : Int) ≤ 1000000; decide), h.okm.u0, h.okm.u1⟩, by simp, by simp, .inl ⟨rfl, rfl⟩⟩
  · exact h
theorem rhit_any {m : M} {hs : List Int} (h : RelP m hs) (hl : hs.length < 1000) (t : Int) (ht : i64B t) : LCalls Try.prog 20 [rmM m hs, i64 t] [] (fun r H' => r = .tup [rmM (hitM m t).1 (hsN m hs t), i64 (hitM m t).2] ∧ H' = []) := by
  have hr := h.okm.r
  unfold rightP at hr
  refine (rhit_calls m.B m.R m.W m.used hs t hr.2.2.1 ht.1 ht.2 (by omega) h.rng).mono fun r H' ⟨h1, h2⟩ => ⟨?_, h2⟩
  rw [h1, refHit_eq h t]
  have : (hitM m t).1.B = m.B ∧ (hitM m t).1.R = m.R ∧ (hitM m t).1.W = m.W ∧ (hitM m t).1.used = m.used := by
    unfold hitM
    split
    · exact ⟨rfl, rfl, rfl, rfl⟩
    · split <;> exact ⟨rfl, rfl, rfl, rfl⟩
  unfold rmM
  rw [this.1, this.2.1, this.2.2.1, this.2.2.2]
theorem rcharge_any {m : M} {hs : List Int} (h : RelP m hs) (t : Int) (ht : i64B t) : LCalls Try.prog 21 [rmM m hs, i64 t] [] (fun r H' => r = .tup [rmM (chargeM m t).1 hs, i64 (chargeM m t).2] ∧ H' = []) := by
  have hr := h.okm.r
  unfold rightP at hr
  refine (rcharge_calls m.B m.R m.W m.used hs t ⟨hr.1, hr.2.2.2.1⟩ ⟨h.okm.u0, h.okm.u1⟩ ht.1 ht.2).mono fun r H' ⟨h1, h2⟩ => ⟨?_, h2⟩
  rw [h1]
  unfold chargeM
  split
  · rfl
  · split <;> rfl
theorem rrefund_any {m : M} {hs : List Int} (h : RelP m hs) (t : Int) (ht : i64B t) : LCalls Try.prog 22 [rmM m hs, i64 t] [] (fun r H' => r = .tup [rmM (refundM m t).1 hs, i64 (refundM m t).2] ∧ H' = []) := by
  refine (rrefund_calls m.B m.R m.W m.used hs t ⟨h.okm.u0, h.okm.u1⟩ ht.1 ht.2).mono fun r H' ⟨h1, h2⟩ => ⟨?_, h2⟩
  rw [h1]
  unfold refundM
  split <;> rfl
theorem rset_any {m : M} {hs : List Int} (h : RelP m hs) (B R W : Int) : LCalls Try.prog 24 [rmM m hs, lim B R W] [] (fun r H' => r = .tup [rmM (setM m B R W).1 (if rightP B R W then [] else hs), i64 (setM m B R W).2] ∧ H' = []) := by
  refine (rset_calls m.B m.R m.W m.used hs B R W).mono fun r H' ⟨h1, h2⟩ => ⟨?_, h2⟩
  rw [h1]
  unfold setM
  split <;> rfl
theorem rlast_any {m : M} {hs : List Int} (h : RelP m hs) (hl : hs.length < 1000) (t : Int) (ht : i64B t) : LCalls Try.prog 26 [rmM m hs, i64 t] [] (fun r H' => r = i64 (hitsM m t) ∧ H' = []) := by
  have hr := h.okm.r
  unfold rightP at hr
  exact (rlast_calls m.B m.R m.W m.used hs t hr.2.2.1 ht.1 ht.2 (by omega) h.rng).mono fun r H' ⟨h1, h2⟩ => ⟨by rw [h1, relp_last h t], h2⟩
theorem rnew_no {B R W : Int} (h : ¬ rightP B R W) : LCalls Try.prog 19 [lim B R W] [] (fun r H' => r = .tup [rm 0 0 0 0 [], i64 2] ∧ H' = []) := (rnew_calls B R W).mono fun r H' ⟨h1, h2⟩ => ⟨by rw [h1, if_neg h], h2⟩
theorem rnew_yes {B R W : Int} (h : rightP B R W) : LCalls Try.prog 19 [lim B R W] [] (fun r H' => r = .tup [rmM (newM B R W) [], i64 0] ∧ H' = []) := (rnew_calls B R W).mono fun r H' ⟨h1, h2⟩ => ⟨by rw [h1, if_pos h]; rfl, h2⟩
theorem hsN_len (m : M) (hs : List Int) (t : Int) : (hsN m hs t).length ≤ hs.length + 1 := by unfold hsN; split <;> simp
set_option maxRecDepth 100000 in
theorem plays_calls (B R W : Int) (acts : List Act) (hl : acts.length < 140737488355328) (ha : ∀ a ∈ acts, i64B a.2.1) : LCalls Try.prog 6 [lim B R W, Acts acts] [] (fun r H' => r = bl true ∧ H' = []) := by
  refine LCalls.of Try.func6 rfl Try.ntmps6 Try.results6 rfl (fun Rf => ?_)
  refine LW.seq ?_
  refine LW.region ?_
  refine X.act (X.box rfl Is.rfl' (by exact Cells.agg) (fun b2 => ?_))
  refine X.u (LU.assignR Is.rfl') rfl ?_
  refine LL.nil (after_code ?_)
  refine LW.seq ?_
  refine LW.region ?_
  refine X.u (LU.loadO 0 rfl ⟨Try.sizeOf23, Try.isAgg23⟩ Is.rfl' (Part.whole (by rfl))) rfl ?_
  refine X.act (X.call (new_calls B R W) Try.func13 rfl rfl rfl (R := .cells b2 23 [i64 B, i64 R, i64 W] :: Rf) (HSub.refl _) (Opds.cons Is.rfl' Opds.nil) ?_)
  rintro r H' (⟨hn, rfl, rfl⟩ | ⟨hr, g, rfl, rfl⟩)
  · refine X.u (LU.moveT Is.rfl') rfl ?_
    refine X.u (LU.extract Is.rfl' rfl) rfl ?_
    refine X.u (LU.extract Is.rfl' rfl) rfl ?_
    refine X.u (LU.assignR Is.rfl') rfl ?_
    refine X.u (LU.assignR Is.rfl') rfl ?_
    refine LL.nil (after_code ?_)
    refine LW.seq ?_
    refine LW.region ?_
    refine X.u (LU.loadO 0 rfl ⟨Try.sizeOf23, Try.isAgg23⟩ Is.rfl' (Part.whole (by rfl))) rfl ?_
    refine X.u (LU.call (rnew_no hn) Try.func19 rfl rfl (Opds.cons Is.rfl' Opds.nil)) rfl ?_
    refine X.u (LU.moveT Is.rfl') rfl ?_
    refine X.u (LU.extract Is.rfl' rfl) rfl ?_
    refine X.u (LU.extract Is.rfl' rfl) rfl ?_
    refine X.act (X.alloc rfl Try.zeroValue39 (by exact Cells.rawagg (by decide)) (fun b7 => ?_))
    refine X.act (X.store 0 rfl Try.sizeOf39 Is.rfl' Is.rfl' (by exact Cells.agg) (by rfl) (by exact Nat.le_of_ble_eq_true rfl) ?_)
    refine X.u (LU.assignR Is.rfl') rfl ?_
    refine LL.nil (after_code ?_)
    refine LW.seq ?_
    refine LW.seq ?_
    refine LW.region ?_
    refine X.u (LU.moveR Is.rfl') rfl ?_
    refine X.u (LU.moveR Is.rfl') rfl ?_
    refine X.u (LU.weak (LU.neq Is.rfl' Is.rfl') (asB (c := false) rfl (by decide))) rfl ?_
    refine X.u (LU.moveR Is.rfl') rfl ?_
    refine X.doF rfl rfl (LU.moveR (by exact Is.rfl')) rfl ?_
    refine X.doF rfl rfl (LU.nilEqN Try.underlying25 (by exact Is.rfl') (by exact Is.rfl')) rfl ?_
    refine X.doF rfl rfl (LU.moveR (by exact Is.rfl')) rfl ?_
    refine X.doF rfl rfl (LU.neq (by exact Is.rfl') (by exact Is.rfl')) rfl ?_
    refine X.doF rfl rfl (LU.weak (LU.boolne Try.underlying4 (by exact Is.rfl') (by exact Is.rfl')) (asB (c := false) rfl (by decide))) rfl ?_
    refine X.u (LU.pickF Is.rfl' (by exact Is.rfl')) rfl ?_
    refine X.u (LU.moveR Is.rfl') rfl ?_
    refine X.doF rfl rfl (LU.moveS (by exact Is.rfl')) rfl ?_
    refine X.doF rfl rfl (LU.lenN Try.underlying32 (by exact Is.rfl') (by (simp only [Option.getD_some, Option.getD_none, byteEls_length, intEls_length, List.length_append, List.length_cons, List.length_nil, List.length_map, List.length_drop, List.length_take, Int.toNat_natCast]; rfl))) rfl ?_
    refine X.doF rfl rfl (LU.gtr (by exact Is.rfl') (by exact Is.rfl')) rfl ?_
    refine X.u (LU.pickF Is.rfl' (by exact Is.rfl')) rfl ?_
    refine LL.nil (after_code ?_)
    refine X.cond rfl (fun h3 => ?_) (fun h3 => ?_)
    · refine LW.seq ?_
      refine LW.region ?_
      refine X.u (LU.moveR Is.rfl') rfl ?_
      refine X.u (LU.moveR Is.rfl') rfl ?_
      refine X.u (LU.weak (LU.eql Is.rfl' Is.rfl') (asB (c := true) rfl (by decide))) rfl ?_
      refine X.u (LU.moveR Is.rfl') rfl ?_
      refine X.doT rfl rfl (LU.moveR (by exact Is.rfl')) rfl ?_
      refine X.doT rfl rfl (LU.nilEqN Try.underlying25 (by exact Is.rfl') (by exact Is.rfl')) rfl ?_
      refine X.doT rfl rfl (LU.moveR (by exact Is.rfl')) rfl ?_
      refine X.doT rfl rfl (LU.neq (by exact Is.rfl') (by exact Is.rfl')) rfl ?_
      refine X.doT rfl rfl (LU.weak (LU.booleq Try.underlying4 (by exact Is.rfl') (by exact Is.rfl')) (asB (c := true) rfl (by decide))) rfl ?_
      refine X.u (LU.pickT Is.rfl' (by exact Is.rfl')) rfl ?_
      refine X.u (LU.moveR Is.rfl') rfl ?_
      refine X.doT rfl rfl (LU.call (lives_calls) Try.func14 rfl rfl Opds.nil) rfl ?_
      refine X.u (LU.pickT Is.rfl' (by exact Is.rfl')) rfl ?_
      refine X.u (LU.assignR Is.rfl') rfl ?_
      refine LL.nil (after_code ?_)
      refine LW.ret (ret_code (after_end ?_))
      refine X.ret (H' := []) (Res.one (by exact IsR rfl)) (by repeat (first | exact HSub.refl _ | refine HSub.pick 0 rfl ?_ | refine HSub.pick 1 rfl ?_ | refine HSub.pick 2 rfl ?_ | refine HSub.pick 3 rfl ?_ | refine HSub.pick 4 rfl ?_ | refine HSub.drop ?_)) ?_
      exact ⟨rfl, rfl⟩
    · refine LW.skip (after_code ?_)
      refine LW.seq ?_
      refine LW.seq ?_
      refine LW.region ?_
      refine X.u (LU.assignR Is.rfl') rfl ?_
      refine LL.nil (after_code ?_)
      refine LW.block ?_
      refine X.loopK (α := Unit) (fun u => [(9, i64 0)]) [1, 5, 7] (fun _ => _) (fun u => True) (fun u => 0) (()) (EnvLe.cons (by rfl) (EnvLe.nil)) (HSub.refl _) ?_ ?_
      · trivial
      · rintro u hI
        refine LW.seq ?_
        refine LW.seq ?_
        refine LW.region ?_
        refine X.u (LU.moveR Is.rfl') rfl ?_
        refine X.u (LU.moveS Is.rfl') rfl ?_
        refine X.u (LU.lenN Try.underlying32 Is.rfl' (by (simp only [Option.getD_some, Option.getD_none, byteEls_length, intEls_length, List.length_append, List.length_cons, List.length_nil, List.length_map, List.length_drop, List.length_take, Int.toNat_natCast]; rfl))) rfl ?_
        refine X.u (LU.lss Is.rfl' Is.rfl') rfl ?_
        refine X.u (LU.moveR Is.rfl') rfl ?_
        refine X.gT rfl rfl (fun hg => LU.moveR (by exact Is.rfl')) rfl ?_
        refine X.gT rfl rfl (fun hg => LU.nilNeN Try.underlying25 (by exact Is.whenE hg) (by exact Is.rfl')) rfl ?_
        refine X.u (LU.pickAnd Is.rfl' (fun hq => (by exact Is.whenE hq)) Is.rfl') rfl ?_
        refine LL.nil (after_code ?_)
        refine X.condF rfl ?_ ?_
        · simp
        refine LW.exit (exit_code (exit_rnd (exit_blk (after_code ?_))))
        refine LW.seq ?_
        refine LW.region ?_
        refine X.u (LU.call (lives_calls) Try.func14 rfl rfl Opds.nil) rfl ?_
        refine X.u (LU.assignR Is.rfl') rfl ?_
        refine LL.nil (after_code ?_)
        refine LW.ret (after_end ?_)
        refine X.ret (H' := []) (Res.one (by exact IsR rfl)) (by repeat (first | exact HSub.refl _ | refine HSub.pick 0 rfl ?_ | refine HSub.pick 1 rfl ?_ | refine HSub.pick 2 rfl ?_ | refine HSub.pick 3 rfl ?_ | refine HSub.pick 4 rfl ?_ | refine HSub.drop ?_)) ?_
        exact ⟨rfl, rfl⟩
  · refine X.u (LU.moveT Is.rfl') rfl ?_
    refine X.u (LU.extract Is.rfl' rfl) rfl ?_
    refine X.u (LU.extract Is.rfl' rfl) rfl ?_
    refine X.u (LU.assignR Is.rfl') rfl ?_
    refine X.u (LU.assignR Is.rfl') rfl ?_
    refine LL.nil (after_code ?_)
    refine LW.seq ?_
    refine LW.region ?_
    refine X.u (LU.loadO 1 rfl ⟨Try.sizeOf23, Try.isAgg23⟩ Is.rfl' (Part.whole (by rfl))) rfl ?_
    refine X.u (LU.call (rnew_yes hr) Try.func19 rfl rfl (Opds.cons Is.rfl' Opds.nil)) rfl ?_
    refine X.u (LU.moveT Is.rfl') rfl ?_
    refine X.u (LU.extract Is.rfl' rfl) rfl ?_
    refine X.u (LU.extract Is.rfl' rfl) rfl ?_
    refine X.act (X.alloc rfl Try.zeroValue39 (by exact Cells.rawagg (by decide)) (fun b7 => ?_))
    refine X.act (X.store 0 rfl Try.sizeOf39 Is.rfl' Is.rfl' (by exact Cells.agg) (by rfl) (by exact Nat.le_of_ble_eq_true rfl) ?_)
    refine X.u (LU.assignR Is.rfl') rfl ?_
    refine LL.nil (after_code ?_)
    refine LW.seq ?_
    refine LW.seq ?_
    refine LW.region ?_
    refine X.u (LU.moveR Is.rfl') rfl ?_
    refine X.u (LU.moveR Is.rfl') rfl ?_
    refine X.u (LU.weak (LU.neq Is.rfl' Is.rfl') (asB (c := false) rfl (by decide))) rfl ?_
    refine X.u (LU.moveR Is.rfl') rfl ?_
    refine X.doF rfl rfl (LU.moveR (by exact Is.rfl')) rfl ?_
    refine X.doF rfl rfl (LU.nilEqS Try.underlying25 (by exact Is.rfl') (by exact Is.rfl')) rfl ?_
    refine X.doF rfl rfl (LU.moveR (by exact Is.rfl')) rfl ?_
    refine X.doF rfl rfl (LU.neq (by exact Is.rfl') (by exact Is.rfl')) rfl ?_
    refine X.doF rfl rfl (LU.weak (LU.boolne Try.underlying4 (by exact Is.rfl') (by exact Is.rfl')) (asB (c := false) rfl (by decide))) rfl ?_
    refine X.u (LU.pickF Is.rfl' (by exact Is.rfl')) rfl ?_
    refine X.u (LU.moveR Is.rfl') rfl ?_
    refine X.doF rfl rfl (LU.moveS (by exact Is.rfl')) rfl ?_
    refine X.doF rfl rfl (LU.lenN Try.underlying32 (by exact Is.rfl') (by (simp only [Option.getD_some, Option.getD_none, byteEls_length, intEls_length, List.length_append, List.length_cons, List.length_nil, List.length_map, List.length_drop, List.length_take, Int.toNat_natCast]; rfl))) rfl ?_
    refine X.doF rfl rfl (LU.gtr (by exact Is.rfl') (by exact Is.rfl')) rfl ?_
    refine X.u (LU.pickF Is.rfl' (by exact Is.rfl')) rfl ?_
    refine LL.nil (after_code ?_)
    refine X.cond rfl (fun h3 => ?_) (fun h3 => ?_)
    · refine LW.seq ?_
      refine LW.region ?_
      refine X.u (LU.moveR Is.rfl') rfl ?_
      refine X.u (LU.moveR Is.rfl') rfl ?_
      refine X.u (LU.weak (LU.eql Is.rfl' Is.rfl') (asB (c := true) rfl (by decide))) rfl ?_
      refine X.u (LU.moveR Is.rfl') rfl ?_
      refine X.doT rfl rfl (LU.moveR (by exact Is.rfl')) rfl ?_
      refine X.doT rfl rfl (LU.nilEqS Try.underlying25 (by exact Is.rfl') (by exact Is.rfl')) rfl ?_
      refine X.doT rfl rfl (LU.moveR (by exact Is.rfl')) rfl ?_
      refine X.doT rfl rfl (LU.neq (by exact Is.rfl') (by exact Is.rfl')) rfl ?_
      refine X.doT rfl rfl (LU.weak (LU.booleq Try.underlying4 (by exact Is.rfl') (by exact Is.rfl')) (asB (c := true) rfl (by decide))) rfl ?_
      refine X.u (LU.pickT Is.rfl' (by exact Is.rfl')) rfl ?_
      refine X.u (LU.moveR Is.rfl') rfl ?_
      refine X.doT rfl rfl (LU.call (lives_calls) Try.func14 rfl rfl Opds.nil) rfl ?_
      refine X.u (LU.pickT Is.rfl' (by exact Is.rfl')) rfl ?_
      refine X.u (LU.assignR Is.rfl') rfl ?_
      refine LL.nil (after_code ?_)
      refine LW.ret (ret_code (after_end ?_))
      refine X.ret (H' := []) (Res.one (by exact IsR rfl)) (by repeat (first | exact HSub.refl _ | refine HSub.pick 0 rfl ?_ | refine HSub.pick 1 rfl ?_ | refine HSub.pick 2 rfl ?_ | refine HSub.pick 3 rfl ?_ | refine HSub.pick 4 rfl ?_ | refine HSub.drop ?_)) ?_
      exact ⟨rfl, rfl⟩
    · have h3 : (acts.length : Int) ≤ 300 := by simpa using h3
      refine LW.skip (after_code ?_)
      refine LW.seq ?_
      refine LW.seq ?_
      refine LW.region ?_
      refine X.u (LU.assignR Is.rfl') rfl ?_
      refine LL.nil (after_code ?_)
      refine LW.block ?_
      refine X.loopK (α := Nat × M × List Int × Int) (fun ⟨i, m, hs, e⟩ => [(9, i64 i), (6, i64 e), (8, i64 e)]) [1, 5, 7] (fun ⟨i, m, hs, e⟩ => [mA g m, .cells b7 39 (rmC m hs), .cells b2 23 [i64 B, i64 R, i64 W]] ++ Rf) (fun ⟨i, m, hs, e⟩ => i ≤ acts.length ∧ hs.length ≤ i ∧ RelP m hs) (fun ⟨i, m, hs, e⟩ => acts.length - i) ((0, newM B R W, [], 0)) (EnvLe.cons (by rfl) (EnvLe.cons (by rfl) (EnvLe.cons (by rfl) (EnvLe.nil)))) (by repeat (first | exact HSub.refl _ | refine HSub.pick 0 rfl ?_ | refine HSub.pick 1 rfl ?_ | refine HSub.pick 2 rfl ?_ | refine HSub.pick 3 rfl ?_ | refine HSub.pick 4 rfl ?_ | refine HSub.drop ?_)) ?_ ?_
      · exact ⟨Nat.zero_le _, Nat.le_refl _, ok_new hr, by simp, by simp [newM], .inl ⟨rfl, rfl⟩⟩
      · rintro ⟨i, m, hs, e⟩ hI
        obtain ⟨hi, hhs, hrel⟩ := hI
        refine LW.seq ?_
        refine LW.seq ?_
        refine LW.region ?_
        refine X.u (LU.moveR Is.rfl') rfl ?_
        refine X.u (LU.moveS Is.rfl') rfl ?_
        refine X.u (LU.lenN Try.underlying32 Is.rfl' (by (simp only [Option.getD_some, Option.getD_none, byteEls_length, intEls_length, List.length_append, List.length_cons, List.length_nil, List.length_map, List.length_drop, List.length_take, Int.toNat_natCast]; rfl))) rfl ?_
        refine X.u (LU.lss Is.rfl' Is.rfl') rfl ?_
        refine X.u (LU.moveR Is.rfl') rfl ?_
        refine X.gT rfl rfl (fun hg => LU.moveR (by exact Is.rfl')) rfl ?_
        refine X.gT rfl rfl (fun hg => LU.nilNeS Try.underlying25 (by exact Is.whenE hg) (by exact Is.rfl')) rfl ?_
        refine X.u (LU.pickAnd Is.rfl' (fun hq => (by exact Is.whenE hq)) Is.rfl') rfl ?_
        refine LL.nil (after_code ?_)
        refine X.cond rfl (fun h6 => ?_) (fun h6 => ?_)
        · have hit : i < acts.length := by simpa using h6
          have han := ha _ (List.getElem_mem hit)
          refine LW.skip (after_code ?_)
          refine LW.seq ?_
          refine LW.block ?_
          refine LW.seq ?_
          refine LW.region ?_
          refine X.u (LU.moveS Is.rfl') rfl ?_
          refine X.u (LU.moveR Is.rfl') rfl ?_
          refine X.u (LU.at Try.underlying32 ⟨Try.sizeOf34, Try.isAgg34⟩ Is.rfl' Is.rfl' (by omega) (mapEls_at hit) (by simp)) rfl ?_
          refine X.u (LU.load ⟨Try.sizeOf34, Try.isAgg34⟩ Is.rfl' (by rfl) (Part.whole (by rfl))) rfl ?_
          refine X.act (X.alloc rfl Try.zeroValue34 (by exact Cells.rawagg (by decide)) (fun b10 => ?_))
          refine X.act (X.store 0 rfl Try.sizeOf34 Is.rfl' Is.rfl' (by exact Cells.agg) (by rfl) (by exact Nat.le_of_ble_eq_true rfl) ?_)
          refine LL.nil (after_code ?_)
          refine X.meetK (α := M × List Int × Int) (fun ⟨m2, hs2, e2⟩ => [(6, i64 e2), (8, i64 e2)]) [1, 5, 7, 9, 10] (fun ⟨m2, hs2, e2⟩ => [mA g m2, .cells b10 34 (encAct (acts[i]'hit)), .cells b7 39 (rmC m2 hs2), .cells b2 23 [i64 B, i64 R, i64 W]] ++ Rf) (fun ⟨m2, hs2, e2⟩ => hs2.length ≤ i + 1 ∧ RelP m2 hs2) ?_ ?_
          · refine LW.seq ?_
            refine LW.region ?_
            refine X.u (LU.fieldO Try.underlying34 rfl Try.sizeOf3 (by decide) Is.rfl') rfl ?_
            refine X.u (LU.loadO 0 rfl ⟨Try.sizeOf3, Try.isAgg3⟩ Is.rfl' (Part.one rfl)) rfl ?_
            refine LL.nil (after_code ?_)
            refine LW.block ?_
            refine LW.seq ?_
            refine LW.region ?_
            refine X.u (LU.eql Is.rfl' Is.rfl') rfl ?_
            refine X.u (LU.assignR Is.rfl') rfl ?_
            refine LL.nil (after_code ?_)
            refine X.cond rfl (fun h12 => ?_) (fun h12 => ?_)
            · refine LW.seq ?_
              refine LW.region ?_
              refine X.u (LU.moveR Is.rfl') rfl ?_
              refine X.u (LU.fieldO Try.underlying34 rfl Try.sizeOf3 (by decide) Is.rfl') rfl ?_
              refine X.u (LU.loadO 0 rfl ⟨Try.sizeOf3, Try.isAgg3⟩ Is.rfl' (Part.one rfl)) rfl ?_
              refine X.act (X.call1 1 rfl (hit_calls g m (acts[i]'hit).2.1 hrel.okm han.1 han.2) Try.func15 rfl rfl rfl (Opds.cons Is.rfl' (Opds.cons Is.rfl' Opds.nil)) ?_)
              rintro r H' ⟨rfl, rfl⟩
              refine X.u (LU.assignR Is.rfl') rfl ?_
              refine LL.nil (after_code ?_)
              refine LW.region ?_
              refine X.u (LU.loadO 2 rfl ⟨Try.sizeOf39, Try.isAgg39⟩ Is.rfl' (Part.whole (by rfl))) rfl ?_
              refine X.u (LU.fieldO Try.underlying34 rfl Try.sizeOf3 (by decide) Is.rfl') rfl ?_
              refine X.u (LU.loadO 1 rfl ⟨Try.sizeOf3, Try.isAgg3⟩ Is.rfl' (Part.one rfl)) rfl ?_
              refine X.u (LU.call (rhit_any hrel (by omega) (acts[i]'hit).2.1 han) Try.func20 rfl rfl (Opds.cons Is.rfl' (Opds.cons Is.rfl' Opds.nil))) rfl ?_
              refine X.u (LU.moveT Is.rfl') rfl ?_
              refine X.u (LU.extract Is.rfl' rfl) rfl ?_
              refine X.u (LU.extract Is.rfl' rfl) rfl ?_
              refine X.act (X.store 2 rfl Try.sizeOf39 Is.rfl' Is.rfl' (by exact Cells.agg) (by rfl) (by exact Nat.le_of_ble_eq_true rfl) ?_)
              refine X.u (LU.assignR Is.rfl') rfl ?_
              refine LL.nil (after_blk (after_rnd ?_))
              refine X.meets (((hitM m (acts[i]'hit).2.1).1, hsN m hs (acts[i]'hit).2.1, (hitM m (acts[i]'hit).2.1).2)) rfl (EnvLe.cons (by rfl) (EnvLe.cons (by rfl) (EnvLe.nil))) (Keeps.cons rfl (Keeps.cons rfl (Keeps.cons rfl (Keeps.cons rfl (Keeps.cons rfl (Keeps.nil)))))) (by repeat (first | exact HSub.refl _ | refine HSub.pick 0 rfl ?_ | refine HSub.pick 1 rfl ?_ | refine HSub.pick 2 rfl ?_ | refine HSub.pick 3 rfl ?_ | refine HSub.pick 4 rfl ?_ | refine HSub.drop ?_)) ?_
              exact ⟨by have := hsN_len m hs (acts[i]'hit).2.1; omega, relp_hit hrel (by omega) _ han.2⟩
            · refine LW.seq ?_
              refine LW.region ?_
              refine X.u (LU.eql Is.rfl' Is.rfl') rfl ?_
              refine X.u (LU.assignR Is.rfl') rfl ?_
              refine LL.nil (after_code ?_)
              refine X.cond rfl (fun h15 => ?_) (fun h15 => ?_)
              · refine LW.seq ?_
                refine LW.region ?_
                refine X.u (LU.moveR Is.rfl') rfl ?_
                refine X.u (LU.fieldO Try.underlying34 rfl Try.sizeOf3 (by decide) Is.rfl') rfl ?_
                refine X.u (LU.loadO 0 rfl ⟨Try.sizeOf3, Try.isAgg3⟩ Is.rfl' (Part.one rfl)) rfl ?_
                refine X.act (X.call1 1 rfl (charge_calls g m (acts[i]'hit).2.1 hrel.okm han.1 han.2) Try.func16 rfl rfl rfl (Opds.cons Is.rfl' (Opds.cons Is.rfl' Opds.nil)) ?_)
                rintro r H' ⟨rfl, rfl⟩
                refine X.u (LU.assignR Is.rfl') rfl ?_
                refine LL.nil (after_code ?_)
                refine LW.region ?_
                refine X.u (LU.loadO 2 rfl ⟨Try.sizeOf39, Try.isAgg39⟩ Is.rfl' (Part.whole (by rfl))) rfl ?_
                refine X.u (LU.fieldO Try.underlying34 rfl Try.sizeOf3 (by decide) Is.rfl') rfl ?_
                refine X.u (LU.loadO 1 rfl ⟨Try.sizeOf3, Try.isAgg3⟩ Is.rfl' (Part.one rfl)) rfl ?_
                refine X.u (LU.call (rcharge_any hrel (acts[i]'hit).2.1 han) Try.func21 rfl rfl (Opds.cons Is.rfl' (Opds.cons Is.rfl' Opds.nil))) rfl ?_
                refine X.u (LU.moveT Is.rfl') rfl ?_
                refine X.u (LU.extract Is.rfl' rfl) rfl ?_
                refine X.u (LU.extract Is.rfl' rfl) rfl ?_
                refine X.act (X.store 2 rfl Try.sizeOf39 Is.rfl' Is.rfl' (by exact Cells.agg) (by rfl) (by exact Nat.le_of_ble_eq_true rfl) ?_)
                refine X.u (LU.assignR Is.rfl') rfl ?_
                refine LL.nil (after_blk (after_rnd ?_))
                refine X.meets (((chargeM m (acts[i]'hit).2.1).1, hs, (chargeM m (acts[i]'hit).2.1).2)) rfl (EnvLe.cons (by rfl) (EnvLe.cons (by rfl) (EnvLe.nil))) (Keeps.cons rfl (Keeps.cons rfl (Keeps.cons rfl (Keeps.cons rfl (Keeps.cons rfl (Keeps.nil)))))) (by repeat (first | exact HSub.refl _ | refine HSub.pick 0 rfl ?_ | refine HSub.pick 1 rfl ?_ | refine HSub.pick 2 rfl ?_ | refine HSub.pick 3 rfl ?_ | refine HSub.pick 4 rfl ?_ | refine HSub.drop ?_)) ?_
                exact ⟨by omega, relp_charge hrel _⟩
              · refine LW.seq ?_
                refine LW.region ?_
                refine X.u (LU.eql Is.rfl' Is.rfl') rfl ?_
                refine X.u (LU.assignR Is.rfl') rfl ?_
                refine LL.nil (after_code ?_)
                refine X.cond rfl (fun h18 => ?_) (fun h18 => ?_)
                · refine LW.seq ?_
                  refine LW.region ?_
                  refine X.u (LU.moveR Is.rfl') rfl ?_
                  refine X.u (LU.fieldO Try.underlying34 rfl Try.sizeOf3 (by decide) Is.rfl') rfl ?_
                  refine X.u (LU.loadO 0 rfl ⟨Try.sizeOf3, Try.isAgg3⟩ Is.rfl' (Part.one rfl)) rfl ?_
                  refine X.act (X.call1 1 rfl (refund_calls g m (acts[i]'hit).2.1 hrel.okm han.1 han.2) Try.func17 rfl rfl rfl (Opds.cons Is.rfl' (Opds.cons Is.rfl' Opds.nil)) ?_)
                  rintro r H' ⟨rfl, rfl⟩
                  refine X.u (LU.assignR Is.rfl') rfl ?_
                  refine LL.nil (after_code ?_)
                  refine LW.region ?_
                  refine X.u (LU.loadO 2 rfl ⟨Try.sizeOf39, Try.isAgg39⟩ Is.rfl' (Part.whole (by rfl))) rfl ?_
                  refine X.u (LU.fieldO Try.underlying34 rfl Try.sizeOf3 (by decide) Is.rfl') rfl ?_
                  refine X.u (LU.loadO 1 rfl ⟨Try.sizeOf3, Try.isAgg3⟩ Is.rfl' (Part.one rfl)) rfl ?_
                  refine X.u (LU.call (rrefund_any hrel (acts[i]'hit).2.1 han) Try.func22 rfl rfl (Opds.cons Is.rfl' (Opds.cons Is.rfl' Opds.nil))) rfl ?_
                  refine X.u (LU.moveT Is.rfl') rfl ?_
                  refine X.u (LU.extract Is.rfl' rfl) rfl ?_
                  refine X.u (LU.extract Is.rfl' rfl) rfl ?_
                  refine X.act (X.store 2 rfl Try.sizeOf39 Is.rfl' Is.rfl' (by exact Cells.agg) (by rfl) (by exact Nat.le_of_ble_eq_true rfl) ?_)
                  refine X.u (LU.assignR Is.rfl') rfl ?_
                  refine LL.nil (after_blk (after_rnd ?_))
                  refine X.meets (((refundM m (acts[i]'hit).2.1).1, hs, (refundM m (acts[i]'hit).2.1).2)) rfl (EnvLe.cons (by rfl) (EnvLe.cons (by rfl) (EnvLe.nil))) (Keeps.cons rfl (Keeps.cons rfl (Keeps.cons rfl (Keeps.cons rfl (Keeps.cons rfl (Keeps.nil)))))) (by repeat (first | exact HSub.refl _ | refine HSub.pick 0 rfl ?_ | refine HSub.pick 1 rfl ?_ | refine HSub.pick 2 rfl ?_ | refine HSub.pick 3 rfl ?_ | refine HSub.pick 4 rfl ?_ | refine HSub.drop ?_)) ?_
                  exact ⟨by omega, relp_refund hrel _⟩
                · refine LW.seq ?_
                  refine LW.region ?_
                  refine X.u (LU.moveR Is.rfl') rfl ?_
                  refine X.u (LU.fieldO Try.underlying34 rfl Try.sizeOf23 (by decide) Is.rfl') rfl ?_
                  refine X.u (LU.loadO 0 rfl ⟨Try.sizeOf23, Try.isAgg23⟩ Is.rfl' (Part.sub (by exact Nat.le_of_ble_eq_true rfl))) rfl ?_
                  refine X.act (X.call1 1 rfl (set_calls g m (acts[i]'hit).2.2.1 (acts[i]'hit).2.2.2.1 (acts[i]'hit).2.2.2.2 hrel.okm) Try.func23 rfl rfl rfl (Opds.cons Is.rfl' (Opds.cons Is.rfl' Opds.nil)) ?_)
                  rintro r H' ⟨rfl, rfl⟩
                  refine X.u (LU.assignR Is.rfl') rfl ?_
                  refine LL.nil (after_code ?_)
                  refine LW.region ?_
                  refine X.u (LU.loadO 2 rfl ⟨Try.sizeOf39, Try.isAgg39⟩ Is.rfl' (Part.whole (by rfl))) rfl ?_
                  refine X.u (LU.fieldO Try.underlying34 rfl Try.sizeOf23 (by decide) Is.rfl') rfl ?_
                  refine X.u (LU.loadO 1 rfl ⟨Try.sizeOf23, Try.isAgg23⟩ Is.rfl' (Part.sub (by exact Nat.le_of_ble_eq_true rfl))) rfl ?_
                  refine X.u (LU.call (rset_any hrel (acts[i]'hit).2.2.1 (acts[i]'hit).2.2.2.1 (acts[i]'hit).2.2.2.2) Try.func24 rfl rfl (Opds.cons Is.rfl' (Opds.cons Is.rfl' Opds.nil))) rfl ?_
                  refine X.u (LU.moveT Is.rfl') rfl ?_
                  refine X.u (LU.extract Is.rfl' rfl) rfl ?_
                  refine X.u (LU.extract Is.rfl' rfl) rfl ?_
                  refine X.act (X.store 2 rfl Try.sizeOf39 Is.rfl' Is.rfl' (by exact Cells.agg) (by rfl) (by exact Nat.le_of_ble_eq_true rfl) ?_)
                  refine X.u (LU.assignR Is.rfl') rfl ?_
                  refine LL.nil (after_blk (after_rnd ?_))
                  refine X.meets (((setM m (acts[i]'hit).2.2.1 (acts[i]'hit).2.2.2.1 (acts[i]'hit).2.2.2.2).1, (if rightP (acts[i]'hit).2.2.1 (acts[i]'hit).2.2.2.1 (acts[i]'hit).2.2.2.2 then [] else hs), (setM m (acts[i]'hit).2.2.1 (acts[i]'hit).2.2.2.1 (acts[i]'hit).2.2.2.2).2)) rfl (EnvLe.cons (by rfl) (EnvLe.cons (by rfl) (EnvLe.nil))) (Keeps.cons rfl (Keeps.cons rfl (Keeps.cons rfl (Keeps.cons rfl (Keeps.cons rfl (Keeps.nil)))))) (by repeat (first | exact HSub.refl _ | refine HSub.pick 0 rfl ?_ | refine HSub.pick 1 rfl ?_ | refine HSub.pick 2 rfl ?_ | refine HSub.pick 3 rfl ?_ | refine HSub.pick 4 rfl ?_ | refine HSub.drop ?_)) ?_
                  exact ⟨by split <;> first | (simp; done) | omega, relp_set hrel _ _ _⟩
          · rintro ⟨m2, hs2, e2⟩ hI
            have h2 := hI
            refine LW.seq ?_
            refine X.drawM 21 rfl (by kernel_rfl) rfl ?_
            refine QD.u (LU.moveR Is.rfl') rfl ?_
            refine QD.u (LU.moveR Is.rfl') rfl ?_
            refine QD.u (LU.weak (LU.neq Is.rfl' Is.rfl') (asB (c := false) rfl (by simp))) rfl ?_
            refine QD.u (LU.moveR Is.rfl') rfl ?_
            refine QD.doF rfl rfl (LU.moveR (by exact Is.rfl')) rfl ?_
            refine QD.doF rfl rfl (LU.call1 0 rfl (used_ok g h2.2.okm) Try.func18 rfl rfl (Opds.cons (by exact Is.rfl') Opds.nil)) rfl ?_
            refine QD.doF rfl rfl (LU.fieldO Try.underlying39 rfl Try.sizeOf3 (by decide) (by exact Is.rfl')) rfl ?_
            refine QD.doF rfl rfl (LU.loadO 2 rfl ⟨Try.sizeOf3, Try.isAgg3⟩ (by exact Is.rfl') (Part.one rfl)) rfl ?_
            refine QD.doF rfl rfl (LU.weak (LU.neq (by exact Is.rfl') (by exact Is.rfl')) (asB (c := false) rfl (by simp))) rfl ?_
            refine QD.u (LU.pickF Is.rfl' (by exact Is.rfl')) rfl ?_
            refine QD.u (LU.moveR Is.rfl') rfl ?_
            refine QD.doF rfl rfl (LU.moveR (by exact Is.rfl')) rfl ?_
            refine QD.doF rfl rfl (LU.fieldO Try.underlying34 rfl Try.sizeOf3 (by decide) (by exact Is.rfl')) rfl ?_
            refine QD.doF rfl rfl (LU.loadO 1 rfl ⟨Try.sizeOf3, Try.isAgg3⟩ (by exact Is.rfl') (Part.one rfl)) rfl ?_
            refine QD.doF rfl rfl (LU.call1 0 rfl (hits_calls g m2 (acts[i]'hit).2.1 h2.2.okm han.1 han.2) Try.func25 rfl rfl (Opds.cons (by exact Is.rfl') (Opds.cons (by exact Is.rfl') Opds.nil))) rfl ?_
            refine QD.doF rfl rfl (LU.loadO 2 rfl ⟨Try.sizeOf39, Try.isAgg39⟩ (by exact Is.rfl') (Part.whole (by rfl))) rfl ?_
            refine QD.doF rfl rfl (LU.fieldO Try.underlying34 rfl Try.sizeOf3 (by decide) (by exact Is.rfl')) rfl ?_
            refine QD.doF rfl rfl (LU.loadO 1 rfl ⟨Try.sizeOf3, Try.isAgg3⟩ (by exact Is.rfl') (Part.one rfl)) rfl ?_
            refine QD.doF rfl rfl (LU.call (rlast_any h2.2 (by omega) (acts[i]'hit).2.1 han) Try.func26 rfl rfl (Opds.cons (by exact Is.rfl') (Opds.cons (by exact Is.rfl') Opds.nil))) rfl ?_
            refine QD.doF rfl rfl (LU.weak (LU.neq (by exact Is.rfl') (by exact Is.rfl')) (asB (c := false) rfl (by simp))) rfl ?_
            refine QD.u (LU.pickF Is.rfl' (by exact Is.rfl')) rfl ?_
            refine QD.nil ?_
            refine LL.nil (after_code ?_)
            refine X.condF rfl ?_ ?_
            · rfl
            refine LW.skip (after_blk (after_code ?_))
            refine LW.region ?_
            refine X.u (LU.moveR Is.rfl') rfl ?_
            refine X.u (LU.addN Is.rfl' Is.rfl' (wrap_i64 (by omega) (by omega))) rfl ?_
            refine X.u (LU.assignR Is.rfl') rfl ?_
            refine LL.nil (after_rnd ?_)
            refine X.next ((i + 1, m2, hs2, e2)) rfl (EnvLe.cons (by rfl) (EnvLe.cons (by rfl) (EnvLe.cons (by rfl) (EnvLe.nil)))) (Keeps.cons rfl (Keeps.cons rfl (Keeps.cons rfl (Keeps.nil)))) (by repeat (first | exact HSub.refl _ | refine HSub.pick 0 rfl ?_ | refine HSub.pick 1 rfl ?_ | refine HSub.pick 2 rfl ?_ | refine HSub.pick 3 rfl ?_ | refine HSub.pick 4 rfl ?_ | refine HSub.drop ?_)) ?_ ?_
            · exact ⟨by omega, by omega, h2.2⟩
            · (simp; omega)
        · refine LW.exit (exit_code (exit_rnd (exit_blk (after_code ?_))))
          refine LW.seq ?_
          refine LW.region ?_
          refine X.u (LU.call (lives_calls) Try.func14 rfl rfl Opds.nil) rfl ?_
          refine X.u (LU.assignR Is.rfl') rfl ?_
          refine LL.nil (after_code ?_)
          refine LW.ret (after_end ?_)
          refine X.ret (H' := []) (Res.one (by exact IsR rfl)) (by repeat (first | exact HSub.refl _ | refine HSub.pick 0 rfl ?_ | refine HSub.pick 1 rfl ?_ | refine HSub.pick 2 rfl ?_ | refine HSub.pick 3 rfl ?_ | refine HSub.pick 4 rfl ?_ | refine HSub.drop ?_)) ?_
          exact ⟨rfl, rfl⟩
theorem QuotaPlays_row (x0 : List LV) (es : List (List LV)) (h0 : QLim x0) (h1 : ∀ c ∈ es, QAct c) (h2 : es.length * 40 ≤ reachBytes) : LCalls Try.prog 6 [.agg x0, .sl 5 es .unk] [] (fun r _ => r = bl true) := by
  obtain ⟨B, R, W, rfl⟩ := lim_of h0
  obtain ⟨l, rfl, hl⟩ := acts_of h1
  rw [List.length_map] at h2
  have hr := reachBytes_lt
  exact (plays_calls B R W l (by omega) hl).mono fun r H' h => h.1
end Go.Proofs.Ytpimalihpnfdkaa
