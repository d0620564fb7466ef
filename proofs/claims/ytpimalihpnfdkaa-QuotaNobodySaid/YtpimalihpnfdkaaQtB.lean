/- The meter, further. -/
import Derived.Test.YtpimalihpnfdkaaQtA
set_option linter.unusedVariables false
set_option linter.unusedSimpArgs false
namespace Go.Proofs.Ytpimalihpnfdkaa
open Go.RowKit Go.L
/-- A meter that is one. -/
structure Ok (m : M) : Prop where
  r : rightP m.B m.R m.W
  h0 : 0 ≤ m.hits
  h1 : m.hits ≤ 1000000
  u0 : 0 ≤ m.used
  u1 : m.used ≤ 1099511627776
theorem Ok.some {m : M} (h : Ok m) : ¬ noneM m := fun hn => by
  have := h.r
  unfold rightP at this
  unfold noneM at hn
  omega
theorem none_ok {m : M} (g : Nat) (h : Ok m) : LCalls Try.prog 54 [ptr g] [mA g m] (fun r H' => r = bl false ∧ H' = [mA g m]) :=
  (none_calls g m).mono fun r H' ⟨h1, h2⟩ => ⟨by rw [h1, decide_eq_false h.some], h2⟩
def hitsM (m : M) (now : Int) : Int := if now < 0 ∨ now.tdiv m.W ≠ m.at_ then 0 else m.hits
set_option maxRecDepth 100000 in
theorem hits_calls (g : Nat) (m : M) (now : Int) (hm : Ok m) (n0 : -9223372036854775808 ≤ now) (n1 : now < 9223372036854775808) : LCalls Try.prog 25 [ptr g, i64 now] [mA g m] (fun r H' => r = i64 (hitsM m now) ∧ H' = [mA g m]) := by
  have hr := hm.r
  unfold rightP at hr
  refine LCalls.of Try.func25 rfl Try.ntmps25 Try.results25 rfl (fun Rf => ?_)
  refine LW.seq ?_
  refine LW.region ?_
  refine X.u (LU.assignR Is.rfl') rfl ?_
  refine LL.nil (after_code ?_)
  refine LW.seq ?_
  refine LW.seq ?_
  refine X.drawM 21 rfl (by kernel_rfl) rfl ?_
  refine QD.u (LU.moveR Is.rfl') rfl ?_
  refine QD.u (LU.call1 0 rfl (none_ok g hm) Try.func54 rfl rfl (Opds.cons Is.rfl' Opds.nil)) rfl ?_
  refine QD.u (LU.moveR Is.rfl') rfl ?_
  refine QD.doF rfl rfl (LU.moveR (by exact Is.rfl')) rfl ?_
  refine QD.doF rfl rfl (LU.lss (by exact Is.rfl') (by exact Is.rfl')) rfl ?_
  refine QD.u (LU.pickF Is.rfl' (by exact Is.rfl')) rfl ?_
  refine QD.u (LU.moveR Is.rfl') rfl ?_
  refine QD.gF rfl rfl (fun hg => LU.moveR (by exact Is.rfl')) rfl ?_
  refine QD.gF rfl rfl (fun hg => LU.moveR (by exact Is.rfl')) rfl ?_
  refine QD.gF rfl rfl (fun hg => LU.nilCheck (by exact Is.whenN hg)) rfl ?_
  refine QD.gF rfl rfl (fun hg => LU.fieldO Try.underlying48 rfl Try.sizeOf23 (by decide) (by exact Is.whenN hg)) rfl ?_
  refine QD.gF rfl rfl (fun hg => LU.fieldO Try.underlying23 rfl Try.sizeOf3 (by decide) (by exact Is.whenN hg)) rfl ?_
  refine QD.gF rfl rfl (fun hg => LU.loadO 0 rfl ⟨Try.sizeOf3, Try.isAgg3⟩ (by exact Is.whenN hg) (Part.one rfl)) rfl ?_
  refine QD.gF rfl rfl (fun hg => LU.quoN (by exact Is.whenN hg) (by exact Is.whenN hg) (by omega) (tdiv_i64 (by omega) (by omega) (by omega))) rfl ?_
  refine QD.gF rfl rfl (fun hg => LU.moveR (by exact Is.rfl')) rfl ?_
  refine QD.gF rfl rfl (fun hg => LU.nilCheck (by exact Is.whenN hg)) rfl ?_
  refine QD.gF rfl rfl (fun hg => LU.fieldO Try.underlying48 rfl Try.sizeOf46 (by decide) (by exact Is.whenN hg)) rfl ?_
  refine QD.gF rfl rfl (fun hg => LU.fieldO Try.underlying46 rfl Try.sizeOf3 (by decide) (by exact Is.whenN hg)) rfl ?_
  refine QD.gF rfl rfl (fun hg => LU.loadO 0 rfl ⟨Try.sizeOf3, Try.isAgg3⟩ (by exact Is.whenN hg) (Part.one rfl)) rfl ?_
  refine QD.gF rfl rfl (fun hg => LU.neq (by exact Is.whenN hg) (by exact Is.whenN hg)) rfl ?_
  refine QD.u (LU.pickOr Is.rfl' Is.rfl' (fun hq => (by exact Is.whenN hq))) rfl ?_
  refine QD.nil ?_
  refine LL.nil (after_code ?_)
  refine X.cond rfl (fun h1 => ?_) (fun h1 => ?_)
  · refine LW.seq ?_
    refine LW.region ?_
    refine X.u (LU.assignR Is.rfl') rfl ?_
    refine LL.nil (after_code ?_)
    refine LW.ret (ret_code (after_end ?_))
    refine X.ret (H' := [mA g m]) (Res.one (by exact IsR rfl)) (by exact HSub.refl _) ?_
    exact ⟨by unfold hitsM; rw [if_pos (by simpa using h1)], rfl⟩
  · refine LW.skip (after_code ?_)
    refine LW.seq ?_
    refine LW.region ?_
    refine X.u (LU.moveR Is.rfl') rfl ?_
    refine X.u (LU.nilCheck Is.rfl') rfl ?_
    refine X.u (LU.fieldO Try.underlying48 rfl Try.sizeOf46 (by decide) Is.rfl') rfl ?_
    refine X.u (LU.fieldO Try.underlying46 rfl Try.sizeOf3 (by decide) Is.rfl') rfl ?_
    refine X.u (LU.loadO 0 rfl ⟨Try.sizeOf3, Try.isAgg3⟩ Is.rfl' (Part.one rfl)) rfl ?_
    refine X.u (LU.assignR Is.rfl') rfl ?_
    refine LL.nil (after_code ?_)
    refine LW.ret (after_end ?_)
    refine X.ret (H' := [mA g m]) (Res.one (by exact IsR rfl)) (by exact HSub.refl _) ?_
    exact ⟨by unfold hitsM; rw [if_neg (by simpa using h1)], rfl⟩
/-- A hit. -/
def hitM (m : M) (now : Int) : M × Int :=
  if now < 0 ∨ (0 < m.hits ∧ now.tdiv m.W < m.at_) then (m, 2)
  else if m.R ≤ hitsM m now then (m, 181)
  else ({ m with at_ := now.tdiv m.W, hits := hitsM m now + 1 }, 0)
set_option maxRecDepth 100000 in
theorem hit_calls (g : Nat) (m : M) (now : Int) (hm : Ok m) (n0 : -9223372036854775808 ≤ now) (n1 : now < 9223372036854775808) : LCalls Try.prog 15 [ptr g, i64 now] [mA g m] (fun r H' => r = i64 (hitM m now).2 ∧ H' = [mA g (hitM m now).1]) := by
  have hr := hm.r
  unfold rightP at hr
  have hh : 0 ≤ hitsM m now ∧ hitsM m now ≤ 1000000 := by
    have := hm.h0
    have := hm.h1
    unfold hitsM
    split <;> omega
  refine LCalls.of Try.func15 rfl Try.ntmps15 Try.results15 rfl (fun Rf => ?_)
  refine LW.seq ?_
  refine LW.region ?_
  refine X.u (LU.assignR Is.rfl') rfl ?_
  refine LL.nil (after_code ?_)
  refine LW.seq ?_
  refine LW.seq ?_
  refine LW.region ?_
  refine X.u (LU.moveR Is.rfl') rfl ?_
  refine X.u (LU.call1 0 rfl (none_ok g hm) Try.func54 rfl rfl (Opds.cons Is.rfl' Opds.nil)) rfl ?_
  refine LL.nil (after_code ?_)
  refine X.cond rfl (fun h1 => ?_) (fun h1 => ?_)
  · cases h1
  · refine LW.skip (after_code ?_)
    refine LW.seq ?_
    refine LW.region ?_
    refine X.u (LU.moveR Is.rfl') rfl ?_
    refine X.u (LU.moveR Is.rfl') rfl ?_
    refine X.u (LU.nilCheck Is.rfl') rfl ?_
    refine X.u (LU.fieldO Try.underlying48 rfl Try.sizeOf23 (by decide) Is.rfl') rfl ?_
    refine X.u (LU.fieldO Try.underlying23 rfl Try.sizeOf3 (by decide) Is.rfl') rfl ?_
    refine X.u (LU.loadO 0 rfl ⟨Try.sizeOf3, Try.isAgg3⟩ Is.rfl' (Part.one rfl)) rfl ?_
    refine X.u (LU.quoN Is.rfl' Is.rfl' (by omega) (tdiv_i64 (by omega) (by omega) (by omega))) rfl ?_
    refine X.u (LU.assignR Is.rfl') rfl ?_
    refine LL.nil (after_code ?_)
    refine LW.seq ?_
    refine LW.block ?_
    refine LW.seq ?_
    refine LW.region ?_
    refine X.u (LU.moveR Is.rfl') rfl ?_
    refine X.u (LU.lss Is.rfl' Is.rfl') rfl ?_
    refine X.u (LU.moveR Is.rfl') rfl ?_
    refine X.gF rfl rfl (fun hg => LU.moveR (by exact Is.rfl')) rfl ?_
    refine X.gF rfl rfl (fun hg => LU.nilCheck (by exact Is.whenN hg)) rfl ?_
    refine X.gF rfl rfl (fun hg => LU.fieldO Try.underlying48 rfl Try.sizeOf46 (by decide) (by exact Is.whenN hg)) rfl ?_
    refine X.gF rfl rfl (fun hg => LU.fieldO Try.underlying46 rfl Try.sizeOf3 (by decide) (by exact Is.whenN hg)) rfl ?_
    refine X.gF rfl rfl (fun hg => LU.loadO 0 rfl ⟨Try.sizeOf3, Try.isAgg3⟩ (by exact Is.whenN hg) (Part.one rfl)) rfl ?_
    refine X.gF rfl rfl (fun hg => LU.gtr (by exact Is.whenN hg) (by exact Is.rfl')) rfl ?_
    refine X.gF rfl rfl (fun hg => LU.moveR (by exact Is.whenN hg)) rfl ?_
    refine X.gT2 rfl rfl (fun hg0 hg => LU.moveR (by exact Is.rfl')) rfl ?_
    refine X.gT2 rfl rfl (fun hg0 hg => LU.moveR (by exact Is.rfl')) rfl ?_
    refine X.gT2 rfl rfl (fun hg0 hg => LU.nilCheck (by exact Is.whenE (by rw [hg0, hg]; rfl))) rfl ?_
    refine X.gT2 rfl rfl (fun hg0 hg => LU.fieldO Try.underlying48 rfl Try.sizeOf46 (by decide) (by exact Is.whenE (by rw [hg0, hg]; rfl))) rfl ?_
    refine X.gT2 rfl rfl (fun hg0 hg => LU.fieldO Try.underlying46 rfl Try.sizeOf3 (by decide) (by exact Is.whenE (by rw [hg0, hg]; rfl))) rfl ?_
    refine X.gT2 rfl rfl (fun hg0 hg => LU.loadO 0 rfl ⟨Try.sizeOf3, Try.isAgg3⟩ (by exact Is.whenE (by rw [hg0, hg]; rfl)) (Part.one rfl)) rfl ?_
    refine X.gT2 rfl rfl (fun hg0 hg => LU.lss (by exact Is.whenE (by rw [hg0, hg]; rfl)) (by exact Is.whenE (by rw [hg0, hg]; rfl))) rfl ?_
    refine X.gF rfl rfl (fun hg => LU.pickAnd (by exact Is.whenN hg) (fun hq => (by exact Is.whenE (by rw [hg, hq]; rfl))) (by exact Is.rfl')) rfl ?_
    refine X.u (LU.pickOr Is.rfl' Is.rfl' (fun hq => (by exact Is.whenN hq))) rfl ?_
    refine X.u (LU.assignR Is.rfl') rfl ?_
    refine LL.nil (after_code ?_)
    refine X.cond rfl (fun h4 => ?_) (fun h4 => ?_)
    · refine LW.seq ?_
      refine LW.region ?_
      refine X.u (LU.assignR Is.rfl') rfl ?_
      refine LL.nil (after_code ?_)
      refine LW.ret (ret_blk (ret_code (after_end ?_)))
      refine X.ret (H' := [mA g m]) (Res.one (by exact IsR rfl)) (by exact HSub.refl _) ?_
      have h4 : now < 0 ∨ (0 < m.hits ∧ now.tdiv m.W < m.at_) := by simpa using h4
      unfold hitM
      rw [if_pos h4]
      exact ⟨rfl, rfl⟩
    · refine LW.seq ?_
      refine X.drawM 10 rfl (by kernel_rfl) rfl ?_
      refine QD.u (LU.moveR Is.rfl') rfl ?_
      refine QD.u (LU.moveR Is.rfl') rfl ?_
      refine QD.u (LU.call1 0 rfl (hits_calls g m now hm n0 n1) Try.func25 rfl rfl (Opds.cons Is.rfl' (Opds.cons Is.rfl' Opds.nil))) rfl ?_
      refine QD.u (LU.moveR Is.rfl') rfl ?_
      refine QD.u (LU.nilCheck Is.rfl') rfl ?_
      refine QD.u (LU.fieldO Try.underlying48 rfl Try.sizeOf23 (by decide) Is.rfl') rfl ?_
      refine QD.u (LU.fieldO Try.underlying23 rfl Try.sizeOf3 (by decide) Is.rfl') rfl ?_
      refine QD.u (LU.loadO 0 rfl ⟨Try.sizeOf3, Try.isAgg3⟩ Is.rfl' (Part.one rfl)) rfl ?_
      refine QD.u (LU.geq Is.rfl' Is.rfl') rfl ?_
      refine QD.u (LU.assignR Is.rfl') rfl ?_
      refine QD.nil ?_
      refine LL.nil (after_code ?_)
      refine X.cond rfl (fun h6 => ?_) (fun h6 => ?_)
      · refine LW.seq ?_
        refine LW.region ?_
        refine X.u (LU.assignR Is.rfl') rfl ?_
        refine LL.nil (after_code ?_)
        refine LW.ret (ret_blk (ret_code (after_end ?_)))
        refine X.ret (H' := [mA g m]) (Res.one (by exact IsR rfl)) (by exact HSub.refl _) ?_
        have h4 : ¬ (now < 0 ∨ (0 < m.hits ∧ now.tdiv m.W < m.at_)) := by simpa using h4
        have h6 : m.R ≤ hitsM m now := by simpa using h6
        unfold hitM
        rw [if_neg h4, if_pos h6]
        exact ⟨rfl, rfl⟩
      · refine LW.skip (after_blk (after_code ?_))
        refine LW.seq ?_
        refine LW.region ?_
        refine X.u (LU.moveR Is.rfl') rfl ?_
        refine X.u (LU.moveR Is.rfl') rfl ?_
        refine X.u (LU.moveR Is.rfl') rfl ?_
        refine X.u (LU.moveR Is.rfl') rfl ?_
        refine X.u (LU.call1 0 rfl (hits_calls g m now hm n0 n1) Try.func25 rfl rfl (Opds.cons Is.rfl' (Opds.cons Is.rfl' Opds.nil))) rfl ?_
        refine X.u (LU.addN Is.rfl' Is.rfl' (wrap_i64 (by omega) (by omega))) rfl ?_
        refine X.u (LU.build (places := #[(0, 1), (1, 1)]) Try.underlying46 Try.zeroValue46 (ones rfl) (by intro w; simp [Try.sizeOf3]) (Parts.cons Is.rfl' (by exact Cells.raw rfl) (Parts.cons Is.rfl' (by exact Cells.raw rfl) Parts.nil)) rfl) rfl ?_
        refine X.u (LU.nilCheck Is.rfl') rfl ?_
        refine X.u (LU.fieldO Try.underlying48 rfl Try.sizeOf46 (by decide) Is.rfl') rfl ?_
        refine X.act (X.store 0 rfl Try.sizeOf46 Is.rfl' Is.rfl' (by exact Cells.agg) (by rfl) (by exact Nat.le_of_ble_eq_true rfl) ?_)
        refine LL.nil (after_code ?_)
        refine LW.seq ?_
        refine LW.region ?_
        refine X.u (LU.assignR Is.rfl') rfl ?_
        refine LL.nil (after_code ?_)
        refine LW.ret (after_end ?_)
        refine X.ret (H' := [mA g { m with at_ := now.tdiv m.W, hits := hitsM m now + 1 }]) (Res.one (by exact IsR rfl)) (by exact HSub.refl _) ?_
        have h4 : ¬ (now < 0 ∨ (0 < m.hits ∧ now.tdiv m.W < m.at_)) := by simpa using h4
        have h6 : ¬ m.R ≤ hitsM m now := by simpa using h6
        unfold hitM
        rw [if_neg h4, if_neg h6]
        exact ⟨rfl, rfl⟩
def chargeM (m : M) (n : Int) : M × Int := if n < 0 then (m, 2) else if m.B - m.used < n then (m, 180) else ({ m with used := m.used + n }, 0)
set_option maxRecDepth 100000 in
theorem charge_calls (g : Nat) (m : M) (n : Int) (hm : Ok m) (n0 : -9223372036854775808 ≤ n) (n1 : n < 9223372036854775808) : LCalls Try.prog 16 [ptr g, i64 n] [mA g m] (fun r H' => r = i64 (chargeM m n).2 ∧ H' = [mA g (chargeM m n).1]) := by
  have hr := hm.r
  unfold rightP at hr
  have hu0 := hm.u0
  have hu1 := hm.u1
  refine LCalls.of Try.func16 rfl Try.ntmps16 Try.results16 rfl (fun Rf => ?_)
  refine LW.seq ?_
  refine LW.region ?_
  refine X.u (LU.assignR Is.rfl') rfl ?_
  refine LL.nil (after_code ?_)
  refine LW.seq ?_
  refine LW.block ?_
  refine LW.seq ?_
  refine LW.region ?_
  refine X.u (LU.moveR Is.rfl') rfl ?_
  refine X.u (LU.call1 0 rfl (none_ok g hm) Try.func54 rfl rfl (Opds.cons Is.rfl' Opds.nil)) rfl ?_
  refine X.u (LU.assignR Is.rfl') rfl ?_
  refine LL.nil (after_code ?_)
  refine X.cond rfl (fun h1 => ?_) (fun h1 => ?_)
  · cases h1
  · refine LW.seq ?_
    refine LW.region ?_
    refine X.u (LU.moveR Is.rfl') rfl ?_
    refine X.u (LU.lss Is.rfl' Is.rfl') rfl ?_
    refine X.u (LU.assignR Is.rfl') rfl ?_
    refine LL.nil (after_code ?_)
    refine X.cond rfl (fun h3 => ?_) (fun h3 => ?_)
    · refine LW.seq ?_
      refine LW.region ?_
      refine X.u (LU.assignR Is.rfl') rfl ?_
      refine LL.nil (after_code ?_)
      refine LW.ret (ret_blk (ret_code (after_end ?_)))
      refine X.ret (H' := [mA g m]) (Res.one (by exact IsR rfl)) (by exact HSub.refl _) ?_
      unfold chargeM; rw [if_pos (of_decide_eq_true h3)]; exact ⟨rfl, rfl⟩
    · have h3 := of_decide_eq_false h3
      refine LW.seq ?_
      refine X.drawM 13 rfl (by kernel_rfl) rfl ?_
      refine QD.u (LU.moveR Is.rfl') rfl ?_
      refine QD.u (LU.moveR Is.rfl') rfl ?_
      refine QD.u (LU.nilCheck Is.rfl') rfl ?_
      refine QD.u (LU.fieldO Try.underlying48 rfl Try.sizeOf23 (by decide) Is.rfl') rfl ?_
      refine QD.u (LU.fieldO Try.underlying23 rfl Try.sizeOf3 (by decide) Is.rfl') rfl ?_
      refine QD.u (LU.loadO 0 rfl ⟨Try.sizeOf3, Try.isAgg3⟩ Is.rfl' (Part.one rfl)) rfl ?_
      refine QD.u (LU.moveR Is.rfl') rfl ?_
      refine QD.u (LU.nilCheck Is.rfl') rfl ?_
      refine QD.u (LU.fieldO Try.underlying48 rfl Try.sizeOf3 (by decide) Is.rfl') rfl ?_
      refine QD.u (LU.loadO 0 rfl ⟨Try.sizeOf3, Try.isAgg3⟩ Is.rfl' (Part.one rfl)) rfl ?_
      refine QD.u (LU.subN Is.rfl' Is.rfl' (wrap_i64 (by omega) (by omega))) rfl ?_
      refine QD.u (LU.gtr Is.rfl' Is.rfl') rfl ?_
      refine QD.u (LU.assignR Is.rfl') rfl ?_
      refine QD.nil ?_
      refine LL.nil (after_code ?_)
      refine X.cond rfl (fun h5 => ?_) (fun h5 => ?_)
      · refine LW.seq ?_
        refine LW.region ?_
        refine X.u (LU.assignR Is.rfl') rfl ?_
        refine LL.nil (after_code ?_)
        refine LW.ret (ret_blk (ret_code (after_end ?_)))
        refine X.ret (H' := [mA g m]) (Res.one (by exact IsR rfl)) (by exact HSub.refl _) ?_
        unfold chargeM; rw [if_neg h3, if_pos (of_decide_eq_true h5)]; exact ⟨rfl, rfl⟩
      · have h5 := of_decide_eq_false h5
        refine LW.skip (after_blk (after_code ?_))
        refine LW.seq ?_
        refine LW.region ?_
        refine X.u (LU.moveR Is.rfl') rfl ?_
        refine X.u (LU.nilCheck Is.rfl') rfl ?_
        refine X.u (LU.fieldO Try.underlying48 rfl Try.sizeOf3 (by decide) Is.rfl') rfl ?_
        refine X.u (LU.loadO 0 rfl ⟨Try.sizeOf3, Try.isAgg3⟩ Is.rfl' (Part.one rfl)) rfl ?_
        refine X.u (LU.moveR Is.rfl') rfl ?_
        refine X.u (LU.addN Is.rfl' Is.rfl' (wrap_i64 (by omega) (by omega))) rfl ?_
        refine X.u (LU.nilCheck Is.rfl') rfl ?_
        refine X.u (LU.fieldO Try.underlying48 rfl Try.sizeOf3 (by decide) Is.rfl') rfl ?_
        refine X.act (X.store 0 rfl Try.sizeOf3 Is.rfl' Is.rfl' (by exact Cells.raw rfl) (by rfl) (by exact Nat.le_of_ble_eq_true rfl) ?_)
        refine LL.nil (after_code ?_)
        refine LW.seq ?_
        refine LW.region ?_
        refine X.u (LU.assignR Is.rfl') rfl ?_
        refine LL.nil (after_code ?_)
        refine LW.ret (after_end ?_)
        refine X.ret (H' := [mA g { m with used := m.used + n }]) (Res.one (by exact IsR rfl)) (by exact HSub.refl _) ?_
        unfold chargeM; rw [if_neg h3, if_neg h5]; exact ⟨rfl, rfl⟩
def refundM (m : M) (n : Int) : M × Int := if n < 0 ∨ m.used < n then (m, 2) else ({ m with used := m.used - n }, 0)
set_option maxRecDepth 100000 in
theorem refund_calls (g : Nat) (m : M) (n : Int) (hm : Ok m) (n0 : -9223372036854775808 ≤ n) (n1 : n < 9223372036854775808) : LCalls Try.prog 17 [ptr g, i64 n] [mA g m] (fun r H' => r = i64 (refundM m n).2 ∧ H' = [mA g (refundM m n).1]) := by
  have hr := hm.r
  unfold rightP at hr
  have hu0 := hm.u0
  have hu1 := hm.u1
  refine LCalls.of Try.func17 rfl Try.ntmps17 Try.results17 rfl (fun Rf => ?_)
  refine LW.seq ?_
  refine LW.region ?_
  refine X.u (LU.assignR Is.rfl') rfl ?_
  refine LL.nil (after_code ?_)
  refine LW.seq ?_
  refine LW.block ?_
  refine LW.seq ?_
  refine LW.region ?_
  refine X.u (LU.moveR Is.rfl') rfl ?_
  refine X.u (LU.call1 0 rfl (none_ok g hm) Try.func54 rfl rfl (Opds.cons Is.rfl' Opds.nil)) rfl ?_
  refine X.u (LU.assignR Is.rfl') rfl ?_
  refine LL.nil (after_code ?_)
  refine X.cond rfl (fun h1 => ?_) (fun h1 => ?_)
  · cases h1
  · refine LW.seq ?_
    refine LW.region ?_
    refine X.u (LU.moveR Is.rfl') rfl ?_
    refine X.u (LU.lss Is.rfl' Is.rfl') rfl ?_
    refine X.u (LU.moveR Is.rfl') rfl ?_
    refine X.gF rfl rfl (fun hg => LU.moveR (by exact Is.rfl')) rfl ?_
    refine X.gF rfl rfl (fun hg => LU.moveR (by exact Is.rfl')) rfl ?_
    refine X.gF rfl rfl (fun hg => LU.nilCheck (by exact Is.whenN hg)) rfl ?_
    refine X.gF rfl rfl (fun hg => LU.fieldO Try.underlying48 rfl Try.sizeOf3 (by decide) (by exact Is.whenN hg)) rfl ?_
    refine X.gF rfl rfl (fun hg => LU.loadO 0 rfl ⟨Try.sizeOf3, Try.isAgg3⟩ (by exact Is.whenN hg) (Part.one rfl)) rfl ?_
    refine X.gF rfl rfl (fun hg => LU.gtr (by exact Is.whenN hg) (by exact Is.whenN hg)) rfl ?_
    refine X.u (LU.pickOr Is.rfl' Is.rfl' (fun hq => (by exact Is.whenN hq))) rfl ?_
    refine X.u (LU.assignR Is.rfl') rfl ?_
    refine LL.nil (after_code ?_)
    refine X.cond rfl (fun h3 => ?_) (fun h3 => ?_)
    · have h3 : n < 0 ∨ m.used < n := by simpa using h3
      refine LW.seq ?_
      refine LW.region ?_
      refine X.u (LU.assignR Is.rfl') rfl ?_
      refine LL.nil (after_code ?_)
      refine LW.ret (ret_blk (ret_code (after_end ?_)))
      refine X.ret (H' := [mA g m]) (Res.one (by exact IsR rfl)) (by exact HSub.refl _) ?_
      unfold refundM; rw [if_pos h3]; exact ⟨rfl, rfl⟩
    · have h3 : ¬ (n < 0 ∨ m.used < n) := by simpa using h3
      refine LW.skip (after_blk (after_code ?_))
      refine LW.seq ?_
      refine LW.region ?_
      refine X.u (LU.moveR Is.rfl') rfl ?_
      refine X.u (LU.nilCheck Is.rfl') rfl ?_
      refine X.u (LU.fieldO Try.underlying48 rfl Try.sizeOf3 (by decide) Is.rfl') rfl ?_
      refine X.u (LU.loadO 0 rfl ⟨Try.sizeOf3, Try.isAgg3⟩ Is.rfl' (Part.one rfl)) rfl ?_
      refine X.u (LU.moveR Is.rfl') rfl ?_
      refine X.u (LU.subN Is.rfl' Is.rfl' (wrap_i64 (by omega) (by omega))) rfl ?_
      refine X.u (LU.nilCheck Is.rfl') rfl ?_
      refine X.u (LU.fieldO Try.underlying48 rfl Try.sizeOf3 (by decide) Is.rfl') rfl ?_
      refine X.act (X.store 0 rfl Try.sizeOf3 Is.rfl' Is.rfl' (by exact Cells.raw rfl) (by rfl) (by exact Nat.le_of_ble_eq_true rfl) ?_)
      refine LL.nil (after_code ?_)
      refine LW.seq ?_
      refine LW.region ?_
      refine X.u (LU.assignR Is.rfl') rfl ?_
      refine LL.nil (after_code ?_)
      refine LW.ret (after_end ?_)
      refine X.ret (H' := [mA g { m with used := m.used - n }]) (Res.one (by exact IsR rfl)) (by exact HSub.refl _) ?_
      unfold refundM; rw [if_neg h3]; exact ⟨rfl, rfl⟩
def setM (m : M) (B R W : Int) : M × Int := if rightP B R W then (⟨B, R, W, 0, 0, m.used⟩, 0) else (m, 2)
set_option maxRecDepth 100000 in
theorem set_calls (g : Nat) (m : M) (B R W : Int) (hm : Ok m) : LCalls Try.prog 23 [ptr g, lim B R W] [mA g m] (fun r H' => r = i64 (setM m B R W).2 ∧ H' = [mA g (setM m B R W).1]) := by
  refine LCalls.of Try.func23 rfl Try.ntmps23 Try.results23 rfl (fun Rf => ?_)
  refine LW.seq ?_
  refine LW.region ?_
  refine X.act (X.box rfl Is.rfl' (by exact Cells.agg) (fun b3 => ?_))
  refine X.u (LU.assignR Is.rfl') rfl ?_
  refine LL.nil (after_code ?_)
  refine LW.seq ?_
  refine LW.block ?_
  refine LW.seq ?_
  refine LW.region ?_
  refine X.u (LU.moveR Is.rfl') rfl ?_
  refine X.u (LU.call1 1 rfl (none_ok g hm) Try.func54 rfl rfl (Opds.cons Is.rfl' Opds.nil)) rfl ?_
  refine X.u (LU.assignR Is.rfl') rfl ?_
  refine LL.nil (after_code ?_)
  refine X.cond rfl (fun h1 => ?_) (fun h1 => ?_)
  · cases h1
  · refine LW.seq ?_
    refine LW.region ?_
    refine X.u (LU.loadO 0 rfl ⟨Try.sizeOf23, Try.isAgg23⟩ Is.rfl' (Part.whole (by rfl))) rfl ?_
    refine X.u (LU.call (right_calls _ _ _) Try.func53 rfl rfl (Opds.cons Is.rfl' Opds.nil)) rfl ?_
    refine X.u (LU.not Is.rfl') rfl ?_
    refine X.u (LU.assignR Is.rfl') rfl ?_
    refine LL.nil (after_code ?_)
    refine X.cond rfl (fun h3 => ?_) (fun h3 => ?_)
    · refine LW.seq ?_
      refine LW.region ?_
      refine X.u (LU.assignR Is.rfl') rfl ?_
      refine LL.nil (after_code ?_)
      refine LW.ret (ret_blk (ret_code (after_end ?_)))
      refine X.ret (H' := [mA g m]) (Res.one (by exact IsR rfl)) (by repeat (first | exact HSub.refl _ | refine HSub.pick 0 rfl ?_ | refine HSub.pick 1 rfl ?_ | refine HSub.pick 2 rfl ?_ | refine HSub.pick 3 rfl ?_ | refine HSub.pick 4 rfl ?_ | refine HSub.drop ?_)) ?_
      unfold setM; rw [if_neg (by simpa using h3)]; exact ⟨rfl, rfl⟩
    · refine LW.skip (after_blk (after_code ?_))
      refine LW.seq ?_
      refine LW.region ?_
      refine X.u (LU.moveR Is.rfl') rfl ?_
      refine X.u (LU.moveR Is.rfl') rfl ?_
      refine X.u (LU.loadO 0 rfl ⟨Try.sizeOf23, Try.isAgg23⟩ Is.rfl' (Part.whole (by rfl))) rfl ?_
      refine X.u (LU.build (places := #[(0, 1), (1, 1)]) Try.underlying46 Try.zeroValue46 (ones rfl) (by intro w; simp [Try.sizeOf3]) Parts.nil rfl) rfl ?_
      refine X.u (LU.nilCheck Is.rfl') rfl ?_
      refine X.u (LU.fieldO Try.underlying48 rfl Try.sizeOf23 (by decide) Is.rfl') rfl ?_
      refine X.act (X.store 1 rfl Try.sizeOf23 Is.rfl' Is.rfl' (by exact Cells.agg) (by rfl) (by exact Nat.le_of_ble_eq_true rfl) ?_)
      refine X.u (LU.nilCheck Is.rfl') rfl ?_
      refine X.u (LU.fieldO Try.underlying48 rfl Try.sizeOf46 (by decide) Is.rfl') rfl ?_
      refine X.act (X.store 0 rfl Try.sizeOf46 Is.rfl' Is.rfl' (by exact Cells.agg) (by rfl) (by exact Nat.le_of_ble_eq_true rfl) ?_)
      refine LL.nil (after_code ?_)
      refine LW.seq ?_
      refine LW.region ?_
      refine X.u (LU.assignR Is.rfl') rfl ?_
      refine LL.nil (after_code ?_)
      refine LW.ret (after_end ?_)
      refine X.ret (H' := [mA g ⟨B, R, W, 0, 0, m.used⟩]) (Res.one (by exact IsR rfl)) (by repeat (first | exact HSub.refl _ | refine HSub.pick 0 rfl ?_ | refine HSub.pick 1 rfl ?_ | refine HSub.pick 2 rfl ?_ | refine HSub.pick 3 rfl ?_ | refine HSub.pick 4 rfl ?_ | refine HSub.drop ?_)) ?_
      unfold setM; rw [if_pos (by simpa using h3)]; exact ⟨rfl, rfl⟩
theorem used_ok {m : M} (g : Nat) (h : Ok m) : LCalls Try.prog 18 [ptr g] [mA g m] (fun r H' => r = i64 m.used ∧ H' = [mA g m]) :=
  (used_calls g m).mono fun r H' ⟨h1, h2⟩ => ⟨by rw [h1, if_neg h.some], h2⟩
end Go.Proofs.Ytpimalihpnfdkaa
