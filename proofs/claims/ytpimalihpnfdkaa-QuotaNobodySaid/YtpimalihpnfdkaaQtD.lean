/- What is charged and given back leaves what was; how many hits are counted. -/
import Derived.Test.YtpimalihpnfdkaaQtC
import Derived.Test.YtpimalihpnfdkaaLogR
set_option linter.unusedVariables false
set_option linter.unusedSimpArgs false
namespace Go.Proofs.Ytpimalihpnfdkaa
open Go.RowKit Go.L
theorem charge_any {m : M} (g : Nat) (k : Int) (hm : Ok m) (k0 : -9223372036854775808 ≤ k) (k1 : k < 9223372036854775808) : LCalls Try.prog 16 [ptr g, i64 k] [mA g m] (fun r H' => ∃ e m', r = i64 e ∧ H' = [mA g m'] ∧ Ok m' ∧ ((k < 0 ∧ e = 2 ∧ m' = m) ∨ (0 ≤ k ∧ m.B - m.used < k ∧ e = 180 ∧ m' = m) ∨ (0 ≤ k ∧ k ≤ m.B - m.used ∧ e = 0 ∧ m' = { m with used := m.used + k }))) :=
  (charge_calls g m k hm k0 k1).mono fun r H' ⟨h1, h2⟩ => ⟨_, _, h1, h2, ok_charge hm k, by
    unfold chargeM
    split <;> rename_i h
    · exact .inl ⟨h, rfl, rfl⟩
    · split <;> rename_i h3
      · exact .inr (.inl ⟨by omega, h3, rfl, rfl⟩)
      · exact .inr (.inr ⟨by omega, by omega, rfl, rfl⟩)⟩
theorem refund_any {m : M} (g : Nat) (k : Int) (hm : Ok m) (k0 : -9223372036854775808 ≤ k) (k1 : k < 9223372036854775808) : LCalls Try.prog 17 [ptr g, i64 k] [mA g m] (fun r H' => ∃ e m', r = i64 e ∧ H' = [mA g m'] ∧ Ok m' ∧ (((k < 0 ∨ m.used < k) ∧ e = 2 ∧ m' = m) ∨ (0 ≤ k ∧ k ≤ m.used ∧ e = 0 ∧ m' = { m with used := m.used - k }))) :=
  (refund_calls g m k hm k0 k1).mono fun r H' ⟨h1, h2⟩ => ⟨_, _, h1, h2, ok_refund hm k, by
    unfold refundM
    split <;> rename_i h
    · exact .inl ⟨h, rfl, rfl⟩
    · exact .inr ⟨by omega, by omega, rfl, rfl⟩⟩
set_option maxRecDepth 100000 in
theorem back_calls (B R W n k : Int) (n0 : -9223372036854775808 ≤ n) (n1 : n < 9223372036854775808) (k0 : -9223372036854775808 ≤ k) (k1 : k < 9223372036854775808) : LCalls Try.prog 5 [lim B R W, i64 n, i64 k] [] (fun r H' => r = bl true ∧ H' = []) := by
  refine LCalls.of Try.func5 rfl Try.ntmps5 Try.results5 rfl (fun Rf => ?_)
  refine LW.seq ?_
  refine LW.region ?_
  refine X.act (X.box rfl Is.rfl' (by exact Cells.agg) (fun b3 => ?_))
  refine X.u (LU.assignR Is.rfl') rfl ?_
  refine LL.nil (after_code ?_)
  refine LW.seq ?_
  refine LW.region ?_
  refine X.u (LU.loadO 0 rfl ⟨Try.sizeOf23, Try.isAgg23⟩ Is.rfl' (Part.whole (by rfl))) rfl ?_
  refine X.act (X.call (new_calls B R W) Try.func13 rfl rfl rfl (R := .cells b3 23 [i64 B, i64 R, i64 W] :: Rf) (HSub.refl _) (Opds.cons Is.rfl' Opds.nil) ?_)
  rintro r H' (⟨hn, rfl, rfl⟩ | ⟨hr, g, rfl, rfl⟩)
  · refine X.u (LU.moveT Is.rfl') rfl ?_
    refine X.u (LU.extract Is.rfl' rfl) rfl ?_
    refine X.u (LU.extract Is.rfl' rfl) rfl ?_
    refine X.u (LU.assignR Is.rfl') rfl ?_
    refine X.u (LU.assignR Is.rfl') rfl ?_
    refine LL.nil (after_code ?_)
    refine LW.seq ?_
    refine LW.seq ?_
    refine LW.region ?_
    refine X.u (LU.moveR Is.rfl') rfl ?_
    refine X.u (LU.neq Is.rfl' Is.rfl') rfl ?_
    refine LL.nil (after_code ?_)
    refine X.condT rfl ?_ ?_
    · rfl
    refine LW.seq ?_
    refine LW.region ?_
    refine X.u (LU.moveR Is.rfl') rfl ?_
    refine X.u (LU.nilEqN Try.underlying25 Is.rfl' Is.rfl') rfl ?_
    refine X.u (LU.weak (LU.moveR Is.rfl') (asB (c := true) rfl (by rfl))) rfl ?_
    refine X.doT rfl rfl (LU.call (lives_calls) Try.func14 rfl rfl Opds.nil) rfl ?_
    refine X.u (LU.pickT Is.rfl' (by exact Is.rfl')) rfl ?_
    refine X.u (LU.assignR Is.rfl') rfl ?_
    refine LL.nil (after_code ?_)
    refine LW.ret (ret_code (after_end ?_))
    refine X.ret (H' := []) (Res.one (by exact IsR rfl)) (by repeat (first | exact HSub.refl _ | refine HSub.pick 0 rfl ?_ | refine HSub.pick 1 rfl ?_ | refine HSub.pick 2 rfl ?_ | refine HSub.pick 3 rfl ?_ | refine HSub.pick 4 rfl ?_ | refine HSub.drop ?_)) ?_
    exact ⟨rfl, rfl⟩
  · refine X.u (LU.moveT Is.rfl') rfl ?_
    refine X.u (LU.extract Is.rfl' rfl) rfl ?_
    refine X.u (LU.extract Is.rfl' rfl) rfl ?_
    refine X.u (LU.assignR Is.rfl') rfl ?_
    refine X.u (LU.assignR Is.rfl') rfl ?_
    refine LL.nil (after_code ?_)
    refine LW.seq ?_
    refine LW.seq ?_
    refine LW.region ?_
    refine X.u (LU.moveR Is.rfl') rfl ?_
    refine X.u (LU.neq Is.rfl' Is.rfl') rfl ?_
    refine LL.nil (after_code ?_)
    refine X.condF rfl ?_ ?_
    · rfl
    refine LW.skip (after_code ?_)
    refine LW.seq ?_
    refine LW.region ?_
    refine X.u (LU.moveR Is.rfl') rfl ?_
    refine X.u (LU.moveR Is.rfl') rfl ?_
    refine X.act (X.call1 0 rfl (charge_any g n (ok_new hr) n0 n1) Try.func16 rfl rfl rfl (Opds.cons Is.rfl' (Opds.cons Is.rfl' Opds.nil)) ?_)
    rintro r H' ⟨e1, m1, rfl, rfl, ok1, hc1⟩
    refine LL.nil (after_code ?_)
    refine LW.seq ?_
    have hu0 := ok1.u0
    have hu1 := ok1.u1
    have hr1 := ok1.r
    unfold rightP at hr1
    refine LW.region ?_
    refine X.u (LU.moveR Is.rfl') rfl ?_
    refine X.u (LU.call1 0 rfl (used_ok g ok1) Try.func18 rfl rfl (Opds.cons Is.rfl' Opds.nil)) rfl ?_
    refine X.u (LU.assignR Is.rfl') rfl ?_
    refine LL.nil (after_code ?_)
    refine LW.seq ?_
    refine LW.region ?_
    refine X.u (LU.moveR Is.rfl') rfl ?_
    refine X.u (LU.moveR Is.rfl') rfl ?_
    refine X.act (X.call1 0 rfl (charge_any g k ok1 k0 k1) Try.func16 rfl rfl rfl (Opds.cons Is.rfl' (Opds.cons Is.rfl' Opds.nil)) ?_)
    rintro r H' ⟨e2, m2, rfl, rfl, ok2, hc2⟩
    refine X.u (LU.assignR Is.rfl') rfl ?_
    refine LL.nil (after_code ?_)
    refine LW.seq ?_
    refine LW.seq ?_
    have hv0 := ok2.u0
    have hv1 := ok2.u1
    refine LW.region ?_
    refine X.u (LU.moveR Is.rfl') rfl ?_
    refine X.u (LU.eql Is.rfl' Is.rfl') rfl ?_
    refine LL.nil (after_code ?_)
    refine X.cond rfl (fun h7 => ?_) (fun h7 => ?_)
    · have h7 := of_decide_eq_true h7
      have hc2 : 0 ≤ k ∧ m2.used = m1.used + k := by rcases hc2 with ⟨_, h, _⟩ | ⟨_, _, h, _⟩ | ⟨h, _, _, q⟩; omega; omega; exact ⟨h, by rw [q]⟩
      refine LW.seq ?_
      refine LW.region ?_
      refine X.u (LU.moveR Is.rfl') rfl ?_
      refine X.u (LU.call1 0 rfl (used_ok g ok2) Try.func18 rfl rfl (Opds.cons Is.rfl' Opds.nil)) rfl ?_
      refine X.u (LU.moveR Is.rfl') rfl ?_
      refine X.u (LU.subN Is.rfl' Is.rfl' (wrap_i64 (by omega) (by omega))) rfl ?_
      refine X.u (LU.moveR Is.rfl') rfl ?_
      refine X.u (LU.eql Is.rfl' Is.rfl') rfl ?_
      refine X.u (LU.weak (LU.moveR Is.rfl') (asB (c := true) rfl (by exact decide_eq_true (by omega)))) rfl ?_
      refine X.doT rfl rfl (LU.moveR (by exact Is.rfl')) rfl ?_
      refine X.doT rfl rfl (LU.moveR (by exact Is.rfl')) rfl ?_
      refine X.actG rfl rfl (X.call1 0 rfl (refund_any g k ok2 k0 k1) Try.func17 rfl rfl rfl (Opds.cons (by exact Is.rfl') (Opds.cons (by exact Is.rfl') Opds.nil)) ?_)
      rintro r H' ⟨e3, m3, rfl, rfl, ok3, hc3⟩
      have hc3 : e3 = 0 ∧ m3.used = m2.used - k := by rcases hc3 with ⟨h, _, _⟩ | ⟨_, _, h, q⟩; omega; exact ⟨h, by rw [q]⟩
      refine X.doT rfl rfl (LU.eql (by exact Is.rfl') (by exact Is.rfl')) rfl ?_
      refine X.u (LU.weak (LU.pickT Is.rfl' (by exact Is.rfl')) (asB (c := true) rfl (by exact decide_eq_true hc3.1))) rfl ?_
      refine X.u (LU.moveR Is.rfl') rfl ?_
      refine X.doT rfl rfl (LU.moveR (by exact Is.rfl')) rfl ?_
      refine X.doT rfl rfl (LU.call1 0 rfl (used_ok g ok3) Try.func18 rfl rfl (Opds.cons (by exact Is.rfl') Opds.nil)) rfl ?_
      refine X.doT rfl rfl (LU.moveR (by exact Is.rfl')) rfl ?_
      refine X.doT rfl rfl (LU.eql (by exact Is.rfl') (by exact Is.rfl')) rfl ?_
      refine X.u (LU.weak (LU.pickT Is.rfl' (by exact Is.rfl')) (asB (c := true) rfl (by exact decide_eq_true (by omega)))) rfl ?_
      refine X.u (LU.moveR Is.rfl') rfl ?_
      refine X.doT rfl rfl (LU.call (lives_calls) Try.func14 rfl rfl Opds.nil) rfl ?_
      refine X.u (LU.pickT Is.rfl' (by exact Is.rfl')) rfl ?_
      refine X.u (LU.assignR Is.rfl') rfl ?_
      refine LL.nil (after_code ?_)
      refine LW.ret (ret_code (after_end ?_))
      refine X.ret (H' := []) (Res.one (by exact IsR rfl)) (by repeat (first | exact HSub.refl _ | refine HSub.pick 0 rfl ?_ | refine HSub.pick 1 rfl ?_ | refine HSub.pick 2 rfl ?_ | refine HSub.pick 3 rfl ?_ | refine HSub.pick 4 rfl ?_ | refine HSub.drop ?_)) ?_
      exact ⟨rfl, rfl⟩
    · have h7 := of_decide_eq_false h7
      have hc2 : m2.used = m1.used ∧ (e2 = 2 ↔ k < 0) := by rcases hc2 with ⟨h, h', q⟩ | ⟨h, _, h', q⟩ | ⟨_, _, h, _⟩; exact ⟨by rw [q], by omega⟩; exact ⟨by rw [q], by omega⟩; omega
      refine LW.skip (after_code ?_)
      refine LW.seq ?_
      refine LW.region ?_
      refine X.u (LU.moveR Is.rfl') rfl ?_
      refine X.u (LU.call1 0 rfl (used_ok g ok2) Try.func18 rfl rfl (Opds.cons Is.rfl' Opds.nil)) rfl ?_
      refine X.u (LU.moveR Is.rfl') rfl ?_
      refine X.u (LU.eql Is.rfl' Is.rfl') rfl ?_
      refine X.u (LU.weak (LU.moveR Is.rfl') (asB (c := true) rfl (by exact decide_eq_true hc2.1))) rfl ?_
      refine X.doT rfl rfl (LU.moveR (by exact Is.rfl')) rfl ?_
      refine X.doT rfl rfl (LU.eql (by exact Is.rfl') (by exact Is.rfl')) rfl ?_
      refine X.doT rfl rfl (LU.moveR (by exact Is.rfl')) rfl ?_
      refine X.doT rfl rfl (LU.lss (by exact Is.rfl') (by exact Is.rfl')) rfl ?_
      refine X.doT rfl rfl (LU.booleq Try.underlying4 (by exact Is.rfl') (by exact Is.rfl')) rfl ?_
      refine X.u (LU.weak (LU.pickT Is.rfl' (by exact Is.rfl')) (asB (c := true) rfl (by rw [beq_iff_eq, decide_eq_decide]; exact hc2.2))) rfl ?_
      refine X.u (LU.moveR Is.rfl') rfl ?_
      refine X.doT rfl rfl (LU.call (lives_calls) Try.func14 rfl rfl Opds.nil) rfl ?_
      refine X.u (LU.pickT Is.rfl' (by exact Is.rfl')) rfl ?_
      refine X.u (LU.assignR Is.rfl') rfl ?_
      refine LL.nil (after_code ?_)
      refine LW.ret (after_end ?_)
      refine X.ret (H' := []) (Res.one (by exact IsR rfl)) (by repeat (first | exact HSub.refl _ | refine HSub.pick 0 rfl ?_ | refine HSub.pick 1 rfl ?_ | refine HSub.pick 2 rfl ?_ | refine HSub.pick 3 rfl ?_ | refine HSub.pick 4 rfl ?_ | refine HSub.drop ?_)) ?_
      exact ⟨rfl, rfl⟩
/-- How many of some hits are of a time's window. -/
def cnt (W now : Int) (l : List Int) : Nat := if 0 ≤ now then l.countP (fun x => decide (x.tdiv W = now.tdiv W)) else 0
theorem cnt_le (W now : Int) (l : List Int) : cnt W now l ≤ l.length := by
  unfold cnt
  split
  · exact List.countP_le_length
  · omega
theorem cnt_snoc (W now x : Int) (l : List Int) : cnt W now (l ++ [x]) = cnt W now l + if 0 ≤ now ∧ x.tdiv W = now.tdiv W then 1 else 0 := by
  unfold cnt
  by_cases h : 0 ≤ now
  · simp only [h, if_true, true_and, List.countP_append, List.countP_cons, List.countP_nil]
    by_cases h2 : x.tdiv W = now.tdiv W <;> simp [h2]
  · simp [h]
/-- What the meter's count says of the hits that were OK. -/
structure Rel (B R W : Int) (m : M) (ok : List Int) : Prop where
  okm : Ok m
  lim : m.B = B ∧ m.R = R ∧ m.W = W
  rng : ∀ x ∈ ok, 0 ≤ x ∧ x < 9223372036854775808
  len : m.hits ≤ ok.length
  at_ : (ok = [] ∧ m.hits = 0) ∨ (0 < m.hits ∧ (∀ x ∈ ok, x.tdiv W ≤ m.at_) ∧ (ok.countP (fun x => decide (x.tdiv W = m.at_)) : Int) = m.hits)
theorem rel_n {B R W : Int} {m : M} {ok : List Int} (h : Rel B R W m ok) (t : Int) (ht : 0 ≤ t) (hn : ¬ (0 < m.hits ∧ t.tdiv m.W < m.at_)) : hitsM m t = cnt W t ok := by
  obtain ⟨h1, h2, h3⟩ := h.lim
  unfold hitsM cnt
  rw [if_pos ht, h3]
  rw [h3] at hn
  rcases h.at_ with ⟨rfl, h0⟩ | ⟨hp, hall, hc⟩
  · rw [h0]; simp
  · by_cases hw : t.tdiv W = m.at_
    · rw [if_neg (by omega), hw]
      exact hc.symm
    · rw [if_pos (.inr hw)]
      have : ok.countP (fun x => decide (x.tdiv W = t.tdiv W)) = 0 := by
        rw [List.countP_eq_zero]
        intro x hx hq
        have h5 := hall x hx
        have h6 : x.tdiv W = t.tdiv W := of_decide_eq_true hq
        have h7 : ¬ t.tdiv W < m.at_ := fun h8 => hn ⟨hp, h8⟩
        omega
      rw [this]
      rfl
theorem rel_hit {B R W : Int} {m : M} {ok : List Int} (h : Rel B R W m ok) (hl : ok.length < 1000) (t : Int) (ht1 : t < 9223372036854775808) :
    ((hitM m t).2 = 0 → 0 ≤ t ∧ (cnt W t ok : Int) < R ∧ Rel B R W (hitM m t).1 (ok ++ [t])) ∧ ((hitM m t).2 ≠ 0 → (hitM m t).1 = m) ∧ ((hitM m t).2 = 181 → R ≤ (cnt W t ok : Int)) := by
  obtain ⟨h1, h2, h3⟩ := h.lim
  have hlen := h.len
  have hok := ok_hit h.okm t (by omega)
  unfold hitM at hok ⊢
  split
  · simp
  · rename_i hn
    have ht : 0 ≤ t := by omega
    have he := rel_n h t ht (fun hq => hn (.inr hq))
    split
    · rename_i hR
      exact ⟨by simp, by simp, fun _ => by omega⟩
    · rename_i hR
      refine ⟨fun _ => ⟨ht, by omega, ⟨?_, ⟨h1, h2, h3⟩, fun x hx => ?_, ?_, ?_⟩⟩, by simp, by simp⟩
      · rw [if_neg hn, if_neg hR] at hok
        exact hok
      · rcases List.mem_append.1 hx with hx | hx
        · exact h.rng x hx
        · rw [List.mem_singleton.1 hx]; exact ⟨ht, ht1⟩
      · show hitsM m t + 1 ≤ _
        have := (hits_bd h.okm t).2
        simp
        omega
      · refine .inr ⟨by show 0 < hitsM m t + 1; have := (hits_bd h.okm t).1; omega, fun x hx => ?_, ?_⟩
        · show x.tdiv W ≤ t.tdiv m.W
          rw [h3]
          rcases List.mem_append.1 hx with hx | hx
          · rcases h.at_ with ⟨rfl, _⟩ | ⟨hp, hall, _⟩
            · cases hx
            · have := hall x hx
              rw [h3] at hn
              omega
          · rw [List.mem_singleton.1 hx]; exact Int.le_refl _
        · show ((ok ++ [t]).countP (fun x => decide (x.tdiv W = t.tdiv m.W)) : Int) = hitsM m t + 1
          rw [h3, he, List.countP_append]
          unfold cnt
          rw [if_pos ht]
          simp
set_option maxRecDepth 100000 in
theorem rate_calls (B R W : Int) (times : List Int) (hl : times.length < 140737488355328) (ht : ∀ x ∈ times, -9223372036854775808 ≤ x ∧ x < 9223372036854775808) : LCalls Try.prog 3 [lim B R W, Ints times .unk] [] (fun r H' => r = bl true ∧ H' = []) := by
  refine LCalls.of Try.func3 rfl Try.ntmps3 Try.results3 rfl (fun Rf => ?_)
  refine LW.seq ?_
  refine LW.region ?_
  refine X.act (X.box rfl Is.rfl' (by exact Cells.agg) (fun b2 => ?_))
  refine X.u (LU.assignR Is.rfl') rfl ?_
  refine LL.nil (after_code ?_)
  refine LW.seq ?_
  refine LW.region ?_
  refine X.u (LU.loadO 0 rfl ⟨Try.sizeOf23, Try.isAgg23⟩ Is.rfl' (Part.whole (by rfl))) rfl ?_
  refine X.act (X.call (new_calls B R W) Try.func13 rfl rfl rfl (R := .cells b2 23 [i64 B, i64 R, i64 W] :: Rf) (HSub.refl _) (Opds.cons Is.rfl' Opds.nil) ?_)
  rintro r H' (⟨hn, rfl, rfl⟩ | ⟨hr, g, rfl, rfl⟩)
  · refine X.u (LU.moveT Is.rfl') rfl ?_
    refine X.u (LU.extract Is.rfl' rfl) rfl ?_
    refine X.u (LU.extract Is.rfl' rfl) rfl ?_
    refine X.u (LU.assignR Is.rfl') rfl ?_
    refine X.u (LU.assignR Is.rfl') rfl ?_
    refine LL.nil (after_code ?_)
    refine LW.seq ?_
    refine LW.seq ?_
    refine LW.region ?_
    refine X.u (LU.moveR Is.rfl') rfl ?_
    refine X.u (LU.neq Is.rfl' Is.rfl') rfl ?_
    refine LL.nil (after_code ?_)
    refine X.condT rfl ?_ ?_
    · rfl
    refine LW.seq ?_
    refine LW.region ?_
    refine X.u (LU.moveR Is.rfl') rfl ?_
    refine X.u (LU.nilEqN Try.underlying25 Is.rfl' Is.rfl') rfl ?_
    refine X.u (LU.weak (LU.moveR Is.rfl') (asB (c := true) rfl (by rfl))) rfl ?_
    refine X.doT rfl rfl (LU.moveR (by exact Is.rfl')) rfl ?_
    refine X.doT rfl rfl (LU.eql (by exact Is.rfl') (by exact Is.rfl')) rfl ?_
    refine X.u (LU.weak (LU.pickT Is.rfl' (by exact Is.rfl')) (asB (c := true) rfl (by rfl))) rfl ?_
    refine X.u (LU.moveR Is.rfl') rfl ?_
    refine X.doT rfl rfl (LU.call (lives_calls) Try.func14 rfl rfl Opds.nil) rfl ?_
    refine X.u (LU.pickT Is.rfl' (by exact Is.rfl')) rfl ?_
    refine X.u (LU.assignR Is.rfl') rfl ?_
    refine LL.nil (after_code ?_)
    refine LW.ret (ret_code (after_end ?_))
    refine X.ret (H' := []) (Res.one (by exact IsR rfl)) (by repeat (first | exact HSub.refl _ | refine HSub.pick 0 rfl ?_ | refine HSub.pick 1 rfl ?_ | refine HSub.pick 2 rfl ?_ | refine HSub.pick 3 rfl ?_ | refine HSub.pick 4 rfl ?_ | refine HSub.drop ?_)) ?_
    exact ⟨rfl, rfl⟩
  · refine X.u (LU.moveT Is.rfl') rfl ?_
    refine X.u (LU.extract Is.rfl' rfl) rfl ?_
    refine X.u (LU.extract Is.rfl' rfl) rfl ?_
    refine X.u (LU.assignR Is.rfl') rfl ?_
    refine X.u (LU.assignR Is.rfl') rfl ?_
    refine LL.nil (after_code ?_)
    refine LW.seq ?_
    refine LW.seq ?_
    refine LW.region ?_
    refine X.u (LU.moveR Is.rfl') rfl ?_
    refine X.u (LU.neq Is.rfl' Is.rfl') rfl ?_
    refine LL.nil (after_code ?_)
    refine X.condF rfl ?_ ?_
    · rfl
    refine LW.skip (after_code ?_)
    refine LW.seq ?_
    refine LW.region ?_
    refine X.u (LU.assign (Is.nil 1)) rfl ?_
    refine LL.nil (after_code ?_)
    refine LW.seq ?_
    refine LW.seq ?_
    have hrr := hr
    unfold rightP at hrr
    refine X.wghost (HSub.tail0 0 0 0 (Nat.le_refl _) _) ?_
    refine X.wweak (t := 7) (v := Ints [] (.tok 0 0 0)) (Is.full_tok 0 0) ?_
    refine LW.region ?_
    refine X.u (LU.moveS Is.rfl') rfl ?_
    refine X.u (LU.lenN Try.underlying24 Is.rfl' (by (simp only [Option.getD_some, Option.getD_none, byteEls_length, intEls_length, List.length_append, List.length_cons, List.length_nil, List.length_map, List.length_drop, List.length_take, Int.toNat_natCast]; rfl))) rfl ?_
    refine X.u (LU.moveR Is.rfl') rfl ?_
    refine LL.nil (after_code ?_)
    refine LW.block ?_
    refine X.loopK (α := Nat × List Int × M × Nat × Nat × Nat) (fun ⟨i, ok, m, tb, to, tc⟩ => [(31, i64 i), (7, Ints ok (.tok tb to tc))]) [2, 5, 29, 30] (fun ⟨i, ok, m, tb, to, tc⟩ => [.tail tb to tc, mA g m, .cells b2 23 [i64 B, i64 R, i64 W]] ++ Rf) (fun ⟨i, ok, m, tb, to, tc⟩ => i ≤ times.length ∧ ok.length ≤ i ∧ i ≤ 201 ∧ Rel B R W m ok) (fun ⟨i, ok, m, tb, to, tc⟩ => times.length - i) ((0, [], newM B R W, 0, 0, 0)) (EnvLe.cons (by rfl) (EnvLe.cons (by rfl) (EnvLe.nil))) (by exact HSub.refl _) ?_ ?_
    · exact ⟨Nat.zero_le _, Nat.le_refl _, by omega, ⟨ok_new hr, ⟨rfl, rfl, rfl⟩, by simp, by simp [newM], .inl ⟨rfl, rfl⟩⟩⟩
    · rintro ⟨i, ok, m, tb, to, tc⟩ hI
      obtain ⟨hi, hok, hi2, hrel⟩ := hI
      obtain ⟨hl1, hl2, hl3⟩ := hrel.lim
      refine LW.seq ?_
      refine LW.region ?_
      refine X.u (LU.lss Is.rfl' Is.rfl') rfl ?_
      refine LL.nil (after_code ?_)
      refine LW.seq ?_
      refine X.cond rfl (fun h6 => ?_) (fun h6 => ?_)
      · have h6 := of_decide_eq_true h6
        have hit : i < times.length := by omega
        have htr := ht (times[i]'hit) (List.getElem_mem hit)
        have hc0 : cnt W (times[i]'hit) (ok.take 0) = 0 := by simp [cnt]
        have hrh := rel_hit hrel (by omega) (times[i]'hit) htr.2
        refine LW.skip (after_code ?_)
        refine LW.seq ?_
        refine LW.block ?_
        refine LW.seq ?_
        refine LW.region ?_
        refine X.u (LU.moveR Is.rfl') rfl ?_
        refine X.u (LU.at Try.underlying24 ⟨Try.sizeOf3, Try.isAgg3⟩ Is.rfl' Is.rfl' (by omega) (intEls_at (by omega) (by omega)) (by simp)) rfl ?_
        refine X.u (LU.weak (LU.load ⟨Try.sizeOf3, Try.isAgg3⟩ Is.rfl' (by rfl) (Part.one rfl)) (asI (b := times[i]'hit) rfl (by rfl))) rfl ?_
        refine X.u (LU.assignR Is.rfl') rfl ?_
        refine X.u (LU.assignR Is.rfl') rfl ?_
        refine LL.nil (after_code ?_)
        refine LW.seq ?_
        refine LW.seq ?_
        refine LW.region ?_
        refine X.u (LU.moveR Is.rfl') rfl ?_
        refine X.u (LU.gtr Is.rfl' Is.rfl') rfl ?_
        refine LL.nil (after_code ?_)
        refine X.cond rfl (fun h8 => ?_) (fun h8 => ?_)
        · refine LW.exit (exit_code (exit_blk' rfl (exit_code (exit_rnd (exit_blk (after_code ?_))))))
          refine LW.seq ?_
          refine LW.region ?_
          refine X.u (LU.call (lives_calls) Try.func14 rfl rfl Opds.nil) rfl ?_
          refine X.u (LU.assignR Is.rfl') rfl ?_
          refine LL.nil (after_code ?_)
          refine LW.ret (after_end ?_)
          refine X.ret (H' := []) (Res.one (by exact IsR rfl)) (by repeat (first | exact HSub.refl _ | refine HSub.pick 0 rfl ?_ | refine HSub.pick 1 rfl ?_ | refine HSub.pick 2 rfl ?_ | refine HSub.pick 3 rfl ?_ | refine HSub.pick 4 rfl ?_ | refine HSub.drop ?_)) ?_
          exact ⟨rfl, rfl⟩
        · have h8 := of_decide_eq_false h8
          refine LW.skip (after_code ?_)
          refine LW.seq ?_
          refine LW.region ?_
          refine X.u (LU.assignR Is.rfl') rfl ?_
          refine LL.nil (after_code ?_)
          refine LW.seq ?_
          refine LW.seq ?_
          refine LW.region ?_
          refine X.u (LU.moveS Is.rfl') rfl ?_
          refine X.u (LU.lenN Try.underlying24 Is.rfl' (by (simp only [Option.getD_some, Option.getD_none, byteEls_length, intEls_length, List.length_append, List.length_cons, List.length_nil, List.length_map, List.length_drop, List.length_take, Int.toNat_natCast]; rfl))) rfl ?_
          refine X.u (LU.moveR Is.rfl') rfl ?_
          refine LL.nil (after_code ?_)
          refine LW.block ?_
          refine X.loopK (α := Nat) (fun k => [(40, i64 k), (10, i64 (cnt W (times[i]'hit) (ok.take k)))]) [2, 5, 7, 9, 29, 30, 31, 38, 39] (fun _ => _) (fun k => k ≤ ok.length) (fun k => ok.length - k) (0) (EnvLe.cons (by rfl) (EnvLe.cons (by exact raw_int (by omega)) (EnvLe.nil))) (HSub.refl _) ?_ ?_
          · exact Nat.zero_le _
          · rintro k hI
            refine LW.seq ?_
            refine LW.region ?_
            refine X.u (LU.lss Is.rfl' Is.rfl') rfl ?_
            refine LL.nil (after_code ?_)
            refine LW.seq ?_
            refine X.cond rfl (fun h11 => ?_) (fun h11 => ?_)
            · have h11 := of_decide_eq_true h11
              have hik : k < ok.length := by omega
              have hxr := hrel.rng (ok[k]'hik) (List.getElem_mem hik)
              have hcs := cnt_snoc W (times[i]'hit) (ok[k]'hik) (ok.take k)
              rw [← List.take_succ_eq_append_getElem hik] at hcs
              have hcl := cnt_le W (times[i]'hit) (ok.take k)
              rw [List.length_take] at hcl
              refine LW.skip (after_code ?_)
              refine LW.seq ?_
              refine LW.block ?_
              refine LW.seq ?_
              refine LW.region ?_
              refine X.u (LU.at Try.underlying24 ⟨Try.sizeOf3, Try.isAgg3⟩ Is.rfl' Is.rfl' (by omega) (intEls_at (by omega) (by omega)) (by simp)) rfl ?_
              refine X.u (LU.weak (LU.load ⟨Try.sizeOf3, Try.isAgg3⟩ Is.rfl' (by rfl) (Part.one rfl)) (asI (b := ok[k]'hik) rfl (by rfl))) rfl ?_
              refine X.u (LU.assignR Is.rfl') rfl ?_
              refine LL.nil (after_code ?_)
              refine LW.seq ?_
              refine X.drawM 13 rfl (by kernel_rfl) rfl ?_
              refine QD.u (LU.moveR Is.rfl') rfl ?_
              refine QD.u (LU.geq Is.rfl' Is.rfl') rfl ?_
              refine QD.u (LU.moveR Is.rfl') rfl ?_
              refine QD.gT rfl rfl (fun hg => LU.moveR (by exact Is.rfl')) rfl ?_
              refine QD.gT rfl rfl (fun hg => LU.fieldO Try.underlying23 rfl Try.sizeOf3 (by decide) (by exact Is.rfl')) rfl ?_
              refine QD.gT rfl rfl (fun hg => LU.loadO 2 rfl ⟨Try.sizeOf3, Try.isAgg3⟩ (by exact Is.whenE hg) (Part.one rfl)) rfl ?_
              refine QD.gT rfl rfl (fun hg => LU.quoN (by exact Is.whenE hg) (by exact Is.whenE hg) (by omega) (tdiv_i64 (by omega) (by omega) (by omega))) rfl ?_
              refine QD.gT rfl rfl (fun hg => LU.moveR (by exact Is.rfl')) rfl ?_
              refine QD.gT rfl rfl (fun hg => LU.fieldO Try.underlying23 rfl Try.sizeOf3 (by decide) (by exact Is.rfl')) rfl ?_
              refine QD.gT rfl rfl (fun hg => LU.loadO 2 rfl ⟨Try.sizeOf3, Try.isAgg3⟩ (by exact Is.whenE hg) (Part.one rfl)) rfl ?_
              refine QD.gT rfl rfl (fun hg => LU.quoN (by exact Is.whenE hg) (by exact Is.whenE hg) (by omega) (tdiv_i64 (by omega) (by omega) (by omega))) rfl ?_
              refine QD.gT rfl rfl (fun hg => LU.eql (by exact Is.whenE hg) (by exact Is.whenE hg)) rfl ?_
              refine QD.u (LU.pickAnd Is.rfl' (fun hq => (by exact Is.whenE hq)) Is.rfl') rfl ?_
              refine QD.nil ?_
              refine LL.nil (after_code ?_)
              refine X.cond rfl (fun h13 => ?_) (fun h13 => ?_)
              · have h13 : 0 ≤ times[i]'hit ∧ (ok[k]'hik).tdiv W = (times[i]'hit).tdiv W := by simpa using h13
                rw [if_pos h13] at hcs
                refine LW.region ?_
                refine X.u (LU.moveR Is.rfl') rfl ?_
                refine X.u (LU.addN Is.rfl' Is.rfl' (wrap_i64 (by omega) (by omega))) rfl ?_
                refine X.u (LU.assignR Is.rfl') rfl ?_
                refine LL.nil (after_blk (after_code ?_))
                refine LW.region ?_
                refine X.u (LU.addN Is.rfl' Is.rfl' (wrap_i64 (by omega) (by omega))) rfl ?_
                refine X.u (LU.moveR Is.rfl') rfl ?_
                refine LL.nil (after_rnd ?_)
                refine X.next (k + 1) rfl (EnvLe.cons (by rfl) (EnvLe.cons (by exact raw_int (by omega)) (EnvLe.nil))) (Keeps.cons rfl (Keeps.cons rfl (Keeps.cons rfl (Keeps.cons rfl (Keeps.cons rfl (Keeps.cons rfl (Keeps.cons rfl (Keeps.cons rfl (Keeps.cons rfl (Keeps.nil)))))))))) (HSub.refl _) ?_ ?_
                · omega
                · omega
              · have h13 : ¬ (0 ≤ times[i]'hit ∧ (ok[k]'hik).tdiv W = (times[i]'hit).tdiv W) := by simpa using h13
                rw [if_neg h13] at hcs
                refine LW.skip (after_blk (after_code ?_))
                refine LW.region ?_
                refine X.u (LU.addN Is.rfl' Is.rfl' (wrap_i64 (by omega) (by omega))) rfl ?_
                refine X.u (LU.moveR Is.rfl') rfl ?_
                refine LL.nil (after_rnd ?_)
                refine X.next (k + 1) rfl (EnvLe.cons (by rfl) (EnvLe.cons (by exact raw_int (by omega)) (EnvLe.nil))) (Keeps.cons rfl (Keeps.cons rfl (Keeps.cons rfl (Keeps.cons rfl (Keeps.cons rfl (Keeps.cons rfl (Keeps.cons rfl (Keeps.cons rfl (Keeps.cons rfl (Keeps.nil)))))))))) (HSub.refl _) ?_ ?_
                · omega
                · omega
            · have h11 := of_decide_eq_false h11
              have hk : ok.take k = ok := List.take_of_length_le (by omega)
              refine LW.exit (exit_code (exit_rnd (exit_blk (after_code ?_))))
              refine LW.seq ?_
              refine X.wweak (t := 10) (asI (b := cnt W (times[i]'hit) ok) rfl (by rw [hk])) ?_
              refine LW.region ?_
              refine X.u (LU.moveR Is.rfl') rfl ?_
              refine X.u (LU.moveR Is.rfl') rfl ?_
              refine X.act (X.call1 1 rfl (hit_calls g m (times[i]'hit) hrel.okm htr.1 htr.2) Try.func15 rfl rfl rfl (Opds.cons Is.rfl' (Opds.cons Is.rfl' Opds.nil)) ?_)
              rintro r H' ⟨rfl, rfl⟩
              refine LL.nil (after_code ?_)
              refine LW.block ?_
              refine LW.seq ?_
              refine LW.region ?_
              refine X.u (LU.eql Is.rfl' Is.rfl') rfl ?_
              refine X.u (LU.assignR Is.rfl') rfl ?_
              refine LL.nil (after_code ?_)
              refine X.cond rfl (fun h17 => ?_) (fun h17 => ?_)
              · have h17 := of_decide_eq_true h17
                have hz := hrh.1 h17
                refine LW.seq ?_
                refine LW.seq ?_
                refine LW.region ?_
                refine X.u (LU.moveR Is.rfl') rfl ?_
                refine X.u (LU.lss Is.rfl' Is.rfl') rfl ?_
                refine X.u (LU.moveR Is.rfl') rfl ?_
                refine X.gF rfl rfl (fun hg => LU.moveR (by exact Is.rfl')) rfl ?_
                refine X.gF rfl rfl (fun hg => LU.fieldO Try.underlying23 rfl Try.sizeOf3 (by decide) (by exact Is.rfl')) rfl ?_
                refine X.gF rfl rfl (fun hg => LU.loadO 2 rfl ⟨Try.sizeOf3, Try.isAgg3⟩ (by exact Is.whenN hg) (Part.one rfl)) rfl ?_
                refine X.gF rfl rfl (fun hg => LU.geq (by exact Is.whenN hg) (by exact Is.whenN hg)) rfl ?_
                refine X.u (LU.pickOr Is.rfl' Is.rfl' (fun hq => (by exact Is.whenN hq))) rfl ?_
                refine LL.nil (after_code ?_)
                refine X.condF rfl ?_ ?_
                · rw [Bool.or_eq_false_iff, decide_eq_false_iff_not, decide_eq_false_iff_not]; exact ⟨by omega, by omega⟩
                refine LW.skip (after_code ?_)
                refine LW.region ?_
                refine X.u (LU.moveS Is.rfl') rfl ?_
                refine X.u (LU.moveR Is.rfl') rfl ?_
                refine X.u (LU.lits Try.underlying24 Try.sizeOf3 Try.zeroValue3 (ones rfl) rfl (by decide) (by decide) (Elems.cons Is.rfl' (by exact Cells.raw rfl) Elems.nil) (by simp) rfl) rfl ?_
                refine X.act (X.append 1 rfl rfl Try.underlying24 (El.of (P := Try.prog) (z := (.int .i64 0)) (size := 1) (bytes := 8) rfl rfl rfl) Is.rfl' Is.rfl' (SrcL.slice Try.underlying24 (by decide) (by (intro e he; simp [chunks] at he; simp [he]; done))) (by simp only [Option.getD_some, Option.getD_none, byteEls_length, intEls_length, List.length_append, List.length_cons, List.length_nil, List.length_map, List.length_drop, List.length_take, Int.toNat_natCast]; omega) (by simp only [Option.getD_some, Option.getD_none, byteEls_length, intEls_length, List.length_append, List.length_cons, List.length_nil, List.length_map, List.length_drop, List.length_take, Int.toNat_natCast]; omega) (fun b76 o76 c76 => X.weak (t := 76) (asS (fs := intEls (ok ++ [times[i]'hit])) rfl (by rw [intEls_append]; rfl)) ?_))
                refine X.u (LU.assignS Is.rfl') rfl ?_
                refine LL.nil (after_blk (after_blk (after_code ?_)))
                refine LW.region ?_
                refine X.u (LU.addN Is.rfl' Is.rfl' (wrap_i64 (by omega) (by omega))) rfl ?_
                refine X.u (LU.moveR Is.rfl') rfl ?_
                refine LL.nil (after_rnd ?_)
                refine X.next ((i + 1, ok ++ [times[i]'hit], (hitM m (times[i]'hit)).1, b76, o76, c76)) rfl (EnvLe.cons (by rfl) (EnvLe.cons (by rfl) (EnvLe.nil))) (Keeps.cons rfl (Keeps.cons rfl (Keeps.cons rfl (Keeps.cons rfl (Keeps.nil))))) (by exact HSub.refl _) ?_ ?_
                · exact ⟨by omega, by simp; omega, by omega, hz.2.2⟩
                · (simp; omega)
              · have h17 := of_decide_eq_false h17
                refine LW.seq ?_
                refine LW.region ?_
                refine X.u (LU.eql Is.rfl' Is.rfl') rfl ?_
                refine X.u (LU.assignR Is.rfl') rfl ?_
                refine LL.nil (after_code ?_)
                refine X.cond rfl (fun h21 => ?_) (fun h21 => ?_)
                · have h21 := hrh.2.2 (of_decide_eq_true h21)
                  refine LW.seq ?_
                  refine LW.region ?_
                  refine X.u (LU.moveR Is.rfl') rfl ?_
                  refine X.u (LU.fieldO Try.underlying23 rfl Try.sizeOf3 (by decide) Is.rfl') rfl ?_
                  refine X.u (LU.loadO 2 rfl ⟨Try.sizeOf3, Try.isAgg3⟩ Is.rfl' (Part.one rfl)) rfl ?_
                  refine X.u (LU.lss Is.rfl' Is.rfl') rfl ?_
                  refine LL.nil (after_code ?_)
                  refine X.condF rfl ?_ ?_
                  · rw [decide_eq_false_iff_not]; omega
                  refine LW.skip (after_blk (after_blk (after_code ?_)))
                  refine LW.region ?_
                  refine X.u (LU.addN Is.rfl' Is.rfl' (wrap_i64 (by omega) (by omega))) rfl ?_
                  refine X.u (LU.moveR Is.rfl') rfl ?_
                  refine LL.nil (after_rnd ?_)
                  refine X.next ((i + 1, ok, (hitM m (times[i]'hit)).1, tb, to, tc)) rfl (EnvLe.cons (by rfl) (EnvLe.cons (by rfl) (EnvLe.nil))) (Keeps.cons rfl (Keeps.cons rfl (Keeps.cons rfl (Keeps.cons rfl (Keeps.nil))))) (by repeat (first | exact HSub.refl _ | refine HSub.pick 0 rfl ?_ | refine HSub.pick 1 rfl ?_ | refine HSub.pick 2 rfl ?_ | refine HSub.pick 3 rfl ?_ | refine HSub.pick 4 rfl ?_ | refine HSub.drop ?_)) ?_ ?_
                  · exact ⟨by omega, by omega, by omega, by rw [hrh.2.1 h17]; exact hrel⟩
                  · (simp; omega)
                · refine LW.skip (after_blk (after_blk (after_code ?_)))
                  refine LW.region ?_
                  refine X.u (LU.addN Is.rfl' Is.rfl' (wrap_i64 (by omega) (by omega))) rfl ?_
                  refine X.u (LU.moveR Is.rfl') rfl ?_
                  refine LL.nil (after_rnd ?_)
                  refine X.next ((i + 1, ok, (hitM m (times[i]'hit)).1, tb, to, tc)) rfl (EnvLe.cons (by rfl) (EnvLe.cons (by rfl) (EnvLe.nil))) (Keeps.cons rfl (Keeps.cons rfl (Keeps.cons rfl (Keeps.cons rfl (Keeps.nil))))) (by repeat (first | exact HSub.refl _ | refine HSub.pick 0 rfl ?_ | refine HSub.pick 1 rfl ?_ | refine HSub.pick 2 rfl ?_ | refine HSub.pick 3 rfl ?_ | refine HSub.pick 4 rfl ?_ | refine HSub.drop ?_)) ?_ ?_
                  · exact ⟨by omega, by omega, by omega, by rw [hrh.2.1 h17]; exact hrel⟩
                  · (simp; omega)
      · refine LW.exit (exit_code (exit_rnd (exit_blk (after_code ?_))))
        refine LW.seq ?_
        refine LW.region ?_
        refine X.u (LU.call (lives_calls) Try.func14 rfl rfl Opds.nil) rfl ?_
        refine X.u (LU.assignR Is.rfl') rfl ?_
        refine LL.nil (after_code ?_)
        refine LW.ret (after_end ?_)
        refine X.ret (H' := []) (Res.one (by exact IsR rfl)) (by repeat (first | exact HSub.refl _ | refine HSub.pick 0 rfl ?_ | refine HSub.pick 1 rfl ?_ | refine HSub.pick 2 rfl ?_ | refine HSub.pick 3 rfl ?_ | refine HSub.pick 4 rfl ?_ | refine HSub.drop ?_)) ?_
        exact ⟨rfl, rfl⟩
abbrev QLim : List LV → Prop := QCons 1 (QInt .i64) (QCons 1 (QInt .i64) (QCons 1 (QInt .i64) QNil))
theorem lim_of {xs : List LV} (h : QLim xs) : ∃ B R W : Int, xs = [i64 B, i64 R, i64 W] := by
  obtain ⟨_, _, rfl, _, ⟨B, rfl, _⟩, _, _, rfl, _, ⟨R, rfl, _⟩, _, _, rfl, _, ⟨W, rfl, _⟩, rfl⟩ := h
  exact ⟨B, R, W, rfl⟩
theorem QuotaBack_row (x0 : List LV) (n k : Int) (h0 : QLim x0) (hn : (Lit.int .i64 n).wf = true) (hk : (Lit.int .i64 k).wf = true) : LCalls Try.prog 5 [.agg x0, i64 n, i64 k] [] (fun r _ => r = bl true) := by
  obtain ⟨B, R, W, rfl⟩ := lim_of h0
  have hn := wf_i64 hn
  have hk := wf_i64 hk
  exact (back_calls B R W n k hn.1 hn.2 hk.1 hk.2).mono fun r H' h => h.1
theorem QuotaRate_row (x0 : List LV) (es : List (List LV)) (h0 : QLim x0) (h1 : ∀ c ∈ es, QInt .i64 c) (h2 : es.length * 8 ≤ reachBytes) : LCalls Try.prog 3 [.agg x0, .sl 1 es .unk] [] (fun r _ => r = bl true) := by
  obtain ⟨B, R, W, rfl⟩ := lim_of h0
  obtain ⟨l, rfl, hl⟩ := decode_ints h1
  rw [intEls_length] at h2
  have hr := reachBytes_lt
  exact (rate_calls B R W l (by omega) hl).mono fun r H' h => h.1
end Go.Proofs.Ytpimalihpnfdkaa
