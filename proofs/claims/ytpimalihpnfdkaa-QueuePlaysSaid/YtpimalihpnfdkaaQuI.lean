/- What waits at a place has ended behind as many Steps and one more. -/
import Derived.Test.YtpimalihpnfdkaaQuH
import Derived.Test.YtpimalihpnfdkaaLogR
set_option linter.unusedVariables false
set_option linter.unusedSimpArgs false
namespace Go.Proofs.Ytpimalihpnfdkaa
open Go.RowKit Go.L
attribute [local irreducible] LL LW LO
theorem turn_k21 (t : Int) (n : Nat) (h : 0 < n) : ∃ k : Nat, (IntKind.u64.wrap t).tmod (n : Int) = k ∧ k < n := by
  have h0 : 0 ≤ IntKind.u64.wrap t := by
    show (0 : Int) ≤ t % 18446744073709551616
    omega
  obtain ⟨m, hm⟩ := Int.eq_ofNat_of_zero_le h0
  refine ⟨m % n, ?_, Nat.mod_lt _ h⟩
  rw [hm, Int.ofNat_tmod]
/-- All of a list unlike. -/
def Uni (l : List Int) : Prop := ∀ (i j : Nat) (x : Int), l[i]? = some x → l[j]? = some x → i = j
theorem Uni.nil : Uni [] := fun i j x h => by simp at h
theorem idx_of {l : List Int} (h : Uni l) {k : Nat} {x : Int} (hk : l[k]? = some x) : idx l x = k := by
  have hkl := (List.getElem?_eq_some_iff.1 hk).1
  refine idx_some hkl (fun j hj e => ?_) (by rw [List.getD_eq_getElem?_getD, hk]; rfl)
  obtain ⟨y, hy⟩ := at_lt (show j < l.length by omega)
  rw [List.getD_eq_getElem?_getD, hy] at e
  have e2 : x = y := e
  subst e2
  have := h j k x hy hk
  omega
theorem idx_neg {l : List Int} {x : Int} (h : ¬ 0 ≤ idx l x) {i : Nat} (hi : l[i]? = some x) : False := by
  have hil := (List.getElem?_eq_some_iff.1 hi).1
  unfold idx at h
  cases hf : (List.range l.length).find? (fun i => decide (x = l.getD i 0)) with
  | none =>
    have := List.find?_eq_none.1 hf i (List.mem_range.2 hil)
    rw [List.getD_eq_getElem?_getD, hi] at this
    simp at this
  | some j =>
    rw [hf] at h
    exact h (Int.natCast_nonneg j)
theorem putW_facts {ws : List Int} (id : Int) (hu : Uni ws) (hl : ws.length ≤ 64) : Uni (putW ws id) ∧ (putW ws id).length ≤ 64 ∧ ∀ i : Nat, i < ws.length → (putW ws id)[i]? = ws[i]? := by
  unfold putW
  by_cases h : idxP ws id = 0
  · rw [if_pos h]
    unfold idxP at h
    have h1 : ¬ id < 1 := fun q => by rw [if_pos q] at h; cases h
    rw [if_neg h1] at h
    have h2 : ¬ 0 ≤ idx ws id := fun q => by rw [if_pos q] at h; cases h
    rw [if_neg h2] at h
    have h3 : ¬ 64 ≤ ws.length := fun q => by rw [if_pos q] at h; cases h
    refine ⟨fun i j x hi hj => ?_, by rw [List.length_append, List.length_singleton]; omega, fun i hi => List.getElem?_append_left hi⟩
    have ev : ∀ i, (ws ++ [id])[i]? = some x → (i < ws.length ∧ ws[i]? = some x) ∨ (i = ws.length ∧ x = id) := fun i hi => by
      by_cases q : i < ws.length
      · rw [List.getElem?_append_left q] at hi; exact .inl ⟨q, hi⟩
      · rw [List.getElem?_append_right (by omega)] at hi
        have hq := (List.getElem?_eq_some_iff.1 hi).1
        rw [List.length_singleton] at hq
        have h0 : i - ws.length = 0 := by omega
        rw [h0] at hi
        exact .inr ⟨by omega, (Option.some.inj hi).symm⟩
    rcases ev i hi with ⟨a1, a2⟩ | ⟨a1, a2⟩ <;> rcases ev j hj with ⟨b1, b2⟩ | ⟨b1, b2⟩
    · exact hu i j x a2 b2
    · rw [b2] at a2; exact (idx_neg h2 a2).elim
    · rw [a2] at b2; exact (idx_neg h2 b2).elim
    · omega
  · rw [if_neg h]; exact ⟨hu, hl, fun i hi => rfl⟩
theorem out_one (a : Int) : (!(decide (outE a = 1) == decide (a = 0))) = false := by
  unfold outE
  by_cases h : a = 0
  · rw [if_pos h, decide_eq_true h]; rfl
  · rw [if_neg h, decide_eq_false h]; rfl
set_option maxRecDepth 100000 in
theorem answer_calls (id a : Int) (b : Nat) : LCalls Try.prog 34 [i64 id, pt b] [.cells b 3 [i64 a]] (fun r H' => r = i64 a ∧ H' = [.cells b 3 [i64 a]]) := by
  refine LCalls.of Try.func34 rfl Try.ntmps34 Try.results34 rfl (fun Rf => ?_)
  refine LW.seq ?_
  refine LW.region ?_
  refine X.u (LU.assignR Is.rfl') rfl ?_
  refine LL.nil (after_code ?_)
  refine LW.seq ?_
  refine LW.region ?_
  refine X.u (LU.loadO 0 rfl ⟨Try.sizeOf3, Try.isAgg3⟩ Is.rfl' (Part.one rfl)) rfl ?_
  refine X.u (LU.assignR Is.rfl') rfl ?_
  refine LL.nil (after_code ?_)
  refine LW.ret (after_end ?_)
  refine X.ret (H' := [.cells b 3 [i64 a]]) (Res.one (by exact IsR rfl)) (by repeat (exact HSub.refl _)) ?_
  exact ⟨rfl, rfl⟩
set_option maxHeartbeats 2000000 in
set_option maxRecDepth 100000 in
theorem qp_calls (ids : List Int) (at_ : Int) (an : List Int) (hi0 : ids.length < 140737488355328) (ha0 : an.length < 140737488355328) (ha1 : -9223372036854775808 ≤ at_) (ha2 : at_ < 9223372036854775808) : LCalls Try.prog 8 [Ints ids .unk, i64 at_, Ints an .unk] [] (fun r H' => r = bl true ∧ H' = []) := by
  refine LCalls.of Try.func8 rfl Try.ntmps8 Try.results8 rfl (fun Rf => ?_)
  refine LW.seq ?_
  refine LW.region ?_
  refine X.u (LU.assignR Is.rfl') rfl ?_
  refine LL.nil (after_code ?_)
  refine LW.seq ?_
  refine LW.region ?_
  refine X.act (X.call (new_calls21) Try.func27 rfl rfl rfl (HSub.refl _) Opds.nil ?_)
  rintro r H' ⟨g, rfl, rfl⟩
  refine X.u (LU.assignR Is.rfl') rfl ?_
  refine LL.nil (after_code ?_)
  refine LW.seq ?_
  refine LW.seq ?_
  refine LW.region ?_
  refine X.u (LU.moveS Is.rfl') rfl ?_
  refine X.u (LU.lenN Try.underlying24 Is.rfl' (by (simp only [Option.getD_some, Option.getD_none, byteEls_length, intEls_length, List.length_append, List.length_cons, List.length_nil, List.length_map, List.length_drop, List.length_take, Int.toNat_natCast]; rfl))) rfl ?_
  refine X.u (LU.moveR Is.rfl') rfl ?_
  refine LL.nil (after_code ?_)
  refine LW.block ?_
  refine X.loopK (α := Nat × List Int × Nat × Nat × Nat) (fun ⟨i, ws, b, o, c⟩ => [(20, i64 i)]) [1, 2, 6, 7, 18, 19] (fun ⟨i, ws, b, o, c⟩ => qa g ws [] .nilFunc b o c 0 0 0 :: .tail b o c :: .tail 0 0 0 :: Rf) (fun ⟨i, ws, b, o, c⟩ => i ≤ ids.length ∧ ws.length ≤ 64 ∧ Uni ws) (fun ⟨i, ws, b, o, c⟩ => ids.length - i) ((0, [], 0, 0, 0)) (EnvLe.cons (by rfl) (EnvLe.nil)) (by repeat (exact HSub.refl _)) ?_ ?_
  · exact ⟨Nat.zero_le _, by simp, Uni.nil⟩
  · rintro ⟨i, ws, b, o, c⟩ hI
    obtain ⟨hi, hwl, hun⟩ := hI
    refine LW.seq ?_
    refine LW.region ?_
    refine X.u (LU.lss Is.rfl' Is.rfl') rfl ?_
    refine LL.nil (after_code ?_)
    refine LW.seq ?_
    refine X.cond rfl (fun h3 => ?_) (fun h3 => ?_)
    · try have h3 := of_decide_eq_true h3
      refine LW.skip (after_code ?_)
      refine X.meetK (α := List Int × Nat × Nat × Nat) (fun ⟨ws2, b2_, o2_, c2_⟩ => []) [1, 2, 6, 7, 18, 19, 20] (fun ⟨ws2, b2_, o2_, c2_⟩ => qa g ws2 [] .nilFunc b2_ o2_ c2_ 0 0 0 :: .tail b2_ o2_ c2_ :: .tail 0 0 0 :: Rf) (fun ⟨ws2, b2_, o2_, c2_⟩ => ws2.length ≤ 64 ∧ Uni ws2) ?_ ?_
      · refine LW.block ?_
        refine LW.seq ?_
        obtain ⟨y, hy⟩ := at_lt (show i < ids.length by omega)
        obtain ⟨hf1, hf2, hf3⟩ := putW_facts y hun hwl
        have hpu := put_calls21 g ws [] .nilFunc b o c 0 0 0 y hwl
        refine LW.region ?_
        refine X.u (LU.moveR Is.rfl') rfl ?_
        refine X.u (LU.at Try.underlying24 ⟨Try.sizeOf3, Try.isAgg3⟩ Is.rfl' Is.rfl' (by omega) (ints_at hy) (by simp)) rfl ?_
        refine X.u (LU.load ⟨Try.sizeOf3, Try.isAgg3⟩ Is.rfl' (by (simp; done)) (Part.one rfl)) rfl ?_
        refine X.u (LU.assignR Is.rfl') rfl ?_
        refine X.u (LU.assignR Is.rfl') rfl ?_
        refine LL.nil (after_code ?_)
        refine LW.seq ?_
        refine LW.region ?_
        refine X.u (LU.moveR Is.rfl') rfl ?_
        refine X.u (LU.lss Is.rfl' Is.rfl') rfl ?_
        refine LL.nil (after_code ?_)
        refine X.cond rfl (fun h5 => ?_) (fun h5 => ?_)
        · try have h5 := of_decide_eq_true h5
          refine LW.region ?_
          refine X.u (LU.moveR Is.rfl') rfl ?_
          refine X.u (LU.moveR Is.rfl') rfl ?_
          refine X.act (X.call (hpu) Try.func28 rfl rfl rfl (by (refine HSub.pick 0 rfl ?_); (refine HSub.pick 0 rfl ?_); (refine HSub.pick 0 rfl ?_); exact HSub.refl _) (Opds.cons Is.rfl' (Opds.cons Is.rfl' Opds.nil)) ?_)
          rintro r H' ⟨b3_, o3_, c3_, rfl, rfl⟩
          refine LL.nil (after_blk (after_rnd ?_))
          refine X.meets ((putW ws y, b3_, o3_, c3_)) rfl (EnvLe.nil) (Keeps.cons (by exact Eq.trans (b := .raw _) rfl rfl) (Keeps.cons (by exact Eq.trans (b := .sl _ _ _) rfl rfl) (Keeps.cons (by exact Eq.trans (b := .raw _) rfl rfl) (Keeps.cons (by exact Eq.trans (b := .raw _) rfl rfl) (Keeps.cons (by exact Eq.trans (b := .sl _ _ _) rfl rfl) (Keeps.cons (by exact Eq.trans (b := .raw _) rfl rfl) (Keeps.cons (by exact Eq.trans (b := .raw _) rfl rfl) (Keeps.nil)))))))) (by repeat (exact HSub.refl _)) ?_
          exact ⟨hf2, hf1⟩
        · try have h5 := of_decide_eq_false h5
          refine LW.skip (after_blk (after_rnd ?_))
          refine X.meets ((ws, b, o, c)) rfl (EnvLe.nil) (Keeps.cons (by exact Eq.trans (b := .raw _) rfl rfl) (Keeps.cons (by exact Eq.trans (b := .sl _ _ _) rfl rfl) (Keeps.cons (by exact Eq.trans (b := .raw _) rfl rfl) (Keeps.cons (by exact Eq.trans (b := .raw _) rfl rfl) (Keeps.cons (by exact Eq.trans (b := .sl _ _ _) rfl rfl) (Keeps.cons (by exact Eq.trans (b := .raw _) rfl rfl) (Keeps.cons (by exact Eq.trans (b := .raw _) rfl rfl) (Keeps.nil)))))))) (by repeat (exact HSub.refl _)) ?_
          exact ⟨hwl, hun⟩
      · rintro ⟨ws2, b2_, o2_, c2_⟩ hI
        obtain ⟨hwl2, hun2⟩ := hI
        refine LW.region ?_
        refine X.u (LU.addN Is.rfl' Is.rfl' (wrap_i64 (by omega) (by omega))) rfl ?_
        refine X.u (LU.moveR Is.rfl') rfl ?_
        refine LL.nil (after_rnd ?_)
        refine X.next ((i + 1, ws2, b2_, o2_, c2_)) rfl (EnvLe.cons (by rfl) (EnvLe.nil)) (Keeps.cons (by exact Eq.trans (b := .raw _) rfl rfl) (Keeps.cons (by exact Eq.trans (b := .sl _ _ _) rfl rfl) (Keeps.cons (by exact Eq.trans (b := .raw _) rfl rfl) (Keeps.cons (by exact Eq.trans (b := .raw _) rfl rfl) (Keeps.cons (by exact Eq.trans (b := .sl _ _ _) rfl rfl) (Keeps.cons (by exact Eq.trans (b := .raw _) rfl rfl) (Keeps.nil))))))) (by repeat (exact HSub.refl _)) ?_ ?_
        · exact ⟨by omega, hwl2, hun2⟩
        · (simp; omega)
    · try have h3 := of_decide_eq_false h3
      refine LW.exit (exit_code (exit_rnd (exit_blk (after_code ?_))))
      refine LW.seq ?_
      refine LW.region ?_
      refine X.u (LU.moveR Is.rfl') rfl ?_
      refine X.u (LU.call1 0 rfl (waiting_calls g ws [] .nilFunc b o c 0 0 0 (by omega)) Try.func29 rfl rfl (Opds.cons Is.rfl' Opds.nil)) rfl ?_
      refine X.u (LU.assignS Is.rfl') rfl ?_
      refine LL.nil (after_code ?_)
      refine LW.seq ?_
      refine LW.seq ?_
      refine LW.region ?_
      refine X.u (LU.moveS Is.rfl') rfl ?_
      refine X.u (LU.lenN Try.underlying24 Is.rfl' (by (simp only [Option.getD_some, Option.getD_none, byteEls_length, intEls_length, List.length_append, List.length_cons, List.length_nil, List.length_map, List.length_drop, List.length_take, Int.toNat_natCast]; rfl))) rfl ?_
      refine X.u (LU.eql Is.rfl' Is.rfl') rfl ?_
      refine X.u (LU.moveR Is.rfl') rfl ?_
      refine X.gF rfl rfl (fun hg => LU.moveS (by exact Is.rfl')) rfl ?_
      refine X.gF rfl rfl (fun hg => LU.lenN Try.underlying24 (by exact Is.whenN hg) (by (simp only [Option.getD_some, Option.getD_none, byteEls_length, intEls_length, List.length_append, List.length_cons, List.length_nil, List.length_map, List.length_drop, List.length_take, Int.toNat_natCast]; rfl))) rfl ?_
      refine X.gF rfl rfl (fun hg => LU.gtr (by exact Is.whenN hg) (by exact Is.rfl')) rfl ?_
      refine X.u (LU.pickOr Is.rfl' Is.rfl' (fun hq => (by exact Is.whenN hq))) rfl ?_
      refine LL.nil (after_code ?_)
      refine X.cond rfl (fun h9 => ?_) (fun h9 => ?_)
      · try have h9 := of_decide_eq_true h9
        refine LW.seq ?_
        refine LW.region ?_
        refine X.u (LU.moveR Is.rfl') rfl ?_
        refine X.u (LU.call1 0 rfl (ended_calls g ws [] .nilFunc b o c 0 0 0 (by simp)) Try.func30 rfl rfl (Opds.cons Is.rfl' Opds.nil)) rfl ?_
        refine X.u (LU.lenN Try.underlying54 Is.rfl' (by (simp only [Option.getD_some, Option.getD_none, byteEls_length, intEls_length, List.length_append, List.length_cons, List.length_nil, List.length_map, List.length_drop, List.length_take, Int.toNat_natCast]; rfl))) rfl ?_
        refine X.u (LU.weak (LU.eql Is.rfl' Is.rfl') (asB (c := true) rfl (by rfl))) rfl ?_
        refine X.u (LU.moveR Is.rfl') rfl ?_
        refine X.doT rfl rfl (LU.call (lives21_calls) Try.func31 rfl rfl Opds.nil) rfl ?_
        refine X.u (LU.pickT Is.rfl' (by exact Is.rfl')) rfl ?_
        refine X.u (LU.assignR Is.rfl') rfl ?_
        refine LL.nil (after_code ?_)
        refine LW.ret (ret_code (after_end ?_))
        refine X.ret (H' := []) (Res.one (by exact IsR rfl)) (by repeat (first | exact HSub.refl _ | refine HSub.drop ?_)) ?_
        exact ⟨rfl, rfl⟩
      · have h9 : 0 < ws.length ∧ an.length ≤ 300 := by
          simp only [Bool.or_eq_false_iff, decide_eq_false_iff_not] at h9
          omega
        obtain ⟨hpos, h300⟩ := h9
        obtain ⟨k, hk1, hk2⟩ := turn_k21 at_ ws.length hpos
        obtain ⟨wk, hwk⟩ := at_lt hk2
        have hpl := place_calls g ws [] .nilFunc b o c 0 0 0 wk (by omega)
        rw [idx_of hun hwk] at hpl
        refine LW.skip (after_code ?_)
        refine LW.seq ?_
        refine LW.region ?_
        refine X.u (LU.moveR Is.rfl') rfl ?_
        refine X.u (LU.conv Try.underlying3 Try.underlying56 Is.rfl') rfl ?_
        refine X.u (LU.moveS Is.rfl') rfl ?_
        refine X.u (LU.lenN Try.underlying24 Is.rfl' (by (simp only [Option.getD_some, Option.getD_none, byteEls_length, intEls_length, List.length_append, List.length_cons, List.length_nil, List.length_map, List.length_drop, List.length_take, Int.toNat_natCast]; rfl))) rfl ?_
        refine X.u (LU.convN Try.underlying3 Try.underlying56 Is.rfl' (wrap_u64 (by omega) (by omega))) rfl ?_
        refine X.u (LU.weak (LU.rem Is.rfl' Is.rfl' (by omega)) (Is.of (y := .raw (.int .u64 ((k : Nat) : Int))) (congrArg (fun z => LV.raw (.int .u64 z)) hk1))) rfl ?_
        refine X.u (LU.convN Try.underlying56 Try.underlying3 Is.rfl' (wrap_i64 (by omega) (by omega))) rfl ?_
        refine X.u (LU.assignR Is.rfl') rfl ?_
        refine LL.nil (after_code ?_)
        refine LW.seq ?_
        refine LW.seq ?_
        refine LW.region ?_
        refine X.u (LU.moveR Is.rfl') rfl ?_
        refine X.u (LU.moveS Is.rfl') rfl ?_
        refine X.u (LU.moveR Is.rfl') rfl ?_
        refine X.u (LU.at Try.underlying24 ⟨Try.sizeOf3, Try.isAgg3⟩ Is.rfl' Is.rfl' (by omega) (ints_at hwk) (by simp)) rfl ?_
        refine X.u (LU.load ⟨Try.sizeOf3, Try.isAgg3⟩ Is.rfl' (by (simp; done)) (Part.one rfl)) rfl ?_
        refine X.u (LU.call1 0 rfl (hpl) Try.func32 rfl rfl (Opds.cons Is.rfl' (Opds.cons Is.rfl' Opds.nil))) rfl ?_
        refine X.u (LU.moveR Is.rfl') rfl ?_
        refine X.u (LU.weak (LU.neq Is.rfl' Is.rfl') (asB (c := false) rfl (by simp))) rfl ?_
        refine LL.nil (after_code ?_)
        refine X.condF rfl ?_ ?_
        · rfl
        refine LW.skip (after_code ?_)
        refine LW.seq ?_
        refine LW.seq ?_
        refine LW.region ?_
        refine X.u (LU.moveR Is.rfl') rfl ?_
        refine X.u (LU.weak (LU.addN Is.rfl' Is.rfl' (wrap_i64 (by omega) (by omega))) (Is.of (y := i64 ((k + 1 : Nat) : Int)) (rfl))) rfl ?_
        refine X.u (LU.moveR Is.rfl') rfl ?_
        refine LL.nil (after_code ?_)
        refine LW.block ?_
        refine X.loopK (α := Nat × List Int × List Ed × Nat × Nat × Nat × Nat × Nat × Nat) (fun ⟨j, wt, es, b, o, c, p, q, r⟩ => [(65, i64 j)]) [2, 7, 10, 11, 64] (fun ⟨j, wt, es, b, o, c, p, q, r⟩ => qa g wt es .nilFunc b o c p q r :: .tail b o c :: .tail p q r :: Rf) (fun ⟨j, wt, es, b, o, c, p, q, r⟩ => j ≤ k + 1 ∧ es.length = j ∧ wt.length ≤ 64 ∧ Uni wt ∧ (∀ i : Nat, i + j < ws.length → wt[i]? = ws[i + j]?) ∧ ∀ (i : Nat) (e : Ed), es[i]? = some e → ws[i]? = some e.1) (fun ⟨j, wt, es, b, o, c, p, q, r⟩ => k + 1 - j) ((0, ws, [], b, o, c, 0, 0, 0)) (EnvLe.cons (by rfl) (EnvLe.nil)) (by repeat (exact HSub.refl _)) ?_ ?_
        · exact ⟨Nat.zero_le _, rfl, hwl, hun, fun i hi => rfl, fun i e he => by simp at he⟩
        · rintro ⟨j, wt, es, b, o, c, p, q, r⟩ hI
          obtain ⟨hj, hel, hwl3, hun3, hpre, hes⟩ := hI
          refine LW.seq ?_
          refine LW.region ?_
          refine X.u (LU.lss Is.rfl' Is.rfl') rfl ?_
          refine LL.nil (after_code ?_)
          refine LW.seq ?_
          refine X.cond rfl (fun h15 => ?_) (fun h15 => ?_)
          · try have h15 := of_decide_eq_true h15
            refine LW.skip (after_code ?_)
            refine LW.seq ?_
            refine LW.block ?_
            refine LW.seq ?_
            refine LW.region ?_
            refine X.u (LU.moveR Is.rfl') rfl ?_
            refine X.u (LU.assignR Is.rfl') rfl ?_
            refine LL.nil (after_code ?_)
            refine LW.seq ?_
            obtain ⟨x, hx⟩ := at_lt (show j < ws.length by omega)
            have hx0 : wt[0]? = some x := by rw [hpre 0 (by omega), Nat.zero_add]; exact hx
            refine LW.region ?_
            refine X.act (X.alloc rfl Try.zeroValue3 (by exact Cells.raw rfl) (fun b13 => ?_))
            refine X.act (X.store 0 rfl Try.sizeOf3 Is.rfl' Is.rfl' (by exact Cells.raw rfl) (by (simp; done)) (by (simp; done)) ?_)
            refine LL.nil (after_code ?_)
            refine X.meetK (α := List Int × Nat × Nat × Nat × Int) (fun ⟨w3, b2_, o2_, c2_, a⟩ => []) [2, 7, 10, 11, 12, 13, 64, 65] (fun ⟨w3, b2_, o2_, c2_, a⟩ => .cells b13 3 [i64 a] :: qa g w3 es .nilFunc b2_ o2_ c2_ p q r :: .tail b2_ o2_ c2_ :: .tail p q r :: Rf) (fun ⟨w3, b2_, o2_, c2_, a⟩ => w3.length ≤ 64 ∧ Uni w3 ∧ ∀ i : Nat, i < wt.length → w3[i]? = wt[i]?) ?_ ?_
            · refine LW.seq ?_
              refine LW.region ?_
              refine X.u (LU.moveS Is.rfl') rfl ?_
              refine X.u (LU.lenN Try.underlying24 Is.rfl' (by (simp only [Option.getD_some, Option.getD_none, byteEls_length, intEls_length, List.length_append, List.length_cons, List.length_nil, List.length_map, List.length_drop, List.length_take, Int.toNat_natCast]; rfl))) rfl ?_
              refine X.u (LU.gtr Is.rfl' Is.rfl') rfl ?_
              refine LL.nil (after_code ?_)
              refine X.cond rfl (fun h18 => ?_) (fun h18 => ?_)
              · have h18 : 0 < an.length := by have := of_decide_eq_true h18; omega
                obtain ⟨z, hz⟩ := at_lt (Nat.mod_lt j h18)
                obtain ⟨hg1, hg2, hg3⟩ := putW_facts z hun3 hwl3
                have hpu := put_calls21 g wt es .nilFunc b o c p q r z hwl3
                refine LW.seq ?_
                refine LW.region ?_
                refine X.u (LU.moveS Is.rfl') rfl ?_
                refine X.u (LU.moveR Is.rfl') rfl ?_
                refine X.u (LU.moveS Is.rfl') rfl ?_
                refine X.u (LU.lenN Try.underlying24 Is.rfl' (by (simp only [Option.getD_some, Option.getD_none, byteEls_length, intEls_length, List.length_append, List.length_cons, List.length_nil, List.length_map, List.length_drop, List.length_take, Int.toNat_natCast]; rfl))) rfl ?_
                refine X.u (LU.weak (LU.rem Is.rfl' Is.rfl' (by omega)) (Is.of (y := i64 ((j % an.length : Nat) : Int)) (congrArg i64 (Int.ofNat_tmod ..).symm))) rfl ?_
                refine X.u (LU.at Try.underlying24 ⟨Try.sizeOf3, Try.isAgg3⟩ Is.rfl' Is.rfl' (by omega) (ints_at hz) (by simp)) rfl ?_
                refine X.u (LU.load ⟨Try.sizeOf3, Try.isAgg3⟩ Is.rfl' (by (simp; done)) (Part.one rfl)) rfl ?_
                refine X.act (X.store 0 rfl Try.sizeOf3 Is.rfl' Is.rfl' (by exact Cells.raw rfl) (by (simp; done)) (by exact Nat.le_of_ble_eq_true rfl) ?_)
                refine LL.nil (after_code ?_)
                refine LW.region ?_
                refine X.u (LU.moveR Is.rfl') rfl ?_
                refine X.u (LU.moveS Is.rfl') rfl ?_
                refine X.u (LU.moveR Is.rfl') rfl ?_
                refine X.u (LU.moveS Is.rfl') rfl ?_
                refine X.u (LU.lenN Try.underlying24 Is.rfl' (by (simp only [Option.getD_some, Option.getD_none, byteEls_length, intEls_length, List.length_append, List.length_cons, List.length_nil, List.length_map, List.length_drop, List.length_take, Int.toNat_natCast]; rfl))) rfl ?_
                refine X.u (LU.weak (LU.rem Is.rfl' Is.rfl' (by omega)) (Is.of (y := i64 ((j % an.length : Nat) : Int)) (congrArg i64 (Int.ofNat_tmod ..).symm))) rfl ?_
                refine X.u (LU.at Try.underlying24 ⟨Try.sizeOf3, Try.isAgg3⟩ Is.rfl' Is.rfl' (by omega) (ints_at hz) (by simp)) rfl ?_
                refine X.u (LU.load ⟨Try.sizeOf3, Try.isAgg3⟩ Is.rfl' (by (simp; done)) (Part.one rfl)) rfl ?_
                refine X.act (X.call (hpu) Try.func28 rfl rfl rfl (by (refine HSub.pick 1 rfl ?_); (refine HSub.pick 1 rfl ?_); (refine HSub.pick 1 rfl ?_); exact HSub.refl _) (Opds.cons Is.rfl' (Opds.cons Is.rfl' Opds.nil)) ?_)
                rintro r H' ⟨b3_, o3_, c3_, rfl, rfl⟩
                refine LL.nil (after_rnd ?_)
                refine X.meets ((putW wt z, b3_, o3_, c3_, z)) rfl (EnvLe.nil) (Keeps.cons (by exact Eq.trans (b := .sl _ _ _) rfl rfl) (Keeps.cons (by exact Eq.trans (b := .raw _) rfl rfl) (Keeps.cons (by exact Eq.trans (b := .sl _ _ _) rfl rfl) (Keeps.cons (by exact Eq.trans (b := .raw _) rfl rfl) (Keeps.cons (by exact Eq.trans (b := .raw _) rfl rfl) (Keeps.cons (by exact Eq.trans (b := .raw _) rfl rfl) (Keeps.cons (by exact Eq.trans (b := .raw _) rfl rfl) (Keeps.cons (by exact Eq.trans (b := .raw _) rfl rfl) (Keeps.nil))))))))) (by repeat (first | exact HSub.refl _ | refine HSub.pick 3 rfl ?_)) ?_
                exact ⟨hg2, hg1, hg3⟩
              · try have h18 := of_decide_eq_false h18
                refine LW.skip (after_rnd ?_)
                refine X.meets ((wt, b, o, c, 0)) rfl (EnvLe.nil) (Keeps.cons (by exact Eq.trans (b := .sl _ _ _) rfl rfl) (Keeps.cons (by exact Eq.trans (b := .raw _) rfl rfl) (Keeps.cons (by exact Eq.trans (b := .sl _ _ _) rfl rfl) (Keeps.cons (by exact Eq.trans (b := .raw _) rfl rfl) (Keeps.cons (by exact Eq.trans (b := .raw _) rfl rfl) (Keeps.cons (by exact Eq.trans (b := .raw _) rfl rfl) (Keeps.cons (by exact Eq.trans (b := .raw _) rfl rfl) (Keeps.cons (by exact Eq.trans (b := .raw _) rfl rfl) (Keeps.nil))))))))) (by repeat (exact HSub.refl _)) ?_
                exact ⟨hwl3, hun3, fun i hi => rfl⟩
            · rintro ⟨w3, b2_, o2_, c2_, a⟩ hI
              obtain ⟨hwl4, hun4, hpre4⟩ := hI
              have hwt0 := (List.getElem?_eq_some_iff.1 hx0).1
              have hx3 : w3[0]? = some x := by rw [hpre4 0 hwt0]; exact hx0
              have hst := stepH_calls (.cells b13 3 [i64 a]) g w3 es b2_ o2_ c2_ p q r (.func (.func 34) #[] #[.pointer (some ⟨b13, 0, none⟩)]) x a hx3 (by omega) (by omega) ⟨_, _, _, _, rfl, Try.func34, rfl, rfl, answer_calls x a b13⟩
              have heI : ∀ i : Nat, (w3.eraseIdx 0)[i]? = w3[i + 1]? := fun i => by
                rw [List.getElem?_eraseIdx]; simp
              have hun5 : Uni (w3.eraseIdx 0) := fun i i' y h1 h2 => by
                rw [heI] at h1 h2
                have := hun4 _ _ _ h1 h2
                omega
              have hpre5 : ∀ i : Nat, i + (j + 1) < ws.length → (w3.eraseIdx 0)[i]? = ws[i + (j + 1)]? := fun i hi => by
                have h1 := hpre (i + 1) (by omega)
                obtain ⟨y, hy⟩ := at_lt (show i + 1 + j < ws.length by omega)
                have h2 := (List.getElem?_eq_some_iff.1 (h1.trans hy)).1
                rw [heI, hpre4 _ h2, h1, show i + 1 + j = i + (j + 1) by omega]
              have hes5 : ∀ (i : Nat) (e : Ed), (es ++ [(x, outE a, a)])[i]? = some e → ws[i]? = some e.1 := fun i e h1 => by
                by_cases q : i < es.length
                · rw [List.getElem?_append_left q] at h1; exact hes i e h1
                · rw [List.getElem?_append_right (by omega)] at h1
                  have hq := (List.getElem?_eq_some_iff.1 h1).1
                  rw [List.length_singleton] at hq
                  have h0 : i - es.length = 0 := by omega
                  rw [h0] at h1
                  obtain rfl := (Option.some.inj h1)
                  rw [show i = j by omega]; exact hx
              refine LW.seq ?_
              refine LW.region ?_
              refine X.u (LU.moveR Is.rfl') rfl ?_
              refine X.u (LU.closure (vs := [_]) (Opds.cons Is.rfl' Opds.nil)) rfl ?_
              refine X.act (X.call (hst) Try.func33 rfl rfl rfl (by (refine HSub.pick 1 rfl ?_); (refine HSub.pick 1 rfl ?_); (refine HSub.pick 1 rfl ?_); (refine HSub.pick 0 rfl ?_); exact HSub.refl _) (Opds.cons Is.rfl' (Opds.cons Is.rfl' Opds.nil)) ?_)
              rintro r H' ⟨b4_, o4_, c4_, p4_, q4_, r4_, rfl, rfl⟩
              refine X.u (LU.moveT Is.rfl') rfl ?_
              refine X.u (LU.extract Is.rfl' rfl) rfl ?_
              refine X.u (LU.extract Is.rfl' rfl) rfl ?_
              refine X.act (X.alloc rfl Try.zeroValue58 (by exact Cells.rawagg (by decide)) (fun b14 => ?_))
              refine X.act (X.store 0 rfl Try.sizeOf58 Is.rfl' Is.rfl' (by exact Cells.agg) (by (simp; done)) (by exact Nat.le_of_ble_eq_true rfl) ?_)
              refine X.u (LU.assignR Is.rfl') rfl ?_
              refine LL.nil (after_code ?_)
              refine LW.seq ?_
              refine X.wcells (ys := edL (x, outE a, a)) rfl ?_
              refine X.drawM 25 rfl (by kernel_rfl) rfl ?_
              refine QD.u (LU.moveR Is.rfl') rfl ?_
              refine QD.u (LU.weak (LU.neq Is.rfl' Is.rfl') (asB (c := false) rfl (by rfl))) rfl ?_
              refine QD.u (LU.moveR Is.rfl') rfl ?_
              refine QD.doF rfl rfl (LU.fieldO Try.underlying58 rfl Try.sizeOf3 (by decide) (by exact Is.rfl')) rfl ?_
              refine QD.doF rfl rfl (LU.loadO 0 rfl ⟨Try.sizeOf3, Try.isAgg3⟩ (by exact Is.rfl') (Part.one rfl)) rfl ?_
              refine QD.doF rfl rfl (LU.moveS (by exact Is.rfl')) rfl ?_
              refine QD.doF rfl rfl (LU.moveR (by exact Is.rfl')) rfl ?_
              refine QD.doF rfl rfl (LU.at Try.underlying24 ⟨Try.sizeOf3, Try.isAgg3⟩ (by exact Is.rfl') (by exact Is.rfl') (by omega) (ints_at hx) (by simp)) rfl ?_
              refine QD.doF rfl rfl (LU.load ⟨Try.sizeOf3, Try.isAgg3⟩ (by exact Is.rfl') (by (simp; done)) (Part.one rfl)) rfl ?_
              refine QD.doF rfl rfl (LU.weak (LU.neq (by exact Is.rfl') (by exact Is.rfl')) (asB (c := false) rfl (by simp))) rfl ?_
              refine QD.u (LU.pickF Is.rfl' (by exact Is.rfl')) rfl ?_
              refine QD.u (LU.moveR Is.rfl') rfl ?_
              refine QD.doF rfl rfl (LU.fieldO Try.underlying58 rfl Try.sizeOf3 (by decide) (by exact Is.rfl')) rfl ?_
              refine QD.doF rfl rfl (LU.loadO 0 rfl ⟨Try.sizeOf3, Try.isAgg3⟩ (by exact Is.rfl') (Part.one rfl)) rfl ?_
              refine QD.doF rfl rfl (LU.eql (by exact Is.rfl') (by exact Is.rfl')) rfl ?_
              refine QD.doF rfl rfl (LU.loadO 4 rfl ⟨Try.sizeOf3, Try.isAgg3⟩ (by exact Is.rfl') (Part.one rfl)) rfl ?_
              refine QD.doF rfl rfl (LU.eql (by exact Is.rfl') (by exact Is.rfl')) rfl ?_
              refine QD.doF rfl rfl (LU.weak (LU.boolne Try.underlying4 (by exact Is.rfl') (by exact Is.rfl')) (asB (c := false) rfl (by exact out_one a))) rfl ?_
              refine QD.u (LU.pickF Is.rfl' (by exact Is.rfl')) rfl ?_
              refine QD.u (LU.moveR Is.rfl') rfl ?_
              refine QD.doF rfl rfl (LU.fieldO Try.underlying58 rfl Try.sizeOf26 (by decide) (by exact Is.rfl')) rfl ?_
              refine QD.doF rfl rfl (LU.loadO 0 rfl ⟨Try.sizeOf26, Try.isAgg26⟩ (by exact Is.rfl') (Part.one rfl)) rfl ?_
              refine QD.doF rfl rfl (LU.loadO 4 rfl ⟨Try.sizeOf3, Try.isAgg3⟩ (by exact Is.rfl') (Part.one rfl)) rfl ?_
              refine QD.doF rfl rfl (LU.weak (LU.neq (by exact Is.rfl') (by exact Is.rfl')) (asB (c := false) rfl (by simp))) rfl ?_
              refine QD.u (LU.pickF Is.rfl' (by exact Is.rfl')) rfl ?_
              refine QD.nil ?_
              refine LL.nil (after_code ?_)
              refine X.condF rfl ?_ ?_
              · rfl
              refine LW.skip (after_blk (after_code ?_))
              refine LW.region ?_
              refine X.u (LU.addN Is.rfl' Is.rfl' (wrap_i64 (by omega) (by omega))) rfl ?_
              refine X.u (LU.moveR Is.rfl') rfl ?_
              refine LL.nil (after_rnd ?_)
              refine X.next ((j + 1, w3.eraseIdx 0, es ++ [(x, outE a, a)], b4_, o4_, c4_, p4_, q4_, r4_)) rfl (EnvLe.cons (by rfl) (EnvLe.nil)) (Keeps.cons (by exact Eq.trans (b := .sl _ _ _) rfl rfl) (Keeps.cons (by exact Eq.trans (b := .raw _) rfl rfl) (Keeps.cons (by exact Eq.trans (b := .sl _ _ _) rfl rfl) (Keeps.cons (by exact Eq.trans (b := .raw _) rfl rfl) (Keeps.cons (by exact Eq.trans (b := .raw _) rfl rfl) (Keeps.nil)))))) (by repeat (first | exact HSub.refl _ | refine HSub.pick 1 rfl ?_ | refine HSub.drop ?_)) ?_ ?_
              · exact ⟨by omega, by rw [List.length_append, hel]; rfl, by rw [List.length_eraseIdx]; split <;> omega, hun5, hpre5, hes5⟩
              · (simp; omega)
          · try have h15 := of_decide_eq_false h15
            obtain rfl : j = k + 1 := by omega
            obtain ⟨e, he⟩ := at_lt (show k < es.length by omega)
            have hek : e.1 = wk := by have := hes k e he; rw [hwk] at this; exact (Option.some.inj this).symm
            have hed : (eds es)[(k : Int).toNat]? = some (edL e) := by rw [Int.toNat_natCast, List.getElem?_map, he]; rfl
            have hels : (eds es).length = k + 1 := by rw [List.length_map, hel]
            refine LW.exit (exit_code (exit_rnd (exit_blk (after_code ?_))))
            refine LW.seq ?_
            refine LW.region ?_
            refine X.u (LU.moveR Is.rfl') rfl ?_
            refine X.u (LU.call1 0 rfl (ended_calls g wt es .nilFunc b o c p q r (by omega)) Try.func30 rfl rfl (Opds.cons Is.rfl' Opds.nil)) rfl ?_
            refine X.u (LU.assignS Is.rfl') rfl ?_
            refine LL.nil (after_code ?_)
            refine LW.seq ?_
            refine X.drawM 21 rfl (by kernel_rfl) rfl ?_
            refine QD.u (LU.moveS Is.rfl') rfl ?_
            refine QD.u (LU.lenN Try.underlying54 Is.rfl' (by (simp only [Option.getD_some, Option.getD_none, byteEls_length, intEls_length, List.length_append, List.length_cons, List.length_nil, List.length_map, List.length_drop, List.length_take, Int.toNat_natCast]; rfl))) rfl ?_
            refine QD.u (LU.moveR Is.rfl') rfl ?_
            refine QD.u (LU.addN Is.rfl' Is.rfl' (wrap_i64 (by omega) (by omega))) rfl ?_
            refine QD.u (LU.weak (LU.eql Is.rfl' Is.rfl') (asB (c := true) rfl (by simp; omega))) rfl ?_
            refine QD.u (LU.moveR Is.rfl') rfl ?_
            refine QD.doT rfl rfl (LU.moveS (by exact Is.rfl')) rfl ?_
            refine QD.doT rfl rfl (LU.moveR (by exact Is.rfl')) rfl ?_
            refine QD.doT rfl rfl (LU.at Try.underlying54 ⟨Try.sizeOf58, Try.isAgg58⟩ (by exact Is.rfl') (by exact Is.rfl') (by omega) (hed) (by simp)) rfl ?_
            refine QD.doT rfl rfl (LU.fieldP Try.underlying58 rfl ⟨Try.sizeOf3, Try.isAgg3⟩ (by decide) (by exact Is.rfl') (by (simp; done))) rfl ?_
            refine QD.doT rfl rfl (LU.load ⟨Try.sizeOf3, Try.isAgg3⟩ (by exact Is.rfl') (by (simp; done)) (Part.one rfl)) rfl ?_
            refine QD.doT rfl rfl (LU.moveS (by exact Is.rfl')) rfl ?_
            refine QD.doT rfl rfl (LU.moveR (by exact Is.rfl')) rfl ?_
            refine QD.doT rfl rfl (LU.at Try.underlying24 ⟨Try.sizeOf3, Try.isAgg3⟩ (by exact Is.rfl') (by exact Is.rfl') (by omega) (ints_at hwk) (by simp)) rfl ?_
            refine QD.doT rfl rfl (LU.load ⟨Try.sizeOf3, Try.isAgg3⟩ (by exact Is.rfl') (by (simp; done)) (Part.one rfl)) rfl ?_
            refine QD.doT rfl rfl (LU.weak (LU.eql (by exact Is.rfl') (by exact Is.rfl')) (asB (c := true) rfl (by rw [hek]; simp))) rfl ?_
            refine QD.u (LU.pickT Is.rfl' (by exact Is.rfl')) rfl ?_
            refine QD.u (LU.moveR Is.rfl') rfl ?_
            refine QD.doT rfl rfl (LU.call (lives21_calls) Try.func31 rfl rfl Opds.nil) rfl ?_
            refine QD.u (LU.pickT Is.rfl' (by exact Is.rfl')) rfl ?_
            refine QD.u (LU.assignR Is.rfl') rfl ?_
            refine QD.nil ?_
            refine LL.nil (after_code ?_)
            refine LW.ret (after_end ?_)
            refine X.ret (H' := []) (Res.one (by exact IsR rfl)) (by repeat (first | exact HSub.refl _ | refine HSub.drop ?_)) ?_
            exact ⟨rfl, rfl⟩
theorem QueueProgress_row (x0 : List (List LV)) (at_ : Int) (x2 : List (List LV)) (h0 : ∀ c ∈ x0, QInt .i64 c) (h1 : x0.length * 8 ≤ reachBytes) (h2 : (Lit.int .i64 at_).wf = true) (h3 : ∀ c ∈ x2, QInt .i64 c) (h4 : x2.length * 8 ≤ reachBytes) : LCalls Try.prog 8 [.sl 1 x0 .unk, i64 at_, .sl 1 x2 .unk] [] (fun r _ => r = .raw (.bool true)) := by
  obtain ⟨a, rfl, _⟩ := decode_ints h0
  obtain ⟨b, rfl, _⟩ := decode_ints h3
  rw [intEls_length] at h1 h4
  have hr := reachBytes_lt
  obtain ⟨h5, h6⟩ := wf_i64 h2
  exact (qp_calls a at_ b (by omega) (by omega) h5 h6).mono fun r H' h => h.1
end Go.Proofs.Ytpimalihpnfdkaa
