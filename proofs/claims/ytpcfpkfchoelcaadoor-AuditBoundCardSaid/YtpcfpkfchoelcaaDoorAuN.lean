/- Two chains of one head are the same, or two unlike entries of them have the same digest. -/
import Derived.Test.YtpcfpkfchoelcaaDoorAuL
import Derived.Test.YtpcfpkfchoelcaaDoorLogL
set_option linter.unusedVariables false
set_option linter.unusedSimpArgs false
namespace Go.Proofs.YtpcfpkfchoelcaaDoor
open Go.RowKit Go.L
attribute [local irreducible] LL LW LO LP LA
theorem fit_seq {p : List Ent} {e : Ent} (h : fitE p e = true) : e.seq = p.length + 1 := by
  rw [fit_iff] at h
  simp only [Bool.and_eq_true, decide_eq_true_eq] at h
  exact h.1.1.1.1.2
theorem Chain.at_ {l : List Ent} (h : Chain l) {i : Nat} {e : Ent} (he : l[i]? = some e) : fitE (l.take i) e = true := by
  have := h i (List.getElem?_eq_some_iff.1 he).1
  rwa [getD_get he] at this
/-- The digest that stands behind the entry that is i-th from the end. -/
def after (l : List Ent) (i : Nat) : List UInt8 := if i = 0 then headE l else ((l[l.length - i]?).getD zeroE).prev
theorem back_dig {l : List Ent} (h : Chain l) {i : Nat} {x : Ent} (hi : i + 1 ≤ l.length) (hx : l[l.length - (i + 1)]? = some x) : digE x = after l i := by
  have h1 := headE_take hx
  unfold after
  by_cases h0 : i = 0
  · subst h0
    rw [if_pos rfl, ← h1, show l.length - (0 + 1) + 1 = l.length by omega, List.take_length]
  · rw [if_neg h0]
    obtain ⟨y, hy⟩ := at_lt (show l.length - i < l.length by omega)
    rw [hy, Option.getD_some, fit_prev (h.at_ hy), ← h1, show l.length - (i + 1) + 1 = l.length - i by omega]
theorem bound_dig {a b : List Ent} (ha : Chain a) (hb : Chain b) (hh : headE a = headE b) {i : Nat} (hall : ∀ j, j < i → a[a.length - (j + 1)]? = b[b.length - (j + 1)]?) {x y : Ent} (hia : i + 1 ≤ a.length) (hib : i + 1 ≤ b.length) (hx : a[a.length - (i + 1)]? = some x) (hy : b[b.length - (i + 1)]? = some y) : digE x = digE y := by
  rw [back_dig ha hia hx, back_dig hb hib hy]
  unfold after
  by_cases h0 : i = 0
  · rw [if_pos h0, if_pos h0, hh]
  · rw [if_neg h0, if_neg h0]
    have := hall (i - 1) (by omega)
    rw [show i - 1 + 1 = i by omega] at this
    rw [this]
theorem bound_end {a b : List Ent} (ha : Chain a) (hb : Chain b) (hab : a ≠ b) {i : Nat} (hall : ∀ j, j < i → a[a.length - (j + 1)]? = b[b.length - (j + 1)]?) (h1 : i ≤ a.length) (h2 : i ≤ b.length) (h3 : ¬ (i + 1 ≤ a.length ∧ i + 1 ≤ b.length)) : a.length = 0 ∨ b.length = 0 := by
  refine Decidable.byContradiction fun h0 => ?_
  have hi : 0 < i := by omega
  have hl : a.length = b.length := by
    have h4 := hall (i - 1) (by omega)
    rw [show i - 1 + 1 = i by omega] at h4
    obtain ⟨x, hx⟩ := at_lt (show a.length - i < a.length by omega)
    have hy := h4.symm.trans hx
    have hs1 := fit_seq (ha.at_ hx)
    have hs2 := fit_seq (hb.at_ hy)
    rw [List.length_take] at hs1 hs2
    omega
  refine hab (List.ext_getElem? fun j => ?_)
  by_cases hj : j < a.length
  · have h5 := hall (a.length - 1 - j) (by omega)
    rw [show a.length - (a.length - 1 - j + 1) = j by omega, show b.length - (a.length - 1 - j + 1) = j by omega] at h5
    exact h5
  · rw [List.getElem?_eq_none (by omega), List.getElem?_eq_none (by omega)]
theorem bound_not {VA VB : Int} {HA HB : List UInt8} (h : ((!decide (VA < 0)) || !(decide (VB < 0) && decide (HB = HA))) = true) : ((decide (0 ≤ VA) || decide (0 ≤ VB)) || !decide (HA = HB)) = true := by
  simp only [Bool.or_eq_true, Bool.not_eq_true', decide_eq_true_eq, decide_eq_false_iff_not]
  by_cases q1 : VA < 0
  · by_cases q2 : VB < 0
    · by_cases q3 : HB = HA
      · rw [decide_eq_true q1, decide_eq_true q2, decide_eq_true q3] at h; cases h
      · exact .inr fun e => q3 e.symm
    · exact .inl (.inr (by omega))
  · exact .inl (.inl (by omega))
set_option maxRecDepth 100000 in
theorem freshT_calls (l : List Ent) (k : Cap) (hl : l.length * 200 < 140737488355328) (hlo : PrevOk l) : LCalls Tryd.prog 10 [.sl 36 (ents l) k] [] (fun r H' => ∃ b o c, r = .sl 36 (ents l) (.tok b o c) ∧ H' = [.tail b o c]) := by
  have hsz := ents_size hlo
  refine LCalls.of Tryd.func10 rfl Tryd.ntmps10 Tryd.results10 rfl (fun Rf => ?_)
  refine LW.seq ?_
  refine LW.region ?_
  refine X.u (LU.assign (Is.nil 36)) rfl ?_
  refine LL.nil (after_code ?_)
  refine LW.seq ?_
  refine LW.region ?_
  refine X.u (LU.lits Tryd.underlying22 Tryd.sizeOf28 Tryd.zeroValue28 (ones rfl) rfl (by decide) (by decide) Elems.nil (by intro e he; cases he) rfl) rfl ?_
  refine X.u (LU.moveS Is.rfl') rfl ?_
  refine X.act (X.appendF rfl Tryd.underlying22 (El.of (P := Tryd.prog) (z := (.agg #[(.int .i64 0), (.int .i64 0), (.string ByteArray.empty), (.string ByteArray.empty), (.int .u8 0), (.int .u8 0), (.int .u8 0), (.int .u8 0), (.int .u8 0), (.int .u8 0), (.int .u8 0), (.int .u8 0), (.int .u8 0), (.int .u8 0), (.int .u8 0), (.int .u8 0), (.int .u8 0), (.int .u8 0), (.int .u8 0), (.int .u8 0), (.int .u8 0), (.int .u8 0), (.int .u8 0), (.int .u8 0), (.int .u8 0), (.int .u8 0), (.int .u8 0), (.int .u8 0), (.int .u8 0), (.int .u8 0), (.int .u8 0), (.int .u8 0), (.int .u8 0), (.int .u8 0), (.int .u8 0), (.int .u8 0)])) (size := 36) (bytes := 80) rfl rfl rfl) Is.rfl' Is.rfl' (SrcL.slice Tryd.underlying22 (by decide) hsz) (by simp only [Option.getD_some, Option.getD_none, byteEls_length, intEls_length, List.length_append, List.length_cons, List.length_nil, List.length_map, List.length_drop, List.length_take, Int.toNat_natCast]; omega) (by simp only [Option.getD_some, Option.getD_none, byteEls_length, intEls_length, List.length_append, List.length_cons, List.length_nil, List.length_map, List.length_drop, List.length_take, Int.toNat_natCast]; omega) (fun b5 o5 c5 => ?_))
  refine X.weak (t := 5) (v := .sl 36 (ents l) (.tok b5 o5 c5)) (Is.of (rfl)) ?_
  refine X.u (LU.assignS Is.rfl') rfl ?_
  refine LL.nil (after_code ?_)
  refine LW.ret (after_end ?_)
  refine X.ret (H' := [.tail b5 o5 c5]) (Res.one Is.rfl') (by repeat (exact HSub.refl _)) ?_
  exact ⟨b5, o5, c5, rfl, rfl⟩
set_option maxHeartbeats 2000000 in
set_option maxRecDepth 100000 in
theorem ab_calls (a b : List Ent) (hal : a.length < 140737488355328) (hbl : b.length < 140737488355328) (hain : ∀ e ∈ a, EntIn e) (hbin : ∀ e ∈ b, EntIn e) : LCalls Tryd.prog 3 [.sl 36 (ents a) .unk, .sl 36 (ents b) .unk] [kw] (fun r H' => r = bl true ∧ H' = [kw]) := by
  have hpa : PrevOk a := fun e he => (hain e he).2.2.2.2
  have hpb : PrevOk b := fun e he => (hbin e he).2.2.2.2
  refine LCalls.of Tryd.func3 rfl Tryd.ntmps3 Tryd.results3 rfl (fun Rf => ?_)
  refine LW.seq ?_
  refine LW.region ?_
  refine X.u (LU.assignR Is.rfl') rfl ?_
  refine LL.nil (after_code ?_)
  refine LW.seq ?_
  refine LW.seq ?_
  refine LW.region ?_
  refine X.u (LU.moveS Is.rfl') rfl ?_
  refine X.u (LU.lenN Tryd.underlying22 Is.rfl' (by (simp only [Option.getD_some, Option.getD_none, byteEls_length, intEls_length, List.length_append, List.length_cons, List.length_nil, List.length_map, List.length_drop, List.length_take, Int.toNat_natCast]; rfl))) rfl ?_
  refine X.u (LU.gtr Is.rfl' Is.rfl') rfl ?_
  refine X.u (LU.moveR Is.rfl') rfl ?_
  refine X.gF rfl rfl (fun hg => LU.moveS (by exact Is.rfl')) rfl ?_
  refine X.gF rfl rfl (fun hg => LU.lenN Tryd.underlying22 (by exact Is.whenN hg) (by (simp only [Option.getD_some, Option.getD_none, byteEls_length, intEls_length, List.length_append, List.length_cons, List.length_nil, List.length_map, List.length_drop, List.length_take, Int.toNat_natCast]; rfl))) rfl ?_
  refine X.gF rfl rfl (fun hg => LU.gtr (by exact Is.whenN hg) (by exact Is.rfl')) rfl ?_
  refine X.u (LU.pickOr Is.rfl' Is.rfl' (fun hq => (by exact Is.whenN hq))) rfl ?_
  refine LL.nil (after_code ?_)
  refine X.cond rfl (fun h1 => ?_) (fun h1 => ?_)
  · try have h1 := of_decide_eq_true h1
    refine LW.seq ?_
    refine LW.region ?_
    refine X.u (LU.call1 0 rfl (lives19_calls) Tryd.func9 rfl rfl Opds.nil) rfl ?_
    refine X.u (LU.assignR Is.rfl') rfl ?_
    refine LL.nil (after_code ?_)
    refine LW.ret (ret_code (after_end ?_))
    refine X.ret (H' := [kw]) (Res.one (by exact IsR rfl)) (by repeat (exact HSub.refl _)) ?_
    exact ⟨rfl, rfl⟩
  · have h100 : a.length ≤ 100 ∧ b.length ≤ 100 := by simp only [Bool.or_eq_false_iff, decide_eq_false_iff_not] at h1; omega
    obtain ⟨ha1, hb1⟩ := h100
    refine LW.skip (after_code ?_)
    refine LW.seq ?_
    refine LW.region ?_
    refine X.u (LU.assignR Is.rfl') rfl ?_
    refine LL.nil (after_code ?_)
    refine LW.seq ?_
    refine LW.seq ?_
    refine LW.region ?_
    refine X.u (LU.moveS Is.rfl') rfl ?_
    refine X.act (X.call (freshT_calls a .unk (by omega) hpa) Tryd.func10 rfl rfl rfl (HSub.refl _) (Opds.cons Is.rfl' Opds.nil) ?_)
    rintro r H' ⟨b7, o7, c7, rfl, rfl⟩
    refine X.u (LU.moveS Is.rfl') rfl ?_
    refine X.act (X.append 0 rfl rfl Tryd.underlying22 (El.of (P := Tryd.prog) (z := (.agg #[(.int .i64 0), (.int .i64 0), (.string ByteArray.empty), (.string ByteArray.empty), (.int .u8 0), (.int .u8 0), (.int .u8 0), (.int .u8 0), (.int .u8 0), (.int .u8 0), (.int .u8 0), (.int .u8 0), (.int .u8 0), (.int .u8 0), (.int .u8 0), (.int .u8 0), (.int .u8 0), (.int .u8 0), (.int .u8 0), (.int .u8 0), (.int .u8 0), (.int .u8 0), (.int .u8 0), (.int .u8 0), (.int .u8 0), (.int .u8 0), (.int .u8 0), (.int .u8 0), (.int .u8 0), (.int .u8 0), (.int .u8 0), (.int .u8 0), (.int .u8 0), (.int .u8 0), (.int .u8 0), (.int .u8 0)])) (size := 36) (bytes := 80) rfl rfl rfl) Is.rfl' Is.rfl' (SrcL.slice Tryd.underlying22 (by decide) (ents_size hpb)) (by simp only [Option.getD_some, Option.getD_none, byteEls_length, intEls_length, List.length_append, List.length_cons, List.length_nil, List.length_map, List.length_drop, List.length_take, Int.toNat_natCast]; omega) (by simp only [Option.getD_some, Option.getD_none, byteEls_length, intEls_length, List.length_append, List.length_cons, List.length_nil, List.length_map, List.length_drop, List.length_take, Int.toNat_natCast]; omega) (fun b24 o24 c24 => X.weak (t := 24) (Is.of (y := .sl 36 (ents (a ++ b)) (.tok b24 o24 c24)) (congrArg (fun z => LV.sl 36 z (.tok b24 o24 c24)) (List.map_append ..).symm)) ?_))
    refine X.u (LU.lenN Tryd.underlying22 Is.rfl' (by (simp only [Option.getD_some, Option.getD_none, byteEls_length, intEls_length, List.length_append, List.length_cons, List.length_nil, List.length_map, List.length_drop, List.length_take, Int.toNat_natCast]; rfl))) rfl ?_
    refine X.u (LU.moveR Is.rfl') rfl ?_
    refine LL.nil (after_code ?_)
    refine LW.block ?_
    have hLl : (a ++ b).length = a.length + b.length := List.length_append ..
    have hLin : ∀ e ∈ a ++ b, EntIn e := fun e he => (List.mem_append.1 he).elim (hain e) (hbin e)
    obtain ⟨L, hL⟩ : ∃ L, L = a ++ b := ⟨_, rfl⟩
    rw [← hL] at hLl hLin
    refine X.loopK (α := Nat × Nat) (fun ⟨i, n⟩ => [(26, i64 i), (5, i64 (n : Nat))]) [0, 1, 24, 25] (fun ⟨i, n⟩ => kw :: Rf) (fun ⟨i, n⟩ => i ≤ a.length + b.length ∧ n ≤ 100000 ∧ ∀ j e, j < i → (a ++ b)[j]? = some e → e.who.length ≤ 100000 ∧ e.what.length ≤ 100000) (fun ⟨i, n⟩ => a.length + b.length - i) ((0, 0)) (EnvLe.cons (by rfl) (EnvLe.cons (by rfl) (EnvLe.nil))) (by repeat (first | exact HSub.refl _ | refine HSub.pick 1 rfl ?_ | refine HSub.drop ?_)) ?_ ?_
    · exact ⟨Nat.zero_le _, Nat.zero_le _, fun j e hj _ => by omega⟩
    · rintro ⟨i, n⟩ hI
      obtain ⟨hi, hn, hsm⟩ := hI
      refine LW.seq ?_
      refine LW.region ?_
      refine X.u (LU.lss Is.rfl' Is.rfl') rfl ?_
      refine LL.nil (after_code ?_)
      refine LW.seq ?_
      refine X.cond rfl (fun h5 => ?_) (fun h5 => ?_)
      · try have h5 := of_decide_eq_true h5
        refine LW.skip (after_code ?_)
        refine LW.seq ?_
        refine LW.block ?_
        refine LW.seq ?_
        obtain ⟨x, hx⟩ := at_lt (show i < (a ++ b).length by rw [List.length_append]; omega)
        obtain ⟨_, _, hx3, hx4, hx5⟩ := hLin x (by rw [hL]; exact List.mem_of_getElem? hx)
        have hxl : (entL x).length = 36 := by simp [hx5]
        refine LW.region ?_
        refine X.u (LU.at Tryd.underlying22 ⟨Tryd.sizeOf28, Tryd.isAgg28⟩ Is.rfl' Is.rfl' (by omega) (ents_at hx) (by simp)) rfl ?_
        refine X.u (LU.load ⟨Tryd.sizeOf28, Tryd.isAgg28⟩ Is.rfl' (by assumption) (Part.whole (by assumption))) rfl ?_
        refine X.act (X.alloc rfl Tryd.zeroValue28 (by exact Cells.rawagg (by decide)) (fun b7 => ?_))
        refine X.act (X.store 0 rfl Tryd.sizeOf28 Is.rfl' Is.rfl' (by exact Cells.agg) (by assumption) (by exact Nat.le_of_ble_eq_true rfl) ?_)
        refine LL.nil (after_code ?_)
        refine LW.seq ?_
        refine X.wcells (ys := entL x) (putAt_all (by simp [raws, hx5])) ?_
        refine LW.region ?_
        refine X.u (LU.moveR Is.rfl') rfl ?_
        refine X.u (LU.fieldO Tryd.underlying28 rfl Tryd.sizeOf9 (by decide) Is.rfl') rfl ?_
        refine X.u (LU.loadO 0 rfl ⟨Tryd.sizeOf9, Tryd.isAgg9⟩ Is.rfl' (Part.one rfl)) rfl ?_
        refine X.u (LU.strlenN Tryd.underlying9 Is.rfl') rfl ?_
        refine X.u (LU.fieldO Tryd.underlying28 rfl Tryd.sizeOf9 (by decide) Is.rfl') rfl ?_
        refine X.u (LU.loadO 0 rfl ⟨Tryd.sizeOf9, Tryd.isAgg9⟩ Is.rfl' (Part.one rfl)) rfl ?_
        refine X.u (LU.strlenN Tryd.underlying9 Is.rfl') rfl ?_
        refine X.u (LU.weak (LU.addN Is.rfl' Is.rfl' (wrap_i64 (by omega) (by omega))) (Is.of (y := i64 ((x.who.length + x.what.length : Nat) : Int)) (rfl))) rfl ?_
        refine X.u (LU.weak (LU.addN Is.rfl' Is.rfl' (wrap_i64 (by omega) (by omega))) (Is.of (y := i64 ((n + (x.who.length + x.what.length) : Nat) : Int)) (rfl))) rfl ?_
        refine X.u (LU.assignR Is.rfl') rfl ?_
        refine LL.nil (after_code ?_)
        refine LW.seq ?_
        refine LW.region ?_
        refine X.u (LU.moveR Is.rfl') rfl ?_
        refine X.u (LU.gtr Is.rfl' Is.rfl') rfl ?_
        refine LL.nil (after_code ?_)
        refine X.cond rfl (fun h8 => ?_) (fun h8 => ?_)
        · try have h8 := of_decide_eq_true h8
          refine LW.seq ?_
          refine LW.region ?_
          refine X.u (LU.call1 1 rfl (lives19_calls) Tryd.func9 rfl rfl Opds.nil) rfl ?_
          refine X.u (LU.assignR Is.rfl') rfl ?_
          refine LL.nil (after_code ?_)
          refine LW.ret (ret_blk (ret_code (ret_rnd (ret_blk (ret_code (after_end ?_))))))
          refine X.ret (H' := [kw]) (Res.one (by exact IsR rfl)) (by repeat (first | exact HSub.refl _ | refine HSub.pick 1 rfl ?_ | refine HSub.drop ?_)) ?_
          exact ⟨rfl, rfl⟩
        · try have h8 := of_decide_eq_false h8
          refine LW.skip (after_blk (after_code ?_))
          refine LW.region ?_
          refine X.u (LU.addN Is.rfl' Is.rfl' (wrap_i64 (by omega) (by omega))) rfl ?_
          refine X.u (LU.moveR Is.rfl') rfl ?_
          refine LL.nil (after_rnd ?_)
          refine X.next ((i + 1, n + (x.who.length + x.what.length))) rfl (EnvLe.cons (by rfl) (EnvLe.cons (by rfl) (EnvLe.nil))) (Keeps.cons (by exact Eq.trans (b := .sl _ _ _) rfl rfl) (Keeps.cons (by exact Eq.trans (b := .sl _ _ _) rfl rfl) (Keeps.cons (by exact Eq.trans (b := .sl _ _ _) rfl rfl) (Keeps.cons (by exact Eq.trans (b := .raw _) rfl rfl) (Keeps.nil))))) (by repeat (first | exact HSub.refl _ | refine HSub.pick 1 rfl ?_ | refine HSub.drop ?_)) ?_ ?_
          · refine ⟨by omega, by omega, fun j e hj he => ?_⟩
            by_cases hji : j = i
            · subst hji; rw [hx] at he; obtain rfl := Option.some.inj he; omega
            · exact hsm j e (by omega) he
          · (simp; omega)
      · try have h5 := of_decide_eq_false h5
        obtain rfl : i = a.length + b.length := by omega
        have hall : ∀ e ∈ a ++ b, EntOk e := fun e he => by
          obtain ⟨j, hj⟩ := List.mem_iff_getElem?.1 he
          have := hsm j e (by have := (List.getElem?_eq_some_iff.1 hj).1; rw [List.length_append] at this; exact this) hj
          exact (hLin e (by rw [hL]; exact he)).ok (by omega) (by omega)
        have hao : ∀ e ∈ a, EntOk e := fun e he => hall e (List.mem_append_left _ he)
        have hbo : ∀ e ∈ b, EntOk e := fun e he => hall e (List.mem_append_right _ he)
        have hra := rhead_calls a .unk (by omega) hao
        have hrb := rhead_calls b .unk (by omega) hbo
        have hva := verify_calls a .unk (by omega) hao
        have hvb := verify_calls b .unk (by omega) hbo
        have hha := holds_calls a .unk (headE a) (by omega) hao (headE_len a)
        have hhb := holds_calls b .unk (headE a) (by omega) hbo (headE_len a)
        have hsame := same_calls a b .unk .unk (by omega) (by omega) hpa hpb
        rw [holds_head] at hha
        unfold holdsB at hhb
        have hla := headE_len a
        have hlb := headE_len b
        have hca : verL a < 0 → Chain a := Chain.of_ver
        have hcb : verL b < 0 → Chain b := Chain.of_ver
        have hbd := @bound_dig a b
        obtain ⟨HA, hHA⟩ : ∃ HA, HA = headE a := ⟨_, rfl⟩
        obtain ⟨HB, hHB⟩ : ∃ HB, HB = headE b := ⟨_, rfl⟩
        obtain ⟨VA, hVA⟩ : ∃ V, V = verL a := ⟨_, rfl⟩
        obtain ⟨VB, hVB⟩ : ∃ V, V = verL b := ⟨_, rfl⟩
        rw [← hHA] at hra hha hhb hla hbd
        rw [← hHB] at hrb hhb hlb hbd
        rw [← hVA] at hva hha hca
        rw [← hVB] at hvb hhb hcb
        clear hHA hHB hVA hVB
        refine LW.exit (exit_code (exit_rnd (exit_blk (after_code ?_))))
        refine LW.seq ?_
        refine LW.region ?_
        refine X.u (LU.moveS Is.rfl') rfl ?_
        refine X.u (LU.call (hra) Tryd.func11 rfl rfl (Opds.cons Is.rfl' Opds.nil)) rfl ?_
        refine X.act (X.alloc rfl Tryd.zeroValue26 (by exact Cells.rawagg (by decide)) (fun b8 => ?_))
        refine X.act (X.store 0 rfl Tryd.sizeOf26 Is.rfl' Is.rfl' (by exact Cells.agg) (by (simp; omega)) (by exact Nat.le_of_ble_eq_true rfl) ?_)
        refine LL.nil (after_code ?_)
        refine LW.seq ?_
        refine LW.seq ?_
        refine X.wcells (ys := u8s HA) (putAt_all (by simp [raws, hla])) ?_
        refine LW.region ?_
        refine X.u (LU.moveS Is.rfl') rfl ?_
        refine X.u (LU.loadO 0 rfl ⟨Tryd.sizeOf26, Tryd.isAgg26⟩ Is.rfl' (Part.whole (by (simp; omega)))) rfl ?_
        refine X.u (LU.call1 1 rfl (hha) Tryd.func12 rfl rfl (Opds.cons Is.rfl' (Opds.cons Is.rfl' Opds.nil))) rfl ?_
        refine X.u (LU.not Is.rfl') rfl ?_
        refine X.u (LU.moveR Is.rfl') rfl ?_
        refine X.gF rfl rfl (fun hg => LU.moveS (by exact Is.rfl')) rfl ?_
        refine X.gF rfl rfl (fun hg => LU.loadO 0 rfl ⟨Tryd.sizeOf26, Tryd.isAgg26⟩ (by exact Is.rfl') (Part.whole (by (simp; omega)))) rfl ?_
        refine X.gF rfl rfl (fun hg => LU.call1 1 rfl (hhb) Tryd.func12 rfl rfl (Opds.cons (by exact Is.whenN hg) (Opds.cons (by exact Is.whenN hg) Opds.nil))) rfl ?_
        refine X.gF rfl rfl (fun hg => LU.not (by exact Is.whenN hg)) rfl ?_
        refine X.u (LU.pickOr Is.rfl' Is.rfl' (fun hq => (by exact Is.whenN hq))) rfl ?_
        refine LL.nil (after_code ?_)
        refine X.cond rfl (fun h12 => ?_) (fun h12 => ?_)
        · try have h12 := of_decide_eq_true h12
          refine LW.seq ?_
          refine X.drawM 18 rfl (by kernel_rfl) rfl ?_
          refine QD.u (LU.moveS Is.rfl') rfl ?_
          refine QD.u (LU.call1 1 rfl (hva) Tryd.func13 rfl rfl (Opds.cons Is.rfl' Opds.nil)) rfl ?_
          refine QD.u (LU.geq Is.rfl' Is.rfl') rfl ?_
          refine QD.u (LU.moveR Is.rfl') rfl ?_
          refine QD.gF rfl rfl (fun hg => LU.moveS (by exact Is.rfl')) rfl ?_
          refine QD.gF rfl rfl (fun hg => LU.call1 1 rfl (hvb) Tryd.func13 rfl rfl (Opds.cons (by exact Is.whenN hg) Opds.nil)) rfl ?_
          refine QD.gF rfl rfl (fun hg => LU.geq (by exact Is.whenN hg) (by exact Is.rfl')) rfl ?_
          refine QD.u (LU.pickOr Is.rfl' Is.rfl' (fun hq => (by exact Is.whenN hq))) rfl ?_
          refine QD.u (LU.moveR Is.rfl') rfl ?_
          refine QD.gF rfl rfl (fun hg => LU.loadO 0 rfl ⟨Tryd.sizeOf26, Tryd.isAgg26⟩ (by exact Is.rfl') (Part.whole (by (simp; omega)))) rfl ?_
          refine QD.gF rfl rfl (fun hg => LU.moveS (by exact Is.rfl')) rfl ?_
          refine QD.gF rfl rfl (fun hg => LU.call (hrb) Tryd.func11 rfl rfl (Opds.cons (by exact Is.whenN hg) Opds.nil)) rfl ?_
          refine QD.gF rfl rfl (fun hg => LU.neqH hla hlb (by exact Is.whenN hg) (by exact Is.whenN hg)) rfl ?_
          refine QD.u (LU.weak (LU.pickOr Is.rfl' Is.rfl' (fun hq => (by exact Is.whenN hq))) (asB (c := true) rfl (by exact bound_not h12))) rfl ?_
          refine QD.u (LU.moveR Is.rfl') rfl ?_
          refine QD.doT rfl rfl (LU.call1 1 rfl (lives19_calls) Tryd.func9 rfl rfl Opds.nil) rfl ?_
          refine QD.u (LU.pickT Is.rfl' (by exact Is.rfl')) rfl ?_
          refine QD.u (LU.assignR Is.rfl') rfl ?_
          refine QD.nil ?_
          refine LL.nil (after_code ?_)
          refine LW.ret (ret_code (after_end ?_))
          refine X.ret (H' := [kw]) (Res.one (by exact IsR rfl)) (by repeat (first | exact HSub.refl _ | refine HSub.pick 1 rfl ?_ | refine HSub.drop ?_)) ?_
          exact ⟨rfl, rfl⟩
        · have hboth : VA < 0 ∧ VB < 0 ∧ HB = HA := by
            simp only [Bool.or_eq_false_iff, Bool.not_eq_false', Bool.and_eq_true, decide_eq_true_eq] at h12
            exact ⟨h12.1, h12.2.1, h12.2.2⟩
          obtain ⟨hVa, hVb, hHab⟩ := hboth
          have hCa := hca hVa
          have hCb := hcb hVb
          refine LW.skip (after_code ?_)
          refine LW.seq ?_
          refine LW.seq ?_
          refine LW.region ?_
          refine X.u (LU.moveS Is.rfl') rfl ?_
          refine X.u (LU.moveS Is.rfl') rfl ?_
          refine X.u (LU.call (hsame) Tryd.func14 rfl rfl (Opds.cons Is.rfl' (Opds.cons Is.rfl' Opds.nil))) rfl ?_
          refine LL.nil (after_code ?_)
          refine X.cond rfl (fun h14 => ?_) (fun h14 => ?_)
          · try have h14 := of_decide_eq_true h14
            refine LW.seq ?_
            refine LW.region ?_
            refine X.u (LU.call1 1 rfl (lives19_calls) Tryd.func9 rfl rfl Opds.nil) rfl ?_
            refine X.u (LU.assignR Is.rfl') rfl ?_
            refine LL.nil (after_code ?_)
            refine LW.ret (ret_code (after_end ?_))
            refine X.ret (H' := [kw]) (Res.one (by exact IsR rfl)) (by repeat (first | exact HSub.refl _ | refine HSub.pick 1 rfl ?_ | refine HSub.drop ?_)) ?_
            exact ⟨rfl, rfl⟩
          · have hab : a ≠ b := by simpa using h14
            have hend := @bound_end a b hCa hCb hab
            refine LW.skip (after_code ?_)
            refine LW.seq ?_
            refine LW.seq ?_
            refine LW.region ?_
            refine X.u (LU.assignR Is.rfl') rfl ?_
            refine LL.nil (after_code ?_)
            refine LW.block ?_
            refine X.loopK (α := Nat) (fun k => [(9, i64 ((k + 1 : Nat) : Int))]) [0, 1] (fun k => .cells b8 26 (u8s HA) :: kw :: Rf) (fun k => k ≤ a.length ∧ k ≤ b.length ∧ ∀ j, j < k → a[a.length - (j + 1)]? = b[b.length - (j + 1)]?) (fun k => a.length + 1 - k) (0) (EnvLe.cons (by rfl) (EnvLe.nil)) (by repeat (exact HSub.refl _)) ?_ ?_
            · exact ⟨Nat.zero_le _, Nat.zero_le _, fun j hj => by omega⟩
            · rintro k hI
              obtain ⟨hk1, hk2, heq⟩ := hI
              refine LW.seq ?_
              refine LW.seq ?_
              refine LW.region ?_
              refine X.u (LU.moveR Is.rfl') rfl ?_
              refine X.u (LU.moveS Is.rfl') rfl ?_
              refine X.u (LU.lenN Tryd.underlying22 Is.rfl' (by (simp only [Option.getD_some, Option.getD_none, byteEls_length, intEls_length, List.length_append, List.length_cons, List.length_nil, List.length_map, List.length_drop, List.length_take, Int.toNat_natCast]; rfl))) rfl ?_
              refine X.u (LU.leq Is.rfl' Is.rfl') rfl ?_
              refine X.u (LU.moveR Is.rfl') rfl ?_
              refine X.gT rfl rfl (fun hg => LU.moveR (by exact Is.rfl')) rfl ?_
              refine X.gT rfl rfl (fun hg => LU.moveS (by exact Is.rfl')) rfl ?_
              refine X.gT rfl rfl (fun hg => LU.lenN Tryd.underlying22 (by exact Is.whenE hg) (by (simp only [Option.getD_some, Option.getD_none, byteEls_length, intEls_length, List.length_append, List.length_cons, List.length_nil, List.length_map, List.length_drop, List.length_take, Int.toNat_natCast]; rfl))) rfl ?_
              refine X.gT rfl rfl (fun hg => LU.leq (by exact Is.whenE hg) (by exact Is.whenE hg)) rfl ?_
              refine X.u (LU.pickAnd Is.rfl' (fun hq => (by exact Is.whenE hq)) Is.rfl') rfl ?_
              refine LL.nil (after_code ?_)
              refine X.cond rfl (fun h17 => ?_) (fun h17 => ?_)
              · have h17 : k + 1 ≤ a.length ∧ k + 1 ≤ b.length := by simp only [Bool.and_eq_true, decide_eq_true_eq] at h17; omega
                obtain ⟨hka, hkb⟩ := h17
                refine LW.skip (after_code ?_)
                refine LW.seq ?_
                refine LW.block ?_
                refine LW.seq ?_
                obtain ⟨x, hx⟩ := at_lt (show a.length - (k + 1) < a.length by omega)
                obtain ⟨y, hy⟩ := at_lt (show b.length - (k + 1) < b.length by omega)
                have hxo := hao x (List.mem_of_getElem? hx)
                have hyo := hbo y (List.mem_of_getElem? hy)
                have hx5 := hxo.2.2.2.2
                have hy5 := hyo.2.2.2.2
                have hxl : (entL x).length = 36 := by simp [hx5]
                have hyl : (entL y).length = 36 := by simp [hy5]
                have hdx := digest_calls x hxo
                have hdy := digest_calls y hyo
                have hdxl := digE_len x
                have hdyl := digE_len y
                have hxy2 := hbd hCa hCb hHab.symm heq hka hkb hx hy
                obtain ⟨DX, hDX⟩ : ∃ D, D = digE x := ⟨_, rfl⟩
                obtain ⟨DY, hDY⟩ : ∃ D, D = digE y := ⟨_, rfl⟩
                rw [← hDX] at hdx hdxl hxy2
                rw [← hDY] at hdy hdyl hxy2
                clear hDX hDY
                refine LW.invB (m := 17) (γ := Nat × Nat) [(0, 88), (1, 89), (2, 90), (3, 91), (4, 92), (5, 93), (6, 94), (7, 95), (8, 96), (9, 97), (10, 98), (11, 99), (12, 100), (13, 101), (14, 10), (15, 11)] (fun g_ d => match g_ with | ⟨p, q⟩ => match d with | 88 => .sl 36 (ents a) .unk | 89 => .sl 36 (ents a) .unk | 90 => i64 (a.length : Nat) | 91 => i64 ((k + 1 : Nat) : Int) | 92 => i64 ((a.length - (k + 1) : Nat) : Int) | 93 => .pin (entL x) | 94 => .agg (entL x) | 95 => .sl 36 (ents b) .unk | 96 => .sl 36 (ents b) .unk | 97 => i64 (b.length : Nat) | 98 => i64 ((k + 1 : Nat) : Int) | 99 => i64 ((b.length - (k + 1) : Nat) : Int) | 100 => .pin (entL y) | 101 => .agg (entL y) | 10 => .raw (.pointer (some ⟨p, 0, none⟩)) | 11 => .raw (.pointer (some ⟨q, 0, none⟩)) | _ => .any) (fun g_ f => match g_ with | ⟨p, q⟩ => cond (f 14) (.cells p 28 (cond (f 16) (entL x) (entL zeroE))) (.tail 0 0 0) :: cond (f 15) (.cells q 28 (entL zeroE)) (.tail 0 0 0) :: .cells b8 26 (u8s HA) :: kw :: Rf) (0, 0) rfl (by kernel_rfl) rfl rfl ((HSub.tail0 0 0 0 (Nat.le_refl _) _).trans (HSub.tail0 0 0 0 (Nat.le_refl _) _)) ?_ ?_
                · intro i hi f g_ hfi hdir hdown
                  obtain ⟨p, q⟩ := g_
                  have hc : i = 0 ∨ i = 1 ∨ i = 2 ∨ i = 3 ∨ i = 4 ∨ i = 5 ∨ i = 6 ∨ i = 7 ∨ i = 8 ∨ i = 9 ∨ i = 10 ∨ i = 11 ∨ i = 12 ∨ i = 13 ∨ i = 14 ∨ i = 15 ∨ i = 16 := by omega
                  rcases hc with rfl | rfl | rfl | rfl | rfl | rfl | rfl | rfl | rfl | rfl | rfl | rfl | rfl | rfl | rfl | rfl | rfl
                  · refine ⟨_, rfl, ?_⟩
                    refine A.u (LU.moveS Is.rfl') rfl ?_
                    refine ⟨⟨p, q⟩, Weaker.mk' ?_ (HSub.refl _)⟩
                    refine env_back0 (envS_hit (sl := [(0, 88), (1, 89), (2, 90), (3, 91), (4, 92), (5, 93), (6, 94), (7, 95), (8, 96), (9, 97), (10, 98), (11, 99), (12, 100), (13, 101), (14, 10), (15, 11)]) (j := 0) (d := 88) rfl (fun _ _ h => h))  (envS_next ?_)
                    · intro p hp hne; simp only [List.mem_cons, List.not_mem_nil, or_false] at hp; rcases hp with rfl | rfl | rfl | rfl | rfl | rfl | rfl | rfl | rfl | rfl | rfl | rfl | rfl | rfl | rfl | rfl <;> first | exact absurd rfl hne | exact ⟨rfl, rfl⟩
                  · refine ⟨_, rfl, ?_⟩
                    refine A.u (LU.moveS Is.rfl') rfl ?_
                    refine ⟨⟨p, q⟩, Weaker.mk' ?_ (HSub.refl _)⟩
                    refine env_back0 (envS_hit (sl := [(0, 88), (1, 89), (2, 90), (3, 91), (4, 92), (5, 93), (6, 94), (7, 95), (8, 96), (9, 97), (10, 98), (11, 99), (12, 100), (13, 101), (14, 10), (15, 11)]) (j := 1) (d := 89) rfl (fun _ _ h => h))  (envS_next ?_)
                    · intro p hp hne; simp only [List.mem_cons, List.not_mem_nil, or_false] at hp; rcases hp with rfl | rfl | rfl | rfl | rfl | rfl | rfl | rfl | rfl | rfl | rfl | rfl | rfl | rfl | rfl | rfl <;> first | exact absurd rfl hne | exact ⟨rfl, rfl⟩
                  · have d1 := hdir 1 (List.mem_of_elem_eq_true (by kernel_rfl))
                    refine ⟨_, rfl, ?_⟩
                    refine LP.weak (t := 89) (v := .sl 36 (ents a) .unk) (envS_is (j := 1) rfl d1) ?_
                    refine A.u (LU.lenN Tryd.underlying22 Is.rfl' (by (simp only [Option.getD_some, Option.getD_none, byteEls_length, intEls_length, List.length_append, List.length_cons, List.length_nil, List.length_map, List.length_drop, List.length_take, Int.toNat_natCast]; rfl))) rfl ?_
                    refine ⟨⟨p, q⟩, Weaker.mk' ?_ (HSub.refl _)⟩
                    refine env_back1 (envS_hit (sl := [(0, 88), (1, 89), (2, 90), (3, 91), (4, 92), (5, 93), (6, 94), (7, 95), (8, 96), (9, 97), (10, 98), (11, 99), (12, 100), (13, 101), (14, 10), (15, 11)]) (j := 2) (d := 90) rfl (fun _ _ h => h)) (envS_hit (sl := [(0, 88), (1, 89), (2, 90), (3, 91), (4, 92), (5, 93), (6, 94), (7, 95), (8, 96), (9, 97), (10, 98), (11, 99), (12, 100), (13, 101), (14, 10), (15, 11)]) (j := 1) (d := 89) rfl (fun _ _ h => h)) (envS_next ?_)
                    · intro p hp hne; simp only [List.mem_cons, List.not_mem_nil, or_false] at hp; rcases hp with rfl | rfl | rfl | rfl | rfl | rfl | rfl | rfl | rfl | rfl | rfl | rfl | rfl | rfl | rfl | rfl <;> first | exact absurd rfl hne | exact ⟨rfl, rfl⟩
                  · refine ⟨_, rfl, ?_⟩
                    refine A.u (LU.moveR Is.rfl') rfl ?_
                    refine ⟨⟨p, q⟩, Weaker.mk' ?_ (HSub.refl _)⟩
                    refine env_back0 (envS_hit (sl := [(0, 88), (1, 89), (2, 90), (3, 91), (4, 92), (5, 93), (6, 94), (7, 95), (8, 96), (9, 97), (10, 98), (11, 99), (12, 100), (13, 101), (14, 10), (15, 11)]) (j := 3) (d := 91) rfl (fun _ _ h => h))  (envS_next ?_)
                    · intro p hp hne; simp only [List.mem_cons, List.not_mem_nil, or_false] at hp; rcases hp with rfl | rfl | rfl | rfl | rfl | rfl | rfl | rfl | rfl | rfl | rfl | rfl | rfl | rfl | rfl | rfl <;> first | exact absurd rfl hne | exact ⟨rfl, rfl⟩
                  · have d2 := hdir 2 (List.mem_of_elem_eq_true (by kernel_rfl))
                    have d3 := hdir 3 (List.mem_of_elem_eq_true (by kernel_rfl))
                    refine ⟨_, rfl, ?_⟩
                    refine LP.weak (t := 90) (v := i64 (a.length : Nat)) (envS_is (j := 2) rfl d2) ?_
                    refine LP.weak (t := 91) (v := i64 ((k + 1 : Nat) : Int)) (envS_is (j := 3) rfl d3) ?_
                    refine A.u (LU.subN Is.rfl' Is.rfl' (wrap_i64 (by omega) (by omega))) rfl ?_
                    refine ⟨⟨p, q⟩, Weaker.mk' ?_ (HSub.refl _)⟩
                    refine env_back2 (envS_hit (sl := [(0, 88), (1, 89), (2, 90), (3, 91), (4, 92), (5, 93), (6, 94), (7, 95), (8, 96), (9, 97), (10, 98), (11, 99), (12, 100), (13, 101), (14, 10), (15, 11)]) (j := 4) (d := 92) rfl (Is.of (congrArg i64 (show (a.length : Int) - ((k + 1 : Nat) : Int) = _ by omega)))) (envS_hit (sl := [(0, 88), (1, 89), (2, 90), (3, 91), (4, 92), (5, 93), (6, 94), (7, 95), (8, 96), (9, 97), (10, 98), (11, 99), (12, 100), (13, 101), (14, 10), (15, 11)]) (j := 3) (d := 91) rfl (fun _ _ h => h)) (envS_hit (sl := [(0, 88), (1, 89), (2, 90), (3, 91), (4, 92), (5, 93), (6, 94), (7, 95), (8, 96), (9, 97), (10, 98), (11, 99), (12, 100), (13, 101), (14, 10), (15, 11)]) (j := 2) (d := 90) rfl (fun _ _ h => h)) (envS_next ?_)
                    · intro p hp hne; simp only [List.mem_cons, List.not_mem_nil, or_false] at hp; rcases hp with rfl | rfl | rfl | rfl | rfl | rfl | rfl | rfl | rfl | rfl | rfl | rfl | rfl | rfl | rfl | rfl <;> first | exact absurd rfl hne | exact ⟨rfl, rfl⟩
                  · have d0 := hdir 0 (List.mem_of_elem_eq_true (by kernel_rfl))
                    have d4 := hdir 4 (List.mem_of_elem_eq_true (by kernel_rfl))
                    refine ⟨_, rfl, ?_⟩
                    refine LP.weak (t := 88) (v := .sl 36 (ents a) .unk) (envS_is (j := 0) rfl d0) ?_
                    refine LP.weak (t := 92) (v := i64 ((a.length - (k + 1) : Nat) : Int)) (envS_is (j := 4) rfl d4) ?_
                    refine A.u (LU.at Tryd.underlying22 ⟨Tryd.sizeOf28, Tryd.isAgg28⟩ Is.rfl' Is.rfl' (by omega) (ents_at hx) (by simp)) rfl ?_
                    refine ⟨⟨p, q⟩, Weaker.mk' ?_ (HSub.refl _)⟩
                    refine env_back2 (envS_hit (sl := [(0, 88), (1, 89), (2, 90), (3, 91), (4, 92), (5, 93), (6, 94), (7, 95), (8, 96), (9, 97), (10, 98), (11, 99), (12, 100), (13, 101), (14, 10), (15, 11)]) (j := 5) (d := 93) rfl (fun _ _ h => h)) (envS_hit (sl := [(0, 88), (1, 89), (2, 90), (3, 91), (4, 92), (5, 93), (6, 94), (7, 95), (8, 96), (9, 97), (10, 98), (11, 99), (12, 100), (13, 101), (14, 10), (15, 11)]) (j := 4) (d := 92) rfl (fun _ _ h => h)) (envS_hit (sl := [(0, 88), (1, 89), (2, 90), (3, 91), (4, 92), (5, 93), (6, 94), (7, 95), (8, 96), (9, 97), (10, 98), (11, 99), (12, 100), (13, 101), (14, 10), (15, 11)]) (j := 0) (d := 88) rfl (fun _ _ h => h)) (envS_next ?_)
                    · intro p hp hne; simp only [List.mem_cons, List.not_mem_nil, or_false] at hp; rcases hp with rfl | rfl | rfl | rfl | rfl | rfl | rfl | rfl | rfl | rfl | rfl | rfl | rfl | rfl | rfl | rfl <;> first | exact absurd rfl hne | exact ⟨rfl, rfl⟩
                  · have d5 := hdir 5 (List.mem_of_elem_eq_true (by kernel_rfl))
                    refine ⟨_, rfl, ?_⟩
                    refine LP.weak (t := 93) (v := .pin (entL x)) (envS_is (j := 5) rfl d5) ?_
                    refine A.u (LU.load ⟨Tryd.sizeOf28, Tryd.isAgg28⟩ Is.rfl' (by assumption) (Part.whole (by assumption))) rfl ?_
                    refine ⟨⟨p, q⟩, Weaker.mk' ?_ (HSub.refl _)⟩
                    refine env_back1 (envS_hit (sl := [(0, 88), (1, 89), (2, 90), (3, 91), (4, 92), (5, 93), (6, 94), (7, 95), (8, 96), (9, 97), (10, 98), (11, 99), (12, 100), (13, 101), (14, 10), (15, 11)]) (j := 6) (d := 94) rfl (fun _ _ h => h)) (envS_hit (sl := [(0, 88), (1, 89), (2, 90), (3, 91), (4, 92), (5, 93), (6, 94), (7, 95), (8, 96), (9, 97), (10, 98), (11, 99), (12, 100), (13, 101), (14, 10), (15, 11)]) (j := 5) (d := 93) rfl (fun _ _ h => h)) (envS_next ?_)
                    · intro p hp hne; simp only [List.mem_cons, List.not_mem_nil, or_false] at hp; rcases hp with rfl | rfl | rfl | rfl | rfl | rfl | rfl | rfl | rfl | rfl | rfl | rfl | rfl | rfl | rfl | rfl <;> first | exact absurd rfl hne | exact ⟨rfl, rfl⟩
                  · refine ⟨_, rfl, ?_⟩
                    refine A.u (LU.moveS Is.rfl') rfl ?_
                    refine ⟨⟨p, q⟩, Weaker.mk' ?_ (HSub.refl _)⟩
                    refine env_back0 (envS_hit (sl := [(0, 88), (1, 89), (2, 90), (3, 91), (4, 92), (5, 93), (6, 94), (7, 95), (8, 96), (9, 97), (10, 98), (11, 99), (12, 100), (13, 101), (14, 10), (15, 11)]) (j := 7) (d := 95) rfl (fun _ _ h => h))  (envS_next ?_)
                    · intro p hp hne; simp only [List.mem_cons, List.not_mem_nil, or_false] at hp; rcases hp with rfl | rfl | rfl | rfl | rfl | rfl | rfl | rfl | rfl | rfl | rfl | rfl | rfl | rfl | rfl | rfl <;> first | exact absurd rfl hne | exact ⟨rfl, rfl⟩
                  · refine ⟨_, rfl, ?_⟩
                    refine A.u (LU.moveS Is.rfl') rfl ?_
                    refine ⟨⟨p, q⟩, Weaker.mk' ?_ (HSub.refl _)⟩
                    refine env_back0 (envS_hit (sl := [(0, 88), (1, 89), (2, 90), (3, 91), (4, 92), (5, 93), (6, 94), (7, 95), (8, 96), (9, 97), (10, 98), (11, 99), (12, 100), (13, 101), (14, 10), (15, 11)]) (j := 8) (d := 96) rfl (fun _ _ h => h))  (envS_next ?_)
                    · intro p hp hne; simp only [List.mem_cons, List.not_mem_nil, or_false] at hp; rcases hp with rfl | rfl | rfl | rfl | rfl | rfl | rfl | rfl | rfl | rfl | rfl | rfl | rfl | rfl | rfl | rfl <;> first | exact absurd rfl hne | exact ⟨rfl, rfl⟩
                  · have d8 := hdir 8 (List.mem_of_elem_eq_true (by kernel_rfl))
                    refine ⟨_, rfl, ?_⟩
                    refine LP.weak (t := 96) (v := .sl 36 (ents b) .unk) (envS_is (j := 8) rfl d8) ?_
                    refine A.u (LU.lenN Tryd.underlying22 Is.rfl' (by (simp only [Option.getD_some, Option.getD_none, byteEls_length, intEls_length, List.length_append, List.length_cons, List.length_nil, List.length_map, List.length_drop, List.length_take, Int.toNat_natCast]; rfl))) rfl ?_
                    refine ⟨⟨p, q⟩, Weaker.mk' ?_ (HSub.refl _)⟩
                    refine env_back1 (envS_hit (sl := [(0, 88), (1, 89), (2, 90), (3, 91), (4, 92), (5, 93), (6, 94), (7, 95), (8, 96), (9, 97), (10, 98), (11, 99), (12, 100), (13, 101), (14, 10), (15, 11)]) (j := 9) (d := 97) rfl (fun _ _ h => h)) (envS_hit (sl := [(0, 88), (1, 89), (2, 90), (3, 91), (4, 92), (5, 93), (6, 94), (7, 95), (8, 96), (9, 97), (10, 98), (11, 99), (12, 100), (13, 101), (14, 10), (15, 11)]) (j := 8) (d := 96) rfl (fun _ _ h => h)) (envS_next ?_)
                    · intro p hp hne; simp only [List.mem_cons, List.not_mem_nil, or_false] at hp; rcases hp with rfl | rfl | rfl | rfl | rfl | rfl | rfl | rfl | rfl | rfl | rfl | rfl | rfl | rfl | rfl | rfl <;> first | exact absurd rfl hne | exact ⟨rfl, rfl⟩
                  · refine ⟨_, rfl, ?_⟩
                    refine A.u (LU.moveR Is.rfl') rfl ?_
                    refine ⟨⟨p, q⟩, Weaker.mk' ?_ (HSub.refl _)⟩
                    refine env_back0 (envS_hit (sl := [(0, 88), (1, 89), (2, 90), (3, 91), (4, 92), (5, 93), (6, 94), (7, 95), (8, 96), (9, 97), (10, 98), (11, 99), (12, 100), (13, 101), (14, 10), (15, 11)]) (j := 10) (d := 98) rfl (fun _ _ h => h))  (envS_next ?_)
                    · intro p hp hne; simp only [List.mem_cons, List.not_mem_nil, or_false] at hp; rcases hp with rfl | rfl | rfl | rfl | rfl | rfl | rfl | rfl | rfl | rfl | rfl | rfl | rfl | rfl | rfl | rfl <;> first | exact absurd rfl hne | exact ⟨rfl, rfl⟩
                  · have d9 := hdir 9 (List.mem_of_elem_eq_true (by kernel_rfl))
                    have d10 := hdir 10 (List.mem_of_elem_eq_true (by kernel_rfl))
                    refine ⟨_, rfl, ?_⟩
                    refine LP.weak (t := 97) (v := i64 (b.length : Nat)) (envS_is (j := 9) rfl d9) ?_
                    refine LP.weak (t := 98) (v := i64 ((k + 1 : Nat) : Int)) (envS_is (j := 10) rfl d10) ?_
                    refine A.u (LU.subN Is.rfl' Is.rfl' (wrap_i64 (by omega) (by omega))) rfl ?_
                    refine ⟨⟨p, q⟩, Weaker.mk' ?_ (HSub.refl _)⟩
                    refine env_back2 (envS_hit (sl := [(0, 88), (1, 89), (2, 90), (3, 91), (4, 92), (5, 93), (6, 94), (7, 95), (8, 96), (9, 97), (10, 98), (11, 99), (12, 100), (13, 101), (14, 10), (15, 11)]) (j := 11) (d := 99) rfl (Is.of (congrArg i64 (show (b.length : Int) - ((k + 1 : Nat) : Int) = _ by omega)))) (envS_hit (sl := [(0, 88), (1, 89), (2, 90), (3, 91), (4, 92), (5, 93), (6, 94), (7, 95), (8, 96), (9, 97), (10, 98), (11, 99), (12, 100), (13, 101), (14, 10), (15, 11)]) (j := 10) (d := 98) rfl (fun _ _ h => h)) (envS_hit (sl := [(0, 88), (1, 89), (2, 90), (3, 91), (4, 92), (5, 93), (6, 94), (7, 95), (8, 96), (9, 97), (10, 98), (11, 99), (12, 100), (13, 101), (14, 10), (15, 11)]) (j := 9) (d := 97) rfl (fun _ _ h => h)) (envS_next ?_)
                    · intro p hp hne; simp only [List.mem_cons, List.not_mem_nil, or_false] at hp; rcases hp with rfl | rfl | rfl | rfl | rfl | rfl | rfl | rfl | rfl | rfl | rfl | rfl | rfl | rfl | rfl | rfl <;> first | exact absurd rfl hne | exact ⟨rfl, rfl⟩
                  · have d7 := hdir 7 (List.mem_of_elem_eq_true (by kernel_rfl))
                    have d11 := hdir 11 (List.mem_of_elem_eq_true (by kernel_rfl))
                    refine ⟨_, rfl, ?_⟩
                    refine LP.weak (t := 95) (v := .sl 36 (ents b) .unk) (envS_is (j := 7) rfl d7) ?_
                    refine LP.weak (t := 99) (v := i64 ((b.length - (k + 1) : Nat) : Int)) (envS_is (j := 11) rfl d11) ?_
                    refine A.u (LU.at Tryd.underlying22 ⟨Tryd.sizeOf28, Tryd.isAgg28⟩ Is.rfl' Is.rfl' (by omega) (ents_at hy) (by simp)) rfl ?_
                    refine ⟨⟨p, q⟩, Weaker.mk' ?_ (HSub.refl _)⟩
                    refine env_back2 (envS_hit (sl := [(0, 88), (1, 89), (2, 90), (3, 91), (4, 92), (5, 93), (6, 94), (7, 95), (8, 96), (9, 97), (10, 98), (11, 99), (12, 100), (13, 101), (14, 10), (15, 11)]) (j := 12) (d := 100) rfl (fun _ _ h => h)) (envS_hit (sl := [(0, 88), (1, 89), (2, 90), (3, 91), (4, 92), (5, 93), (6, 94), (7, 95), (8, 96), (9, 97), (10, 98), (11, 99), (12, 100), (13, 101), (14, 10), (15, 11)]) (j := 11) (d := 99) rfl (fun _ _ h => h)) (envS_hit (sl := [(0, 88), (1, 89), (2, 90), (3, 91), (4, 92), (5, 93), (6, 94), (7, 95), (8, 96), (9, 97), (10, 98), (11, 99), (12, 100), (13, 101), (14, 10), (15, 11)]) (j := 7) (d := 95) rfl (fun _ _ h => h)) (envS_next ?_)
                    · intro p hp hne; simp only [List.mem_cons, List.not_mem_nil, or_false] at hp; rcases hp with rfl | rfl | rfl | rfl | rfl | rfl | rfl | rfl | rfl | rfl | rfl | rfl | rfl | rfl | rfl | rfl <;> first | exact absurd rfl hne | exact ⟨rfl, rfl⟩
                  · have d12 := hdir 12 (List.mem_of_elem_eq_true (by kernel_rfl))
                    refine ⟨_, rfl, ?_⟩
                    refine LP.weak (t := 100) (v := .pin (entL y)) (envS_is (j := 12) rfl d12) ?_
                    refine A.u (LU.load ⟨Tryd.sizeOf28, Tryd.isAgg28⟩ Is.rfl' (by assumption) (Part.whole (by assumption))) rfl ?_
                    refine ⟨⟨p, q⟩, Weaker.mk' ?_ (HSub.refl _)⟩
                    refine env_back1 (envS_hit (sl := [(0, 88), (1, 89), (2, 90), (3, 91), (4, 92), (5, 93), (6, 94), (7, 95), (8, 96), (9, 97), (10, 98), (11, 99), (12, 100), (13, 101), (14, 10), (15, 11)]) (j := 13) (d := 101) rfl (fun _ _ h => h)) (envS_hit (sl := [(0, 88), (1, 89), (2, 90), (3, 91), (4, 92), (5, 93), (6, 94), (7, 95), (8, 96), (9, 97), (10, 98), (11, 99), (12, 100), (13, 101), (14, 10), (15, 11)]) (j := 12) (d := 100) rfl (fun _ _ h => h)) (envS_next ?_)
                    · intro p hp hne; simp only [List.mem_cons, List.not_mem_nil, or_false] at hp; rcases hp with rfl | rfl | rfl | rfl | rfl | rfl | rfl | rfl | rfl | rfl | rfl | rfl | rfl | rfl | rfl | rfl <;> first | exact absurd rfl hne | exact ⟨rfl, rfl⟩
                  · refine ⟨_, rfl, ?_⟩
                    have h16 : f 16 = false := Bool.eq_false_iff.2 (fun h => by rw [hdown 16 (by omega) h 14 (List.mem_of_elem_eq_true (by kernel_rfl))] at hfi; cases hfi)
                    refine A.act (X.alloc rfl Tryd.zeroValue28 (by exact Cells.rawagg (by decide)) (fun b10 => ?_))
                    refine ⟨(b10, q), Weaker.mk' ?_ (by show HSub _ (cond true (.cells _ _ (cond (f 16) _ _)) _ :: _); rw [h16]; exact HSub.cons (HSub.drop (HSub.refl _)))⟩
                    refine env_back0 (envS_hit (sl := [(0, 88), (1, 89), (2, 90), (3, 91), (4, 92), (5, 93), (6, 94), (7, 95), (8, 96), (9, 97), (10, 98), (11, 99), (12, 100), (13, 101), (14, 10), (15, 11)]) (j := 14) (d := 10) rfl (fun _ _ h => h))  (envS_next ?_)
                    · intro p hp hne; simp only [List.mem_cons, List.not_mem_nil, or_false] at hp; rcases hp with rfl | rfl | rfl | rfl | rfl | rfl | rfl | rfl | rfl | rfl | rfl | rfl | rfl | rfl | rfl | rfl <;> first | exact absurd rfl hne | exact ⟨rfl, rfl⟩
                  · refine ⟨_, rfl, ?_⟩
                    refine A.act (X.alloc rfl Tryd.zeroValue28 (by exact Cells.rawagg (by decide)) (fun b11 => ?_))
                    refine ⟨(p, b11), Weaker.mk' ?_ (by show HSub _ (_ :: cond true _ _ :: _); exact HSub.pick 1 rfl (HSub.pick 0 rfl (HSub.drop (HSub.refl _))))⟩
                    refine env_back0 (envS_hit (sl := [(0, 88), (1, 89), (2, 90), (3, 91), (4, 92), (5, 93), (6, 94), (7, 95), (8, 96), (9, 97), (10, 98), (11, 99), (12, 100), (13, 101), (14, 10), (15, 11)]) (j := 15) (d := 11) rfl (fun _ _ h => h))  (envS_next ?_)
                    · intro p hp hne; simp only [List.mem_cons, List.not_mem_nil, or_false] at hp; rcases hp with rfl | rfl | rfl | rfl | rfl | rfl | rfl | rfl | rfl | rfl | rfl | rfl | rfl | rfl | rfl | rfl <;> first | exact absurd rfl hne | exact ⟨rfl, rfl⟩
                  · have d0 := hdir 0 (List.mem_of_elem_eq_true (by kernel_rfl))
                    have d1 := hdir 1 (List.mem_of_elem_eq_true (by kernel_rfl))
                    have d2 := hdir 2 (List.mem_of_elem_eq_true (by kernel_rfl))
                    have d3 := hdir 3 (List.mem_of_elem_eq_true (by kernel_rfl))
                    have d4 := hdir 4 (List.mem_of_elem_eq_true (by kernel_rfl))
                    have d5 := hdir 5 (List.mem_of_elem_eq_true (by kernel_rfl))
                    have d6 := hdir 6 (List.mem_of_elem_eq_true (by kernel_rfl))
                    have d14 := hdir 14 (List.mem_of_elem_eq_true (by kernel_rfl))
                    have d15 := hdir 15 (List.mem_of_elem_eq_true (by kernel_rfl))
                    refine ⟨_, rfl, ?_⟩
                    refine LP.ghost (H' := .cells p 28 (entL zeroE) :: cond (f 15) (.cells q 28 (entL zeroE)) (.tail 0 0 0) :: .cells b8 26 (u8s HA) :: kw :: Rf) (by show HSub (cond (f 14) (.cells p _ (cond (f 16) _ _)) _ :: _) _; rw [d14, hfi]; exact HSub.refl _) ?_
                    refine LP.weak (t := 10) (v := .raw (.pointer (some ⟨p, 0, none⟩))) (envS_is (j := 14) rfl d14) ?_
                    refine LP.weak (t := 94) (v := .agg (entL x)) (envS_is (j := 6) rfl d6) ?_
                    refine A.act (X.store 0 rfl Tryd.sizeOf28 Is.rfl' Is.rfl' (by exact Cells.agg) (by assumption) (by exact Nat.le_of_ble_eq_true rfl) ?_)
                    refine ⟨⟨p, q⟩, Weaker.mk' ?_ (by rw [putAt_all (by simp [hx5, zeroE, zero32])]; show HSub _ (cond (f 14) (.cells p _ (cond true _ _)) _ :: _); rw [d14]; exact HSub.refl _)⟩
                    refine env_back1 (envS_hit (sl := [(0, 88), (1, 89), (2, 90), (3, 91), (4, 92), (5, 93), (6, 94), (7, 95), (8, 96), (9, 97), (10, 98), (11, 99), (12, 100), (13, 101), (14, 10), (15, 11)]) (j := 6) (d := 94) rfl (fun _ _ h => h)) (envS_hit (sl := [(0, 88), (1, 89), (2, 90), (3, 91), (4, 92), (5, 93), (6, 94), (7, 95), (8, 96), (9, 97), (10, 98), (11, 99), (12, 100), (13, 101), (14, 10), (15, 11)]) (j := 14) (d := 10) rfl (fun _ _ h => h)) (envS_next ?_)
                    · intro p hp hne; simp only [List.mem_cons, List.not_mem_nil, or_false] at hp; rcases hp with rfl | rfl | rfl | rfl | rfl | rfl | rfl | rfl | rfl | rfl | rfl | rfl | rfl | rfl | rfl | rfl <;> first | exact absurd rfl hne | exact ⟨rfl, rfl⟩
                · intro g_ f hf_
                  obtain ⟨p, q⟩ := g_
                  refine X.ghost (H' := .cells p 28 (entL x) :: .cells q 28 (entL zeroE) :: .cells b8 26 (u8s HA) :: kw :: Rf) (by show HSub (cond (f 14) (.cells p _ (cond (f 16) _ _)) _ :: cond (f 15) _ _ :: _) _; rw [hf_ 14 (by omega), hf_ 15 (by omega), hf_ 16 (by omega)]; exact HSub.refl _) ?_
                  refine X.act (X.store 1 rfl Tryd.sizeOf28 Is.rfl' Is.rfl' (by exact Cells.agg) (by assumption) (by exact Nat.le_of_ble_eq_true rfl) ?_)
                  refine LL.nil (after_code ?_)
                  refine LW.seq ?_
                  rw [putAt_all (by simp [raws, hx5, hy5, zeroE, zero32])]
                  refine LW.region ?_
                  refine X.u (LU.loadO 1 rfl ⟨Tryd.sizeOf28, Tryd.isAgg28⟩ Is.rfl' (Part.whole (by assumption))) rfl ?_
                  refine X.u (LU.loadO 0 rfl ⟨Tryd.sizeOf28, Tryd.isAgg28⟩ Is.rfl' (Part.whole (by assumption))) rfl ?_
                  refine X.u (LU.neqEnt hx5 hy5 Is.rfl' Is.rfl') rfl ?_
                  refine LL.nil (after_code ?_)
                  refine X.cond rfl (fun h20 => ?_) (fun h20 => ?_)
                  · have hxy : x ≠ y := by simpa using h20
                    refine LW.seq ?_
                    refine X.drawM 9 rfl (by kernel_rfl) rfl ?_
                    refine QD.u (LU.loadO 1 rfl ⟨Tryd.sizeOf28, Tryd.isAgg28⟩ Is.rfl' (Part.whole (by assumption))) rfl ?_
                    refine QD.u (LU.call1 3 rfl (hdx) Tryd.func15 rfl rfl (Opds.cons Is.rfl' Opds.nil)) rfl ?_
                    refine QD.u (LU.loadO 0 rfl ⟨Tryd.sizeOf28, Tryd.isAgg28⟩ Is.rfl' (Part.whole (by assumption))) rfl ?_
                    refine QD.u (LU.call1 3 rfl (hdy) Tryd.func15 rfl rfl (Opds.cons Is.rfl' Opds.nil)) rfl ?_
                    refine QD.u (LU.weak (LU.eqlH hdxl hdyl Is.rfl' Is.rfl') (asB (c := true) rfl (by exact decide_eq_true hxy2))) rfl ?_
                    refine QD.u (LU.moveR Is.rfl') rfl ?_
                    refine QD.doT rfl rfl (LU.call1 3 rfl (lives19_calls) Tryd.func9 rfl rfl Opds.nil) rfl ?_
                    refine QD.u (LU.pickT Is.rfl' (by exact Is.rfl')) rfl ?_
                    refine QD.u (LU.assignR Is.rfl') rfl ?_
                    refine QD.nil ?_
                    refine LL.nil (after_code ?_)
                    refine LW.ret (ret_blk (ret_code (ret_rnd (ret_blk (ret_code (after_end ?_))))))
                    refine X.ret (H' := [kw]) (Res.one (by exact IsR rfl)) (by repeat (first | exact HSub.refl _ | refine HSub.pick 3 rfl ?_ | refine HSub.drop ?_)) ?_
                    exact ⟨rfl, rfl⟩
                  · have hxy : x = y := by simpa using h20
                    refine LW.skip (after_blk (after_code ?_))
                    refine LW.region ?_
                    refine X.u (LU.moveR Is.rfl') rfl ?_
                    refine X.u (LU.addN Is.rfl' Is.rfl' (wrap_i64 (by omega) (by omega))) rfl ?_
                    refine X.u (LU.assignR Is.rfl') rfl ?_
                    refine LL.nil (after_rnd ?_)
                    refine X.next (k + 1) rfl (EnvLe.cons (by rfl) (EnvLe.nil)) (Keeps.cons (by exact Eq.trans (b := .sl _ _ _) rfl rfl) (Keeps.cons (by exact Eq.trans (b := .sl _ _ _) rfl rfl) (Keeps.nil))) (by repeat (first | exact HSub.refl _ | refine HSub.pick 2 rfl ?_ | refine HSub.drop ?_)) ?_ ?_
                    · refine ⟨by omega, by omega, fun j hj => ?_⟩
                      by_cases hjk : j = k
                      · rw [hjk, hx, hy, hxy]
                      · exact heq j (by omega)
                    · omega
              · have h17 : ¬ (k + 1 ≤ a.length ∧ k + 1 ≤ b.length) := by simp only [Bool.and_eq_false_imp, decide_eq_false_iff_not, decide_eq_true_eq] at h17; omega
                have hfin := hend heq hk1 hk2 h17
                refine LW.exit (exit_code (exit_rnd (exit_blk (after_code ?_))))
                refine LW.seq ?_
                refine LW.region ?_
                refine X.u (LU.moveS Is.rfl') rfl ?_
                refine X.u (LU.lenN Tryd.underlying22 Is.rfl' (by (simp only [Option.getD_some, Option.getD_none, byteEls_length, intEls_length, List.length_append, List.length_cons, List.length_nil, List.length_map, List.length_drop, List.length_take, Int.toNat_natCast]; rfl))) rfl ?_
                refine X.u (LU.eql Is.rfl' Is.rfl') rfl ?_
                refine X.u (LU.moveR Is.rfl') rfl ?_
                refine X.gF rfl rfl (fun hg => LU.moveS (by exact Is.rfl')) rfl ?_
                refine X.gF rfl rfl (fun hg => LU.lenN Tryd.underlying22 (by exact Is.whenN hg) (by (simp only [Option.getD_some, Option.getD_none, byteEls_length, intEls_length, List.length_append, List.length_cons, List.length_nil, List.length_map, List.length_drop, List.length_take, Int.toNat_natCast]; rfl))) rfl ?_
                refine X.gF rfl rfl (fun hg => LU.eql (by exact Is.whenN hg) (by exact Is.rfl')) rfl ?_
                refine X.u (LU.weak (LU.pickOr Is.rfl' Is.rfl' (fun hq => (by exact Is.whenN hq))) (asB (c := true) rfl (by rw [Bool.or_eq_true]; exact hfin.imp (fun h => decide_eq_true (by omega)) (fun h => decide_eq_true (by omega))))) rfl ?_
                refine X.u (LU.moveR Is.rfl') rfl ?_
                refine X.doT rfl rfl (LU.call1 1 rfl (lives19_calls) Tryd.func9 rfl rfl Opds.nil) rfl ?_
                refine X.u (LU.pickT Is.rfl' (by exact Is.rfl')) rfl ?_
                refine X.u (LU.assignR Is.rfl') rfl ?_
                refine LL.nil (after_code ?_)
                refine LW.ret (after_end ?_)
                refine X.ret (H' := [kw]) (Res.one (by exact IsR rfl)) (by repeat (first | exact HSub.refl _ | refine HSub.pick 1 rfl ?_ | refine HSub.drop ?_)) ?_
                exact ⟨rfl, rfl⟩
theorem AuditBound_row (x0 x1 : List (List LV)) (h0 : ∀ c ∈ x0, QEnt c) (h1 : x0.length * 80 ≤ reachBytes) (h2 : ∀ c ∈ x1, QEnt c) (h3 : x1.length * 80 ≤ reachBytes) : LCalls Tryd.prog 3 [.sl 36 x0 .unk, .sl 36 x1 .unk] [kw] (fun r H' => r = bl true ∧ H' = [kw]) := by
  obtain ⟨a, rfl, ha⟩ := of_ents h0
  obtain ⟨b, rfl, hb⟩ := of_ents h2
  rw [List.length_map] at h1 h3
  have hr := reachBytes_lt
  exact ab_calls a b (by omega) (by omega) ha hb
end Go.Proofs.YtpcfpkfchoelcaaDoor
