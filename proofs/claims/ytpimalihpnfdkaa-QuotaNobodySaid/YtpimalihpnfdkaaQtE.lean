/- The document's meter. -/
import Derived.Test.YtpimalihpnfdkaaQtD
set_option linter.unusedVariables false
set_option linter.unusedSimpArgs false
namespace Go.Proofs.Ytpimalihpnfdkaa
open Go.RowKit Go.L
abbrev rm (B R W u : Int) (hs : List Int) : LV := .agg [i64 B, i64 R, i64 W, i64 u, Ints hs .unk]
theorem rm_nil (a b c d : Int) (i : Nat) (x y : LV) (hx : [i64 a, i64 b, i64 c, i64 d, .raw (.slice none 0 0)][i]? = some x) (hy : [i64 a, i64 b, i64 c, i64 d, Ints [] .unk][i]? = some y) : Is x y := by
  match i with
  | 0 => simp at hx hy; subst hx; subst hy; exact Is.rfl'
  | 1 => simp at hx hy; subst hx; subst hy; exact Is.rfl'
  | 2 => simp at hx hy; subst hx; subst hy; exact Is.rfl'
  | 3 => simp at hx hy; subst hx; subst hy; exact Is.rfl'
  | 4 => simp at hx hy; subst hx; subst hy; exact (Is.nil 1).trans Is.unk
  | k + 5 => simp at hx
set_option maxRecDepth 100000 in
theorem wrong_calls (B R W : Int) : LCalls Try.prog 55 [lim B R W] [] (fun r H' => r = bl (!decide (rightP B R W)) ∧ H' = []) := by
  refine LCalls.of Try.func55 rfl Try.ntmps55 Try.results55 rfl (fun Rf => ?_)
  refine LW.seq ?_
  refine LW.region ?_
  refine X.act (X.box rfl Is.rfl' (by exact Cells.agg) (fun b1 => ?_))
  refine X.u (LU.assignR Is.rfl') rfl ?_
  refine LL.nil (after_code ?_)
  refine LW.seq ?_
  refine LW.region ?_
  refine X.u (LU.fieldO Try.underlying23 rfl Try.sizeOf3 (by decide) Is.rfl') rfl ?_
  refine X.u (LU.loadO 0 rfl ⟨Try.sizeOf3, Try.isAgg3⟩ Is.rfl' (Part.one rfl)) rfl ?_
  refine X.u (LU.lss Is.rfl' Is.rfl') rfl ?_
  refine X.u (LU.moveR Is.rfl') rfl ?_
  refine X.gF rfl rfl (fun hg => LU.fieldO Try.underlying23 rfl Try.sizeOf3 (by decide) (by exact Is.rfl')) rfl ?_
  refine X.gF rfl rfl (fun hg => LU.loadO 0 rfl ⟨Try.sizeOf3, Try.isAgg3⟩ (by exact Is.whenN hg) (Part.one rfl)) rfl ?_
  refine X.gF rfl rfl (fun hg => LU.gtr (by exact Is.whenN hg) (by exact Is.rfl')) rfl ?_
  refine X.u (LU.pickOr Is.rfl' Is.rfl' (fun hq => (by exact Is.whenN hq))) rfl ?_
  refine X.u (LU.moveR Is.rfl') rfl ?_
  refine X.gF rfl rfl (fun hg => LU.fieldO Try.underlying23 rfl Try.sizeOf3 (by decide) (by exact Is.rfl')) rfl ?_
  refine X.gF rfl rfl (fun hg => LU.loadO 0 rfl ⟨Try.sizeOf3, Try.isAgg3⟩ (by exact Is.whenN hg) (Part.one rfl)) rfl ?_
  refine X.gF rfl rfl (fun hg => LU.lss (by exact Is.whenN hg) (by exact Is.rfl')) rfl ?_
  refine X.u (LU.pickOr Is.rfl' Is.rfl' (fun hq => (by exact Is.whenN hq))) rfl ?_
  refine X.u (LU.moveR Is.rfl') rfl ?_
  refine X.gF rfl rfl (fun hg => LU.fieldO Try.underlying23 rfl Try.sizeOf3 (by decide) (by exact Is.rfl')) rfl ?_
  refine X.gF rfl rfl (fun hg => LU.loadO 0 rfl ⟨Try.sizeOf3, Try.isAgg3⟩ (by exact Is.whenN hg) (Part.one rfl)) rfl ?_
  refine X.gF rfl rfl (fun hg => LU.gtr (by exact Is.whenN hg) (by exact Is.rfl')) rfl ?_
  refine X.u (LU.pickOr Is.rfl' Is.rfl' (fun hq => (by exact Is.whenN hq))) rfl ?_
  refine X.u (LU.moveR Is.rfl') rfl ?_
  refine X.gF rfl rfl (fun hg => LU.fieldO Try.underlying23 rfl Try.sizeOf3 (by decide) (by exact Is.rfl')) rfl ?_
  refine X.gF rfl rfl (fun hg => LU.loadO 0 rfl ⟨Try.sizeOf3, Try.isAgg3⟩ (by exact Is.whenN hg) (Part.one rfl)) rfl ?_
  refine X.gF rfl rfl (fun hg => LU.lss (by exact Is.whenN hg) (by exact Is.rfl')) rfl ?_
  refine X.u (LU.pickOr Is.rfl' Is.rfl' (fun hq => (by exact Is.whenN hq))) rfl ?_
  refine X.u (LU.moveR Is.rfl') rfl ?_
  refine X.gF rfl rfl (fun hg => LU.fieldO Try.underlying23 rfl Try.sizeOf3 (by decide) (by exact Is.rfl')) rfl ?_
  refine X.gF rfl rfl (fun hg => LU.loadO 0 rfl ⟨Try.sizeOf3, Try.isAgg3⟩ (by exact Is.whenN hg) (Part.one rfl)) rfl ?_
  refine X.gF rfl rfl (fun hg => LU.gtr (by exact Is.whenN hg) (by exact Is.rfl')) rfl ?_
  refine X.u (LU.pickOr Is.rfl' Is.rfl' (fun hq => (by exact Is.whenN hq))) rfl ?_
  refine X.u (LU.assignR Is.rfl') rfl ?_
  refine LL.nil (after_code ?_)
  refine LW.ret (after_end ?_)
  refine X.ret (H' := []) (Res.one (by exact IsR rfl)) (by repeat (first | exact HSub.refl _ | refine HSub.pick 0 rfl ?_ | refine HSub.pick 1 rfl ?_ | refine HSub.pick 2 rfl ?_ | refine HSub.pick 3 rfl ?_ | refine HSub.pick 4 rfl ?_ | refine HSub.drop ?_)) ?_
  exact ⟨congrArg (fun b => LV.raw (.bool b)) (by rw [Bool.eq_iff_iff]; simp only [Bool.or_eq_true, decide_eq_true_eq, Bool.not_eq_true', decide_eq_false_iff_not]; unfold rightP; omega), rfl⟩
set_option maxRecDepth 100000 in
theorem rnew_calls (B R W : Int) : LCalls Try.prog 19 [lim B R W] [] (fun r H' => r = (if rightP B R W then .tup [rm B R W 0 [], i64 0] else .tup [rm 0 0 0 0 [], i64 2]) ∧ H' = []) := by
  refine LCalls.of Try.func19 rfl Try.ntmps19 Try.results19 rfl (fun Rf => ?_)
  refine LW.seq ?_
  refine LW.region ?_
  refine X.act (X.box rfl Is.rfl' (by exact Cells.agg) (fun b1 => ?_))
  refine X.act (X.alloc rfl Try.zeroValue39 (by exact Cells.rawagg (by decide)) (fun b2 => ?_))
  refine X.u (LU.assignR Is.rfl') rfl ?_
  refine LL.nil (after_code ?_)
  refine LW.seq ?_
  refine LW.seq ?_
  refine LW.region ?_
  refine X.u (LU.loadO 1 rfl ⟨Try.sizeOf23, Try.isAgg23⟩ Is.rfl' (Part.whole (by rfl))) rfl ?_
  refine X.u (LU.call (wrong_calls _ _ _) Try.func55 rfl rfl (Opds.cons Is.rfl' Opds.nil)) rfl ?_
  refine LL.nil (after_code ?_)
  refine X.cond rfl (fun h1 => ?_) (fun h1 => ?_)
  · refine LW.seq ?_
    refine LW.region ?_
    refine X.u (LU.weak (LU.build (places := #[(0, 3), (3, 1), (4, 1)]) Try.underlying39 Try.zeroValue39 (ones rfl) (by intro w; simp [Try.sizeOf23, Try.sizeOf3, Try.sizeOf24]) Parts.nil rfl) (Is.agg (ys := [i64 0, i64 0, i64 0, i64 0, Ints [] .unk]) rfl (rm_nil _ _ _ _))) rfl ?_
    refine X.act (X.store 0 rfl Try.sizeOf39 Is.rfl' Is.rfl' (by exact Cells.agg) (by rfl) (by exact Nat.le_of_ble_eq_true rfl) ?_)
    refine X.u (LU.assignR Is.rfl') rfl ?_
    refine LL.nil (after_code ?_)
    refine LW.ret (ret_code (after_end ?_))
    refine X.ret (H' := []) (by exact Res.cell2 0 rfl rfl ⟨Try.sizeOf39, Try.isAgg39⟩ (Part.whole rfl) (by exact IsA rfl) (by exact IsR rfl)) (by repeat (first | exact HSub.refl _ | refine HSub.pick 0 rfl ?_ | refine HSub.pick 1 rfl ?_ | refine HSub.pick 2 rfl ?_ | refine HSub.pick 3 rfl ?_ | refine HSub.pick 4 rfl ?_ | refine HSub.drop ?_)) ?_
    exact ⟨by rw [if_neg (by simpa using h1)]; rfl, rfl⟩
  · refine LW.skip (after_code ?_)
    refine LW.seq ?_
    refine LW.region ?_
    refine X.u (LU.loadO 1 rfl ⟨Try.sizeOf23, Try.isAgg23⟩ Is.rfl' (Part.whole (by rfl))) rfl ?_
    refine X.u (LU.weak (LU.build (places := #[(0, 3), (3, 1), (4, 1)]) Try.underlying39 Try.zeroValue39 (ones rfl) (by intro w; simp [Try.sizeOf23, Try.sizeOf3, Try.sizeOf24]) (Parts.cons Is.rfl' Cells.agg Parts.nil) rfl) (Is.agg (ys := [i64 B, i64 R, i64 W, i64 0, Ints [] .unk]) rfl (rm_nil _ _ _ _))) rfl ?_
    refine X.act (X.store 0 rfl Try.sizeOf39 Is.rfl' Is.rfl' (by exact Cells.agg) (by rfl) (by exact Nat.le_of_ble_eq_true rfl) ?_)
    refine X.u (LU.assignR Is.rfl') rfl ?_
    refine LL.nil (after_code ?_)
    refine LW.ret (after_end ?_)
    refine X.ret (H' := []) (by exact Res.cell2 0 rfl rfl ⟨Try.sizeOf39, Try.isAgg39⟩ (Part.whole rfl) (by exact IsA rfl) (by exact IsR rfl)) (by repeat (first | exact HSub.refl _ | refine HSub.pick 0 rfl ?_ | refine HSub.pick 1 rfl ?_ | refine HSub.pick 2 rfl ?_ | refine HSub.pick 3 rfl ?_ | refine HSub.pick 4 rfl ?_ | refine HSub.drop ?_)) ?_
    exact ⟨by rw [if_pos (by simpa using h1)]; rfl, rfl⟩
set_option maxRecDepth 100000 in
theorem of_calls (B R W u : Int) (hs : List Int) (now : Int) (hW : 1 ≤ W) (n0 : -9223372036854775808 ≤ now) (n1 : now < 9223372036854775808) (hl : hs.length < 1000000) (hr : ∀ x ∈ hs, 0 ≤ x ∧ x < 9223372036854775808) : LCalls Try.prog 56 [rm B R W u hs, i64 now] [] (fun r H' => r = i64 (cnt W now hs) ∧ H' = []) := by
  have hc0 : cnt W now (hs.take 0) = 0 := by simp [cnt]
  refine LCalls.of Try.func56 rfl Try.ntmps56 Try.results56 rfl (fun Rf => ?_)
  refine LW.seq ?_
  refine LW.region ?_
  refine X.act (X.box rfl Is.rfl' (by exact Cells.agg) (fun b2 => ?_))
  refine X.u (LU.assignR Is.rfl') rfl ?_
  refine LL.nil (after_code ?_)
  refine LW.seq ?_
  refine LW.region ?_
  refine X.u (LU.assignR Is.rfl') rfl ?_
  refine LL.nil (after_code ?_)
  refine LW.seq ?_
  refine LW.seq ?_
  refine LW.region ?_
  refine X.u (LU.assignR Is.rfl') rfl ?_
  refine LL.nil (after_code ?_)
  refine LW.block ?_
  refine X.loopK (α := Nat) (fun k => [(6, i64 k), (5, i64 (cnt W now (hs.take k)))]) [1, 2, 4] (fun _ => _) (fun k => k ≤ hs.length) (fun k => hs.length - k) (0) (EnvLe.cons (by rfl) (EnvLe.cons (by exact raw_int (by omega)) (EnvLe.nil))) (HSub.refl _) ?_ ?_
  · exact Nat.zero_le _
  · rintro k hI
    refine LW.seq ?_
    refine LW.seq ?_
    refine LW.region ?_
    refine X.u (LU.moveR Is.rfl') rfl ?_
    refine X.u (LU.fieldO Try.underlying39 rfl Try.sizeOf24 (by decide) Is.rfl') rfl ?_
    refine X.u (LU.loadO 0 rfl ⟨Try.sizeOf24, Try.isAgg24⟩ Is.rfl' (Part.one rfl)) rfl ?_
    refine X.u (LU.lenN Try.underlying24 Is.rfl' (by (simp only [Option.getD_some, Option.getD_none, byteEls_length, intEls_length, List.length_append, List.length_cons, List.length_nil, List.length_map, List.length_drop, List.length_take, Int.toNat_natCast]; rfl))) rfl ?_
    refine X.u (LU.lss Is.rfl' Is.rfl') rfl ?_
    refine LL.nil (after_code ?_)
    refine X.cond rfl (fun h3 => ?_) (fun h3 => ?_)
    · have h3 := of_decide_eq_true h3
      have hik : k < hs.length := by omega
      have hxr := hr (hs[k]'hik) (List.getElem_mem hik)
      have hcs := cnt_snoc W now (hs[k]'hik) (hs.take k)
      rw [← List.take_succ_eq_append_getElem hik] at hcs
      have hcl := cnt_le W now (hs.take k)
      rw [List.length_take] at hcl
      refine LW.skip (after_code ?_)
      refine LW.seq ?_
      refine LW.block ?_
      refine LW.seq ?_
      refine X.drawM 19 rfl (by kernel_rfl) rfl ?_
      refine QD.u (LU.moveR Is.rfl') rfl ?_
      refine QD.u (LU.geq Is.rfl' Is.rfl') rfl ?_
      refine QD.u (LU.moveR Is.rfl') rfl ?_
      refine QD.gT rfl rfl (fun hg => LU.fieldO Try.underlying39 rfl Try.sizeOf24 (by decide) (by exact Is.rfl')) rfl ?_
      refine QD.gT rfl rfl (fun hg => LU.loadO 0 rfl ⟨Try.sizeOf24, Try.isAgg24⟩ (by exact Is.whenE hg) (Part.one rfl)) rfl ?_
      refine QD.gT rfl rfl (fun hg => LU.moveR (by exact Is.rfl')) rfl ?_
      refine QD.gT rfl rfl (fun hg => LU.at Try.underlying24 ⟨Try.sizeOf3, Try.isAgg3⟩ (by exact Is.whenE hg) (by exact Is.whenE hg) (by omega) (intEls_atN hik) (by simp)) rfl ?_
      refine QD.gT rfl rfl (fun hg => LU.load ⟨Try.sizeOf3, Try.isAgg3⟩ (by exact Is.whenE hg) (by rfl) (Part.one rfl)) rfl ?_
      refine QD.gT rfl rfl (fun hg => LU.fieldO Try.underlying39 rfl Try.sizeOf23 (by decide) (by exact Is.rfl')) rfl ?_
      refine QD.gT rfl rfl (fun hg => LU.fieldO Try.underlying23 rfl Try.sizeOf3 (by decide) (by exact Is.whenE hg)) rfl ?_
      refine QD.gT rfl rfl (fun hg => LU.loadO 0 rfl ⟨Try.sizeOf3, Try.isAgg3⟩ (by exact Is.whenE hg) (Part.one rfl)) rfl ?_
      refine QD.gT rfl rfl (fun hg => LU.quoN (by exact Is.whenE hg) (by exact Is.whenE hg) (by omega) (tdiv_i64 (by omega) (by omega) (by omega))) rfl ?_
      refine QD.gT rfl rfl (fun hg => LU.moveR (by exact Is.rfl')) rfl ?_
      refine QD.gT rfl rfl (fun hg => LU.fieldO Try.underlying39 rfl Try.sizeOf23 (by decide) (by exact Is.rfl')) rfl ?_
      refine QD.gT rfl rfl (fun hg => LU.fieldO Try.underlying23 rfl Try.sizeOf3 (by decide) (by exact Is.whenE hg)) rfl ?_
      refine QD.gT rfl rfl (fun hg => LU.loadO 0 rfl ⟨Try.sizeOf3, Try.isAgg3⟩ (by exact Is.whenE hg) (Part.one rfl)) rfl ?_
      refine QD.gT rfl rfl (fun hg => LU.quoN (by exact Is.whenE hg) (by exact Is.whenE hg) (by omega) (tdiv_i64 (by omega) (by omega) (by omega))) rfl ?_
      refine QD.gT rfl rfl (fun hg => LU.eql (by exact Is.whenE hg) (by exact Is.whenE hg)) rfl ?_
      refine QD.u (LU.pickAnd Is.rfl' (fun hq => (by exact Is.whenE hq)) Is.rfl') rfl ?_
      refine QD.nil ?_
      refine LL.nil (after_code ?_)
      refine X.cond rfl (fun h5 => ?_) (fun h5 => ?_)
      · have h5 : 0 ≤ now ∧ (hs[k]'hik).tdiv W = now.tdiv W := by simpa using h5
        rw [if_pos h5] at hcs
        refine LW.region ?_
        refine X.u (LU.moveR Is.rfl') rfl ?_
        refine X.u (LU.addN Is.rfl' Is.rfl' (wrap_i64 (by omega) (by omega))) rfl ?_
        refine X.u (LU.assignR Is.rfl') rfl ?_
        refine LL.nil (after_blk (after_code ?_))
        refine LW.region ?_
        refine X.u (LU.moveR Is.rfl') rfl ?_
        refine X.u (LU.addN Is.rfl' Is.rfl' (wrap_i64 (by omega) (by omega))) rfl ?_
        refine X.u (LU.assignR Is.rfl') rfl ?_
        refine LL.nil (after_rnd ?_)
        refine X.next (k + 1) rfl (EnvLe.cons (by rfl) (EnvLe.cons (by exact raw_int (by omega)) (EnvLe.nil))) (Keeps.cons rfl (Keeps.cons rfl (Keeps.cons rfl (Keeps.nil)))) (HSub.refl _) ?_ ?_
        · omega
        · omega
      · have h5 : ¬ (0 ≤ now ∧ (hs[k]'hik).tdiv W = now.tdiv W) := by simpa using h5
        rw [if_neg h5] at hcs
        refine LW.skip (after_blk (after_code ?_))
        refine LW.region ?_
        refine X.u (LU.moveR Is.rfl') rfl ?_
        refine X.u (LU.addN Is.rfl' Is.rfl' (wrap_i64 (by omega) (by omega))) rfl ?_
        refine X.u (LU.assignR Is.rfl') rfl ?_
        refine LL.nil (after_rnd ?_)
        refine X.next (k + 1) rfl (EnvLe.cons (by rfl) (EnvLe.cons (by exact raw_int (by omega)) (EnvLe.nil))) (Keeps.cons rfl (Keeps.cons rfl (Keeps.cons rfl (Keeps.nil)))) (HSub.refl _) ?_ ?_
        · omega
        · omega
    · have h3 := of_decide_eq_false h3
      refine LW.exit (exit_code (exit_rnd (exit_blk (after_code ?_))))
      refine LW.seq ?_
      refine LW.region ?_
      refine X.u (LU.moveR Is.rfl') rfl ?_
      refine X.u (LU.assignR Is.rfl') rfl ?_
      refine LL.nil (after_code ?_)
      refine LW.ret (after_end ?_)
      refine X.ret (H' := []) (Res.one (by exact IsR rfl)) (by repeat (first | exact HSub.refl _ | refine HSub.pick 0 rfl ?_ | refine HSub.pick 1 rfl ?_ | refine HSub.pick 2 rfl ?_ | refine HSub.pick 3 rfl ?_ | refine HSub.pick 4 rfl ?_ | refine HSub.drop ?_)) ?_
      exact ⟨by rw [List.take_of_length_le (by omega)], rfl⟩
def refHit (R W : Int) (hs : List Int) (now : Int) : List Int × Int :=
  if now < 0 ∨ (0 < hs.length ∧ now.tdiv W < (hs.getLast?.getD 0).tdiv W) then (hs, 2)
  else if R ≤ (cnt W now hs : Int) then (hs, 181) else (hs ++ [now], 0)
set_option maxRecDepth 100000 in
theorem rhit_calls (B R W u : Int) (hs : List Int) (now : Int) (hW : 1 ≤ W) (n0 : -9223372036854775808 ≤ now) (n1 : now < 9223372036854775808) (hl : hs.length < 1000000) (hr : ∀ x ∈ hs, 0 ≤ x ∧ x < 9223372036854775808) : LCalls Try.prog 20 [rm B R W u hs, i64 now] [] (fun r H' => r = .tup [rm B R W u (refHit R W hs now).1, i64 (refHit R W hs now).2] ∧ H' = []) := by
  by_cases hn : now < 0
  · have he : refHit R W hs now = (hs, 2) := if_pos (.inl hn)
    rw [he]
    refine LCalls.of Try.func20 rfl Try.ntmps20 Try.results20 rfl (fun Rf => ?_)
    refine LW.seq ?_
    refine LW.region ?_
    refine X.act (X.box rfl Is.rfl' (by exact Cells.agg) (fun b2 => ?_))
    refine X.act (X.alloc rfl Try.zeroValue39 (by exact Cells.rawagg (by decide)) (fun b4 => ?_))
    refine X.u (LU.assignR Is.rfl') rfl ?_
    refine LL.nil (after_code ?_)
    refine LW.seq ?_
    refine LW.seq ?_
    refine X.drawM 28 rfl (by kernel_rfl) rfl ?_
    refine QD.u (LU.moveR Is.rfl') rfl ?_
    refine QD.u (LU.weak (LU.lss Is.rfl' Is.rfl') (asB (c := true) rfl (by exact decide_eq_true hn))) rfl ?_
    refine QD.u (LU.moveR Is.rfl') rfl ?_
    refine QD.skipF rfl rfl rfl ?_
    refine QD.skipF rfl rfl rfl ?_
    refine QD.skipF rfl rfl rfl ?_
    refine QD.skipF rfl rfl rfl ?_
    refine QD.skipF rfl rfl rfl ?_
    refine QD.skipU rfl rfl rfl ?_
    refine QD.skipU rfl rfl rfl ?_
    refine QD.skipU rfl rfl rfl ?_
    refine QD.skipU rfl rfl rfl ?_
    refine QD.skipU rfl rfl rfl ?_
    refine QD.skipU rfl rfl rfl ?_
    refine QD.skipU rfl rfl rfl ?_
    refine QD.skipU rfl rfl rfl ?_
    refine QD.skipU rfl rfl rfl ?_
    refine QD.skipU rfl rfl rfl ?_
    refine QD.skipU rfl rfl rfl ?_
    refine QD.skipU rfl rfl rfl ?_
    refine QD.skipU rfl rfl rfl ?_
    refine QD.skipU rfl rfl rfl ?_
    refine QD.skipU rfl rfl rfl ?_
    refine QD.skipU rfl rfl rfl ?_
    refine QD.skipU rfl rfl rfl ?_
    refine QD.skipU rfl rfl rfl ?_
    refine QD.skipF rfl rfl rfl ?_
    refine QD.u (LU.pickT Is.rfl' (by exact Is.rfl')) rfl ?_
    refine QD.nil ?_
    refine LL.nil (after_code ?_)
    refine X.condT rfl ?_ ?_
    · rfl
    refine LW.seq ?_
    refine LW.region ?_
    refine X.u (LU.loadO 1 rfl ⟨Try.sizeOf39, Try.isAgg39⟩ Is.rfl' (Part.whole (by rfl))) rfl ?_
    refine X.act (X.store 0 rfl Try.sizeOf39 Is.rfl' Is.rfl' (by exact Cells.agg) (by rfl) (by exact Nat.le_of_ble_eq_true rfl) ?_)
    refine X.u (LU.assignR Is.rfl') rfl ?_
    refine LL.nil (after_code ?_)
    refine LW.ret (ret_code (after_end ?_))
    refine X.ret (H' := []) (by exact Res.cell2 0 rfl rfl ⟨Try.sizeOf39, Try.isAgg39⟩ (Part.whole rfl) (by exact IsA rfl) (by exact IsR rfl)) (by repeat (first | exact HSub.refl _ | refine HSub.pick 0 rfl ?_ | refine HSub.pick 1 rfl ?_ | refine HSub.pick 2 rfl ?_ | refine HSub.pick 3 rfl ?_ | refine HSub.pick 4 rfl ?_ | refine HSub.drop ?_)) ?_
    exact ⟨rfl, rfl⟩
  · by_cases h0 : hs.length = 0
    · obtain rfl := List.eq_nil_of_length_eq_zero h0
      have he : refHit R W [] now = if R ≤ 0 then ([], 181) else ([now], 0) := by simp [refHit, hn, cnt]
      have hc : cnt W now [] = 0 := by simp [cnt]
      rw [he]
      refine LCalls.of Try.func20 rfl Try.ntmps20 Try.results20 rfl (fun Rf => ?_)
      refine LW.seq ?_
      refine LW.region ?_
      refine X.act (X.box rfl Is.rfl' (by exact Cells.agg) (fun b2 => ?_))
      refine X.act (X.alloc rfl Try.zeroValue39 (by exact Cells.rawagg (by decide)) (fun b4 => ?_))
      refine X.u (LU.assignR Is.rfl') rfl ?_
      refine LL.nil (after_code ?_)
      refine LW.seq ?_
      refine LW.seq ?_
      refine X.drawM 28 rfl (by kernel_rfl) rfl ?_
      refine QD.u (LU.moveR Is.rfl') rfl ?_
      refine QD.u (LU.weak (LU.lss Is.rfl' Is.rfl') (asB (c := false) rfl (by exact decide_eq_false hn))) rfl ?_
      refine QD.u (LU.moveR Is.rfl') rfl ?_
      refine QD.doF rfl rfl (LU.fieldO Try.underlying39 rfl Try.sizeOf24 (by decide) (by exact Is.rfl')) rfl ?_
      refine QD.doF rfl rfl (LU.loadO 1 rfl ⟨Try.sizeOf24, Try.isAgg24⟩ (by exact Is.rfl') (Part.one rfl)) rfl ?_
      refine QD.doF rfl rfl (LU.lenN Try.underlying24 (by exact Is.rfl') (by (simp only [Option.getD_some, Option.getD_none, byteEls_length, intEls_length, List.length_append, List.length_cons, List.length_nil, List.length_map, List.length_drop, List.length_take, Int.toNat_natCast]; rfl))) rfl ?_
      refine QD.doF rfl rfl (LU.weak (LU.gtr (by exact Is.rfl') (by exact Is.rfl')) (asB (c := false) rfl (by decide))) rfl ?_
      refine QD.doF rfl rfl (LU.moveR (by exact Is.rfl')) rfl ?_
      refine QD.skipT rfl rfl rfl ?_
      refine QD.skipT rfl rfl rfl ?_
      refine QD.skipT rfl rfl rfl ?_
      refine QD.skipT rfl rfl rfl ?_
      refine QD.skipT rfl rfl rfl ?_
      refine QD.skipT rfl rfl rfl ?_
      refine QD.skipT rfl rfl rfl ?_
      refine QD.skipT rfl rfl rfl ?_
      refine QD.skipT rfl rfl rfl ?_
      refine QD.skipT rfl rfl rfl ?_
      refine QD.skipT rfl rfl rfl ?_
      refine QD.skipT rfl rfl rfl ?_
      refine QD.skipT rfl rfl rfl ?_
      refine QD.skipT rfl rfl rfl ?_
      refine QD.skipT rfl rfl rfl ?_
      refine QD.skipT rfl rfl rfl ?_
      refine QD.skipT rfl rfl rfl ?_
      refine QD.skipT rfl rfl rfl ?_
      refine QD.doF rfl rfl (LU.pickF (by exact Is.rfl') (by exact Is.rfl')) rfl ?_
      refine QD.u (LU.pickF Is.rfl' (by exact Is.rfl')) rfl ?_
      refine QD.nil ?_
      refine LL.nil (after_code ?_)
      refine X.condF rfl ?_ ?_
      · rfl
      refine LW.skip (after_code ?_)
      refine LW.seq ?_
      refine LW.seq ?_
      refine X.drawM 7 rfl (by kernel_rfl) rfl ?_
      refine QD.u (LU.loadO 1 rfl ⟨Try.sizeOf39, Try.isAgg39⟩ Is.rfl' (Part.whole (by rfl))) rfl ?_
      refine QD.u (LU.moveR Is.rfl') rfl ?_
      refine QD.u (LU.call (of_calls _ _ _ _ _ _ hW n0 n1 hl hr) Try.func56 rfl rfl (Opds.cons Is.rfl' (Opds.cons Is.rfl' Opds.nil))) rfl ?_
      refine QD.u (LU.fieldO Try.underlying39 rfl Try.sizeOf23 (by decide) Is.rfl') rfl ?_
      refine QD.u (LU.fieldO Try.underlying23 rfl Try.sizeOf3 (by decide) Is.rfl') rfl ?_
      refine QD.u (LU.loadO 1 rfl ⟨Try.sizeOf3, Try.isAgg3⟩ Is.rfl' (Part.one rfl)) rfl ?_
      refine QD.u (LU.geq Is.rfl' Is.rfl') rfl ?_
      refine QD.nil ?_
      refine LL.nil (after_code ?_)
      refine X.cond rfl (fun h3 => ?_) (fun h3 => ?_)
      · have h3 : R ≤ 0 := by have := of_decide_eq_true h3; omega
        rw [if_pos h3]
        refine LW.seq ?_
        refine LW.region ?_
        refine X.u (LU.loadO 1 rfl ⟨Try.sizeOf39, Try.isAgg39⟩ Is.rfl' (Part.whole (by rfl))) rfl ?_
        refine X.act (X.store 0 rfl Try.sizeOf39 Is.rfl' Is.rfl' (by exact Cells.agg) (by rfl) (by exact Nat.le_of_ble_eq_true rfl) ?_)
        refine X.u (LU.assignR Is.rfl') rfl ?_
        refine LL.nil (after_code ?_)
        refine LW.ret (ret_code (after_end ?_))
        refine X.ret (H' := []) (by exact Res.cell2 0 rfl rfl ⟨Try.sizeOf39, Try.isAgg39⟩ (Part.whole rfl) (by exact IsA rfl) (by exact IsR rfl)) (by repeat (first | exact HSub.refl _ | refine HSub.pick 0 rfl ?_ | refine HSub.pick 1 rfl ?_ | refine HSub.pick 2 rfl ?_ | refine HSub.pick 3 rfl ?_ | refine HSub.pick 4 rfl ?_ | refine HSub.drop ?_)) ?_
        exact ⟨rfl, rfl⟩
      · have h3 : ¬ R ≤ 0 := by have := of_decide_eq_false h3; omega
        rw [if_neg h3]
        refine LW.skip (after_code ?_)
        refine LW.seq ?_
        refine LW.region ?_
        refine X.u (LU.lits Try.underlying24 Try.sizeOf3 Try.zeroValue3 (ones rfl) rfl (by decide) (by decide) Elems.nil (by intro e he; cases he) rfl) rfl ?_
        refine X.u (LU.fieldO Try.underlying39 rfl Try.sizeOf24 (by decide) Is.rfl') rfl ?_
        refine X.u (LU.loadO 1 rfl ⟨Try.sizeOf24, Try.isAgg24⟩ Is.rfl' (Part.one rfl)) rfl ?_
        refine X.act (X.appendF rfl Try.underlying24 (El.of (P := Try.prog) (z := (.int .i64 0)) (size := 1) (bytes := 8) rfl rfl rfl) Is.rfl' Is.rfl' (SrcL.slice Try.underlying24 (by decide) (by exact intEls_size _)) (by simp only [Option.getD_some, Option.getD_none, byteEls_length, intEls_length, List.length_append, List.length_cons, List.length_nil, List.length_map, List.length_drop, List.length_take, Int.toNat_natCast]; omega) (by simp only [Option.getD_some, Option.getD_none, byteEls_length, intEls_length, List.length_append, List.length_cons, List.length_nil, List.length_map, List.length_drop, List.length_take, Int.toNat_natCast]; omega) (fun b46 o46 c46 => ?_))
        refine X.u (LU.moveR Is.rfl') rfl ?_
        refine X.u (LU.lits Try.underlying24 Try.sizeOf3 Try.zeroValue3 (ones rfl) rfl (by decide) (by decide) (Elems.cons Is.rfl' (by exact Cells.raw rfl) Elems.nil) (by simp) rfl) rfl ?_
        refine X.act (X.append 0 rfl rfl Try.underlying24 (El.of (P := Try.prog) (z := (.int .i64 0)) (size := 1) (bytes := 8) rfl rfl rfl) Is.rfl' Is.rfl' (SrcL.slice Try.underlying24 (by decide) (by (intro e he; simp [chunks] at he; simp [he]; done))) (by simp only [Option.getD_some, Option.getD_none, byteEls_length, intEls_length, List.length_append, List.length_cons, List.length_nil, List.length_map, List.length_drop, List.length_take, Int.toNat_natCast]; omega) (by simp only [Option.getD_some, Option.getD_none, byteEls_length, intEls_length, List.length_append, List.length_cons, List.length_nil, List.length_map, List.length_drop, List.length_take, Int.toNat_natCast]; omega) (fun b49 o49 c49 => X.weak (t := 49) ((IsS rfl).trans (asS (fs := intEls (([] : List Int) ++ [now])) rfl (by rw [intEls_append]; rfl))) ?_))
        refine X.u (LU.fieldO Try.underlying39 rfl Try.sizeOf24 (by decide) Is.rfl') rfl ?_
        refine X.act (X.store 2 rfl Try.sizeOf24 Is.rfl' Is.rfl' (by exact Cells.sl) (by rfl) (by exact Nat.le_of_ble_eq_true rfl) ?_)
        refine LL.nil (after_code ?_)
        refine LW.seq ?_
        refine LW.region ?_
        refine X.u (LU.loadO 0 rfl ⟨Try.sizeOf39, Try.isAgg39⟩ Is.rfl' (Part.whole (by rfl))) rfl ?_
        refine X.act (X.store 2 rfl Try.sizeOf39 Is.rfl' Is.rfl' (by exact Cells.agg) (by rfl) (by exact Nat.le_of_ble_eq_true rfl) ?_)
        refine X.u (LU.assignR Is.rfl') rfl ?_
        refine LL.nil (after_code ?_)
        refine LW.ret (after_end ?_)
        refine X.ret (H' := []) (by exact Res.cell2 0 rfl rfl ⟨Try.sizeOf39, Try.isAgg39⟩ (Part.whole rfl) (by exact IsA rfl) (by exact IsR rfl)) (by repeat (first | exact HSub.refl _ | refine HSub.pick 0 rfl ?_ | refine HSub.pick 1 rfl ?_ | refine HSub.pick 2 rfl ?_ | refine HSub.pick 3 rfl ?_ | refine HSub.pick 4 rfl ?_ | refine HSub.drop ?_)) ?_
        exact ⟨rfl, rfl⟩
    · have hil : hs.length - 1 < hs.length := by omega
      have hlast : hs.getLast?.getD 0 = hs[hs.length - 1] := by simp [List.getLast?_eq_getElem?, hil]
      have hlr := hr _ (List.getElem_mem hil)
      have hat : ((hs.length : Int) - 1).toNat = hs.length - 1 := by omega
      have hat2 : (intEls hs)[((hs.length : Int) - 1).toNat]? = some [i64 hs[hs.length - 1]] := by rw [hat]; simp [intEls, hil]
      have he : refHit R W hs now = if now.tdiv W < (hs[hs.length - 1]).tdiv W then (hs, 2) else if R ≤ (cnt W now hs : Int) then (hs, 181) else (hs ++ [now], 0) := by
        unfold refHit
        rw [hlast]
        simp only [hn, false_or, show 0 < hs.length by omega, true_and]
      rw [he]
      clear he
      refine LCalls.of Try.func20 rfl Try.ntmps20 Try.results20 rfl (fun Rf => ?_)
      refine LW.seq ?_
      refine LW.region ?_
      refine X.act (X.box rfl Is.rfl' (by exact Cells.agg) (fun b2 => ?_))
      refine X.act (X.alloc rfl Try.zeroValue39 (by exact Cells.rawagg (by decide)) (fun b4 => ?_))
      refine X.u (LU.assignR Is.rfl') rfl ?_
      refine LL.nil (after_code ?_)
      refine LW.seq ?_
      refine LW.seq ?_
      refine X.drawM 28 rfl (by kernel_rfl) rfl ?_
      refine QD.u (LU.moveR Is.rfl') rfl ?_
      refine QD.u (LU.weak (LU.lss Is.rfl' Is.rfl') (asB (c := false) rfl (by exact decide_eq_false hn))) rfl ?_
      refine QD.u (LU.moveR Is.rfl') rfl ?_
      refine QD.doF rfl rfl (LU.fieldO Try.underlying39 rfl Try.sizeOf24 (by decide) (by exact Is.rfl')) rfl ?_
      refine QD.doF rfl rfl (LU.loadO 1 rfl ⟨Try.sizeOf24, Try.isAgg24⟩ (by exact Is.rfl') (Part.one rfl)) rfl ?_
      refine QD.doF rfl rfl (LU.lenN Try.underlying24 (by exact Is.rfl') (by (simp only [Option.getD_some, Option.getD_none, byteEls_length, intEls_length, List.length_append, List.length_cons, List.length_nil, List.length_map, List.length_drop, List.length_take, Int.toNat_natCast]; rfl))) rfl ?_
      refine QD.doF rfl rfl (LU.weak (LU.gtr (by exact Is.rfl') (by exact Is.rfl')) (asB (c := true) rfl (by exact decide_eq_true (by omega)))) rfl ?_
      refine QD.doF rfl rfl (LU.moveR (by exact Is.rfl')) rfl ?_
      refine QD.doT rfl rfl (LU.moveR (by exact Is.rfl')) rfl ?_
      refine QD.doT rfl rfl (LU.fieldO Try.underlying39 rfl Try.sizeOf23 (by decide) (by exact Is.rfl')) rfl ?_
      refine QD.doT rfl rfl (LU.fieldO Try.underlying23 rfl Try.sizeOf3 (by decide) (by exact Is.rfl')) rfl ?_
      refine QD.doT rfl rfl (LU.loadO 1 rfl ⟨Try.sizeOf3, Try.isAgg3⟩ (by exact Is.rfl') (Part.one rfl)) rfl ?_
      refine QD.doT rfl rfl (LU.quoN (by exact Is.rfl') (by exact Is.rfl') (by omega) (tdiv_i64 (by omega) (by omega) (by omega))) rfl ?_
      refine QD.doT rfl rfl (LU.fieldO Try.underlying39 rfl Try.sizeOf24 (by decide) (by exact Is.rfl')) rfl ?_
      refine QD.doT rfl rfl (LU.loadO 1 rfl ⟨Try.sizeOf24, Try.isAgg24⟩ (by exact Is.rfl') (Part.one rfl)) rfl ?_
      refine QD.doT rfl rfl (LU.fieldO Try.underlying39 rfl Try.sizeOf24 (by decide) (by exact Is.rfl')) rfl ?_
      refine QD.doT rfl rfl (LU.loadO 1 rfl ⟨Try.sizeOf24, Try.isAgg24⟩ (by exact Is.rfl') (Part.one rfl)) rfl ?_
      refine QD.doT rfl rfl (LU.lenN Try.underlying24 (by exact Is.rfl') (by (simp only [Option.getD_some, Option.getD_none, byteEls_length, intEls_length, List.length_append, List.length_cons, List.length_nil, List.length_map, List.length_drop, List.length_take, Int.toNat_natCast]; rfl))) rfl ?_
      refine QD.doT rfl rfl (LU.subN (by exact Is.rfl') (by exact Is.rfl') (wrap_i64 (by omega) (by omega))) rfl ?_
      refine QD.doT rfl rfl (LU.at Try.underlying24 ⟨Try.sizeOf3, Try.isAgg3⟩ (by exact Is.rfl') (by exact Is.rfl') (by omega) hat2 (by simp)) rfl ?_
      refine QD.doT rfl rfl (LU.load ⟨Try.sizeOf3, Try.isAgg3⟩ (by exact Is.rfl') (by rfl) (Part.one rfl)) rfl ?_
      refine QD.doT rfl rfl (LU.fieldO Try.underlying39 rfl Try.sizeOf23 (by decide) (by exact Is.rfl')) rfl ?_
      refine QD.doT rfl rfl (LU.fieldO Try.underlying23 rfl Try.sizeOf3 (by decide) (by exact Is.rfl')) rfl ?_
      refine QD.doT rfl rfl (LU.loadO 1 rfl ⟨Try.sizeOf3, Try.isAgg3⟩ (by exact Is.rfl') (Part.one rfl)) rfl ?_
      refine QD.doT rfl rfl (LU.quoN (by exact Is.rfl') (by exact Is.rfl') (by omega) (tdiv_i64 (by omega) (by omega) (by omega))) rfl ?_
      refine QD.doT rfl rfl (LU.lss (by exact Is.rfl') (by exact Is.rfl')) rfl ?_
      refine QD.doF rfl rfl (LU.pickT (by exact Is.rfl') (by exact Is.rfl')) rfl ?_
      refine QD.u (LU.pickF Is.rfl' (by exact Is.rfl')) rfl ?_
      refine QD.nil ?_
      refine LL.nil (after_code ?_)
      refine X.cond rfl (fun h1 => ?_) (fun h1 => ?_)
      · rw [if_pos (of_decide_eq_true h1)]
        refine LW.seq ?_
        refine LW.region ?_
        refine X.u (LU.loadO 1 rfl ⟨Try.sizeOf39, Try.isAgg39⟩ Is.rfl' (Part.whole (by rfl))) rfl ?_
        refine X.act (X.store 0 rfl Try.sizeOf39 Is.rfl' Is.rfl' (by exact Cells.agg) (by rfl) (by exact Nat.le_of_ble_eq_true rfl) ?_)
        refine X.u (LU.assignR Is.rfl') rfl ?_
        refine LL.nil (after_code ?_)
        refine LW.ret (ret_code (after_end ?_))
        refine X.ret (H' := []) (by exact Res.cell2 0 rfl rfl ⟨Try.sizeOf39, Try.isAgg39⟩ (Part.whole rfl) (by exact IsA rfl) (by exact IsR rfl)) (by repeat (first | exact HSub.refl _ | refine HSub.pick 0 rfl ?_ | refine HSub.pick 1 rfl ?_ | refine HSub.pick 2 rfl ?_ | refine HSub.pick 3 rfl ?_ | refine HSub.pick 4 rfl ?_ | refine HSub.drop ?_)) ?_
        exact ⟨rfl, rfl⟩
      · rw [if_neg (of_decide_eq_false h1)]
        refine LW.skip (after_code ?_)
        refine LW.seq ?_
        refine LW.seq ?_
        refine X.drawM 7 rfl (by kernel_rfl) rfl ?_
        refine QD.u (LU.loadO 1 rfl ⟨Try.sizeOf39, Try.isAgg39⟩ Is.rfl' (Part.whole (by rfl))) rfl ?_
        refine QD.u (LU.moveR Is.rfl') rfl ?_
        refine QD.u (LU.call (of_calls _ _ _ _ _ _ hW n0 n1 hl hr) Try.func56 rfl rfl (Opds.cons Is.rfl' (Opds.cons Is.rfl' Opds.nil))) rfl ?_
        refine QD.u (LU.fieldO Try.underlying39 rfl Try.sizeOf23 (by decide) Is.rfl') rfl ?_
        refine QD.u (LU.fieldO Try.underlying23 rfl Try.sizeOf3 (by decide) Is.rfl') rfl ?_
        refine QD.u (LU.loadO 1 rfl ⟨Try.sizeOf3, Try.isAgg3⟩ Is.rfl' (Part.one rfl)) rfl ?_
        refine QD.u (LU.geq Is.rfl' Is.rfl') rfl ?_
        refine QD.nil ?_
        refine LL.nil (after_code ?_)
        refine X.cond rfl (fun h3 => ?_) (fun h3 => ?_)
        · rw [if_pos (of_decide_eq_true h3)]
          refine LW.seq ?_
          refine LW.region ?_
          refine X.u (LU.loadO 1 rfl ⟨Try.sizeOf39, Try.isAgg39⟩ Is.rfl' (Part.whole (by rfl))) rfl ?_
          refine X.act (X.store 0 rfl Try.sizeOf39 Is.rfl' Is.rfl' (by exact Cells.agg) (by rfl) (by exact Nat.le_of_ble_eq_true rfl) ?_)
          refine X.u (LU.assignR Is.rfl') rfl ?_
          refine LL.nil (after_code ?_)
          refine LW.ret (ret_code (after_end ?_))
          refine X.ret (H' := []) (by exact Res.cell2 0 rfl rfl ⟨Try.sizeOf39, Try.isAgg39⟩ (Part.whole rfl) (by exact IsA rfl) (by exact IsR rfl)) (by repeat (first | exact HSub.refl _ | refine HSub.pick 0 rfl ?_ | refine HSub.pick 1 rfl ?_ | refine HSub.pick 2 rfl ?_ | refine HSub.pick 3 rfl ?_ | refine HSub.pick 4 rfl ?_ | refine HSub.drop ?_)) ?_
          exact ⟨rfl, rfl⟩
        · rw [if_neg (of_decide_eq_false h3)]
          refine LW.skip (after_code ?_)
          refine LW.seq ?_
          refine LW.region ?_
          refine X.u (LU.lits Try.underlying24 Try.sizeOf3 Try.zeroValue3 (ones rfl) rfl (by decide) (by decide) Elems.nil (by intro e he; cases he) rfl) rfl ?_
          refine X.u (LU.fieldO Try.underlying39 rfl Try.sizeOf24 (by decide) Is.rfl') rfl ?_
          refine X.u (LU.loadO 1 rfl ⟨Try.sizeOf24, Try.isAgg24⟩ Is.rfl' (Part.one rfl)) rfl ?_
          refine X.act (X.appendF rfl Try.underlying24 (El.of (P := Try.prog) (z := (.int .i64 0)) (size := 1) (bytes := 8) rfl rfl rfl) Is.rfl' Is.rfl' (SrcL.slice Try.underlying24 (by decide) (by exact intEls_size _)) (by simp only [Option.getD_some, Option.getD_none, byteEls_length, intEls_length, List.length_append, List.length_cons, List.length_nil, List.length_map, List.length_drop, List.length_take, Int.toNat_natCast]; omega) (by simp only [Option.getD_some, Option.getD_none, byteEls_length, intEls_length, List.length_append, List.length_cons, List.length_nil, List.length_map, List.length_drop, List.length_take, Int.toNat_natCast]; omega) (fun b46 o46 c46 => ?_))
          refine X.u (LU.moveR Is.rfl') rfl ?_
          refine X.u (LU.lits Try.underlying24 Try.sizeOf3 Try.zeroValue3 (ones rfl) rfl (by decide) (by decide) (Elems.cons Is.rfl' (by exact Cells.raw rfl) Elems.nil) (by simp) rfl) rfl ?_
          refine X.act (X.append 0 rfl rfl Try.underlying24 (El.of (P := Try.prog) (z := (.int .i64 0)) (size := 1) (bytes := 8) rfl rfl rfl) Is.rfl' Is.rfl' (SrcL.slice Try.underlying24 (by decide) (by (intro e he; simp [chunks] at he; simp [he]; done))) (by simp only [Option.getD_some, Option.getD_none, byteEls_length, intEls_length, List.length_append, List.length_cons, List.length_nil, List.length_map, List.length_drop, List.length_take, Int.toNat_natCast]; omega) (by simp only [Option.getD_some, Option.getD_none, byteEls_length, intEls_length, List.length_append, List.length_cons, List.length_nil, List.length_map, List.length_drop, List.length_take, Int.toNat_natCast]; omega) (fun b49 o49 c49 => X.weak (t := 49) ((IsS rfl).trans (asS (fs := intEls (hs ++ [now])) rfl (by rw [intEls_append]; rfl))) ?_))
          refine X.u (LU.fieldO Try.underlying39 rfl Try.sizeOf24 (by decide) Is.rfl') rfl ?_
          refine X.act (X.store 2 rfl Try.sizeOf24 Is.rfl' Is.rfl' (by exact Cells.sl) (by rfl) (by exact Nat.le_of_ble_eq_true rfl) ?_)
          refine LL.nil (after_code ?_)
          refine LW.seq ?_
          refine LW.region ?_
          refine X.u (LU.loadO 0 rfl ⟨Try.sizeOf39, Try.isAgg39⟩ Is.rfl' (Part.whole (by rfl))) rfl ?_
          refine X.act (X.store 2 rfl Try.sizeOf39 Is.rfl' Is.rfl' (by exact Cells.agg) (by rfl) (by exact Nat.le_of_ble_eq_true rfl) ?_)
          refine X.u (LU.assignR Is.rfl') rfl ?_
          refine LL.nil (after_code ?_)
          refine LW.ret (after_end ?_)
          refine X.ret (H' := []) (by exact Res.cell2 0 rfl rfl ⟨Try.sizeOf39, Try.isAgg39⟩ (Part.whole rfl) (by exact IsA rfl) (by exact IsR rfl)) (by repeat (first | exact HSub.refl _ | refine HSub.pick 0 rfl ?_ | refine HSub.pick 1 rfl ?_ | refine HSub.pick 2 rfl ?_ | refine HSub.pick 3 rfl ?_ | refine HSub.pick 4 rfl ?_ | refine HSub.drop ?_)) ?_
          exact ⟨rfl, rfl⟩
def refLast (W : Int) (hs : List Int) (now : Int) : Int :=
  if hs.length = 0 ∨ now < 0 ∨ (hs.getLast?.getD 0).tdiv W ≠ now.tdiv W then 0 else cnt W now hs
set_option maxRecDepth 100000 in
theorem rlast_calls (B R W u : Int) (hs : List Int) (now : Int) (hW : 1 ≤ W) (n0 : -9223372036854775808 ≤ now) (n1 : now < 9223372036854775808) (hl : hs.length < 1000000) (hr : ∀ x ∈ hs, 0 ≤ x ∧ x < 9223372036854775808) : LCalls Try.prog 26 [rm B R W u hs, i64 now] [] (fun r H' => r = i64 (refLast W hs now) ∧ H' = []) := by
  by_cases h0 : hs.length = 0
  · have he : refLast W hs now = 0 := if_pos (.inl h0)
    rw [he]
    refine LCalls.of Try.func26 rfl Try.ntmps26 Try.results26 rfl (fun Rf => ?_)
    refine LW.seq ?_
    refine LW.region ?_
    refine X.act (X.box rfl Is.rfl' (by exact Cells.agg) (fun b2 => ?_))
    refine X.u (LU.assignR Is.rfl') rfl ?_
    refine LL.nil (after_code ?_)
    refine LW.seq ?_
    refine LW.seq ?_
    refine X.drawM 28 rfl (by kernel_rfl) rfl ?_
    refine QD.u (LU.fieldO Try.underlying39 rfl Try.sizeOf24 (by decide) Is.rfl') rfl ?_
    refine QD.u (LU.loadO 0 rfl ⟨Try.sizeOf24, Try.isAgg24⟩ Is.rfl' (Part.one rfl)) rfl ?_
    refine QD.u (LU.lenN Try.underlying24 Is.rfl' (by (simp only [Option.getD_some, Option.getD_none, byteEls_length, intEls_length, List.length_append, List.length_cons, List.length_nil, List.length_map, List.length_drop, List.length_take, Int.toNat_natCast]; rfl))) rfl ?_
    refine QD.u (LU.weak (LU.eql Is.rfl' Is.rfl') (asB (c := true) rfl (by exact decide_eq_true (by omega)))) rfl ?_
    refine QD.u (LU.moveR Is.rfl') rfl ?_
    refine QD.skipF rfl rfl rfl ?_
    refine QD.skipF rfl rfl rfl ?_
    refine QD.u (LU.pickT Is.rfl' (by exact Is.rfl')) rfl ?_
    refine QD.u (LU.moveR Is.rfl') rfl ?_
    refine QD.skipF rfl rfl rfl ?_
    refine QD.skipF rfl rfl rfl ?_
    refine QD.skipF rfl rfl rfl ?_
    refine QD.skipF rfl rfl rfl ?_
    refine QD.skipF rfl rfl rfl ?_
    refine QD.skipF rfl rfl rfl ?_
    refine QD.skipF rfl rfl rfl ?_
    refine QD.skipF rfl rfl rfl ?_
    refine QD.skipF rfl rfl rfl ?_
    refine QD.skipF rfl rfl rfl ?_
    refine QD.skipF rfl rfl rfl ?_
    refine QD.skipF rfl rfl rfl ?_
    refine QD.skipF rfl rfl rfl ?_
    refine QD.skipF rfl rfl rfl ?_
    refine QD.skipF rfl rfl rfl ?_
    refine QD.skipF rfl rfl rfl ?_
    refine QD.skipF rfl rfl rfl ?_
    refine QD.skipF rfl rfl rfl ?_
    refine QD.u (LU.pickT Is.rfl' (by exact Is.rfl')) rfl ?_
    refine QD.nil ?_
    refine LL.nil (after_code ?_)
    refine X.condT rfl ?_ ?_
    · rfl
    refine LW.seq ?_
    refine LW.region ?_
    refine X.u (LU.assignR Is.rfl') rfl ?_
    refine LL.nil (after_code ?_)
    refine LW.ret (ret_code (after_end ?_))
    refine X.ret (H' := []) (Res.one (by exact IsR rfl)) (by repeat (first | exact HSub.refl _ | refine HSub.pick 0 rfl ?_ | refine HSub.pick 1 rfl ?_ | refine HSub.pick 2 rfl ?_ | refine HSub.pick 3 rfl ?_ | refine HSub.pick 4 rfl ?_ | refine HSub.drop ?_)) ?_
    exact ⟨rfl, rfl⟩
  · by_cases hn : now < 0
    · have he : refLast W hs now = 0 := if_pos (.inr (.inl hn))
      rw [he]
      refine LCalls.of Try.func26 rfl Try.ntmps26 Try.results26 rfl (fun Rf => ?_)
      refine LW.seq ?_
      refine LW.region ?_
      refine X.act (X.box rfl Is.rfl' (by exact Cells.agg) (fun b2 => ?_))
      refine X.u (LU.assignR Is.rfl') rfl ?_
      refine LL.nil (after_code ?_)
      refine LW.seq ?_
      refine LW.seq ?_
      refine X.drawM 28 rfl (by kernel_rfl) rfl ?_
      refine QD.u (LU.fieldO Try.underlying39 rfl Try.sizeOf24 (by decide) Is.rfl') rfl ?_
      refine QD.u (LU.loadO 0 rfl ⟨Try.sizeOf24, Try.isAgg24⟩ Is.rfl' (Part.one rfl)) rfl ?_
      refine QD.u (LU.lenN Try.underlying24 Is.rfl' (by (simp only [Option.getD_some, Option.getD_none, byteEls_length, intEls_length, List.length_append, List.length_cons, List.length_nil, List.length_map, List.length_drop, List.length_take, Int.toNat_natCast]; rfl))) rfl ?_
      refine QD.u (LU.weak (LU.eql Is.rfl' Is.rfl') (asB (c := false) rfl (by exact decide_eq_false (by omega)))) rfl ?_
      refine QD.u (LU.moveR Is.rfl') rfl ?_
      refine QD.doF rfl rfl (LU.moveR (by exact Is.rfl')) rfl ?_
      refine QD.doF rfl rfl (LU.weak (LU.lss (by exact Is.rfl') (by exact Is.rfl')) (asB (c := true) rfl (by exact decide_eq_true hn))) rfl ?_
      refine QD.u (LU.pickF Is.rfl' (by exact Is.rfl')) rfl ?_
      refine QD.u (LU.moveR Is.rfl') rfl ?_
      refine QD.skipF rfl rfl rfl ?_
      refine QD.skipF rfl rfl rfl ?_
      refine QD.skipF rfl rfl rfl ?_
      refine QD.skipF rfl rfl rfl ?_
      refine QD.skipF rfl rfl rfl ?_
      refine QD.skipF rfl rfl rfl ?_
      refine QD.skipF rfl rfl rfl ?_
      refine QD.skipF rfl rfl rfl ?_
      refine QD.skipF rfl rfl rfl ?_
      refine QD.skipF rfl rfl rfl ?_
      refine QD.skipF rfl rfl rfl ?_
      refine QD.skipF rfl rfl rfl ?_
      refine QD.skipF rfl rfl rfl ?_
      refine QD.skipF rfl rfl rfl ?_
      refine QD.skipF rfl rfl rfl ?_
      refine QD.skipF rfl rfl rfl ?_
      refine QD.skipF rfl rfl rfl ?_
      refine QD.skipF rfl rfl rfl ?_
      refine QD.u (LU.pickT Is.rfl' (by exact Is.rfl')) rfl ?_
      refine QD.nil ?_
      refine LL.nil (after_code ?_)
      refine X.condT rfl ?_ ?_
      · rfl
      refine LW.seq ?_
      refine LW.region ?_
      refine X.u (LU.assignR Is.rfl') rfl ?_
      refine LL.nil (after_code ?_)
      refine LW.ret (ret_code (after_end ?_))
      refine X.ret (H' := []) (Res.one (by exact IsR rfl)) (by repeat (first | exact HSub.refl _ | refine HSub.pick 0 rfl ?_ | refine HSub.pick 1 rfl ?_ | refine HSub.pick 2 rfl ?_ | refine HSub.pick 3 rfl ?_ | refine HSub.pick 4 rfl ?_ | refine HSub.drop ?_)) ?_
      exact ⟨rfl, rfl⟩
    · have hil : hs.length - 1 < hs.length := by omega
      have hlast : hs.getLast?.getD 0 = hs[hs.length - 1] := by simp [List.getLast?_eq_getElem?, hil]
      have hlr := hr _ (List.getElem_mem hil)
      have hat : ((hs.length : Int) - 1).toNat = hs.length - 1 := by omega
      have hat2 : (intEls hs)[((hs.length : Int) - 1).toNat]? = some [i64 hs[hs.length - 1]] := by rw [hat]; simp [intEls, hil]
      have he : refLast W hs now = if (hs[hs.length - 1]).tdiv W = now.tdiv W then cnt W now hs else 0 := by
        unfold refLast
        rw [hlast]
        simp only [hn, h0, false_or]
        split <;> simp_all
      rw [he]
      clear he
      refine LCalls.of Try.func26 rfl Try.ntmps26 Try.results26 rfl (fun Rf => ?_)
      refine LW.seq ?_
      refine LW.region ?_
      refine X.act (X.box rfl Is.rfl' (by exact Cells.agg) (fun b2 => ?_))
      refine X.u (LU.assignR Is.rfl') rfl ?_
      refine LL.nil (after_code ?_)
      refine LW.seq ?_
      refine LW.seq ?_
      refine X.drawM 28 rfl (by kernel_rfl) rfl ?_
      refine QD.u (LU.fieldO Try.underlying39 rfl Try.sizeOf24 (by decide) Is.rfl') rfl ?_
      refine QD.u (LU.loadO 0 rfl ⟨Try.sizeOf24, Try.isAgg24⟩ Is.rfl' (Part.one rfl)) rfl ?_
      refine QD.u (LU.lenN Try.underlying24 Is.rfl' (by (simp only [Option.getD_some, Option.getD_none, byteEls_length, intEls_length, List.length_append, List.length_cons, List.length_nil, List.length_map, List.length_drop, List.length_take, Int.toNat_natCast]; rfl))) rfl ?_
      refine QD.u (LU.weak (LU.eql Is.rfl' Is.rfl') (asB (c := false) rfl (by exact decide_eq_false (by omega)))) rfl ?_
      refine QD.u (LU.moveR Is.rfl') rfl ?_
      refine QD.doF rfl rfl (LU.moveR (by exact Is.rfl')) rfl ?_
      refine QD.doF rfl rfl (LU.weak (LU.lss (by exact Is.rfl') (by exact Is.rfl')) (asB (c := false) rfl (by exact decide_eq_false hn))) rfl ?_
      refine QD.u (LU.pickF Is.rfl' (by exact Is.rfl')) rfl ?_
      refine QD.u (LU.moveR Is.rfl') rfl ?_
      refine QD.doF rfl rfl (LU.fieldO Try.underlying39 rfl Try.sizeOf24 (by decide) (by exact Is.rfl')) rfl ?_
      refine QD.doF rfl rfl (LU.loadO 0 rfl ⟨Try.sizeOf24, Try.isAgg24⟩ (by exact Is.rfl') (Part.one rfl)) rfl ?_
      refine QD.doF rfl rfl (LU.fieldO Try.underlying39 rfl Try.sizeOf24 (by decide) (by exact Is.rfl')) rfl ?_
      refine QD.doF rfl rfl (LU.loadO 0 rfl ⟨Try.sizeOf24, Try.isAgg24⟩ (by exact Is.rfl') (Part.one rfl)) rfl ?_
      refine QD.doF rfl rfl (LU.lenN Try.underlying24 (by exact Is.rfl') (by (simp only [Option.getD_some, Option.getD_none, byteEls_length, intEls_length, List.length_append, List.length_cons, List.length_nil, List.length_map, List.length_drop, List.length_take, Int.toNat_natCast]; rfl))) rfl ?_
      refine QD.doF rfl rfl (LU.subN (by exact Is.rfl') (by exact Is.rfl') (wrap_i64 (by omega) (by omega))) rfl ?_
      refine QD.doF rfl rfl (LU.at Try.underlying24 ⟨Try.sizeOf3, Try.isAgg3⟩ (by exact Is.rfl') (by exact Is.rfl') (by omega) hat2 (by simp)) rfl ?_
      refine QD.doF rfl rfl (LU.load ⟨Try.sizeOf3, Try.isAgg3⟩ (by exact Is.rfl') (by rfl) (Part.one rfl)) rfl ?_
      refine QD.doF rfl rfl (LU.fieldO Try.underlying39 rfl Try.sizeOf23 (by decide) (by exact Is.rfl')) rfl ?_
      refine QD.doF rfl rfl (LU.fieldO Try.underlying23 rfl Try.sizeOf3 (by decide) (by exact Is.rfl')) rfl ?_
      refine QD.doF rfl rfl (LU.loadO 0 rfl ⟨Try.sizeOf3, Try.isAgg3⟩ (by exact Is.rfl') (Part.one rfl)) rfl ?_
      refine QD.doF rfl rfl (LU.quoN (by exact Is.rfl') (by exact Is.rfl') (by omega) (tdiv_i64 (by omega) (by omega) (by omega))) rfl ?_
      refine QD.doF rfl rfl (LU.moveR (by exact Is.rfl')) rfl ?_
      refine QD.doF rfl rfl (LU.fieldO Try.underlying39 rfl Try.sizeOf23 (by decide) (by exact Is.rfl')) rfl ?_
      refine QD.doF rfl rfl (LU.fieldO Try.underlying23 rfl Try.sizeOf3 (by decide) (by exact Is.rfl')) rfl ?_
      refine QD.doF rfl rfl (LU.loadO 0 rfl ⟨Try.sizeOf3, Try.isAgg3⟩ (by exact Is.rfl') (Part.one rfl)) rfl ?_
      refine QD.doF rfl rfl (LU.quoN (by exact Is.rfl') (by exact Is.rfl') (by omega) (tdiv_i64 (by omega) (by omega) (by omega))) rfl ?_
      refine QD.doF rfl rfl (LU.neq (by exact Is.rfl') (by exact Is.rfl')) rfl ?_
      refine QD.u (LU.pickF Is.rfl' (by exact Is.rfl')) rfl ?_
      refine QD.nil ?_
      refine LL.nil (after_code ?_)
      refine X.cond rfl (fun h1 => ?_) (fun h1 => ?_)
      · rw [if_neg (by simpa using h1)]
        refine LW.seq ?_
        refine LW.region ?_
        refine X.u (LU.assignR Is.rfl') rfl ?_
        refine LL.nil (after_code ?_)
        refine LW.ret (ret_code (after_end ?_))
        refine X.ret (H' := []) (Res.one (by exact IsR rfl)) (by repeat (first | exact HSub.refl _ | refine HSub.pick 0 rfl ?_ | refine HSub.pick 1 rfl ?_ | refine HSub.pick 2 rfl ?_ | refine HSub.pick 3 rfl ?_ | refine HSub.pick 4 rfl ?_ | refine HSub.drop ?_)) ?_
        exact ⟨rfl, rfl⟩
      · rw [if_pos (by simpa using h1)]
        refine LW.skip (after_code ?_)
        refine LW.seq ?_
        refine LW.region ?_
        refine X.u (LU.loadO 0 rfl ⟨Try.sizeOf39, Try.isAgg39⟩ Is.rfl' (Part.whole (by rfl))) rfl ?_
        refine X.u (LU.moveR Is.rfl') rfl ?_
        refine X.u (LU.call (of_calls _ _ _ _ _ _ hW n0 n1 hl hr) Try.func56 rfl rfl (Opds.cons Is.rfl' (Opds.cons Is.rfl' Opds.nil))) rfl ?_
        refine X.u (LU.assignR Is.rfl') rfl ?_
        refine LL.nil (after_code ?_)
        refine LW.ret (after_end ?_)
        refine X.ret (H' := []) (Res.one (by exact IsR rfl)) (by repeat (first | exact HSub.refl _ | refine HSub.pick 0 rfl ?_ | refine HSub.pick 1 rfl ?_ | refine HSub.pick 2 rfl ?_ | refine HSub.pick 3 rfl ?_ | refine HSub.pick 4 rfl ?_ | refine HSub.drop ?_)) ?_
        exact ⟨rfl, rfl⟩
set_option maxRecDepth 100000 in
theorem rcharge_calls (B R W u : Int) (hs : List Int) (n : Int) (hb : 0 ≤ B ∧ B ≤ 1099511627776) (hu : 0 ≤ u ∧ u ≤ 1099511627776) (n0 : -9223372036854775808 ≤ n) (n1 : n < 9223372036854775808) : LCalls Try.prog 21 [rm B R W u hs, i64 n] [] (fun r H' => r = (if n < 0 then .tup [rm B R W u hs, i64 2] else if B - u < n then .tup [rm B R W u hs, i64 180] else .tup [rm B R W (u + n) hs, i64 0]) ∧ H' = []) := by
  refine LCalls.of Try.func21 rfl Try.ntmps21 Try.results21 rfl (fun Rf => ?_)
  refine LW.seq ?_
  refine LW.region ?_
  refine X.act (X.box rfl Is.rfl' (by exact Cells.agg) (fun b2 => ?_))
  refine X.act (X.alloc rfl Try.zeroValue39 (by exact Cells.rawagg (by decide)) (fun b4 => ?_))
  refine X.u (LU.assignR Is.rfl') rfl ?_
  refine LL.nil (after_code ?_)
  refine LW.seq ?_
  refine LW.seq ?_
  refine LW.region ?_
  refine X.u (LU.moveR Is.rfl') rfl ?_
  refine X.u (LU.lss Is.rfl' Is.rfl') rfl ?_
  refine LL.nil (after_code ?_)
  refine X.cond rfl (fun h1 => ?_) (fun h1 => ?_)
  · rw [if_pos (of_decide_eq_true h1)]
    refine LW.seq ?_
    refine LW.region ?_
    refine X.u (LU.loadO 1 rfl ⟨Try.sizeOf39, Try.isAgg39⟩ Is.rfl' (Part.whole (by rfl))) rfl ?_
    refine X.act (X.store 0 rfl Try.sizeOf39 Is.rfl' Is.rfl' (by exact Cells.agg) (by rfl) (by exact Nat.le_of_ble_eq_true rfl) ?_)
    refine X.u (LU.assignR Is.rfl') rfl ?_
    refine LL.nil (after_code ?_)
    refine LW.ret (ret_code (after_end ?_))
    refine X.ret (H' := []) (by exact Res.cell2 0 rfl rfl ⟨Try.sizeOf39, Try.isAgg39⟩ (Part.whole rfl) (by exact IsA rfl) (by exact IsR rfl)) (by repeat (first | exact HSub.refl _ | refine HSub.pick 0 rfl ?_ | refine HSub.pick 1 rfl ?_ | refine HSub.pick 2 rfl ?_ | refine HSub.pick 3 rfl ?_ | refine HSub.pick 4 rfl ?_ | refine HSub.drop ?_)) ?_
    exact ⟨rfl, rfl⟩
  · have h1 := of_decide_eq_false h1
    rw [if_neg h1]
    refine LW.skip (after_code ?_)
    refine LW.seq ?_
    refine LW.seq ?_
    refine LW.region ?_
    refine X.u (LU.moveR Is.rfl') rfl ?_
    refine X.u (LU.fieldO Try.underlying39 rfl Try.sizeOf23 (by decide) Is.rfl') rfl ?_
    refine X.u (LU.fieldO Try.underlying23 rfl Try.sizeOf3 (by decide) Is.rfl') rfl ?_
    refine X.u (LU.loadO 1 rfl ⟨Try.sizeOf3, Try.isAgg3⟩ Is.rfl' (Part.one rfl)) rfl ?_
    refine X.u (LU.fieldO Try.underlying39 rfl Try.sizeOf3 (by decide) Is.rfl') rfl ?_
    refine X.u (LU.loadO 1 rfl ⟨Try.sizeOf3, Try.isAgg3⟩ Is.rfl' (Part.one rfl)) rfl ?_
    refine X.u (LU.subN Is.rfl' Is.rfl' (wrap_i64 (by omega) (by omega))) rfl ?_
    refine X.u (LU.gtr Is.rfl' Is.rfl') rfl ?_
    refine LL.nil (after_code ?_)
    refine X.cond rfl (fun h3 => ?_) (fun h3 => ?_)
    · rw [if_pos (of_decide_eq_true h3)]
      refine LW.seq ?_
      refine LW.region ?_
      refine X.u (LU.loadO 1 rfl ⟨Try.sizeOf39, Try.isAgg39⟩ Is.rfl' (Part.whole (by rfl))) rfl ?_
      refine X.act (X.store 0 rfl Try.sizeOf39 Is.rfl' Is.rfl' (by exact Cells.agg) (by rfl) (by exact Nat.le_of_ble_eq_true rfl) ?_)
      refine X.u (LU.assignR Is.rfl') rfl ?_
      refine LL.nil (after_code ?_)
      refine LW.ret (ret_code (after_end ?_))
      refine X.ret (H' := []) (by exact Res.cell2 0 rfl rfl ⟨Try.sizeOf39, Try.isAgg39⟩ (Part.whole rfl) (by exact IsA rfl) (by exact IsR rfl)) (by repeat (first | exact HSub.refl _ | refine HSub.pick 0 rfl ?_ | refine HSub.pick 1 rfl ?_ | refine HSub.pick 2 rfl ?_ | refine HSub.pick 3 rfl ?_ | refine HSub.pick 4 rfl ?_ | refine HSub.drop ?_)) ?_
      exact ⟨rfl, rfl⟩
    · have h3 := of_decide_eq_false h3
      rw [if_neg h3]
      refine LW.skip (after_code ?_)
      refine LW.seq ?_
      refine LW.region ?_
      refine X.u (LU.fieldO Try.underlying39 rfl Try.sizeOf3 (by decide) Is.rfl') rfl ?_
      refine X.u (LU.loadO 1 rfl ⟨Try.sizeOf3, Try.isAgg3⟩ Is.rfl' (Part.one rfl)) rfl ?_
      refine X.u (LU.moveR Is.rfl') rfl ?_
      refine X.u (LU.addN Is.rfl' Is.rfl' (wrap_i64 (by omega) (by omega))) rfl ?_
      refine X.u (LU.fieldO Try.underlying39 rfl Try.sizeOf3 (by decide) Is.rfl') rfl ?_
      refine X.act (X.store 1 rfl Try.sizeOf3 Is.rfl' Is.rfl' (by exact Cells.raw rfl) (by rfl) (by exact Nat.le_of_ble_eq_true rfl) ?_)
      refine LL.nil (after_code ?_)
      refine LW.seq ?_
      refine LW.region ?_
      refine X.u (LU.loadO 0 rfl ⟨Try.sizeOf39, Try.isAgg39⟩ Is.rfl' (Part.whole (by rfl))) rfl ?_
      refine X.act (X.store 1 rfl Try.sizeOf39 Is.rfl' Is.rfl' (by exact Cells.agg) (by rfl) (by exact Nat.le_of_ble_eq_true rfl) ?_)
      refine X.u (LU.assignR Is.rfl') rfl ?_
      refine LL.nil (after_code ?_)
      refine LW.ret (after_end ?_)
      refine X.ret (H' := []) (by exact Res.cell2 0 rfl rfl ⟨Try.sizeOf39, Try.isAgg39⟩ (Part.whole rfl) (by exact IsA rfl) (by exact IsR rfl)) (by repeat (first | exact HSub.refl _ | refine HSub.pick 0 rfl ?_ | refine HSub.pick 1 rfl ?_ | refine HSub.pick 2 rfl ?_ | refine HSub.pick 3 rfl ?_ | refine HSub.pick 4 rfl ?_ | refine HSub.drop ?_)) ?_
      exact ⟨rfl, rfl⟩
set_option maxRecDepth 100000 in
theorem rrefund_calls (B R W u : Int) (hs : List Int) (n : Int) (hu : 0 ≤ u ∧ u ≤ 1099511627776) (n0 : -9223372036854775808 ≤ n) (n1 : n < 9223372036854775808) : LCalls Try.prog 22 [rm B R W u hs, i64 n] [] (fun r H' => r = (if n < 0 ∨ u < n then .tup [rm B R W u hs, i64 2] else .tup [rm B R W (u - n) hs, i64 0]) ∧ H' = []) := by
  refine LCalls.of Try.func22 rfl Try.ntmps22 Try.results22 rfl (fun Rf => ?_)
  refine LW.seq ?_
  refine LW.region ?_
  refine X.act (X.box rfl Is.rfl' (by exact Cells.agg) (fun b2 => ?_))
  refine X.act (X.alloc rfl Try.zeroValue39 (by exact Cells.rawagg (by decide)) (fun b4 => ?_))
  refine X.u (LU.assignR Is.rfl') rfl ?_
  refine LL.nil (after_code ?_)
  refine LW.seq ?_
  refine LW.seq ?_
  refine LW.region ?_
  refine X.u (LU.moveR Is.rfl') rfl ?_
  refine X.u (LU.lss Is.rfl' Is.rfl') rfl ?_
  refine X.u (LU.moveR Is.rfl') rfl ?_
  refine X.gF rfl rfl (fun hg => LU.moveR (by exact Is.rfl')) rfl ?_
  refine X.gF rfl rfl (fun hg => LU.fieldO Try.underlying39 rfl Try.sizeOf3 (by decide) (by exact Is.rfl')) rfl ?_
  refine X.gF rfl rfl (fun hg => LU.loadO 1 rfl ⟨Try.sizeOf3, Try.isAgg3⟩ (by exact Is.whenN hg) (Part.one rfl)) rfl ?_
  refine X.gF rfl rfl (fun hg => LU.gtr (by exact Is.whenN hg) (by exact Is.whenN hg)) rfl ?_
  refine X.u (LU.pickOr Is.rfl' Is.rfl' (fun hq => (by exact Is.whenN hq))) rfl ?_
  refine LL.nil (after_code ?_)
  refine X.cond rfl (fun h1 => ?_) (fun h1 => ?_)
  · rw [if_pos (by simpa using h1)]
    refine LW.seq ?_
    refine LW.region ?_
    refine X.u (LU.loadO 1 rfl ⟨Try.sizeOf39, Try.isAgg39⟩ Is.rfl' (Part.whole (by rfl))) rfl ?_
    refine X.act (X.store 0 rfl Try.sizeOf39 Is.rfl' Is.rfl' (by exact Cells.agg) (by rfl) (by exact Nat.le_of_ble_eq_true rfl) ?_)
    refine X.u (LU.assignR Is.rfl') rfl ?_
    refine LL.nil (after_code ?_)
    refine LW.ret (ret_code (after_end ?_))
    refine X.ret (H' := []) (by exact Res.cell2 0 rfl rfl ⟨Try.sizeOf39, Try.isAgg39⟩ (Part.whole rfl) (by exact IsA rfl) (by exact IsR rfl)) (by repeat (first | exact HSub.refl _ | refine HSub.pick 0 rfl ?_ | refine HSub.pick 1 rfl ?_ | refine HSub.pick 2 rfl ?_ | refine HSub.pick 3 rfl ?_ | refine HSub.pick 4 rfl ?_ | refine HSub.drop ?_)) ?_
    exact ⟨rfl, rfl⟩
  · have h1 : ¬ (n < 0 ∨ u < n) := by simpa using h1
    rw [if_neg h1]
    refine LW.skip (after_code ?_)
    refine LW.seq ?_
    refine LW.region ?_
    refine X.u (LU.fieldO Try.underlying39 rfl Try.sizeOf3 (by decide) Is.rfl') rfl ?_
    refine X.u (LU.loadO 1 rfl ⟨Try.sizeOf3, Try.isAgg3⟩ Is.rfl' (Part.one rfl)) rfl ?_
    refine X.u (LU.moveR Is.rfl') rfl ?_
    refine X.u (LU.subN Is.rfl' Is.rfl' (wrap_i64 (by omega) (by omega))) rfl ?_
    refine X.u (LU.fieldO Try.underlying39 rfl Try.sizeOf3 (by decide) Is.rfl') rfl ?_
    refine X.act (X.store 1 rfl Try.sizeOf3 Is.rfl' Is.rfl' (by exact Cells.raw rfl) (by rfl) (by exact Nat.le_of_ble_eq_true rfl) ?_)
    refine LL.nil (after_code ?_)
    refine LW.seq ?_
    refine LW.region ?_
    refine X.u (LU.loadO 0 rfl ⟨Try.sizeOf39, Try.isAgg39⟩ Is.rfl' (Part.whole (by rfl))) rfl ?_
    refine X.act (X.store 1 rfl Try.sizeOf39 Is.rfl' Is.rfl' (by exact Cells.agg) (by rfl) (by exact Nat.le_of_ble_eq_true rfl) ?_)
    refine X.u (LU.assignR Is.rfl') rfl ?_
    refine LL.nil (after_code ?_)
    refine LW.ret (after_end ?_)
    refine X.ret (H' := []) (by exact Res.cell2 0 rfl rfl ⟨Try.sizeOf39, Try.isAgg39⟩ (Part.whole rfl) (by exact IsA rfl) (by exact IsR rfl)) (by repeat (first | exact HSub.refl _ | refine HSub.pick 0 rfl ?_ | refine HSub.pick 1 rfl ?_ | refine HSub.pick 2 rfl ?_ | refine HSub.pick 3 rfl ?_ | refine HSub.pick 4 rfl ?_ | refine HSub.drop ?_)) ?_
    exact ⟨rfl, rfl⟩
set_option maxRecDepth 100000 in
theorem rset_calls (B R W u : Int) (hs : List Int) (B' R' W' : Int) : LCalls Try.prog 24 [rm B R W u hs, lim B' R' W'] [] (fun r H' => r = (if rightP B' R' W' then .tup [rm B' R' W' u [], i64 0] else .tup [rm B R W u hs, i64 2]) ∧ H' = []) := by
  refine LCalls.of Try.func24 rfl Try.ntmps24 Try.results24 rfl (fun Rf => ?_)
  refine LW.seq ?_
  refine LW.region ?_
  refine X.act (X.box rfl Is.rfl' (by exact Cells.agg) (fun b2 => ?_))
  refine X.act (X.box rfl Is.rfl' (by exact Cells.agg) (fun b3 => ?_))
  refine X.act (X.alloc rfl Try.zeroValue39 (by exact Cells.rawagg (by decide)) (fun b4 => ?_))
  refine X.u (LU.assignR Is.rfl') rfl ?_
  refine LL.nil (after_code ?_)
  refine LW.seq ?_
  refine LW.seq ?_
  refine LW.region ?_
  refine X.u (LU.loadO 1 rfl ⟨Try.sizeOf23, Try.isAgg23⟩ Is.rfl' (Part.whole (by rfl))) rfl ?_
  refine X.u (LU.call (wrong_calls _ _ _) Try.func55 rfl rfl (Opds.cons Is.rfl' Opds.nil)) rfl ?_
  refine LL.nil (after_code ?_)
  refine X.cond rfl (fun h1 => ?_) (fun h1 => ?_)
  · rw [if_neg (by simpa using h1)]
    refine LW.seq ?_
    refine LW.region ?_
    refine X.u (LU.loadO 2 rfl ⟨Try.sizeOf39, Try.isAgg39⟩ Is.rfl' (Part.whole (by rfl))) rfl ?_
    refine X.act (X.store 0 rfl Try.sizeOf39 Is.rfl' Is.rfl' (by exact Cells.agg) (by rfl) (by exact Nat.le_of_ble_eq_true rfl) ?_)
    refine X.u (LU.assignR Is.rfl') rfl ?_
    refine LL.nil (after_code ?_)
    refine LW.ret (ret_code (after_end ?_))
    refine X.ret (H' := []) (by exact Res.cell2 0 rfl rfl ⟨Try.sizeOf39, Try.isAgg39⟩ (Part.whole rfl) (by exact IsA rfl) (by exact IsR rfl)) (by repeat (first | exact HSub.refl _ | refine HSub.pick 0 rfl ?_ | refine HSub.pick 1 rfl ?_ | refine HSub.pick 2 rfl ?_ | refine HSub.pick 3 rfl ?_ | refine HSub.pick 4 rfl ?_ | refine HSub.drop ?_)) ?_
    exact ⟨rfl, rfl⟩
  · rw [if_pos (by simpa using h1)]
    refine LW.skip (after_code ?_)
    refine LW.seq ?_
    refine LW.region ?_
    refine X.u (LU.loadO 1 rfl ⟨Try.sizeOf23, Try.isAgg23⟩ Is.rfl' (Part.whole (by rfl))) rfl ?_
    refine X.u (LU.fieldO Try.underlying39 rfl Try.sizeOf3 (by decide) Is.rfl') rfl ?_
    refine X.u (LU.loadO 2 rfl ⟨Try.sizeOf3, Try.isAgg3⟩ Is.rfl' (Part.one rfl)) rfl ?_
    refine X.u (LU.weak (LU.build (places := #[(0, 3), (3, 1), (4, 1)]) Try.underlying39 Try.zeroValue39 (ones rfl) (by intro w; simp [Try.sizeOf23, Try.sizeOf3, Try.sizeOf24]) (Parts.cons Is.rfl' Cells.agg (Parts.cons Is.rfl' (Cells.raw rfl) Parts.nil)) rfl) (Is.agg (ys := [i64 B', i64 R', i64 W', i64 u, Ints [] .unk]) rfl (rm_nil _ _ _ _))) rfl ?_
    refine X.act (X.store 0 rfl Try.sizeOf39 Is.rfl' Is.rfl' (by exact Cells.agg) (by rfl) (by exact Nat.le_of_ble_eq_true rfl) ?_)
    refine X.u (LU.assignR Is.rfl') rfl ?_
    refine LL.nil (after_code ?_)
    refine LW.ret (after_end ?_)
    refine X.ret (H' := []) (by exact Res.cell2 0 rfl rfl ⟨Try.sizeOf39, Try.isAgg39⟩ (Part.whole rfl) (by exact IsA rfl) (by exact IsR rfl)) (by repeat (first | exact HSub.refl _ | refine HSub.pick 0 rfl ?_ | refine HSub.pick 1 rfl ?_ | refine HSub.pick 2 rfl ?_ | refine HSub.pick 3 rfl ?_ | refine HSub.pick 4 rfl ?_ | refine HSub.drop ?_)) ?_
    exact ⟨rfl, rfl⟩
end Go.Proofs.Ytpimalihpnfdkaa
