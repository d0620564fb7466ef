/- What is looked at; copies; the chapter's example. -/
import Derived.Test.YtmaeepckfbnpjaaDqD
set_option linter.unusedVariables false
set_option linter.unusedSimpArgs false
namespace Go.Proofs.Ytmaeepckfbnpjaa
open Go.RowKit Go.L Go.Lib
attribute [local irreducible] LL LW LO
theorem its_app (l : List It) (x : It) : its l ++ [itL x] = its (l ++ [x]) := (List.map_append (f := itL) (l₁ := l) (l₂ := [x])).symm
theorem totalD_snoc (l : List It) (x : It) : totalD (l ++ [x]) = totalD l + x.deps.length := by unfold totalD; simp
def lightS (l : List It) : Bool := decide (totalD l ≤ 400) && decide (l.length ≤ 300)
set_option maxRecDepth 100000 in
theorem light_calls (l : List It) (k : Cap) (hl : l.length < 140737488355328) (hx : ∀ x ∈ l, x.deps.length < 140737488355328) : LCalls Try.prog 8 [.sl 33 (its l) k] [] (fun r H' => r = bl (lightS l) ∧ H' = []) := by
  refine LCalls.of Try.func8 rfl Try.ntmps8 Try.results8 rfl (fun Rf => ?_)
  refine LW.seq ?_
  refine LW.region ?_
  refine X.u (LU.assignR Is.rfl') rfl ?_
  refine LL.nil (after_code ?_)
  refine LW.seq ?_
  refine LW.region ?_
  refine X.u (LU.assignR Is.rfl') rfl ?_
  refine LL.nil (after_code ?_)
  refine LW.seq ?_
  refine LW.seq ?_
  refine LW.region ?_
  refine X.u (LU.moveS Is.rfl') rfl ?_
  refine X.u (LU.lenN Try.underlying22 Is.rfl' (by (simp only [Option.getD_some, Option.getD_none, byteEls_length, intEls_length, List.length_append, List.length_cons, List.length_nil, List.length_map, List.length_drop, List.length_take, Int.toNat_natCast]; rfl))) rfl ?_
  refine X.u (LU.moveR Is.rfl') rfl ?_
  refine LL.nil (after_code ?_)
  refine LW.block ?_
  refine X.loopK (α := Nat) (fun i => [(7, i64 i), (3, i64 (totalD (l.take i) : Nat))]) [0, 6] (fun _ => _) (fun i => i ≤ l.length ∧ totalD (l.take i) ≤ 400) (fun i => l.length - i) (0) (EnvLe.cons (by rfl) (EnvLe.cons (by rfl) (EnvLe.nil))) (HSub.refl _) ?_ ?_
  · exact ⟨Nat.zero_le _, by simp [totalD]⟩
  · rintro i hI
    obtain ⟨hi, ht⟩ := hI
    refine LW.seq ?_
    refine LW.region ?_
    refine X.u (LU.lss Is.rfl' Is.rfl') rfl ?_
    refine LL.nil (after_code ?_)
    refine LW.seq ?_
    refine X.cond rfl (fun h3 => ?_) (fun h3 => ?_)
    · try have h3 := of_decide_eq_true h3
      refine LW.skip (after_code ?_)
      refine LW.seq ?_
      refine LW.block ?_
      refine LW.seq ?_
      obtain ⟨x, hxi⟩ := at_lt (show i < l.length by omega)
      have hxl := it_len x
      have hxn : x.name.1.length = 32 := x.name.2
      have hxl2 := hx x (List.mem_of_getElem? hxi)
      have hsn : totalD (l.take (i + 1)) = totalD (l.take i) + x.deps.length := by rw [take_snoc hxi, totalD_snoc]
      refine LW.region ?_
      refine X.u (LU.moveR Is.rfl') rfl ?_
      refine X.u (LU.assignR Is.rfl') rfl ?_
      refine LL.nil (after_code ?_)
      refine LW.seq ?_
      refine LW.region ?_
      refine X.u (LU.moveR Is.rfl') rfl ?_
      refine X.u (LU.moveS Is.rfl') rfl ?_
      refine X.u (LU.moveR Is.rfl') rfl ?_
      refine X.u (LU.at Try.underlying22 ⟨Try.sizeOf36, Try.isAgg36⟩ Is.rfl' Is.rfl' (by omega) (its_at hxi) (it_ne x)) rfl ?_
      refine X.u (LU.weak (LU.fieldP Try.underlying36 rfl ⟨Try.sizeOf26, Try.isAgg26⟩ (by decide) Is.rfl' (by (simp; omega))) (Is.of (y := .pin [Hss x.deps]) (congrArg LV.pin (it_pin x)))) rfl ?_
      refine X.u (LU.load ⟨Try.sizeOf26, Try.isAgg26⟩ Is.rfl' (by (simp; done)) (Part.one rfl)) rfl ?_
      refine X.u (LU.lenN Try.underlying26 Is.rfl' (by (simp only [Option.getD_some, Option.getD_none, byteEls_length, intEls_length, List.length_append, List.length_cons, List.length_nil, List.length_map, List.length_drop, List.length_take, Int.toNat_natCast]; rfl))) rfl ?_
      refine X.u (LU.weak (LU.add Is.rfl' Is.rfl') (Is.of (y := i64 (totalD (l.take (i + 1)) : Nat)) (congrArg i64 ((wrap_i64 (by omega) (by omega)).trans (by rw [hsn]; omega))))) rfl ?_
      refine X.u (LU.assignR Is.rfl') rfl ?_
      refine LL.nil (after_code ?_)
      refine LW.seq ?_
      refine LW.region ?_
      refine X.u (LU.moveR Is.rfl') rfl ?_
      refine X.u (LU.gtr Is.rfl' Is.rfl') rfl ?_
      refine LL.nil (after_code ?_)
      refine X.cond rfl (fun h6 => ?_) (fun h6 => ?_)
      · have h6 : 400 < totalD (l.take (i + 1)) := by have := of_decide_eq_true h6; omega
        have hd0 : (0 : Nat) = 0 := rfl
        refine LW.seq ?_
        refine LW.region ?_
        refine X.u (LU.assignR Is.rfl') rfl ?_
        refine LL.nil (after_code ?_)
        refine LW.ret (ret_blk (ret_code (ret_rnd (ret_blk (ret_code (after_end ?_))))))
        refine X.ret (H' := []) (Res.one (by exact IsR rfl)) (by repeat (exact HSub.refl _)) ?_
        have := totalD_take l (i + 1)
        exact ⟨by unfold lightS; rw [decide_eq_false (by omega)]; rfl, rfl⟩
      · have h6 : totalD (l.take (i + 1)) ≤ 400 := by have := of_decide_eq_false h6; omega
        have hd0 : (0 : Nat) = 0 := rfl
        refine LW.skip (after_blk (after_code ?_))
        refine LW.region ?_
        refine X.u (LU.addN Is.rfl' Is.rfl' (wrap_i64 (by omega) (by omega))) rfl ?_
        refine X.u (LU.moveR Is.rfl') rfl ?_
        refine LL.nil (after_rnd ?_)
        refine X.next (i + 1) rfl (EnvLe.cons (by rfl) (EnvLe.cons (by rfl) (EnvLe.nil))) (Keeps.cons (by exact Eq.trans (b := .sl _ _ _) rfl rfl) (Keeps.cons (by exact Eq.trans (b := .raw _) rfl rfl) (Keeps.nil))) (HSub.refl _) ?_ ?_
        · exact ⟨by omega, h6⟩
        · omega
    · try have h3 := of_decide_eq_false h3
      refine LW.exit (exit_code (exit_rnd (exit_blk (after_code ?_))))
      refine LW.seq ?_
      refine LW.region ?_
      refine X.u (LU.moveS Is.rfl') rfl ?_
      refine X.u (LU.lenN Try.underlying22 Is.rfl' (by (simp only [Option.getD_some, Option.getD_none, byteEls_length, intEls_length, List.length_append, List.length_cons, List.length_nil, List.length_map, List.length_drop, List.length_take, Int.toNat_natCast]; rfl))) rfl ?_
      refine X.u (LU.leq Is.rfl' Is.rfl') rfl ?_
      refine X.u (LU.assignR Is.rfl') rfl ?_
      refine LL.nil (after_code ?_)
      refine LW.ret (after_end ?_)
      refine X.ret (H' := []) (Res.one (by exact IsR rfl)) (by repeat (exact HSub.refl _)) ?_
      have hil : i = l.length := by omega
      rw [hil, List.take_length] at ht
      refine ⟨?_, rfl⟩
      unfold lightS
      rw [decide_eq_true ht]
      congr 2
      rw [Bool.true_and]
      congr 1
      try simp only [List.length_map]
      exact propext ⟨fun c => by omega, fun c => by omega⟩
theorem laid_it {c : LV} {l : List LV} {zs : List LV} (hl : l.length = 32) (hz : zs.length = 33) : laid (#[(0, 32), (32, 1)][·]?) zs [(0, l), (1, [c])] = some (l ++ [c]) := by
  have h1 : putAt zs 0 l = l ++ zs.drop 32 := by simp [putAt, hl]
  have h2 : putAt (l ++ zs.drop 32) 32 [c] = l ++ [c] := by
    unfold putAt
    rw [List.take_left' hl, List.drop_of_length_le (by simp [hl, hz]), List.append_nil]
  have h3 : (l ++ zs.drop 32).length = 33 := by simp [hl, hz]
  show (bif (Nat.beq l.length 32 && Nat.ble (0 + l.length) zs.length) then laid _ (putAt zs 0 l) [(1, [c])] else none) = _
  rw [hl, hz, h1]
  show (bif (Nat.beq 1 1 && Nat.ble (32 + 1) (l ++ zs.drop 32).length) then laid _ (putAt (l ++ zs.drop 32) 32 [c]) [] else none) = _
  rw [h3, h2]
  rfl
set_option maxRecDepth 100000 in
theorem copies_calls (l : List It) (k : Cap) (hl : l.length ≤ 300) (hd : totalD l ≤ 400) : LCalls Try.prog 10 [.sl 33 (its l) k] [] (fun r H' => r = .sl 33 (its l) .unk ∧ H' = []) := by
  refine LCalls.of Try.func10 rfl Try.ntmps10 Try.results10 rfl (fun Rf => ?_)
  refine LW.seq ?_
  refine LW.region ?_
  refine X.u (LU.assign (Is.nil 33)) rfl ?_
  refine LL.nil (after_code ?_)
  refine LW.seq ?_
  refine LW.region ?_
  refine X.u (LU.assign (Is.nil 33)) rfl ?_
  refine LL.nil (after_code ?_)
  refine LW.seq ?_
  refine LW.seq ?_
  refine LW.region ?_
  refine X.u (LU.moveS Is.rfl') rfl ?_
  refine X.u (LU.lenN Try.underlying22 Is.rfl' (by (simp only [Option.getD_some, Option.getD_none, byteEls_length, intEls_length, List.length_append, List.length_cons, List.length_nil, List.length_map, List.length_drop, List.length_take, Int.toNat_natCast]; rfl))) rfl ?_
  refine X.u (LU.moveR Is.rfl') rfl ?_
  refine LL.nil (after_code ?_)
  refine LW.block ?_
  refine X.wweak (t := 3) (v := .sl 33 (its []) (.tok 0 0 0)) (Is.full_tok 0 0) ?_
  refine X.wghost (HSub.tail0 0 0 0 (Nat.le_refl _) _) ?_
  refine X.loopK (α := Nat × Nat × Nat × Nat) (fun ⟨i, b, o, c⟩ => [(8, i64 i), (3, .sl 33 (its (l.take i)) (.tok b o c))]) [2, 6, 7] (fun ⟨i, b, o, c⟩ => .tail b o c :: Rf) (fun ⟨i, b, o, c⟩ => i ≤ l.length) (fun ⟨i, b, o, c⟩ => l.length - i) ((0, 0, 0, 0)) (EnvLe.cons (by rfl) (EnvLe.cons (by rfl) (EnvLe.nil))) (by repeat (exact HSub.refl _)) ?_ ?_
  · exact Nat.zero_le _
  · rintro ⟨i, b, o, c⟩ hI
    refine LW.seq ?_
    refine LW.region ?_
    refine X.u (LU.lss Is.rfl' Is.rfl') rfl ?_
    refine LL.nil (after_code ?_)
    refine LW.seq ?_
    refine X.cond rfl (fun h3 => ?_) (fun h3 => ?_)
    · try have h3 := of_decide_eq_true h3
      refine LW.skip (after_code ?_)
      refine LW.seq ?_
      refine LW.block ?_
      refine LW.seq ?_
      obtain ⟨x, hx⟩ := at_lt (show i < l.length by omega)
      have htot := totalD_at hx
      have hxl := it_len x
      have hxn : x.name.1.length = 32 := x.name.2
      refine LW.region ?_
      refine X.u (LU.at Try.underlying22 ⟨Try.sizeOf36, Try.isAgg36⟩ Is.rfl' Is.rfl' (by omega) (its_at hx) (by simp)) rfl ?_
      refine X.u (LU.load ⟨Try.sizeOf36, Try.isAgg36⟩ Is.rfl' (by assumption) (Part.whole (by assumption))) rfl ?_
      refine X.act (X.alloc rfl Try.zeroValue36 (by exact Cells.rawagg (by decide)) (fun b5 => ?_))
      refine X.act (X.store 0 rfl Try.sizeOf36 Is.rfl' Is.rfl' (by exact Cells.agg) (by assumption) (by exact Nat.le_of_ble_eq_true rfl) ?_)
      refine LL.nil (after_code ?_)
      refine X.wcells (ys := itL x) (putAt_all (by rw [hxl]; rfl)) ?_
      refine X.wghost (H' := .tail b o c :: .cells b5 36 (itL x) :: Rf) (by repeat (first | exact HSub.refl _ | refine HSub.pick 1 rfl ?_)) ?_
      refine X.drawM 9 rfl (by kernel_rfl) rfl ?_
      refine QD.u (LU.moveS Is.rfl') rfl ?_
      refine QD.u (LU.fieldO Try.underlying36 rfl Try.sizeOf34 (by decide) Is.rfl') rfl ?_
      refine QD.u (LU.weak (LU.loadO 1 rfl ⟨Try.sizeOf34, Try.isAgg34⟩ Is.rfl' (Part.sub (by (simp; omega)))) (Is.of (y := .agg (hsL x.name)) (congrArg LV.agg (it_name x)))) rfl ?_
      refine QD.u (LU.lits Try.underlying26 Try.sizeOf34 Try.zeroValue34 (ones rfl) rfl (by decide) (by decide) Elems.nil (by intro e he; cases he) rfl) rfl ?_
      refine QD.u (LU.fieldO Try.underlying36 rfl Try.sizeOf26 (by decide) Is.rfl') rfl ?_
      refine QD.u (LU.loadO 1 rfl ⟨Try.sizeOf26, Try.isAgg26⟩ Is.rfl' (Part.one (it_deps x))) rfl ?_
      refine QD.u (LU.weak (LU.append Try.underlying26 (El.of (P := Try.prog) (z := (.agg #[(.int .u8 0), (.int .u8 0), (.int .u8 0), (.int .u8 0), (.int .u8 0), (.int .u8 0), (.int .u8 0), (.int .u8 0), (.int .u8 0), (.int .u8 0), (.int .u8 0), (.int .u8 0), (.int .u8 0), (.int .u8 0), (.int .u8 0), (.int .u8 0), (.int .u8 0), (.int .u8 0), (.int .u8 0), (.int .u8 0), (.int .u8 0), (.int .u8 0), (.int .u8 0), (.int .u8 0), (.int .u8 0), (.int .u8 0), (.int .u8 0), (.int .u8 0), (.int .u8 0), (.int .u8 0), (.int .u8 0), (.int .u8 0)])) (size := 32) (bytes := 32) rfl rfl rfl) Is.rfl' Is.rfl' (SrcL.slice Try.underlying26 (by decide) (hss_size x.deps)) (by simp only [Option.getD_some, Option.getD_none, byteEls_length, intEls_length, List.length_append, List.length_cons, List.length_nil, List.length_map, List.length_drop, List.length_take, Int.toNat_natCast]; omega) (by simp only [Option.getD_some, Option.getD_none, byteEls_length, intEls_length, List.length_append, List.length_cons, List.length_nil, List.length_map, List.length_drop, List.length_take, Int.toNat_natCast]; omega)) (Is.of (y := .sl 32 (hss x.deps) .unk) (congrArg (fun z => LV.sl 32 z .unk) (by simp)))) rfl ?_
      refine QD.u (LU.weak (LU.build (places := #[(0, 32), (32, 1)]) Try.underlying36 Try.zeroValue36 (ones rfl) (by intro w; simp [Try.sizeOf26, Try.sizeOf34]) (Parts.cons Is.rfl' (by exact Cells.agg) (Parts.cons Is.rfl' (by exact Cells.sl) Parts.nil)) (laid_it (by rw [List.length_map, hxn]) rfl)) (Is.of (y := .agg (itL x)) (rfl))) rfl ?_
      refine QD.u (LU.lits Try.underlying22 Try.sizeOf36 Try.zeroValue36 (ones rfl) rfl (by decide) (by decide) (Elems.cons Is.rfl' (by exact Cells.agg) Elems.nil) (by (simp; assumption)) rfl) rfl ?_
      refine QD.nil ?_
      refine X.act (X.append 0 rfl rfl Try.underlying22 (El.of (P := Try.prog) (z := (.agg #[(.int .u8 0), (.int .u8 0), (.int .u8 0), (.int .u8 0), (.int .u8 0), (.int .u8 0), (.int .u8 0), (.int .u8 0), (.int .u8 0), (.int .u8 0), (.int .u8 0), (.int .u8 0), (.int .u8 0), (.int .u8 0), (.int .u8 0), (.int .u8 0), (.int .u8 0), (.int .u8 0), (.int .u8 0), (.int .u8 0), (.int .u8 0), (.int .u8 0), (.int .u8 0), (.int .u8 0), (.int .u8 0), (.int .u8 0), (.int .u8 0), (.int .u8 0), (.int .u8 0), (.int .u8 0), (.int .u8 0), (.int .u8 0), (.slice none 0 0)])) (size := 33) (bytes := 56) rfl rfl rfl) Is.rfl' Is.rfl' (SrcL.slice Try.underlying22 (by decide) (by intro e he; rw [List.mem_singleton.1 he]; exact hxl)) (by simp only [Option.getD_some, Option.getD_none, byteEls_length, intEls_length, List.length_append, List.length_cons, List.length_nil, List.length_map, List.length_drop, List.length_take, Int.toNat_natCast]; omega) (by simp only [Option.getD_some, Option.getD_none, byteEls_length, intEls_length, List.length_append, List.length_cons, List.length_nil, List.length_map, List.length_drop, List.length_take, Int.toNat_natCast]; omega) (fun b21 o21 c21 => X.weak (t := 21) (Is.of (y := .sl 33 (its (l.take (i + 1))) (.tok b21 o21 c21)) (congrArg (fun z => LV.sl 33 z (.tok b21 o21 c21)) (by rw [take_snoc hx]; exact its_app (l.take i) x))) ?_))
      refine X.u (LU.assignS Is.rfl') rfl ?_
      refine LL.nil (after_blk (after_code ?_))
      refine LW.region ?_
      refine X.u (LU.addN Is.rfl' Is.rfl' (wrap_i64 (by omega) (by omega))) rfl ?_
      refine X.u (LU.moveR Is.rfl') rfl ?_
      refine LL.nil (after_rnd ?_)
      refine X.next ((i + 1, b21, o21, c21)) rfl (EnvLe.cons (by rfl) (EnvLe.cons (by rfl) (EnvLe.nil))) (Keeps.cons (by exact Eq.trans (b := .sl _ _ _) rfl rfl) (Keeps.cons (by exact Eq.trans (b := .sl _ _ _) rfl rfl) (Keeps.cons (by exact Eq.trans (b := .raw _) rfl rfl) (Keeps.nil)))) (by repeat (first | exact HSub.refl _ | refine HSub.pick 0 rfl ?_ | refine HSub.drop ?_)) ?_ ?_
      · omega
      · (simp; omega)
    · try have h3 := of_decide_eq_false h3
      refine LW.exit (exit_code (exit_rnd (exit_blk (after_code ?_))))
      refine LW.seq ?_
      refine LW.region ?_
      refine X.u (LU.moveS Is.rfl') rfl ?_
      refine X.u (LU.assignS Is.rfl') rfl ?_
      refine LL.nil (after_code ?_)
      refine LW.ret (after_end ?_)
      refine X.ret (H' := []) (Res.one (by exact IsS rfl)) (by repeat (first | exact HSub.refl _ | refine HSub.drop ?_)) ?_
      exact ⟨by rw [List.take_of_length_le (by omega)], rfl⟩
end Go.Proofs.Ytmaeepckfbnpjaa
