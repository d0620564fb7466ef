/- Those of a list of which a function says true; who may do what. -/
import Derived.Test.YthifbkddfjohbaaAcB
set_option linter.unusedVariables false
set_option linter.unusedSimpArgs false
namespace Go.Proofs.Ythifbkddfjohbaa
open Go.RowKit Go.L
abbrev rEls (l : List Rl) : List (List LV) := l.map rL
abbrev Rls (l : List Rl) (k : Cap) : LV := .sl 5 (rEls l) k
abbrev ptr (g : Nat) : Value := .pointer (some ⟨g, 0, none⟩)
theorem rEls_snoc (l : List Rl) (r : Rl) : rEls l ++ [rL r] = rEls (l ++ [r]) := by simp
theorem rEls_at {l : List Rl} {i : Nat} {x : Rl} (h : l[i]? = some x) : (rEls l)[(i : Int).toNat]? = some (rL x) := by
  rw [Int.toNat_natCast, rEls, List.getElem?_map, h]; rfl
theorem at_lt {α : Type} {l : List α} {i : Nat} (h : i < l.length) : ∃ x, l[i]? = some x := ⟨l[i], List.getElem?_eq_getElem h⟩
theorem take_snoc {α : Type} {l : List α} {i : Nat} {x : α} (h : l[i]? = some x) : l.take (i + 1) = l.take i ++ [x] := by
  obtain ⟨hlt, he⟩ := List.getElem?_eq_some_iff.1 h
  rw [List.take_succ_eq_append_getElem hlt, he]
theorem filter_hit {α : Type} {l : List α} {i : Nat} {x : α} {p : α → Bool} (h : l[i]? = some x) (hp : p x = true) : (l.take (i + 1)).filter p = (l.take i).filter p ++ [x] := by
  rw [take_snoc h, List.filter_append]; simp [hp]
theorem filter_miss {α : Type} {l : List α} {i : Nat} {x : α} {p : α → Bool} (h : l[i]? = some x) (hp : p x = false) : (l.take (i + 1)).filter p = (l.take i).filter p := by
  rw [take_snoc h, List.filter_append]; simp [hp]
theorem filter_take_le {α : Type} (l : List α) (i : Nat) (p : α → Bool) : ((l.take i).filter p).length ≤ l.length :=
  Nat.le_trans (List.length_filter_le _ _) (by simp; omega)
set_option maxRecDepth 100000 in
theorem picked_calls (rs : List Rl) (k : Cap) (gf : FuncId) (fn : Func) (caps : Array Value) (Hc : List Atom) (p : Rl → Bool) (hlen : rs.length * 64 ≤ 140737488355328) (hf : Try.prog.funcs[gf]? = some fn) (hname : (fn.name == "runtime.NumGoroutine") = false) (hb : fn.body.isSome = true)
    (hp : ∀ r ∈ rs, LCalls Try.prog gf ([.agg (rL r)] ++ raws caps.toList) Hc (fun x H' => x = bl (p r) ∧ H' = Hc)) : LCalls Try.prog 72 [Rls rs k, .raw (.func (.func gf) #[] caps)] Hc (fun x H' => x = Rls (rs.filter p) .unk ∧ H' = Hc) := by
  have hrl := reach_lt
  refine LCalls.of Try.func72 rfl Try.ntmps72 Try.results72 rfl (fun Rf => ?_)
  refine LW.seq ?_
  refine LW.region ?_
  refine X.u (LU.assign (Is.nil 5)) rfl ?_
  refine LL.nil (after_code ?_)
  refine LW.seq ?_
  refine LW.region ?_
  refine X.u (LU.assign (Is.nil 5)) rfl ?_
  refine LL.nil (after_code ?_)
  refine LW.seq ?_
  refine LW.seq ?_
  refine LW.region ?_
  refine X.u (LU.moveS Is.rfl') rfl ?_
  refine X.u (LU.lenN Try.underlying22 Is.rfl' (by (simp only [Option.getD_some, Option.getD_none, byteEls_length, intEls_length, List.length_append, List.length_cons, List.length_nil, List.length_map, List.length_drop, List.length_take, Int.toNat_natCast]; rfl))) rfl ?_
  refine X.u (LU.moveR Is.rfl') rfl ?_
  refine LL.nil (after_code ?_)
  refine LW.block ?_
  refine X.wghost (HSub.tail0 0 0 0 (Nat.le_refl _) _) ?_
  refine X.wweak (t := 5) (v := Rls [] (.tok 0 0 0)) (Is.full_tok 0 0) ?_
  refine X.loopK (α := Nat × List Rl × Nat × Nat × Nat) (fun ⟨i, acc, tb, to, tc⟩ => [(10, i64 i), (5, Rls acc (.tok tb to tc))]) [1, 4, 8, 9] (fun ⟨i, acc, tb, to, tc⟩ => .tail tb to tc :: (Hc ++ Rf)) (fun ⟨i, acc, tb, to, tc⟩ => i ≤ rs.length ∧ acc = (rs.take i).filter p) (fun ⟨i, acc, tb, to, tc⟩ => rs.length - i) ((0, [], 0, 0, 0)) (EnvLe.cons (by rfl) (EnvLe.cons (by rfl) (EnvLe.nil))) (by exact HSub.refl _) ?_ ?_
  · exact ⟨Nat.zero_le _, by simp⟩
  · rintro ⟨i, acc, tb, to, tc⟩ hI
    obtain ⟨hk, hacc⟩ := hI
    refine LW.seq ?_
    refine LW.region ?_
    refine X.u (LU.lss Is.rfl' Is.rfl') rfl ?_
    refine LL.nil (after_code ?_)
    refine LW.seq ?_
    refine X.cond rfl (fun h3 => ?_) (fun h3 => ?_)
    · try have h3 := of_decide_eq_true h3
      refine LW.skip (after_code ?_)
      refine LW.seq ?_
      refine LW.block ?_
      refine LW.seq ?_
      obtain ⟨x, hx⟩ := at_lt (show i < rs.length by omega)
      have hal : acc.length ≤ i := hacc ▸ Nat.le_trans (List.length_filter_le _ _) (List.length_take_le _ _)
      refine LW.region ?_
      refine X.u (LU.at Try.underlying22 ⟨Try.sizeOf31, Try.isAgg31⟩ Is.rfl' Is.rfl' (by omega) (rEls_at hx) (by simp)) rfl ?_
      refine X.u (LU.load ⟨Try.sizeOf31, Try.isAgg31⟩ Is.rfl' (by (simp; done)) (Part.whole (by (simp; done)))) rfl ?_
      refine X.act (X.alloc rfl Try.zeroValue31 (by exact Cells.rawagg (by decide)) (fun b7 => ?_))
      refine X.act (X.store 0 rfl Try.sizeOf31 Is.rfl' Is.rfl' (by exact Cells.agg) (by (simp; done)) (by exact Nat.le_of_ble_eq_true rfl) ?_)
      refine LL.nil (after_code ?_)
      refine LW.seq ?_
      rw [putAt_all (by simp [raws])]
      refine LW.region ?_
      refine X.u (LU.moveR Is.rfl') rfl ?_
      refine X.u (LU.loadO 0 rfl ⟨Try.sizeOf31, Try.isAgg31⟩ Is.rfl' (Part.whole (by (simp; done)))) rfl ?_
      refine X.act (X.callV (hp x (List.mem_of_getElem? hx)) Is.rfl' (hf) (hname) (hb) rfl (hsub_swap2 _ _ _ _) (Opds.cons Is.rfl' Opds.nil) ?_)
      rintro r H' ⟨rfl, rfl⟩
      refine LL.nil (after_code ?_)
      refine X.cond rfl (fun h5 => ?_) (fun h5 => ?_)
      · try have h5 := of_decide_eq_true h5
        refine X.wghost (hsub_back2 _ _ _ _) ?_
        refine LW.region ?_
        refine X.u (LU.moveS Is.rfl') rfl ?_
        refine X.u (LU.loadO 0 rfl ⟨Try.sizeOf31, Try.isAgg31⟩ Is.rfl' (Part.whole (by (simp; done)))) rfl ?_
        refine X.u (LU.lits Try.underlying22 Try.sizeOf31 Try.zeroValue31 (ones rfl) rfl (by decide) (by decide) (Elems.cons Is.rfl' (by exact Cells.agg) Elems.nil) (by simp) rfl) rfl ?_
        refine X.act (X.append 1 rfl rfl Try.underlying22 (El.of (P := Try.prog) (z := (.agg #[(.string ByteArray.empty), (.string ByteArray.empty), (.string ByteArray.empty), (.int .i64 0), (.bool false)])) (size := 5) (bytes := 64) rfl rfl rfl) Is.rfl' Is.rfl' (SrcL.slice Try.underlying22 (by decide) (by (intro e he; simp [chunks] at he; simp [he]; done))) (by simp only [Option.getD_some, Option.getD_none, byteEls_length, intEls_length, List.length_append, List.length_cons, List.length_nil, List.length_map, List.length_drop, List.length_take, Int.toNat_natCast]; omega) (by simp only [Option.getD_some, Option.getD_none, byteEls_length, intEls_length, List.length_append, List.length_cons, List.length_nil, List.length_map, List.length_drop, List.length_take, Int.toNat_natCast]; omega) (fun b20 o20 c20 => X.weak (t := 20) (Is.of (y := Rls (acc ++ [x]) (.tok b20 o20 c20)) (congrArg (fun z => LV.sl 5 z (.tok b20 o20 c20)) (rEls_snoc acc x))) ?_))
        refine X.u (LU.assignS Is.rfl') rfl ?_
        refine LL.nil (after_blk (after_code ?_))
        refine LW.region ?_
        refine X.u (LU.addN Is.rfl' Is.rfl' (wrap_i64 (by omega) (by omega))) rfl ?_
        refine X.u (LU.moveR Is.rfl') rfl ?_
        refine LL.nil (after_rnd ?_)
        refine X.next ((i + 1, acc ++ [x], b20, o20, c20)) rfl (EnvLe.cons (by rfl) (EnvLe.cons (by rfl) (EnvLe.nil))) (Keeps.cons (by exact Eq.trans (b := .raw _) rfl rfl) (Keeps.cons (by exact Eq.trans (b := .sl _ _ _) rfl rfl) (Keeps.cons (by exact Eq.trans (b := .sl _ _ _) rfl rfl) (Keeps.cons (by exact Eq.trans (b := .raw _) rfl rfl) (Keeps.nil))))) (by repeat (first | exact HSub.refl _ | refine HSub.pick 0 rfl ?_ | refine HSub.pick 1 rfl ?_ | refine HSub.pick 2 rfl ?_ | refine HSub.pick 3 rfl ?_ | refine HSub.pick 4 rfl ?_ | refine HSub.drop ?_)) ?_ ?_
        · exact ⟨by omega, by rw [filter_hit hx h5, hacc]⟩
        · (simp; omega)
      · try have h5 := of_decide_eq_false h5
        refine LW.skip (after_blk (after_code ?_))
        refine X.wghost (hsub_back2 _ _ _ _) ?_
        refine LW.region ?_
        refine X.u (LU.addN Is.rfl' Is.rfl' (wrap_i64 (by omega) (by omega))) rfl ?_
        refine X.u (LU.moveR Is.rfl') rfl ?_
        refine LL.nil (after_rnd ?_)
        refine X.next ((i + 1, acc, tb, to, tc)) rfl (EnvLe.cons (by rfl) (EnvLe.cons (by rfl) (EnvLe.nil))) (Keeps.cons (by exact Eq.trans (b := .raw _) rfl rfl) (Keeps.cons (by exact Eq.trans (b := .sl _ _ _) rfl rfl) (Keeps.cons (by exact Eq.trans (b := .sl _ _ _) rfl rfl) (Keeps.cons (by exact Eq.trans (b := .raw _) rfl rfl) (Keeps.nil))))) (by repeat (first | exact HSub.refl _ | refine HSub.pick 0 rfl ?_ | refine HSub.pick 1 rfl ?_ | refine HSub.pick 2 rfl ?_ | refine HSub.pick 3 rfl ?_ | refine HSub.pick 4 rfl ?_ | refine HSub.drop ?_)) ?_ ?_
        · exact ⟨by omega, by rw [filter_miss hx h5]; exact hacc⟩
        · (simp; omega)
    · try have h3 := of_decide_eq_false h3
      have hi : i = rs.length := by omega
      refine LW.exit (exit_code (exit_rnd (exit_blk (after_code ?_))))
      refine LW.seq ?_
      refine LW.region ?_
      refine X.u (LU.moveS Is.rfl') rfl ?_
      refine X.u (LU.assignS Is.rfl') rfl ?_
      refine LL.nil (after_code ?_)
      refine LW.ret (after_end ?_)
      refine X.ret (H' := Hc) (Res.one (by exact IsS rfl)) (by repeat (first | exact HSub.refl _ | refine HSub.pick 0 rfl ?_ | refine HSub.pick 1 rfl ?_ | refine HSub.pick 2 rfl ?_ | refine HSub.pick 3 rfl ?_ | refine HSub.pick 4 rfl ?_ | refine HSub.drop ?_)) ?_
      exact ⟨by rw [hacc, hi, List.take_length], rfl⟩
set_option maxRecDepth 100000 in
theorem pickeds_calls (rs : List (List UInt8)) (k : Cap) (gf : FuncId) (fn : Func) (caps : Array Value) (Hc : List Atom) (p : List UInt8 → Bool) (hlen : rs.length * 16 ≤ reachBytes) (hf : Try.prog.funcs[gf]? = some fn) (hname : (fn.name == "runtime.NumGoroutine") = false) (hb : fn.body.isSome = true)
    (hp : ∀ r ∈ rs, LCalls Try.prog gf ([Str r] ++ raws caps.toList) Hc (fun x H' => x = bl (p r) ∧ H' = Hc)) : LCalls Try.prog 53 [Strs rs k, .raw (.func (.func gf) #[] caps)] Hc (fun x H' => x = Strs (rs.filter p) .unk ∧ H' = Hc) := by
  have hrl := reach_lt
  refine LCalls.of Try.func53 rfl Try.ntmps53 Try.results53 rfl (fun Rf => ?_)
  refine LW.seq ?_
  refine LW.region ?_
  refine X.u (LU.assign (Is.nil 1)) rfl ?_
  refine LL.nil (after_code ?_)
  refine LW.seq ?_
  refine LW.region ?_
  refine X.u (LU.assign (Is.nil 1)) rfl ?_
  refine LL.nil (after_code ?_)
  refine LW.seq ?_
  refine LW.seq ?_
  refine LW.region ?_
  refine X.u (LU.moveS Is.rfl') rfl ?_
  refine X.u (LU.lenN Try.underlying23 Is.rfl' (by (simp only [Option.getD_some, Option.getD_none, byteEls_length, intEls_length, List.length_append, List.length_cons, List.length_nil, List.length_map, List.length_drop, List.length_take, Int.toNat_natCast]; rfl))) rfl ?_
  refine X.u (LU.moveR Is.rfl') rfl ?_
  refine LL.nil (after_code ?_)
  refine LW.block ?_
  refine X.wghost (HSub.tail0 0 0 0 (Nat.le_refl _) _) ?_
  refine X.wweak (t := 5) (v := Strs [] (.tok 0 0 0)) (Is.full_tok 0 0) ?_
  refine X.loopK (α := Nat × List (List UInt8) × Nat × Nat × Nat) (fun ⟨i, acc, tb, to, tc⟩ => [(10, i64 i), (5, Strs acc (.tok tb to tc))]) [1, 4, 8, 9] (fun ⟨i, acc, tb, to, tc⟩ => .tail tb to tc :: (Hc ++ Rf)) (fun ⟨i, acc, tb, to, tc⟩ => i ≤ rs.length ∧ acc = (rs.take i).filter p) (fun ⟨i, acc, tb, to, tc⟩ => rs.length - i) ((0, [], 0, 0, 0)) (EnvLe.cons (by rfl) (EnvLe.cons (by rfl) (EnvLe.nil))) (by exact HSub.refl _) ?_ ?_
  · exact ⟨Nat.zero_le _, by simp⟩
  · rintro ⟨i, acc, tb, to, tc⟩ hI
    obtain ⟨hk, hacc⟩ := hI
    refine LW.seq ?_
    refine LW.region ?_
    refine X.u (LU.lss Is.rfl' Is.rfl') rfl ?_
    refine LL.nil (after_code ?_)
    refine LW.seq ?_
    refine X.cond rfl (fun h3 => ?_) (fun h3 => ?_)
    · try have h3 := of_decide_eq_true h3
      refine LW.skip (after_code ?_)
      refine LW.seq ?_
      refine LW.block ?_
      refine LW.seq ?_
      obtain ⟨x, hx⟩ := at_lt (show i < rs.length by omega)
      have hal : acc.length ≤ i := hacc ▸ Nat.le_trans (List.length_filter_le _ _) (List.length_take_le _ _)
      refine LW.region ?_
      refine X.u (LU.at Try.underlying23 ⟨Try.sizeOf9, Try.isAgg9⟩ Is.rfl' Is.rfl' (by omega) ((show (strEls rs)[(i : Int).toNat]? = some [Str x] by rw [Int.toNat_natCast, strEls, List.getElem?_map, hx]; rfl)) (by simp)) rfl ?_
      refine X.u (LU.load ⟨Try.sizeOf9, Try.isAgg9⟩ Is.rfl' (by (simp; done)) (Part.one rfl)) rfl ?_
      refine X.u (LU.assignR Is.rfl') rfl ?_
      refine LL.nil (after_code ?_)
      refine LW.seq ?_
      refine LW.region ?_
      refine X.u (LU.moveR Is.rfl') rfl ?_
      refine X.u (LU.moveR Is.rfl') rfl ?_
      refine X.act (X.callV (hp x (List.mem_of_getElem? hx)) Is.rfl' (hf) (hname) (hb) rfl (hsub_swap1 _ _ _) (Opds.cons Is.rfl' Opds.nil) ?_)
      rintro r H' ⟨rfl, rfl⟩
      refine LL.nil (after_code ?_)
      refine X.cond rfl (fun h5 => ?_) (fun h5 => ?_)
      · try have h5 := of_decide_eq_true h5
        refine X.wghost (hsub_back1 _ _ _) ?_
        refine LW.region ?_
        refine X.u (LU.moveS Is.rfl') rfl ?_
        refine X.u (LU.moveR Is.rfl') rfl ?_
        refine X.u (LU.lits Try.underlying23 Try.sizeOf9 Try.zeroValue9 (ones rfl) rfl (by decide) (by decide) (Elems.cons Is.rfl' (by exact Cells.raw rfl) Elems.nil) (by simp) rfl) rfl ?_
        refine X.act (X.append 0 rfl rfl Try.underlying23 (El.of (P := Try.prog) (z := (.string ByteArray.empty)) (size := 1) (bytes := 16) rfl rfl rfl) Is.rfl' Is.rfl' (SrcL.slice Try.underlying23 (by decide) (by (intro e he; simp [chunks] at he; simp [he]; done))) (by simp only [Option.getD_some, Option.getD_none, byteEls_length, intEls_length, List.length_append, List.length_cons, List.length_nil, List.length_map, List.length_drop, List.length_take, Int.toNat_natCast]; omega) (by simp only [Option.getD_some, Option.getD_none, byteEls_length, intEls_length, List.length_append, List.length_cons, List.length_nil, List.length_map, List.length_drop, List.length_take, Int.toNat_natCast]; omega) (fun b20 o20 c20 => X.weak (t := 20) (Is.of (y := Strs (acc ++ [x]) (.tok b20 o20 c20)) (congrArg (fun z => LV.sl 1 z (.tok b20 o20 c20)) (strEls_snoc acc x))) ?_))
        refine X.u (LU.assignS Is.rfl') rfl ?_
        refine LL.nil (after_blk (after_code ?_))
        refine LW.region ?_
        refine X.u (LU.addN Is.rfl' Is.rfl' (wrap_i64 (by omega) (by omega))) rfl ?_
        refine X.u (LU.moveR Is.rfl') rfl ?_
        refine LL.nil (after_rnd ?_)
        refine X.next ((i + 1, acc ++ [x], b20, o20, c20)) rfl (EnvLe.cons (by rfl) (EnvLe.cons (by rfl) (EnvLe.nil))) (Keeps.cons (by exact Eq.trans (b := .raw _) rfl rfl) (Keeps.cons (by exact Eq.trans (b := .sl _ _ _) rfl rfl) (Keeps.cons (by exact Eq.trans (b := .sl _ _ _) rfl rfl) (Keeps.cons (by exact Eq.trans (b := .raw _) rfl rfl) (Keeps.nil))))) (by exact HSub.refl _) ?_ ?_
        · exact ⟨by omega, by rw [filter_hit hx h5, hacc]⟩
        · (simp; omega)
      · try have h5 := of_decide_eq_false h5
        refine LW.skip (after_blk (after_code ?_))
        refine X.wghost (hsub_back1 _ _ _) ?_
        refine LW.region ?_
        refine X.u (LU.addN Is.rfl' Is.rfl' (wrap_i64 (by omega) (by omega))) rfl ?_
        refine X.u (LU.moveR Is.rfl') rfl ?_
        refine LL.nil (after_rnd ?_)
        refine X.next ((i + 1, acc, tb, to, tc)) rfl (EnvLe.cons (by rfl) (EnvLe.cons (by rfl) (EnvLe.nil))) (Keeps.cons (by exact Eq.trans (b := .raw _) rfl rfl) (Keeps.cons (by exact Eq.trans (b := .sl _ _ _) rfl rfl) (Keeps.cons (by exact Eq.trans (b := .sl _ _ _) rfl rfl) (Keeps.cons (by exact Eq.trans (b := .raw _) rfl rfl) (Keeps.nil))))) (by exact HSub.refl _) ?_ ?_
        · exact ⟨by omega, by rw [filter_miss hx h5]; exact hacc⟩
        · (simp; omega)
    · try have h3 := of_decide_eq_false h3
      have hi : i = rs.length := by omega
      refine LW.exit (exit_code (exit_rnd (exit_blk (after_code ?_))))
      refine LW.seq ?_
      refine LW.region ?_
      refine X.u (LU.moveS Is.rfl') rfl ?_
      refine X.u (LU.assignS Is.rfl') rfl ?_
      refine LL.nil (after_code ?_)
      refine LW.ret (after_end ?_)
      refine X.ret (H' := Hc) (Res.one (by exact IsS rfl)) (by repeat (first | exact HSub.refl _ | refine HSub.pick 0 rfl ?_ | refine HSub.pick 1 rfl ?_ | refine HSub.pick 2 rfl ?_ | refine HSub.pick 3 rfl ?_ | refine HSub.pick 4 rfl ?_ | refine HSub.drop ?_)) ?_
      exact ⟨by rw [hacc, hi, List.take_length], rfl⟩
/-- What Decide's first function holds. -/
abbrev capD (a b c d : Nat) (s : Sb) (ch p : List UInt8) (right : Int) : List Atom := [.cells a 25 (sL s), .cells b 9 [Str ch], .cells c 9 [Str p], .cells d 3 [i64 right]]
set_option maxRecDepth 100000 in
theorem dec1_calls (r : Rl) (a b c d : Nat) (s : Sb) (ch p : List UInt8) (right : Int) (hr : RlOk r) (hs : SbOk s) : LCalls Try.prog 73 ([.agg (rL r)] ++ raws #[ptr a, ptr b, ptr c, ptr d].toList) (capD a b c d s ch p right) (fun x H' => x = bl (matchB r s ch p right) ∧ H' = capD a b c d s ch p right) := by
  refine LCalls.of Try.func73 rfl Try.ntmps73 Try.results73 rfl (fun Rf => ?_)
  refine LW.seq ?_
  refine LW.region ?_
  refine X.act (X.box rfl Is.rfl' (by exact Cells.agg) (fun b5 => ?_))
  refine X.u (LU.assignR Is.rfl') rfl ?_
  refine LL.nil (after_code ?_)
  refine LW.seq ?_
  refine LW.region ?_
  refine X.u (LU.loadO 0 rfl ⟨Try.sizeOf31, Try.isAgg31⟩ Is.rfl' (Part.whole (by (simp; done)))) rfl ?_
  refine X.u (LU.loadO 1 rfl ⟨Try.sizeOf25, Try.isAgg25⟩ Is.rfl' (Part.whole (by (simp; done)))) rfl ?_
  refine X.u (LU.loadO 2 rfl ⟨Try.sizeOf9, Try.isAgg9⟩ Is.rfl' (Part.one rfl)) rfl ?_
  refine X.u (LU.loadO 3 rfl ⟨Try.sizeOf9, Try.isAgg9⟩ Is.rfl' (Part.one rfl)) rfl ?_
  refine X.u (LU.loadO 4 rfl ⟨Try.sizeOf3, Try.isAgg3⟩ Is.rfl' (Part.one rfl)) rfl ?_
  refine X.u (LU.call (matches_calls r s ch p right hr hs) Try.func18 rfl rfl (Opds.cons Is.rfl' (Opds.cons Is.rfl' (Opds.cons Is.rfl' (Opds.cons Is.rfl' (Opds.cons Is.rfl' Opds.nil)))))) rfl ?_
  refine X.u (LU.assignR Is.rfl') rfl ?_
  refine LL.nil (after_code ?_)
  refine LW.ret (after_end ?_)
  refine X.ret (H' := capD a b c d s ch p right) (Res.one (by exact IsR rfl)) (by repeat (first | exact HSub.refl _ | refine HSub.pick 0 rfl ?_ | refine HSub.pick 1 rfl ?_ | refine HSub.pick 2 rfl ?_ | refine HSub.pick 3 rfl ?_ | refine HSub.pick 4 rfl ?_ | refine HSub.drop ?_)) ?_
  exact ⟨rfl, rfl⟩
set_option maxRecDepth 100000 in
theorem dec2_calls (r : Rl) (a : Nat) (m : Int) : LCalls Try.prog 74 ([.agg (rL r)] ++ raws #[ptr a].toList) [.cells a 3 [i64 m]] (fun x H' => x = bl (r.deny && decide ((r.pre.length : Int) = m)) ∧ H' = [.cells a 3 [i64 m]]) := by
  refine LCalls.of Try.func74 rfl Try.ntmps74 Try.results74 rfl (fun Rf => ?_)
  refine LW.seq ?_
  refine LW.region ?_
  refine X.act (X.box rfl Is.rfl' (by exact Cells.agg) (fun b2 => ?_))
  refine X.u (LU.assignR Is.rfl') rfl ?_
  refine LL.nil (after_code ?_)
  refine LW.seq ?_
  refine LW.region ?_
  refine X.u (LU.fieldO Try.underlying31 rfl Try.sizeOf4 (by decide) Is.rfl') rfl ?_
  refine X.u (LU.loadO 0 rfl ⟨Try.sizeOf4, Try.isAgg4⟩ Is.rfl' (Part.one rfl)) rfl ?_
  refine X.u (LU.moveR Is.rfl') rfl ?_
  refine X.gT rfl rfl (fun hg => LU.fieldO Try.underlying31 rfl Try.sizeOf9 (by decide) (by exact Is.rfl')) rfl ?_
  refine X.gT rfl rfl (fun hg => LU.loadO 0 rfl ⟨Try.sizeOf9, Try.isAgg9⟩ (by exact Is.whenE hg) (Part.one rfl)) rfl ?_
  refine X.gT rfl rfl (fun hg => LU.strlenN Try.underlying9 (by exact Is.whenE hg)) rfl ?_
  refine X.gT rfl rfl (fun hg => LU.loadO 1 rfl ⟨Try.sizeOf3, Try.isAgg3⟩ (by exact Is.rfl') (Part.one rfl)) rfl ?_
  refine X.gT rfl rfl (fun hg => LU.eql (by exact Is.whenE hg) (by exact Is.whenE hg)) rfl ?_
  refine X.u (LU.pickAnd Is.rfl' (fun hq => (by exact Is.whenE hq)) Is.rfl') rfl ?_
  refine X.u (LU.assignR Is.rfl') rfl ?_
  refine LL.nil (after_code ?_)
  refine LW.ret (after_end ?_)
  refine X.ret (H' := [.cells a 3 [i64 m]]) (Res.one (by exact IsR rfl)) (by repeat (first | exact HSub.refl _ | refine HSub.pick 0 rfl ?_ | refine HSub.pick 1 rfl ?_ | refine HSub.pick 2 rfl ?_ | refine HSub.pick 3 rfl ?_ | refine HSub.pick 4 rfl ?_ | refine HSub.drop ?_)) ?_
  exact ⟨rfl, rfl⟩
def mostN (sp : List Rl) : Nat → Int
  | 0 => 0
  | i + 1 => match sp[i]? with
    | some x => max (mostN sp i) x.pre.length
    | none => mostN sp i
theorem most_step {sp : List Rl} {i : Nat} {x : Rl} (h : sp[i]? = some x) : max (mostN sp i) x.pre.length = mostN sp (i + 1) := by rw [mostN, h]
def speak (l : List Rl) (s : Sb) (ch p : List UInt8) (right : Int) : List Rl := l.filter (fun r => matchB r s ch p right)
def badAsk (p : List UInt8) (right : Int) : Bool := !pathB p || (!decide (right = 1) && !decide (right = 2))
def decideB (l : List Rl) (s : Sb) (ch p : List UInt8) (right : Int) : Bool :=
  if badAsk p right = true then false else if (speak l s ch p right).length = 0 then decide (s.role = 2)
  else decide (((speak l s ch p right).filter (fun r => r.deny && decide ((r.pre.length : Int) = mostN (speak l s ch p right) (speak l s ch p right).length))).length = 0)
def LOk (l : List Rl) : Prop := (∀ r ∈ l, RlOk r) ∧ l.length * 64 ≤ 140737488355328
theorem speak_le (l : List Rl) (s : Sb) (ch p : List UInt8) (right : Int) : (speak l s ch p right).length ≤ l.length := List.length_filter_le _ _
set_option maxRecDepth 100000 in
theorem decide_calls (l : List Rl) (k : Cap) (s : Sb) (ch p : List UInt8) (right : Int) (hl : LOk l) (hs : SbOk s) : LCalls Try.prog 49 [Rls l k, .agg (sL s), Str ch, Str p, i64 right] [] (fun x H' => x = bl (decideB l s ch p right) ∧ H' = []) := by
  have hrl := reach_lt
  have hsl := speak_le l s ch p right
  obtain ⟨hl1, hl2⟩ := hl
  refine LCalls.of Try.func49 rfl Try.ntmps49 Try.results49 rfl (fun Rf => ?_)
  refine LW.seq ?_
  refine LW.region ?_
  refine X.act (X.box rfl Is.rfl' (by exact Cells.agg) (fun b6 => ?_))
  refine X.act (X.box rfl Is.rfl' (by exact Cells.raw rfl) (fun b7 => ?_))
  refine X.act (X.box rfl Is.rfl' (by exact Cells.raw rfl) (fun b8 => ?_))
  refine X.act (X.box rfl Is.rfl' (by exact Cells.raw rfl) (fun b9 => ?_))
  refine X.u (LU.assignR Is.rfl') rfl ?_
  refine LL.nil (after_code ?_)
  refine LW.seq ?_
  refine LW.seq ?_
  refine LW.region ?_
  refine X.u (LU.loadO 1 rfl ⟨Try.sizeOf9, Try.isAgg9⟩ Is.rfl' (Part.one rfl)) rfl ?_
  refine X.u (LU.call (path_calls p) Try.func23 rfl rfl (Opds.cons Is.rfl' Opds.nil)) rfl ?_
  refine X.u (LU.not Is.rfl') rfl ?_
  refine X.u (LU.moveR Is.rfl') rfl ?_
  refine X.gF rfl rfl (fun hg => LU.loadO 0 rfl ⟨Try.sizeOf3, Try.isAgg3⟩ (by exact Is.rfl') (Part.one rfl)) rfl ?_
  refine X.gF rfl rfl (fun hg => LU.neq (by exact Is.whenN hg) (by exact Is.rfl')) rfl ?_
  refine X.gF rfl rfl (fun hg => LU.moveR (by exact Is.whenN hg)) rfl ?_
  refine X.gT2 rfl rfl (fun hg0 hg => LU.loadO 0 rfl ⟨Try.sizeOf3, Try.isAgg3⟩ (by exact Is.rfl') (Part.one rfl)) rfl ?_
  refine X.gT2 rfl rfl (fun hg0 hg => LU.neq (by exact Is.whenE (by rw [hg0, hg]; rfl)) (by exact Is.rfl')) rfl ?_
  refine X.gF rfl rfl (fun hg => LU.pickAnd (by exact Is.whenN hg) (fun hq => (by exact Is.whenE (by rw [hg, hq]; rfl))) (by exact Is.rfl')) rfl ?_
  refine X.u (LU.pickOr Is.rfl' Is.rfl' (fun hq => (by exact Is.whenN hq))) rfl ?_
  refine LL.nil (after_code ?_)
  refine X.cond rfl (fun h1 => ?_) (fun h1 => ?_)
  · try have h1 := of_decide_eq_true h1
    refine LW.seq ?_
    refine LW.region ?_
    refine X.u (LU.assignR Is.rfl') rfl ?_
    refine LL.nil (after_code ?_)
    refine LW.ret (ret_code (after_end ?_))
    refine X.ret (H' := []) (Res.one (by exact IsR rfl)) (by repeat (first | exact HSub.refl _ | refine HSub.pick 0 rfl ?_ | refine HSub.pick 1 rfl ?_ | refine HSub.pick 2 rfl ?_ | refine HSub.pick 3 rfl ?_ | refine HSub.pick 4 rfl ?_ | refine HSub.drop ?_)) ?_
    exact ⟨by unfold decideB; rw [if_pos (show badAsk p right = true from h1)], rfl⟩
  · try have h1 := of_decide_eq_false h1
    refine LW.skip (after_code ?_)
    refine LW.seq ?_
    refine LW.region ?_
    refine X.u (LU.moveS Is.rfl') rfl ?_
    refine X.u (LU.closure (vs := [_, _, _, _]) (Opds.cons Is.rfl' (Opds.cons Is.rfl' (Opds.cons Is.rfl' (Opds.cons Is.rfl' Opds.nil))))) rfl ?_
    refine X.act (X.call (picked_calls l k 73 _ #[ptr b6, ptr b7, ptr b8, ptr b9] (capD b6 b7 b8 b9 s ch p right) (fun r => matchB r s ch p right) hl2 Try.func73 rfl rfl (fun r hr => dec1_calls r b6 b7 b8 b9 s ch p right (hl1 r hr) hs)) Try.func72 rfl rfl rfl (by (refine HSub.pick 3 rfl ?_); (refine HSub.pick 2 rfl ?_); (refine HSub.pick 1 rfl ?_); (refine HSub.pick 0 rfl ?_); exact HSub.refl _) (Opds.cons Is.rfl' (Opds.cons Is.rfl' Opds.nil)) ?_)
    rintro r H' ⟨rfl, rfl⟩
    refine X.weak (t := 28) (v := Rls (speak l s ch p right) .unk) (Is.of (rfl)) ?_
    refine X.u (LU.assignS Is.rfl') rfl ?_
    refine LL.nil (after_code ?_)
    refine LW.seq ?_
    refine LW.seq ?_
    refine LW.region ?_
    refine X.u (LU.moveS Is.rfl') rfl ?_
    refine X.u (LU.lenN Try.underlying22 Is.rfl' (by (simp only [Option.getD_some, Option.getD_none, byteEls_length, intEls_length, List.length_append, List.length_cons, List.length_nil, List.length_map, List.length_drop, List.length_take, Int.toNat_natCast]; rfl))) rfl ?_
    refine X.u (LU.eql Is.rfl' Is.rfl') rfl ?_
    refine LL.nil (after_code ?_)
    refine X.cond rfl (fun h4 => ?_) (fun h4 => ?_)
    · try have h4 := of_decide_eq_true h4
      refine LW.seq ?_
      refine LW.region ?_
      refine X.u (LU.fieldO Try.underlying25 rfl Try.sizeOf3 (by decide) Is.rfl') rfl ?_
      refine X.u (LU.loadO 0 rfl ⟨Try.sizeOf3, Try.isAgg3⟩ Is.rfl' (Part.one rfl)) rfl ?_
      refine X.u (LU.eql Is.rfl' Is.rfl') rfl ?_
      refine X.u (LU.assignR Is.rfl') rfl ?_
      refine LL.nil (after_code ?_)
      refine LW.ret (ret_code (after_end ?_))
      refine X.ret (H' := []) (Res.one (by exact IsR rfl)) (by repeat (first | exact HSub.refl _ | refine HSub.pick 0 rfl ?_ | refine HSub.pick 1 rfl ?_ | refine HSub.pick 2 rfl ?_ | refine HSub.pick 3 rfl ?_ | refine HSub.pick 4 rfl ?_ | refine HSub.drop ?_)) ?_
      exact ⟨by unfold decideB; rw [if_neg (by rw [Bool.not_eq_true]; exact (show badAsk p right = false from h1)), if_pos (by omega)], rfl⟩
    · try have h4 := of_decide_eq_false h4
      refine LW.skip (after_code ?_)
      refine LW.seq ?_
      refine LW.region ?_
      refine X.act (X.alloc rfl Try.zeroValue3 (by exact Cells.raw rfl) (fun b12 => ?_))
      refine X.act (X.store 0 rfl Try.sizeOf3 Is.rfl' Is.rfl' (by exact Cells.raw rfl) (by (simp; done)) (by (simp; done)) ?_)
      refine LL.nil (after_code ?_)
      refine LW.seq ?_
      refine LW.seq ?_
      refine LW.region ?_
      refine X.u (LU.moveS Is.rfl') rfl ?_
      refine X.u (LU.lenN Try.underlying22 Is.rfl' (by (simp only [Option.getD_some, Option.getD_none, byteEls_length, intEls_length, List.length_append, List.length_cons, List.length_nil, List.length_map, List.length_drop, List.length_take, Int.toNat_natCast]; rfl))) rfl ?_
      refine X.u (LU.moveR Is.rfl') rfl ?_
      refine LL.nil (after_code ?_)
      refine LW.block ?_
      refine X.loopK (α := Nat) (fun j => [(37, i64 j)]) [10, 11, 12, 35, 36] (fun j => .cells b12 3 [i64 (mostN (speak l s ch p right) j)] :: Rf) (fun j => j ≤ (speak l s ch p right).length) (fun j => (speak l s ch p right).length - j) (0) (EnvLe.cons (by rfl) (EnvLe.nil)) (by repeat (first | exact HSub.refl _ | refine HSub.pick 0 rfl ?_ | refine HSub.pick 1 rfl ?_ | refine HSub.pick 2 rfl ?_ | refine HSub.pick 3 rfl ?_ | refine HSub.pick 4 rfl ?_ | refine HSub.drop ?_)) ?_ ?_
      · exact Nat.zero_le _
      · rintro j hI
        refine LW.seq ?_
        refine LW.region ?_
        refine X.u (LU.lss Is.rfl' Is.rfl') rfl ?_
        refine LL.nil (after_code ?_)
        refine LW.seq ?_
        refine X.cond rfl (fun h8 => ?_) (fun h8 => ?_)
        · try have h8 := of_decide_eq_true h8
          refine LW.skip (after_code ?_)
          refine LW.seq ?_
          refine LW.block ?_
          refine LW.seq ?_
          obtain ⟨x, hx⟩ := at_lt (show j < (speak l s ch p right).length by omega)
          refine LW.region ?_
          refine X.u (LU.at Try.underlying22 ⟨Try.sizeOf31, Try.isAgg31⟩ Is.rfl' Is.rfl' (by omega) (rEls_at hx) (by simp)) rfl ?_
          refine X.u (LU.load ⟨Try.sizeOf31, Try.isAgg31⟩ Is.rfl' (by (simp; done)) (Part.whole (by (simp; done)))) rfl ?_
          refine X.act (X.alloc rfl Try.zeroValue31 (by exact Cells.rawagg (by decide)) (fun b14 => ?_))
          refine X.act (X.store 0 rfl Try.sizeOf31 Is.rfl' Is.rfl' (by exact Cells.agg) (by (simp; done)) (by exact Nat.le_of_ble_eq_true rfl) ?_)
          refine LL.nil (after_code ?_)
          refine LW.region ?_
          refine X.u (LU.loadO 1 rfl ⟨Try.sizeOf3, Try.isAgg3⟩ Is.rfl' (Part.one rfl)) rfl ?_
          refine X.u (LU.fieldO Try.underlying31 rfl Try.sizeOf9 (by decide) Is.rfl') rfl ?_
          refine X.u (LU.loadO 0 rfl ⟨Try.sizeOf9, Try.isAgg9⟩ Is.rfl' (Part.one rfl)) rfl ?_
          refine X.u (LU.strlenN Try.underlying9 Is.rfl') rfl ?_
          refine X.u (LU.weak (LU.max2 Is.rfl' Is.rfl') (Is.of (y := i64 (mostN (speak l s ch p right) (j + 1))) (congrArg i64 (most_step hx)))) rfl ?_
          refine X.act (X.store 1 rfl Try.sizeOf3 Is.rfl' Is.rfl' (by exact Cells.raw rfl) (by (simp; done)) (by (simp; done)) ?_)
          refine LL.nil (after_blk (after_code ?_))
          refine LW.region ?_
          refine X.u (LU.addN Is.rfl' Is.rfl' (wrap_i64 (by omega) (by omega))) rfl ?_
          refine X.u (LU.moveR Is.rfl') rfl ?_
          refine LL.nil (after_rnd ?_)
          refine X.next (j + 1) rfl (EnvLe.cons (by rfl) (EnvLe.nil)) (Keeps.cons (by exact Eq.trans (b := .raw _) rfl rfl) (Keeps.cons (by exact Eq.trans (b := .sl _ _ _) rfl rfl) (Keeps.cons (by exact Eq.trans (b := .raw _) rfl rfl) (Keeps.cons (by exact Eq.trans (b := .sl _ _ _) rfl rfl) (Keeps.cons (by exact Eq.trans (b := .raw _) rfl rfl) (Keeps.nil)))))) (by repeat (first | exact HSub.refl _ | refine HSub.pick 0 rfl ?_ | refine HSub.pick 1 rfl ?_ | refine HSub.pick 2 rfl ?_ | refine HSub.pick 3 rfl ?_ | refine HSub.pick 4 rfl ?_ | refine HSub.drop ?_)) ?_ ?_
          · omega
          · omega
        · try have h8 := of_decide_eq_false h8
          obtain rfl : j = (speak l s ch p right).length := by omega
          refine LW.exit (exit_code (exit_rnd (exit_blk (after_code ?_))))
          refine LW.seq ?_
          refine LW.region ?_
          refine X.u (LU.moveS Is.rfl') rfl ?_
          refine X.u (LU.closure (vs := [_]) (Opds.cons Is.rfl' Opds.nil)) rfl ?_
          refine X.act (X.call (picked_calls (speak l s ch p right) .unk 74 _ #[ptr b12] [.cells b12 3 [i64 (mostN (speak l s ch p right) (speak l s ch p right).length)]] (fun r => r.deny && decide ((r.pre.length : Int) = mostN (speak l s ch p right) (speak l s ch p right).length)) (by omega) Try.func74 rfl rfl (fun r hr => dec2_calls r b12 _)) Try.func72 rfl rfl rfl (by (refine HSub.pick 0 rfl ?_); exact HSub.refl _) (Opds.cons Is.rfl' (Opds.cons Is.rfl' Opds.nil)) ?_)
          rintro r H' ⟨rfl, rfl⟩
          refine X.u (LU.lenN Try.underlying22 Is.rfl' (by (simp only [Option.getD_some, Option.getD_none, byteEls_length, intEls_length, List.length_append, List.length_cons, List.length_nil, List.length_map, List.length_drop, List.length_take, Int.toNat_natCast]; rfl))) rfl ?_
          refine X.u (LU.eql Is.rfl' Is.rfl') rfl ?_
          refine X.u (LU.assignR Is.rfl') rfl ?_
          refine LL.nil (after_code ?_)
          refine LW.ret (after_end ?_)
          refine X.ret (H' := []) (Res.one (by exact IsR rfl)) (by repeat (first | exact HSub.refl _ | refine HSub.pick 0 rfl ?_ | refine HSub.pick 1 rfl ?_ | refine HSub.pick 2 rfl ?_ | refine HSub.pick 3 rfl ?_ | refine HSub.pick 4 rfl ?_ | refine HSub.drop ?_)) ?_
          exact ⟨by unfold decideB; rw [if_neg (by rw [Bool.not_eq_true]; exact (show badAsk p right = false from h1)), if_neg (by omega)]; congr 2; exact decide_eq_decide.2 (by omega), rfl⟩
end Go.Proofs.Ythifbkddfjohbaa
