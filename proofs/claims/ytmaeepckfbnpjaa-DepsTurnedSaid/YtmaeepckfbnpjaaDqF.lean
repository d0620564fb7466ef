/- The chapter's example. -/
import Derived.Test.YtmaeepckfbnpjaaDqE
set_option linter.unusedVariables false
set_option linter.unusedSimpArgs false
namespace Go.Proofs.Ytmaeepckfbnpjaa
open Go.RowKit Go.L Go.Lib
attribute [local irreducible] LL LW LO
abbrev hsN (n : UInt8) : Hs := ⟨n :: List.replicate 31 0, rfl⟩
abbrev liveL : List It := [⟨hsN 3, [hsN 1, hsN 2]⟩, ⟨hsN 1, []⟩, ⟨hsN 2, [hsN 1]⟩]
theorem sortU_is {k l : List Hs} (hk : k.Nodup) (hs : k.Pairwise (fun x y => ltH y x = false)) (hm : ∀ x, x ∈ k ↔ x ∈ l) : k = sortU l :=
  sorted_eq ((same_perm hk (uniq_nodup l) (fun x => by rw [hm, uniq_mem])).trans (sortH_perm _).symm) hs (sortH_sorted _)
theorem next_one {l : List It} {out : List Hs} {a : Hs} (h : readyL l out = [a]) : nextO l out = some a := by
  unfold nextO
  rw [h]
  exact head_least (by simp) (fun y hy => by rw [List.mem_singleton.1 hy]; exact ltH_irrefl _)
theorem live_miss : missS liveL = [] := by
  unfold missS
  rw [if_neg (by decide), show missO liveL liveL = [] from by decide +kernel, sortU_nil]
theorem live_go : goO liveL 3 [] = [hsN 1, hsN 2, hsN 3] := by
  show (match nextO liveL [] with | none => [] | some h => goO liveL 2 ([] ++ [h])) = _
  rw [next_one (a := hsN 1) (by decide +kernel)]
  show (match nextO liveL [hsN 1] with | none => [hsN 1] | some h => goO liveL 1 ([hsN 1] ++ [h])) = _
  rw [next_one (a := hsN 2) (by decide +kernel)]
  show (match nextO liveL [hsN 1, hsN 2] with | none => [hsN 1, hsN 2] | some h => goO liveL 0 ([hsN 1, hsN 2] ++ [h])) = _
  rw [next_one (a := hsN 3) (by decide +kernel)]
  rfl
theorem live_nodup : (names liveL).Nodup := by decide +kernel
theorem live_order : orderS liveL = ([hsN 1, hsN 2, hsN 3], 0) := by
  unfold orderS
  rw [if_neg (by decide), if_neg (fun h => h live_nodup), live_miss, if_neg (by decide), show liveL.length = 3 from rfl, live_go]
  rfl
theorem live_closed : closedS liveL = true := by
  unfold closedS
  rw [live_miss, decide_eq_true live_nodup]
  rfl
theorem live_sort : [hsN 1, hsN 2] = sortU [hsN 1, hsN 2] := sortU_is (by decide +kernel) (by decide +kernel) fun x => Iff.rfl
theorem live_sort2 : [hsN 2, hsN 3] = sortU [hsN 2, hsN 3] := sortU_is (by decide +kernel) (by decide +kernel) fun x => Iff.rfl
theorem live_needs : IsN liveL (hsN 3) [hsN 1, hsN 2] := by
  refine ⟨(fun h => absurd h (by decide)), fun _ => And.intro live_sort fun x => ⟨fun hx => ?_, fun hx => ?_⟩⟩
  · rcases List.mem_cons.1 hx with rfl | hx
    · exact .one (by decide +kernel)
    · rw [List.mem_singleton.1 hx]; exact .one (by decide +kernel)
  · exact Rch.closed (S := fun x => x ∈ [hsN 1, hsN 2]) (by decide +kernel) (by decide +kernel) hx
theorem live_above : IsA liveL (hsN 1) [hsN 2, hsN 3] := by
  refine ⟨(fun h => absurd h (by decide)), fun _ => And.intro live_sort2 fun x => ⟨fun hx => rch_by.1 ?_, fun hx => ?_⟩⟩
  · rcases List.mem_cons.1 hx with rfl | hx
    · exact .one (by decide +kernel)
    · rw [List.mem_singleton.1 hx]; exact .one (by decide +kernel)
  · exact Rch.closed (f := byOf liveL) (S := fun x => x ∈ [hsN 2, hsN 3]) (by decide +kernel) (by decide +kernel) (rch_by.2 hx)
theorem is_last {l : List LV} {x y : LV} (h : Is x y) : Is (.agg (l ++ [x])) (.agg (l ++ [y])) := by
  refine Is.agg (by simp) fun i a b ha hb => ?_
  by_cases c : i < l.length
  · rw [List.getElem?_append_left c] at ha hb
    rw [ha] at hb
    cases hb
    exact Is.rfl'
  · rw [List.getElem?_append_right (by omega)] at ha hb
    cases hq : i - l.length with
    | zero =>
      rw [hq] at ha hb
      cases ha; cases hb
      exact h
    | succ n => rw [hq] at ha; cases ha
theorem laid_it1 {l : List LV} {zs : List LV} {z : LV} (hl : l.length = 32) (hz : zs.drop 32 = [z]) (hzl : zs.length = 33) : laid (#[(0, 32), (32, 1)][·]?) zs [(0, l)] = some (l ++ [z]) := by
  have h1 : putAt zs 0 l = l ++ zs.drop 32 := by simp [putAt, hl]
  show (bif (Nat.beq l.length 32 && Nat.ble (0 + l.length) zs.length) then laid _ (putAt zs 0 l) [] else none) = _
  rw [hl, hzl, h1, hz]
  rfl
set_option maxHeartbeats 1000000 in
set_option maxRecDepth 100000 in
theorem lives_calls : LCalls Try.prog 9 [] [] (fun r H' => r = bl true ∧ H' = []) := by
  have ho := order_calls liveL .full (by decide) (by decide)
  rw [live_order] at ho
  have hc := closed_calls liveL .full (by decide) (by decide)
  rw [live_closed] at hc
  have hm := missing_calls liveL .full (by decide) (by decide)
  rw [live_miss] at hm
  have hh1 : LCalls Try.prog 13 [.sl 32 (hss [hsN 1, hsN 2, hsN 3]) .unk, .sl 32 (hss [hsN 1, hsN 2, hsN 3]) .full] [] (fun r H' => r = bl true ∧ H' = []) := (hashes_calls [hsN 1, hsN 2, hsN 3] [hsN 1, hsN 2, hsN 3] .unk .full (by decide) (by decide)).mono fun r H' ⟨a, b⟩ => ⟨by rw [a, decide_eq_true rfl], b⟩
  have hh2 : LCalls Try.prog 13 [.sl 32 (hss [hsN 1, hsN 2]) .unk, .sl 32 (hss [hsN 1, hsN 2]) .full] [] (fun r H' => r = bl true ∧ H' = []) := (hashes_calls [hsN 1, hsN 2] [hsN 1, hsN 2] .unk .full (by decide) (by decide)).mono fun r H' ⟨a, b⟩ => ⟨by rw [a, decide_eq_true rfl], b⟩
  have hh3 : LCalls Try.prog 13 [.sl 32 (hss [hsN 2, hsN 3]) .unk, .sl 32 (hss [hsN 2, hsN 3]) .full] [] (fun r H' => r = bl true ∧ H' = []) := (hashes_calls [hsN 2, hsN 3] [hsN 2, hsN 3] .unk .full (by decide) (by decide)).mono fun r H' ⟨a, b⟩ => ⟨by rw [a, decide_eq_true rfl], b⟩
  refine LCalls.of Try.func9 rfl Try.ntmps9 Try.results9 rfl (fun Rf => ?_)
  refine LW.seq ?_
  refine LW.region ?_
  refine X.u (LU.assignR Is.rfl') rfl ?_
  refine LL.nil (after_code ?_)
  refine LW.seq ?_
  refine LW.region ?_
  refine X.u (LU.weak (LU.buildA Try.underlying34 Try.sizeOf5 Try.zeroValue34 (ones rfl) (Parts.cons Is.rfl' (by exact Cells.raw rfl) Parts.nil) rfl) (Is.of (y := .agg (hsL (hsN 1))) (rfl))) rfl ?_
  refine X.u (LU.weak (LU.buildA Try.underlying34 Try.sizeOf5 Try.zeroValue34 (ones rfl) (Parts.cons Is.rfl' (by exact Cells.raw rfl) Parts.nil) rfl) (Is.of (y := .agg (hsL (hsN 2))) (rfl))) rfl ?_
  refine X.u (LU.weak (LU.buildA Try.underlying34 Try.sizeOf5 Try.zeroValue34 (ones rfl) (Parts.cons Is.rfl' (by exact Cells.raw rfl) Parts.nil) rfl) (Is.of (y := .agg (hsL (hsN 3))) (rfl))) rfl ?_
  refine X.act (X.alloc rfl Try.zeroValue34 (by exact Cells.rawagg (by decide)) (fun b1 => ?_))
  refine X.act (X.alloc rfl Try.zeroValue34 (by exact Cells.rawagg (by decide)) (fun b2 => ?_))
  refine X.act (X.alloc rfl Try.zeroValue34 (by exact Cells.rawagg (by decide)) (fun b3 => ?_))
  refine X.act (X.store 2 rfl Try.sizeOf34 Is.rfl' Is.rfl' (by exact Cells.agg) (by (simp; done)) (by exact Nat.le_of_ble_eq_true rfl) ?_)
  refine X.act (X.store 2 rfl Try.sizeOf34 Is.rfl' Is.rfl' (by exact Cells.agg) (by (simp; done)) (by exact Nat.le_of_ble_eq_true rfl) ?_)
  refine X.act (X.store 2 rfl Try.sizeOf34 Is.rfl' Is.rfl' (by exact Cells.agg) (by (simp; done)) (by exact Nat.le_of_ble_eq_true rfl) ?_)
  refine LL.nil (after_code ?_)
  refine LW.seq ?_
  refine X.wghost (H' := .cells b1 34 (hsL (hsN 1)) :: .cells b2 34 (hsL (hsN 2)) :: .cells b3 34 (hsL (hsN 3)) :: Rf) (by repeat (first | exact HSub.refl _ | refine HSub.pick 1 rfl ?_ | refine HSub.pick 2 rfl ?_)) ?_
  refine LW.region ?_
  refine X.u (LU.weak (LU.loadO 2 rfl ⟨Try.sizeOf34, Try.isAgg34⟩ Is.rfl' (Part.sub (by (simp; done)))) (Is.of (y := .agg (hsL (hsN 3))) (hs_whole _))) rfl ?_
  refine X.u (LU.weak (LU.loadO 0 rfl ⟨Try.sizeOf34, Try.isAgg34⟩ Is.rfl' (Part.sub (by (simp; done)))) (Is.of (y := .agg (hsL (hsN 1))) (hs_whole _))) rfl ?_
  refine X.u (LU.weak (LU.loadO 1 rfl ⟨Try.sizeOf34, Try.isAgg34⟩ Is.rfl' (Part.sub (by (simp; done)))) (Is.of (y := .agg (hsL (hsN 2))) (hs_whole _))) rfl ?_
  refine X.u (LU.lits Try.underlying26 Try.sizeOf34 Try.zeroValue34 (ones rfl) rfl (by decide) (by decide) (Elems.cons Is.rfl' (by exact Cells.agg) (Elems.cons Is.rfl' (by exact Cells.agg) Elems.nil)) (by (simp; done)) rfl) rfl ?_
  refine X.u (LU.weak (LU.weak (LU.build (places := #[(0, 32), (32, 1)]) Try.underlying36 Try.zeroValue36 (ones rfl) (by intro w; simp [Try.sizeOf26, Try.sizeOf34]) (Parts.cons Is.rfl' (by exact Cells.agg) (Parts.cons Is.rfl' (by exact Cells.sl) Parts.nil)) (laid_it rfl rfl)) (Is.of (y := .agg (hsL (hsN 3) ++ [.sl 32 (hss [hsN 1, hsN 2]) .full])) (rfl))) (is_last Is.unk)) rfl ?_
  refine X.u (LU.weak (LU.loadO 0 rfl ⟨Try.sizeOf34, Try.isAgg34⟩ Is.rfl' (Part.sub (by (simp; done)))) (Is.of (y := .agg (hsL (hsN 1))) (hs_whole _))) rfl ?_
  refine X.u (LU.weak (LU.weak (LU.build (places := #[(0, 32), (32, 1)]) Try.underlying36 Try.zeroValue36 (ones rfl) (by intro w; simp [Try.sizeOf26, Try.sizeOf34]) (Parts.cons Is.rfl' (by exact Cells.agg) Parts.nil) (laid_it1 rfl rfl rfl)) (Is.of (y := .agg (hsL (hsN 1) ++ [.raw (.slice none 0 0)])) (rfl))) (is_last ((Is.nil 32).trans Is.unk))) rfl ?_
  refine X.u (LU.weak (LU.loadO 1 rfl ⟨Try.sizeOf34, Try.isAgg34⟩ Is.rfl' (Part.sub (by (simp; done)))) (Is.of (y := .agg (hsL (hsN 2))) (hs_whole _))) rfl ?_
  refine X.u (LU.weak (LU.loadO 0 rfl ⟨Try.sizeOf34, Try.isAgg34⟩ Is.rfl' (Part.sub (by (simp; done)))) (Is.of (y := .agg (hsL (hsN 1))) (hs_whole _))) rfl ?_
  refine X.u (LU.lits Try.underlying26 Try.sizeOf34 Try.zeroValue34 (ones rfl) rfl (by decide) (by decide) (Elems.cons Is.rfl' (by exact Cells.agg) Elems.nil) (by (simp; done)) rfl) rfl ?_
  refine X.u (LU.weak (LU.weak (LU.build (places := #[(0, 32), (32, 1)]) Try.underlying36 Try.zeroValue36 (ones rfl) (by intro w; simp [Try.sizeOf26, Try.sizeOf34]) (Parts.cons Is.rfl' (by exact Cells.agg) (Parts.cons Is.rfl' (by exact Cells.sl) Parts.nil)) (laid_it rfl rfl)) (Is.of (y := .agg (hsL (hsN 2) ++ [.sl 32 (hss [hsN 1]) .full])) (rfl))) (is_last Is.unk)) rfl ?_
  refine X.u (LU.weak (LU.lits Try.underlying22 Try.sizeOf36 Try.zeroValue36 (ones rfl) rfl (by decide) (by decide) (Elems.cons Is.rfl' (by exact Cells.agg) (Elems.cons Is.rfl' (by exact Cells.agg) (Elems.cons Is.rfl' (by exact Cells.agg) Elems.nil))) (by (simp; done)) rfl) (Is.of (y := .sl 33 (its liveL) .full) (rfl))) rfl ?_
  refine X.u (LU.assignS Is.rfl') rfl ?_
  refine LL.nil (after_code ?_)
  refine LW.seq ?_
  refine LW.region ?_
  refine X.u (LU.moveS Is.rfl') rfl ?_
  refine X.u (LU.call (ho) Try.func11 rfl rfl (Opds.cons Is.rfl' Opds.nil)) rfl ?_
  refine X.u (LU.moveT Is.rfl') rfl ?_
  refine X.u (LU.extract Is.rfl' rfl) rfl ?_
  refine X.u (LU.extract Is.rfl' rfl) rfl ?_
  refine X.u (LU.assignS Is.rfl') rfl ?_
  refine X.u (LU.assignR Is.rfl') rfl ?_
  refine LL.nil (after_code ?_)
  refine LW.seq ?_
  refine X.drawM 41 rfl (by kernel_rfl) rfl ?_
  refine QD.u (LU.moveR Is.rfl') rfl ?_
  refine QD.u (LU.eql Is.rfl' Is.rfl') rfl ?_
  refine QD.u (LU.moveR Is.rfl') rfl ?_
  refine QD.doT rfl rfl (LU.moveS (by exact Is.rfl')) rfl ?_
  refine QD.doT rfl rfl (LU.weak (LU.loadO 0 rfl ⟨Try.sizeOf34, Try.isAgg34⟩ (by exact Is.rfl') (Part.sub (by (simp; done)))) (Is.of (y := .agg (hsL (hsN 1))) (hs_whole _))) rfl ?_
  refine QD.doT rfl rfl (LU.weak (LU.loadO 1 rfl ⟨Try.sizeOf34, Try.isAgg34⟩ (by exact Is.rfl') (Part.sub (by (simp; done)))) (Is.of (y := .agg (hsL (hsN 2))) (hs_whole _))) rfl ?_
  refine QD.doT rfl rfl (LU.weak (LU.loadO 2 rfl ⟨Try.sizeOf34, Try.isAgg34⟩ (by exact Is.rfl') (Part.sub (by (simp; done)))) (Is.of (y := .agg (hsL (hsN 3))) (hs_whole _))) rfl ?_
  refine QD.doT rfl rfl (LU.lits Try.underlying26 Try.sizeOf34 Try.zeroValue34 (ones rfl) rfl (by decide) (by decide) (Elems.cons (by exact Is.rfl') (by exact Cells.agg) (Elems.cons (by exact Is.rfl') (by exact Cells.agg) (Elems.cons (by exact Is.rfl') (by exact Cells.agg) Elems.nil))) (by (simp; done)) rfl) rfl ?_
  refine QD.doT rfl rfl (LU.call (hh1) Try.func13 rfl rfl (Opds.cons (by exact Is.rfl') (Opds.cons (by exact Is.rfl') Opds.nil))) rfl ?_
  refine QD.u (LU.pickT Is.rfl' (by exact Is.rfl')) rfl ?_
  refine QD.u (LU.moveR Is.rfl') rfl ?_
  refine QD.doT rfl rfl (LU.moveS (by exact Is.rfl')) rfl ?_
  refine QD.doT rfl rfl (LU.weak (LU.loadO 2 rfl ⟨Try.sizeOf34, Try.isAgg34⟩ (by exact Is.rfl') (Part.sub (by (simp; done)))) (Is.of (y := .agg (hsL (hsN 3))) (hs_whole _))) rfl ?_
  refine QD.doT rfl rfl (LU.call (needs_calls liveL (hsN 3) [hsN 1, hsN 2] .full (by decide) (by decide) live_needs) Try.func14 rfl rfl (Opds.cons (by exact Is.rfl') (Opds.cons (by exact Is.rfl') Opds.nil))) rfl ?_
  refine QD.doT rfl rfl (LU.weak (LU.loadO 0 rfl ⟨Try.sizeOf34, Try.isAgg34⟩ (by exact Is.rfl') (Part.sub (by (simp; done)))) (Is.of (y := .agg (hsL (hsN 1))) (hs_whole _))) rfl ?_
  refine QD.doT rfl rfl (LU.weak (LU.loadO 1 rfl ⟨Try.sizeOf34, Try.isAgg34⟩ (by exact Is.rfl') (Part.sub (by (simp; done)))) (Is.of (y := .agg (hsL (hsN 2))) (hs_whole _))) rfl ?_
  refine QD.doT rfl rfl (LU.lits Try.underlying26 Try.sizeOf34 Try.zeroValue34 (ones rfl) rfl (by decide) (by decide) (Elems.cons (by exact Is.rfl') (by exact Cells.agg) (Elems.cons (by exact Is.rfl') (by exact Cells.agg) Elems.nil)) (by (simp; done)) rfl) rfl ?_
  refine QD.doT rfl rfl (LU.call (hh2) Try.func13 rfl rfl (Opds.cons (by exact Is.rfl') (Opds.cons (by exact Is.rfl') Opds.nil))) rfl ?_
  refine QD.u (LU.pickT Is.rfl' (by exact Is.rfl')) rfl ?_
  refine QD.u (LU.moveR Is.rfl') rfl ?_
  refine QD.doT rfl rfl (LU.moveS (by exact Is.rfl')) rfl ?_
  refine QD.doT rfl rfl (LU.weak (LU.loadO 0 rfl ⟨Try.sizeOf34, Try.isAgg34⟩ (by exact Is.rfl') (Part.sub (by (simp; done)))) (Is.of (y := .agg (hsL (hsN 1))) (hs_whole _))) rfl ?_
  refine QD.doT rfl rfl (LU.call (above_calls liveL (hsN 1) [hsN 2, hsN 3] .full (by decide) (by decide) live_above) Try.func16 rfl rfl (Opds.cons (by exact Is.rfl') (Opds.cons (by exact Is.rfl') Opds.nil))) rfl ?_
  refine QD.doT rfl rfl (LU.weak (LU.loadO 1 rfl ⟨Try.sizeOf34, Try.isAgg34⟩ (by exact Is.rfl') (Part.sub (by (simp; done)))) (Is.of (y := .agg (hsL (hsN 2))) (hs_whole _))) rfl ?_
  refine QD.doT rfl rfl (LU.weak (LU.loadO 2 rfl ⟨Try.sizeOf34, Try.isAgg34⟩ (by exact Is.rfl') (Part.sub (by (simp; done)))) (Is.of (y := .agg (hsL (hsN 3))) (hs_whole _))) rfl ?_
  refine QD.doT rfl rfl (LU.lits Try.underlying26 Try.sizeOf34 Try.zeroValue34 (ones rfl) rfl (by decide) (by decide) (Elems.cons (by exact Is.rfl') (by exact Cells.agg) (Elems.cons (by exact Is.rfl') (by exact Cells.agg) Elems.nil)) (by (simp; done)) rfl) rfl ?_
  refine QD.doT rfl rfl (LU.call (hh3) Try.func13 rfl rfl (Opds.cons (by exact Is.rfl') (Opds.cons (by exact Is.rfl') Opds.nil))) rfl ?_
  refine QD.u (LU.pickT Is.rfl' (by exact Is.rfl')) rfl ?_
  refine QD.u (LU.moveR Is.rfl') rfl ?_
  refine QD.doT rfl rfl (LU.moveS (by exact Is.rfl')) rfl ?_
  refine QD.doT rfl rfl (LU.call (hc) Try.func20 rfl rfl (Opds.cons (by exact Is.rfl') Opds.nil)) rfl ?_
  refine QD.u (LU.pickT Is.rfl' (by exact Is.rfl')) rfl ?_
  refine QD.u (LU.moveR Is.rfl') rfl ?_
  refine QD.doT rfl rfl (LU.moveS (by exact Is.rfl')) rfl ?_
  refine QD.doT rfl rfl (LU.call (hm) Try.func18 rfl rfl (Opds.cons (by exact Is.rfl') Opds.nil)) rfl ?_
  refine QD.doT rfl rfl (LU.lenN Try.underlying26 (by exact Is.rfl') (by (simp only [Option.getD_some, Option.getD_none, byteEls_length, intEls_length, List.length_append, List.length_cons, List.length_nil, List.length_map, List.length_drop, List.length_take, Int.toNat_natCast]; rfl))) rfl ?_
  refine QD.doT rfl rfl (LU.eql (by exact Is.rfl') (by exact Is.rfl')) rfl ?_
  refine QD.u (LU.pickT Is.rfl' (by exact Is.rfl')) rfl ?_
  refine QD.u (LU.moveR Is.rfl') rfl ?_
  refine QD.u (LU.pickT Is.rfl' (by exact Is.rfl')) rfl ?_
  refine QD.u (LU.assignR Is.rfl') rfl ?_
  refine QD.nil ?_
  refine LL.nil (after_code ?_)
  refine LW.ret (after_end ?_)
  refine X.ret (H' := []) (Res.one (by exact IsR rfl)) (by repeat (first | exact HSub.refl _ | refine HSub.drop ?_)) ?_
  exact ⟨rfl, rfl⟩
end Go.Proofs.Ytmaeepckfbnpjaa
