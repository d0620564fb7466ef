/- The merge queue: its calls. -/
import Derived.Test.YtpimalihpnfdkaaQuC
set_option linter.unusedVariables false
set_option linter.unusedSimpArgs false
namespace Go.Proofs.Ytpimalihpnfdkaa
open Go.RowKit Go.L
attribute [local irreducible] LL LW LO
set_option maxRecDepth 100000 in
theorem new_calls21 : LCalls Try.prog 27 [] [] (fun r H' => ∃ g, r = pt g ∧ H' = [qa g [] [] .nilFunc 0 0 0 0 0 0, .tail 0 0 0, .tail 0 0 0]) := by
  refine LCalls.of Try.func27 rfl Try.ntmps27 Try.results27 rfl (fun Rf => ?_)
  refine LW.seq ?_
  refine LW.region ?_
  refine X.u (LU.assignR Is.rfl') rfl ?_
  refine LL.nil (after_code ?_)
  refine LW.seq ?_
  refine LW.region ?_
  refine X.u (LU.build (places := #[(0, 1), (1, 1), (2, 1), (3, 1)]) Try.underlying77 Try.zeroValue77 (ones rfl) (by intro w; simp [Try.sizeOf24, Try.sizeOf30, Try.sizeOf4, Try.sizeOf54]) (Parts.cons Is.rfl' (by exact Cells.raw rfl) Parts.nil) rfl) rfl ?_
  refine X.act (X.box rfl Is.rfl' (by exact Cells.agg) (fun b2 => ?_))
  refine X.u (LU.assignR Is.rfl') rfl ?_
  refine LL.nil (after_code ?_)
  refine LW.ret (after_end ?_)
  refine X.ret (H' := [qa b2 [] [] .nilFunc 0 0 0 0 0 0, .tail 0 0 0, .tail 0 0 0]) (Res.one (by exact IsR rfl)) (HSub.trans (HSub.cell 0 rfl ((Is.nil 1).trans (Is.full_tok 0 0))) (HSub.trans (HSub.cell 1 rfl ((Is.nil 3).trans (Is.full_tok 0 0))) (HSub.trans (HSub.tail0 0 0 0 (Nat.le_refl _) _) (HSub.trans (HSub.tail0 0 0 0 (Nat.le_refl _) _) (HSub.pick 2 rfl (HSub.refl _)))))) ?_
  exact ⟨b2, rfl, rfl⟩
set_option maxRecDepth 100000 in
theorem undo_def (b : Nat) (g : Nat) (ws : List Int) (es : List Ed) (tv : Value) (b1 o1 c1 b2 o2 c2 : Nat) : LDef Try.prog 63 [pt b] [.cells b 51 [pt g], qa g ws es tv b1 o1 c1 b2 o2 c2] [.cells b 51 [pt g], qa g ws es .nilFunc b1 o1 c1 b2 o2 c2] := by
  refine LDef.ofA Try.func63 rfl Try.ntmps63 Try.results63 rfl (fun Rf => ?_)
  refine LW.region ?_
  refine X.u (LU.loadO 0 rfl ⟨Try.sizeOf51, Try.isAgg51⟩ Is.rfl' (Part.one rfl)) rfl ?_
  refine X.u (LU.nilCheck Is.rfl') rfl ?_
  refine X.u (LU.fieldO Try.underlying77 rfl Try.sizeOf30 (by decide) Is.rfl') rfl ?_
  refine X.act (X.store 1 rfl Try.sizeOf30 Is.rfl' Is.rfl' (by exact Cells.raw rfl) (by (simp; done)) (by (simp; done)) ?_)
  refine LL.nil (after_end ?_)
  refine X.normalD Res.none (by repeat (first | exact HSub.refl _ | refine HSub.pick 1 rfl ?_)) rfl ?_
  exact trivial
def idxP (ws : List Int) (id : Int) : Nat := if id < 1 then 2 else if 0 ≤ idx ws id then 110 else if 64 ≤ ws.length then 3 else 0
def putW (ws : List Int) (id : Int) : List Int := if idxP ws id = 0 then ws ++ [id] else ws
set_option maxRecDepth 100000 in
theorem put_calls21 (g : Nat) (ws : List Int) (es : List Ed) (tv : Value) (b o c b2 o2 c2 : Nat) (id : Int) (hw : ws.length ≤ 64) : LCalls Try.prog 28 [pt g, i64 id] [qa g ws es tv b o c b2 o2 c2, .tail b o c, .tail b2 o2 c2] (fun r H' => ∃ b' o' c', r = i64 (idxP ws id) ∧ H' = [qa g (putW ws id) es tv b' o' c' b2 o2 c2, .tail b' o' c', .tail b2 o2 c2]) := by
  have hE : idxP ws id = if id < 1 then 2 else if 0 ≤ idx ws id then 110 else if 64 ≤ ws.length then 3 else 0 := rfl
  have hW0 : idxP ws id = 0 → putW ws id = ws ++ [id] := fun h => by unfold putW; rw [if_pos h]
  have hW1 : idxP ws id ≠ 0 → putW ws id = ws := fun h => by unfold putW; rw [if_neg h]
  refine LCalls.of Try.func28 rfl Try.ntmps28 Try.results28 rfl (fun Rf => ?_)
  refine LW.seq ?_
  refine LW.region ?_
  refine X.u (LU.assignR Is.rfl') rfl ?_
  refine LL.nil (after_code ?_)
  refine LW.seq ?_
  refine LW.block ?_
  refine LW.seq ?_
  refine LW.region ?_
  refine X.u (LU.moveR Is.rfl') rfl ?_
  refine X.u (LU.call1 0 rfl (none_calls21 g ws es tv b o c b2 o2 c2) Try.func57 rfl rfl (Opds.cons Is.rfl' Opds.nil)) rfl ?_
  refine X.u (LU.assignR Is.rfl') rfl ?_
  refine LL.nil (after_code ?_)
  refine X.condF rfl ?_ ?_
  · rfl
  refine LW.seq ?_
  refine LW.region ?_
  refine X.u (LU.moveR Is.rfl') rfl ?_
  refine X.u (LU.lss Is.rfl' Is.rfl') rfl ?_
  refine X.u (LU.assignR Is.rfl') rfl ?_
  refine LL.nil (after_code ?_)
  refine X.cond rfl (fun h3 => ?_) (fun h3 => ?_)
  · try have h3 := of_decide_eq_true h3
    refine LW.seq ?_
    refine LW.region ?_
    refine X.u (LU.assignR Is.rfl') rfl ?_
    refine LL.nil (after_code ?_)
    refine LW.ret (ret_blk (ret_code (after_end ?_)))
    refine X.ret (H' := [qa g ws es tv b o c b2 o2 c2, .tail b o c, .tail b2 o2 c2]) (Res.one (by exact IsR rfl)) (by repeat (exact HSub.refl _)) ?_
    have hz : idxP ws id = 2 := by rw [hE, if_pos h3]
    exact ⟨b, o, c, by rw [hz]; rfl, by rw [hW1 (by omega)]⟩
  · try have h3 := of_decide_eq_false h3
    refine LW.seq ?_
    refine LW.region ?_
    refine X.u (LU.moveR Is.rfl') rfl ?_
    refine X.u (LU.nilCheck Is.rfl') rfl ?_
    refine X.u (LU.fieldO Try.underlying77 rfl Try.sizeOf24 (by decide) Is.rfl') rfl ?_
    refine X.u (LU.loadO 0 rfl ⟨Try.sizeOf24, Try.isAgg24⟩ Is.rfl' (Part.one rfl)) rfl ?_
    refine X.u (LU.moveR Is.rfl') rfl ?_
    refine X.u (LU.call (contains_calls ws (.tok b o c) id (by omega)) Try.func58 rfl rfl (Opds.cons Is.rfl' (Opds.cons Is.rfl' Opds.nil))) rfl ?_
    refine X.u (LU.assignR Is.rfl') rfl ?_
    refine LL.nil (after_code ?_)
    refine X.cond rfl (fun h5 => ?_) (fun h5 => ?_)
    · try have h5 := of_decide_eq_true h5
      refine LW.seq ?_
      refine LW.region ?_
      refine X.u (LU.assignR Is.rfl') rfl ?_
      refine LL.nil (after_code ?_)
      refine LW.ret (ret_blk (ret_code (after_end ?_)))
      refine X.ret (H' := [qa g ws es tv b o c b2 o2 c2, .tail b o c, .tail b2 o2 c2]) (Res.one (by exact IsR rfl)) (by repeat (exact HSub.refl _)) ?_
      have hz : idxP ws id = 110 := by rw [hE, if_neg h3, if_pos h5]
      exact ⟨b, o, c, by rw [hz]; rfl, by rw [hW1 (by omega)]⟩
    · try have h5 := of_decide_eq_false h5
      refine LW.seq ?_
      refine LW.region ?_
      refine X.u (LU.moveR Is.rfl') rfl ?_
      refine X.u (LU.nilCheck Is.rfl') rfl ?_
      refine X.u (LU.fieldO Try.underlying77 rfl Try.sizeOf24 (by decide) Is.rfl') rfl ?_
      refine X.u (LU.loadO 0 rfl ⟨Try.sizeOf24, Try.isAgg24⟩ Is.rfl' (Part.one rfl)) rfl ?_
      refine X.u (LU.lenN Try.underlying24 Is.rfl' (by (simp only [Option.getD_some, Option.getD_none, byteEls_length, intEls_length, List.length_append, List.length_cons, List.length_nil, List.length_map, List.length_drop, List.length_take, Int.toNat_natCast]; rfl))) rfl ?_
      refine X.u (LU.geq Is.rfl' Is.rfl') rfl ?_
      refine X.u (LU.assignR Is.rfl') rfl ?_
      refine LL.nil (after_code ?_)
      refine X.cond rfl (fun h7 => ?_) (fun h7 => ?_)
      · try have h7 := of_decide_eq_true h7
        refine LW.seq ?_
        refine LW.region ?_
        refine X.u (LU.assignR Is.rfl') rfl ?_
        refine LL.nil (after_code ?_)
        refine LW.ret (ret_blk (ret_code (after_end ?_)))
        refine X.ret (H' := [qa g ws es tv b o c b2 o2 c2, .tail b o c, .tail b2 o2 c2]) (Res.one (by exact IsR rfl)) (by repeat (exact HSub.refl _)) ?_
        have hz : idxP ws id = 3 := by rw [hE, if_neg h3, if_neg h5, if_pos (by omega)]
        exact ⟨b, o, c, by rw [hz]; rfl, by rw [hW1 (by omega)]⟩
      · try have h7 := of_decide_eq_false h7
        refine LW.skip (after_blk (after_code ?_))
        refine LW.seq ?_
        refine LW.region ?_
        refine X.u (LU.moveR Is.rfl') rfl ?_
        refine X.u (LU.moveR Is.rfl') rfl ?_
        refine X.u (LU.nilCheck Is.rfl') rfl ?_
        refine X.u (LU.fieldO Try.underlying77 rfl Try.sizeOf24 (by decide) Is.rfl') rfl ?_
        refine X.u (LU.loadO 0 rfl ⟨Try.sizeOf24, Try.isAgg24⟩ Is.rfl' (Part.one rfl)) rfl ?_
        refine X.u (LU.moveR Is.rfl') rfl ?_
        refine X.u (LU.lits Try.underlying24 Try.sizeOf3 Try.zeroValue3 (ones rfl) rfl (by decide) (by decide) (Elems.cons Is.rfl' (by exact Cells.raw rfl) Elems.nil) (by (simp; done)) rfl) rfl ?_
        refine X.act (X.append 1 rfl rfl Try.underlying24 (El.of (P := Try.prog) (z := (.int .i64 0)) (size := 1) (bytes := 8) rfl rfl rfl) Is.rfl' Is.rfl' (SrcL.slice Try.underlying24 (by decide) (by (intro e he; simp [chunks] at he; simp [he]; done))) (by simp only [Option.getD_some, Option.getD_none, byteEls_length, intEls_length, List.length_append, List.length_cons, List.length_nil, List.length_map, List.length_drop, List.length_take, Int.toNat_natCast]; omega) (by simp only [Option.getD_some, Option.getD_none, byteEls_length, intEls_length, List.length_append, List.length_cons, List.length_nil, List.length_map, List.length_drop, List.length_take, Int.toNat_natCast]; omega) (fun b32 o32 c32 => X.weak (t := 32) (Is.of (y := Ints (ws ++ [id]) (.tok b32 o32 c32)) (congrArg (fun z => LV.sl 1 z (.tok b32 o32 c32)) (intEls_append ws [id]).symm)) ?_))
        refine X.u (LU.nilCheck Is.rfl') rfl ?_
        refine X.u (LU.fieldO Try.underlying77 rfl Try.sizeOf24 (by decide) Is.rfl') rfl ?_
        refine X.act (X.store 1 rfl Try.sizeOf24 Is.rfl' Is.rfl' (by exact Cells.sl) (by (simp; done)) (by (simp; done)) ?_)
        refine LL.nil (after_code ?_)
        refine LW.seq ?_
        refine LW.region ?_
        refine X.u (LU.assignR Is.rfl') rfl ?_
        refine LL.nil (after_code ?_)
        refine LW.ret (after_end ?_)
        refine X.ret (H' := [qa g (ws ++ [id]) es tv b32 o32 c32 b2 o2 c2, .tail b32 o32 c32, .tail b2 o2 c2]) (Res.one (by exact IsR rfl)) (by repeat (exact HSub.refl _)) ?_
        have hz : idxP ws id = 0 := by rw [hE, if_neg h3, if_neg h5, if_neg (by omega)]
        exact ⟨b32, o32, c32, by rw [hz]; rfl, by rw [hW0 hz]⟩
set_option maxRecDepth 100000 in
theorem waiting_calls (g : Nat) (ws : List Int) (es : List Ed) (tv : Value) (b o c b2 o2 c2 : Nat) (hw : ws.length ≤ 1000) : LCalls Try.prog 29 [pt g] [qa g ws es tv b o c b2 o2 c2] (fun r H' => r = Ints ws .unk ∧ H' = [qa g ws es tv b o c b2 o2 c2]) := by
  refine LCalls.of Try.func29 rfl Try.ntmps29 Try.results29 rfl (fun Rf => ?_)
  refine LW.seq ?_
  refine LW.region ?_
  refine X.u (LU.assign (Is.nil 1)) rfl ?_
  refine LL.nil (after_code ?_)
  refine LW.seq ?_
  refine LW.seq ?_
  refine LW.region ?_
  refine X.u (LU.moveR Is.rfl') rfl ?_
  refine X.u (LU.call1 0 rfl (none_calls21 g ws es tv b o c b2 o2 c2) Try.func57 rfl rfl (Opds.cons Is.rfl' Opds.nil)) rfl ?_
  refine LL.nil (after_code ?_)
  refine X.condF rfl ?_ ?_
  · rfl
  refine LW.skip (after_code ?_)
  refine LW.seq ?_
  refine LW.region ?_
  refine X.u (LU.moveR Is.rfl') rfl ?_
  refine X.u (LU.nilCheck Is.rfl') rfl ?_
  refine X.u (LU.fieldO Try.underlying77 rfl Try.sizeOf24 (by decide) Is.rfl') rfl ?_
  refine X.u (LU.loadO 0 rfl ⟨Try.sizeOf24, Try.isAgg24⟩ Is.rfl' (Part.one rfl)) rfl ?_
  refine X.u (LU.call (clone_calls ws (.tok b o c) (by omega)) Try.func59 rfl rfl (Opds.cons Is.rfl' Opds.nil)) rfl ?_
  refine X.u (LU.assignS Is.rfl') rfl ?_
  refine LL.nil (after_code ?_)
  refine LW.ret (after_end ?_)
  refine X.ret (H' := [qa g ws es tv b o c b2 o2 c2]) (Res.one (by exact IsS rfl)) (by repeat (exact HSub.refl _)) ?_
  exact ⟨rfl, rfl⟩
set_option maxRecDepth 100000 in
theorem place_calls (g : Nat) (ws : List Int) (es : List Ed) (tv : Value) (b o c b2 o2 c2 : Nat) (id : Int) (hw : ws.length ≤ 1000) : LCalls Try.prog 32 [pt g, i64 id] [qa g ws es tv b o c b2 o2 c2] (fun r H' => r = i64 (idx ws id) ∧ H' = [qa g ws es tv b o c b2 o2 c2]) := by
  refine LCalls.of Try.func32 rfl Try.ntmps32 Try.results32 rfl (fun Rf => ?_)
  refine LW.seq ?_
  refine LW.region ?_
  refine X.u (LU.assignR Is.rfl') rfl ?_
  refine LL.nil (after_code ?_)
  refine LW.seq ?_
  refine LW.seq ?_
  refine LW.region ?_
  refine X.u (LU.moveR Is.rfl') rfl ?_
  refine X.u (LU.call1 0 rfl (none_calls21 g ws es tv b o c b2 o2 c2) Try.func57 rfl rfl (Opds.cons Is.rfl' Opds.nil)) rfl ?_
  refine LL.nil (after_code ?_)
  refine X.condF rfl ?_ ?_
  · rfl
  refine LW.skip (after_code ?_)
  refine LW.seq ?_
  refine LW.region ?_
  refine X.u (LU.moveR Is.rfl') rfl ?_
  refine X.u (LU.nilCheck Is.rfl') rfl ?_
  refine X.u (LU.fieldO Try.underlying77 rfl Try.sizeOf24 (by decide) Is.rfl') rfl ?_
  refine X.u (LU.loadO 0 rfl ⟨Try.sizeOf24, Try.isAgg24⟩ Is.rfl' (Part.one rfl)) rfl ?_
  refine X.u (LU.moveR Is.rfl') rfl ?_
  refine X.u (LU.call (index_calls ws (.tok b o c) id (by omega)) Try.func62 rfl rfl (Opds.cons Is.rfl' (Opds.cons Is.rfl' Opds.nil))) rfl ?_
  refine X.u (LU.assignR Is.rfl') rfl ?_
  refine LL.nil (after_code ?_)
  refine LW.ret (after_end ?_)
  refine X.ret (H' := [qa g ws es tv b o c b2 o2 c2]) (Res.one (by exact IsR rfl)) (by repeat (exact HSub.refl _)) ?_
  exact ⟨rfl, rfl⟩
end Go.Proofs.Ytpimalihpnfdkaa
