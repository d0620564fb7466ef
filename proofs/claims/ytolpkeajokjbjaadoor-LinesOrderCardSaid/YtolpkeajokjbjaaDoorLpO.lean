/- Lines: the laws' helpers: id, do, built. -/
import Derived.Test.YtolpkeajokjbjaaDoorLpN
set_option linter.unusedVariables false
set_option linter.unusedSimpArgs false
namespace Go.Proofs.YtolpkeajokjbjaaDoor
open Go.RowKit Go.L Go.Lib
attribute [local irreducible] LL LW LO
abbrev h1 : Hs := ⟨1 :: List.replicate 31 0, rfl⟩
abbrev idV (n : Int) : Vx := ⟨h1, n⟩
set_option maxRecDepth 100000 in
theorem id_calls (n : Int) : LCalls Tryd.prog 38 [i64 n] [] (fun r H' => r = .agg (vxL (idV n)) ∧ H' = []) := by
  have hl := vxL_len (idV n)
  refine LCalls.of Tryd.func38 rfl Tryd.ntmps38 Tryd.results38 rfl (fun Rf => ?_)
  refine LW.seq ?_
  refine LW.region ?_
  refine X.act (X.alloc rfl Tryd.zeroValue35 (by exact Cells.rawagg (by decide)) (fun b2 => ?_))
  refine LL.nil (after_code ?_)
  refine LW.seq ?_
  refine LW.region ?_
  refine X.u (LU.weak (LU.buildA Tryd.underlying31 Tryd.sizeOf5 Tryd.zeroValue31 (ones rfl) (Parts.cons Is.rfl' (by exact Cells.raw rfl) Parts.nil) rfl) (Is.of (y := .agg (hsL h1)) (rfl))) rfl ?_
  refine X.u (LU.moveR Is.rfl') rfl ?_
  refine X.u (LU.weak (LU.build (places := #[(0, 32), (32, 1)]) Tryd.underlying35 Tryd.zeroValue35 (ones rfl) (by intro w; simp [Tryd.sizeOf3, Tryd.sizeOf31]) (Parts.cons Is.rfl' (by exact Cells.agg) (Parts.cons Is.rfl' (by exact Cells.raw rfl) Parts.nil)) rfl) (Is.of (y := .agg (vxL (idV n))) (rfl))) rfl ?_
  refine X.act (X.store 0 rfl Tryd.sizeOf35 Is.rfl' Is.rfl' (by exact Cells.agg) (by (simp; done)) (by exact Nat.le_of_ble_eq_true rfl) ?_)
  refine LL.nil (after_code ?_)
  refine LW.ret (after_end ?_)
  rw [putAt_all (by rw [hl]; rfl)]
  refine X.ret (H' := []) (Res.cell1 0 rfl rfl ⟨Tryd.sizeOf35, Tryd.isAgg35⟩ (Part.whole hl) (IsA rfl)) (by repeat (first | exact HSub.refl _ | refine HSub.drop ?_)) ?_
  exact ⟨rfl, rfl⟩
def acE (r : Rg) (a : Ac) : Nat := if a.kind = 0 then raddE r a.up a.down a.ids a.texts else if a.kind = 1 then rdropE r a.ids else if a.kind = 2 then rkE r a.up a.by_ else ukE r a.up a.by_
def acG (r : Rg) (a : Ac) : Rg := if a.kind = 0 then raddG r a.up a.down a.ids a.texts else if a.kind = 1 then rdropG r a.ids else if a.kind = 2 then rkG r a.up a.by_ else ukG r a.up a.by_
theorem nil_app {α : Type} (l : List α) : [] ++ l = l := rfl
set_option maxHeartbeats 1000000 in
set_option maxRecDepth 100000 in
theorem do_calls (g : Nat) (s : St) (r : Rg) (c : Nat) (a : Ac) (hs : StR s r c) (hc : c < 90000) (hi : a.ids.length < 100000) (ht : a.texts.length < 100000) : LCalls Tryd.prog 27 [pt g, .agg (acL a)] (H4 g s) (fun x H' => x = i64 (acE r a : Nat) ∧ ∃ s', H' = H4 g s' ∧ StR s' (acG r a) (c + 1)) := by
  have hal := ac_len a
  have hau := a.up.p.2
  have had := a.down.p.2
  have hab := a.by_.2
  have hil := vxs_size a.ids
  have hadd := add_r g hs hc a.up a.down a.ids a.texts .unk .unk hi ht
  have hdrop := drop_r g hs a.ids .unk hi
  have hkill := kill_r g hs hc a.up a.by_
  have hunk := unkill_r g hs hc a.up a.by_
  refine LCalls.of Tryd.func27 rfl Tryd.ntmps27 Tryd.results27 rfl (fun Rf => ?_)
  refine LW.seq ?_
  refine LW.region ?_
  refine X.act (X.box rfl Is.rfl' (by exact Cells.agg) (fun b3 => ?_))
  refine X.u (LU.assignR Is.rfl') rfl ?_
  refine LL.nil (after_code ?_)
  refine LW.seq ?_
  refine LW.seq ?_
  refine LW.region ?_
  refine X.u (LU.fieldO Tryd.underlying52 rfl Tryd.sizeOf3 (by decide) Is.rfl') rfl ?_
  refine X.u (LU.loadO 0 rfl ⟨Tryd.sizeOf3, Tryd.isAgg3⟩ Is.rfl' (Part.one (ac_kind a))) rfl ?_
  refine LL.nil (after_code ?_)
  refine LW.block ?_
  refine LW.seq ?_
  refine LW.region ?_
  refine X.u (LU.eql Is.rfl' Is.rfl') rfl ?_
  refine X.u (LU.assignR Is.rfl') rfl ?_
  refine LL.nil (after_code ?_)
  refine X.cond rfl (fun h2 => ?_) (fun h2 => ?_)
  · have h2 : a.kind = 0 := by simpa using h2
    have hz0 : (0 : Nat) = 0 := rfl
    refine LW.seq ?_
    refine X.drawM 13 rfl (by kernel_rfl) rfl ?_
    refine QD.u (LU.moveR Is.rfl') rfl ?_
    refine QD.u (LU.fieldO Tryd.underlying52 rfl Tryd.sizeOf35 (by decide) Is.rfl') rfl ?_
    refine QD.u (LU.weak (LU.loadO 0 rfl ⟨Tryd.sizeOf35, Tryd.isAgg35⟩ Is.rfl' (Part.sub (by (simp; omega)))) (Is.of (y := .agg (vxL a.up)) (congrArg LV.agg (ac_up a)))) rfl ?_
    refine QD.u (LU.fieldO Tryd.underlying52 rfl Tryd.sizeOf35 (by decide) Is.rfl') rfl ?_
    refine QD.u (LU.weak (LU.loadO 0 rfl ⟨Tryd.sizeOf35, Tryd.isAgg35⟩ Is.rfl' (Part.sub (by (simp; omega)))) (Is.of (y := .agg (vxL a.down)) (congrArg LV.agg (ac_down a)))) rfl ?_
    refine QD.u (LU.lits Tryd.underlying26 Tryd.sizeOf35 Tryd.zeroValue35 (ones rfl) rfl (by decide) (by decide) Elems.nil (by intro e he; cases he) rfl) rfl ?_
    refine QD.u (LU.fieldO Tryd.underlying52 rfl Tryd.sizeOf26 (by decide) Is.rfl') rfl ?_
    refine QD.u (LU.loadO 0 rfl ⟨Tryd.sizeOf26, Tryd.isAgg26⟩ Is.rfl' (Part.one (ac_ids a))) rfl ?_
    refine QD.u (LU.weak (LU.append Tryd.underlying26 (El.of (P := Tryd.prog) (z := (.agg #[(.int .u8 0), (.int .u8 0), (.int .u8 0), (.int .u8 0), (.int .u8 0), (.int .u8 0), (.int .u8 0), (.int .u8 0), (.int .u8 0), (.int .u8 0), (.int .u8 0), (.int .u8 0), (.int .u8 0), (.int .u8 0), (.int .u8 0), (.int .u8 0), (.int .u8 0), (.int .u8 0), (.int .u8 0), (.int .u8 0), (.int .u8 0), (.int .u8 0), (.int .u8 0), (.int .u8 0), (.int .u8 0), (.int .u8 0), (.int .u8 0), (.int .u8 0), (.int .u8 0), (.int .u8 0), (.int .u8 0), (.int .u8 0), (.int .i64 0)])) (size := 33) (bytes := 40) rfl rfl rfl) Is.rfl' Is.rfl' (SrcL.slice Tryd.underlying26 (by decide) hil) (by simp only [Option.getD_some, Option.getD_none, byteEls_length, intEls_length, List.length_append, List.length_cons, List.length_nil, List.length_map, List.length_drop, List.length_take, Int.toNat_natCast]; omega) (by simp only [Option.getD_some, Option.getD_none, byteEls_length, intEls_length, List.length_append, List.length_cons, List.length_nil, List.length_map, List.length_drop, List.length_take, Int.toNat_natCast]; omega)) (Is.of (y := Vxs a.ids .unk) (rfl))) rfl ?_
    refine QD.u (LU.lits Tryd.underlying25 Tryd.sizeOf9 Tryd.zeroValue9 (ones rfl) rfl (by decide) (by decide) Elems.nil (by intro e he; cases he) rfl) rfl ?_
    refine QD.u (LU.fieldO Tryd.underlying52 rfl Tryd.sizeOf25 (by decide) Is.rfl') rfl ?_
    refine QD.u (LU.loadO 0 rfl ⟨Tryd.sizeOf25, Tryd.isAgg25⟩ Is.rfl' (Part.one (ac_texts a))) rfl ?_
    refine QD.u (LU.weak (LU.append Tryd.underlying25 (El.of (P := Tryd.prog) (z := (.string ByteArray.empty)) (size := 1) (bytes := 16) rfl rfl rfl) Is.rfl' Is.rfl' (SrcL.slice Tryd.underlying25 (by decide) (by simp)) (by simp only [Option.getD_some, Option.getD_none, byteEls_length, intEls_length, List.length_append, List.length_cons, List.length_nil, List.length_map, List.length_drop, List.length_take, Int.toNat_natCast]; omega) (by simp only [Option.getD_some, Option.getD_none, byteEls_length, intEls_length, List.length_append, List.length_cons, List.length_nil, List.length_map, List.length_drop, List.length_take, Int.toNat_natCast]; omega)) (Is.of (y := .sl 1 (strsL a.texts) .unk) (rfl))) rfl ?_
    refine QD.nil ?_
    refine X.act (X.call (hadd) Tryd.func11 rfl rfl rfl (by (refine HSub.pick 1 rfl ?_); (refine HSub.pick 1 rfl ?_); (refine HSub.pick 1 rfl ?_); (refine HSub.pick 1 rfl ?_); exact HSub.refl _) (Opds.cons Is.rfl' (Opds.cons Is.rfl' (Opds.cons Is.rfl' (Opds.cons Is.rfl' (Opds.cons Is.rfl' Opds.nil))))) ?_)
    rintro r H' ⟨rfl, s', rfl, hs'⟩
    refine X.u (LU.assignR Is.rfl') rfl ?_
    refine LL.nil (after_code ?_)
    refine LW.ret (ret_blk (ret_code (after_end ?_)))
    refine X.ret (H' := H4 g s') (Res.one (by exact IsR rfl)) (by repeat (first | exact HSub.refl _ | refine HSub.pick 0 rfl ?_ | refine HSub.drop ?_)) ?_
    exact ⟨by unfold acE; rw [if_pos h2], s', rfl, by unfold acG; rw [if_pos h2]; exact hs'⟩
  · have h2 : a.kind ≠ 0 := by simpa using h2
    have hz0 : (0 : Nat) = 0 := rfl
    refine LW.seq ?_
    refine LW.region ?_
    refine X.u (LU.eql Is.rfl' Is.rfl') rfl ?_
    refine X.u (LU.assignR Is.rfl') rfl ?_
    refine LL.nil (after_code ?_)
    refine X.cond rfl (fun h4 => ?_) (fun h4 => ?_)
    · have h4 : a.kind = 1 := by simpa using h4
      have hz0 : (0 : Nat) = 0 := rfl
      refine LW.seq ?_
      refine LW.region ?_
      refine X.u (LU.moveR Is.rfl') rfl ?_
      refine X.u (LU.lits Tryd.underlying26 Tryd.sizeOf35 Tryd.zeroValue35 (ones rfl) rfl (by decide) (by decide) Elems.nil (by intro e he; cases he) rfl) rfl ?_
      refine X.u (LU.fieldO Tryd.underlying52 rfl Tryd.sizeOf26 (by decide) Is.rfl') rfl ?_
      refine X.u (LU.loadO 0 rfl ⟨Tryd.sizeOf26, Tryd.isAgg26⟩ Is.rfl' (Part.one (ac_ids a))) rfl ?_
      refine X.u (LU.weak (LU.append Tryd.underlying26 (El.of (P := Tryd.prog) (z := (.agg #[(.int .u8 0), (.int .u8 0), (.int .u8 0), (.int .u8 0), (.int .u8 0), (.int .u8 0), (.int .u8 0), (.int .u8 0), (.int .u8 0), (.int .u8 0), (.int .u8 0), (.int .u8 0), (.int .u8 0), (.int .u8 0), (.int .u8 0), (.int .u8 0), (.int .u8 0), (.int .u8 0), (.int .u8 0), (.int .u8 0), (.int .u8 0), (.int .u8 0), (.int .u8 0), (.int .u8 0), (.int .u8 0), (.int .u8 0), (.int .u8 0), (.int .u8 0), (.int .u8 0), (.int .u8 0), (.int .u8 0), (.int .u8 0), (.int .i64 0)])) (size := 33) (bytes := 40) rfl rfl rfl) Is.rfl' Is.rfl' (SrcL.slice Tryd.underlying26 (by decide) hil) (by simp only [Option.getD_some, Option.getD_none, byteEls_length, intEls_length, List.length_append, List.length_cons, List.length_nil, List.length_map, List.length_drop, List.length_take, Int.toNat_natCast]; omega) (by simp only [Option.getD_some, Option.getD_none, byteEls_length, intEls_length, List.length_append, List.length_cons, List.length_nil, List.length_map, List.length_drop, List.length_take, Int.toNat_natCast]; omega)) (Is.of (y := Vxs a.ids .unk) (rfl))) rfl ?_
      refine X.act (X.call (hdrop) Tryd.func22 rfl rfl rfl (by (refine HSub.pick 1 rfl ?_); (refine HSub.pick 1 rfl ?_); (refine HSub.pick 1 rfl ?_); (refine HSub.pick 1 rfl ?_); exact HSub.refl _) (Opds.cons Is.rfl' (Opds.cons Is.rfl' Opds.nil)) ?_)
      rintro r H' ⟨rfl, s', rfl, hs'⟩
      refine X.u (LU.assignR Is.rfl') rfl ?_
      refine LL.nil (after_code ?_)
      refine LW.ret (ret_blk (ret_code (after_end ?_)))
      refine X.ret (H' := H4 g s') (Res.one (by exact IsR rfl)) (by repeat (first | exact HSub.refl _ | refine HSub.pick 0 rfl ?_ | refine HSub.drop ?_)) ?_
      exact ⟨by unfold acE; rw [if_neg h2, if_pos h4], s', rfl, by unfold acG; rw [if_neg h2, if_pos h4]; exact hs'.mono (by omega)⟩
    · have h4 : a.kind ≠ 1 := by simpa using h4
      have hz0 : (0 : Nat) = 0 := rfl
      refine LW.seq ?_
      refine LW.region ?_
      refine X.u (LU.eql Is.rfl' Is.rfl') rfl ?_
      refine X.u (LU.assignR Is.rfl') rfl ?_
      refine LL.nil (after_code ?_)
      refine X.cond rfl (fun h6 => ?_) (fun h6 => ?_)
      · have h6 : a.kind = 2 := by simpa using h6
        have hz0 : (0 : Nat) = 0 := rfl
        refine LW.seq ?_
        refine LW.region ?_
        refine X.u (LU.moveR Is.rfl') rfl ?_
        refine X.u (LU.fieldO Tryd.underlying52 rfl Tryd.sizeOf35 (by decide) Is.rfl') rfl ?_
        refine X.u (LU.weak (LU.loadO 0 rfl ⟨Tryd.sizeOf35, Tryd.isAgg35⟩ Is.rfl' (Part.sub (by (simp; omega)))) (Is.of (y := .agg (vxL a.up)) (congrArg LV.agg (ac_up a)))) rfl ?_
        refine X.u (LU.fieldO Tryd.underlying52 rfl Tryd.sizeOf31 (by decide) Is.rfl') rfl ?_
        refine X.u (LU.weak (LU.loadO 0 rfl ⟨Tryd.sizeOf31, Tryd.isAgg31⟩ Is.rfl' (Part.sub (by (simp; omega)))) (Is.of (y := .agg (hsL a.by_)) (congrArg LV.agg (ac_by a)))) rfl ?_
        refine X.act (X.call (hkill) Tryd.func10 rfl rfl rfl (by (refine HSub.pick 1 rfl ?_); (refine HSub.pick 1 rfl ?_); (refine HSub.pick 1 rfl ?_); (refine HSub.pick 1 rfl ?_); exact HSub.refl _) (Opds.cons Is.rfl' (Opds.cons Is.rfl' (Opds.cons Is.rfl' Opds.nil))) ?_)
        rintro r H' ⟨rfl, s', rfl, hs'⟩
        refine X.u (LU.assignR Is.rfl') rfl ?_
        refine LL.nil (after_code ?_)
        refine LW.ret (ret_blk (ret_code (after_end ?_)))
        refine X.ret (H' := H4 g s') (Res.one (by exact IsR rfl)) (by repeat (first | exact HSub.refl _ | refine HSub.pick 0 rfl ?_ | refine HSub.drop ?_)) ?_
        exact ⟨by unfold acE; rw [if_neg h2, if_neg h4, if_pos h6], s', rfl, by unfold acG; rw [if_neg h2, if_neg h4, if_pos h6]; exact hs'⟩
      · have h6 : a.kind ≠ 2 := by simpa using h6
        have hz0 : (0 : Nat) = 0 := rfl
        refine LW.skip (after_blk (after_code ?_))
        refine LW.seq ?_
        refine LW.region ?_
        refine X.u (LU.moveR Is.rfl') rfl ?_
        refine X.u (LU.fieldO Tryd.underlying52 rfl Tryd.sizeOf35 (by decide) Is.rfl') rfl ?_
        refine X.u (LU.weak (LU.loadO 0 rfl ⟨Tryd.sizeOf35, Tryd.isAgg35⟩ Is.rfl' (Part.sub (by (simp; omega)))) (Is.of (y := .agg (vxL a.up)) (congrArg LV.agg (ac_up a)))) rfl ?_
        refine X.u (LU.fieldO Tryd.underlying52 rfl Tryd.sizeOf31 (by decide) Is.rfl') rfl ?_
        refine X.u (LU.weak (LU.loadO 0 rfl ⟨Tryd.sizeOf31, Tryd.isAgg31⟩ Is.rfl' (Part.sub (by (simp; omega)))) (Is.of (y := .agg (hsL a.by_)) (congrArg LV.agg (ac_by a)))) rfl ?_
        refine X.act (X.call (hunk) Tryd.func24 rfl rfl rfl (by (refine HSub.pick 1 rfl ?_); (refine HSub.pick 1 rfl ?_); (refine HSub.pick 1 rfl ?_); (refine HSub.pick 1 rfl ?_); exact HSub.refl _) (Opds.cons Is.rfl' (Opds.cons Is.rfl' (Opds.cons Is.rfl' Opds.nil))) ?_)
        rintro r H' ⟨rfl, s', rfl, hs'⟩
        refine X.u (LU.assignR Is.rfl') rfl ?_
        refine LL.nil (after_code ?_)
        refine LW.ret (after_end ?_)
        refine X.ret (H' := H4 g s') (Res.one (by exact IsR rfl)) (by repeat (first | exact HSub.refl _ | refine HSub.pick 0 rfl ?_ | refine HSub.drop ?_)) ?_
        exact ⟨by unfold acE; rw [if_neg h2, if_neg h4, if_neg h6], s', rfl, by unfold acG; rw [if_neg h2, if_neg h4, if_neg h6]; exact hs'.mono (by omega)⟩
def bld (r : Rg) (l : List Ac) : Rg := l.foldl (fun r a => if a.kind = 4 then r else acG r a) r
theorem bld_snoc (r : Rg) (l : List Ac) (a : Ac) : bld r (l ++ [a]) = if a.kind = 4 then bld r l else acG (bld r l) a := by unfold bld; rw [List.foldl_append]; rfl
abbrev rg0 : Rg := ⟨[], []⟩
set_option maxHeartbeats 1000000 in
set_option maxRecDepth 100000 in
theorem built_calls (l : List Ac) (k : Cap) (hw : sumW l ≤ 120) : LCalls Tryd.prog 17 [Acs l k] [kb] (fun x H' => ∃ g s, x = pt g ∧ H' = H4 g s ∧ StR s (bld rg0 l) 120) := by
  have hll : l.length ≤ sumW l := by
    have key : ∀ l : List Ac, l.length ≤ sumW l := fun l => by
      induction l with
      | nil => exact Nat.zero_le _
      | cons a l ih =>
        have : sumW (a :: l) = acW a + sumW l := by unfold sumW; simp
        have h0 : acW a = 1 + a.ids.length + a.texts.length := rfl
        rw [List.length_cons]; omega
    exact key l
  refine LCalls.of Tryd.func17 rfl Tryd.ntmps17 Tryd.results17 rfl (fun Rf => ?_)
  refine LW.seq ?_
  refine LW.region ?_
  refine X.u (LU.assignR Is.rfl') rfl ?_
  refine LL.nil (after_code ?_)
  refine LW.seq ?_
  refine LW.region ?_
  refine X.act (X.call (new_r) Tryd.func9 rfl rfl rfl (by (refine HSub.pick 0 rfl ?_); exact HSub.refl _) Opds.nil ?_)
  rintro r H' ⟨g, s0, rfl, rfl, hs0⟩
  refine X.u (LU.assignR Is.rfl') rfl ?_
  refine LL.nil (after_code ?_)
  refine LW.seq ?_
  refine LW.seq ?_
  refine LW.region ?_
  refine X.u (LU.moveS Is.rfl') rfl ?_
  refine X.u (LU.lenN Tryd.underlying42 Is.rfl' (by (simp only [Option.getD_some, Option.getD_none, byteEls_length, intEls_length, List.length_append, List.length_cons, List.length_nil, List.length_map, List.length_drop, List.length_take, Int.toNat_natCast]; rfl))) rfl ?_
  refine X.u (LU.moveR Is.rfl') rfl ?_
  refine LL.nil (after_code ?_)
  refine LW.block ?_
  refine X.loopK (α := Nat × St) (fun ⟨i, s⟩ => [(9, i64 i)]) [2, 3, 7, 8] (fun ⟨i, s⟩ => gC g s.ma s.mb s.n :: gA s.ma s.m :: gP s.mb s.q :: kb :: Rf) (fun ⟨i, s⟩ => i ≤ l.length ∧ StR s (bld rg0 (l.take i)) i) (fun ⟨i, s⟩ => l.length - i) ((0, s0)) (EnvLe.cons (by rfl) (EnvLe.nil)) (by repeat (exact HSub.refl _)) ?_ ?_
  · exact ⟨Nat.zero_le _, hs0⟩
  · rintro ⟨i, s⟩ hI
    obtain ⟨hi, hs⟩ := hI
    refine LW.seq ?_
    refine LW.region ?_
    refine X.u (LU.lss Is.rfl' Is.rfl') rfl ?_
    refine LL.nil (after_code ?_)
    refine LW.seq ?_
    refine X.cond rfl (fun h3 => ?_) (fun h3 => ?_)
    · try have h3 := of_decide_eq_true h3
      refine LW.skip (after_code ?_)
      refine LW.seq ?_
      refine LW.block ?_
      refine LW.seq ?_
      obtain ⟨a, ha⟩ := at_lt (show i < l.length by omega)
      have hal := ac_len a
      have hau := a.up.p.2
      have had := a.down.p.2
      have hab := a.by_.2
      have hws := sumW_at ha
      have hw0 : acW a = 1 + a.ids.length + a.texts.length := rfl
      have hdo := do_calls g s _ i a hs (by omega) (by omega) (by omega)
      refine LW.region ?_
      refine X.u (LU.at Tryd.underlying42 ⟨Tryd.sizeOf52, Tryd.isAgg52⟩ Is.rfl' Is.rfl' (by omega) (acs_at ha) (ac_ne a)) rfl ?_
      refine X.u (LU.weak (LU.load ⟨Tryd.sizeOf52, Tryd.isAgg52⟩ Is.rfl' (by assumption) (Part.whole (by assumption))) (Is.of (y := .agg (acL a)) (rfl))) rfl ?_
      refine X.act (X.alloc rfl Tryd.zeroValue52 (by exact Cells.rawagg (by decide)) (fun b5 => ?_))
      refine X.act (X.store 0 rfl Tryd.sizeOf52 Is.rfl' Is.rfl' (by exact Cells.agg) (by assumption) (by exact Nat.le_of_ble_eq_true rfl) ?_)
      refine LL.nil (after_code ?_)
      refine LW.seq ?_
      refine X.wcells (ys := acL a) (putAt_all (by rw [hal]; rfl)) ?_
      refine LW.region ?_
      refine X.u (LU.fieldO Tryd.underlying52 rfl Tryd.sizeOf3 (by decide) Is.rfl') rfl ?_
      refine X.u (LU.loadO 0 rfl ⟨Tryd.sizeOf3, Tryd.isAgg3⟩ Is.rfl' (Part.one (ac_kind a))) rfl ?_
      refine X.u (LU.neq Is.rfl' Is.rfl') rfl ?_
      refine LL.nil (after_code ?_)
      refine X.cond rfl (fun h5 => ?_) (fun h5 => ?_)
      · have h5 : a.kind ≠ 4 := by simpa using h5
        have hz0 : (0 : Nat) = 0 := rfl
        refine LW.region ?_
        refine X.u (LU.moveR Is.rfl') rfl ?_
        refine X.u (LU.loadO 0 rfl ⟨Tryd.sizeOf52, Tryd.isAgg52⟩ Is.rfl' (Part.whole (by assumption))) rfl ?_
        refine X.act (X.call (hdo) Tryd.func27 rfl rfl rfl (by (refine HSub.pick 1 rfl ?_); (refine HSub.pick 1 rfl ?_); (refine HSub.pick 1 rfl ?_); (refine HSub.pick 1 rfl ?_); exact HSub.refl _) (Opds.cons Is.rfl' (Opds.cons Is.rfl' Opds.nil)) ?_)
        rintro r H' ⟨rfl, s', rfl, hs'⟩
        refine LL.nil (after_blk (after_code ?_))
        refine LW.region ?_
        refine X.u (LU.addN Is.rfl' Is.rfl' (wrap_i64 (by omega) (by omega))) rfl ?_
        refine X.u (LU.moveR Is.rfl') rfl ?_
        refine LL.nil (after_rnd ?_)
        refine X.next ((i + 1, s')) rfl (EnvLe.cons (by rfl) (EnvLe.nil)) (Keeps.cons (by exact Eq.trans (b := .raw _) rfl rfl) (Keeps.cons (by exact Eq.trans (b := .raw _) rfl rfl) (Keeps.cons (by exact Eq.trans (b := .sl _ _ _) rfl rfl) (Keeps.cons (by exact Eq.trans (b := .raw _) rfl rfl) (Keeps.nil))))) (by repeat (first | exact HSub.refl _ | refine HSub.pick 0 rfl ?_ | refine HSub.drop ?_)) ?_ ?_
        · exact ⟨by omega, by rw [take_snoc ha, bld_snoc, if_neg h5]; exact hs'⟩
        · (simp; omega)
      · have h5 : a.kind = 4 := by simpa using h5
        have hz0 : (0 : Nat) = 0 := rfl
        refine LW.skip (after_blk (after_code ?_))
        refine LW.region ?_
        refine X.u (LU.addN Is.rfl' Is.rfl' (wrap_i64 (by omega) (by omega))) rfl ?_
        refine X.u (LU.moveR Is.rfl') rfl ?_
        refine LL.nil (after_rnd ?_)
        refine X.next ((i + 1, s)) rfl (EnvLe.cons (by rfl) (EnvLe.nil)) (Keeps.cons (by exact Eq.trans (b := .raw _) rfl rfl) (Keeps.cons (by exact Eq.trans (b := .raw _) rfl rfl) (Keeps.cons (by exact Eq.trans (b := .sl _ _ _) rfl rfl) (Keeps.cons (by exact Eq.trans (b := .raw _) rfl rfl) (Keeps.nil))))) (by repeat (first | exact HSub.refl _ | refine HSub.pick 1 rfl ?_ | refine HSub.drop ?_)) ?_ ?_
        · exact ⟨by omega, by rw [take_snoc ha, bld_snoc, if_pos h5]; exact hs.mono (by omega)⟩
        · (simp; omega)
    · try have h3 := of_decide_eq_false h3
      refine LW.exit (exit_code (exit_rnd (exit_blk (after_code ?_))))
      refine LW.seq ?_
      refine LW.region ?_
      refine X.u (LU.moveR Is.rfl') rfl ?_
      refine X.u (LU.assignR Is.rfl') rfl ?_
      refine LL.nil (after_code ?_)
      refine LW.ret (after_end ?_)
      refine X.ret (H' := H4 g s) (Res.one (by exact IsR rfl)) (by repeat (exact HSub.refl _)) ?_
      have hil : i = l.length := by omega
      rw [hil, List.take_length] at hs
      exact ⟨g, s, rfl, rfl, hs.mono (by omega)⟩
end Go.Proofs.YtolpkeajokjbjaaDoor
