/- Lines: the document's Steps. -/
import Derived.Test.YtolpkeajokjbjaaDoorLnP
set_option linter.unusedVariables false
set_option linter.unusedSimpArgs false
namespace Go.Proofs.YtolpkeajokjbjaaDoor
open Go.RowKit Go.L Go.Lib
attribute [local irreducible] LL LW LO
def st1 (a : Ad) (v : Vx) : List Vx := if a.up = v then [a.ids.headD topV] else []
def st2 (a : Ad) (v : Vx) : List Vx := if (decide (0 ≤ placeG a.ids v) && decide (placeG a.ids v + 1 < a.ids.length)) = true then [a.ids.getD (placeG a.ids v + 1).toNat topV] else []
def st3 (a : Ad) (v : Vx) : List Vx := if (decide (0 ≤ placeG a.ids v) && decide (placeG a.ids v + 1 = a.ids.length)) = true then [a.down] else []
def st0 (v : Vx) : List Vx := if v = topV then [botV] else []
def stepsG (r : Rg) (v : Vx) : List Vx := st0 v ++ r.L.flatMap fun a => st1 a v ++ (st2 a v ++ st3 a v)
theorem st1_len (a : Ad) (v : Vx) : (st1 a v).length ≤ 1 := by unfold st1; split <;> simp
theorem st2_len (a : Ad) (v : Vx) : (st2 a v).length ≤ 1 := by unfold st2; split <;> simp
theorem st3_len (a : Ad) (v : Vx) : (st3 a v).length ≤ 1 := by unfold st3; split <;> simp
theorem st0_len (v : Vx) : (st0 v).length ≤ 1 := by unfold st0; split <;> simp
set_option maxHeartbeats 2000000 in
set_option maxRecDepth 100000 in
theorem steps_calls (r : Rg) (v : Vx) (hl : r.L.length < 1000000) (hne : ∀ a ∈ r.L, a.ids ≠ [] ∧ a.ids.length < 1000000) : LCalls Tryd.prog 72 [.agg (rgL r), .agg (vxL v)] [] (fun x H' => ∃ b o c, x = Vxs (stepsG r v) (.tok b o c) ∧ H' = [.tail b o c]) := by
  have hvl := vxL_len v
  have hbl := vxL_len botV
  have h00 := st0_len v
  refine LCalls.of Tryd.func72 rfl Tryd.ntmps72 Tryd.results72 rfl (fun Rf => ?_)
  refine LW.seq ?_
  refine LW.region ?_
  refine X.act (X.box rfl Is.rfl' (by exact Cells.agg) (fun b2 => ?_))
  refine X.act (X.box rfl Is.rfl' (by exact Cells.agg) (fun b3 => ?_))
  refine X.u (LU.assign (Is.nil 33)) rfl ?_
  refine LL.nil (after_code ?_)
  refine LW.seq ?_
  refine LW.region ?_
  refine X.u (LU.assign (Is.nil 33)) rfl ?_
  refine LL.nil (after_code ?_)
  refine X.meetK (α := List Vx × Nat × Nat × Nat) (fun ⟨o0, b, o, c⟩ => [(5, Vxs o0 (.tok b o c))]) [2, 3, 4] (fun ⟨o0, b, o, c⟩ => .tail b o c :: .cells b3 35 (vxL v) :: .cells b2 59 (rgL r) :: Rf) (fun ⟨o0, b, o, c⟩ => o0 = st0 v) ?_ ?_
  · refine LW.seq ?_
    refine X.wweak (t := 5) (v := Vxs [] (.tok 0 0 0)) (Is.full_tok 0 0) ?_
    refine X.wghost (HSub.tail0 0 0 0 (Nat.le_refl _) _) ?_
    refine X.drawM 3 rfl (by kernel_rfl) rfl ?_
    refine QD.u (LU.loadO 1 rfl ⟨Tryd.sizeOf35, Tryd.isAgg35⟩ Is.rfl' (Part.whole (by assumption))) rfl ?_
    refine QD.u (LU.call (top_calls) Tryd.func71 rfl rfl Opds.nil) rfl ?_
    refine QD.u (LU.eqlVx vxty Is.rfl' Is.rfl') rfl ?_
    refine QD.nil ?_
    refine LL.nil (after_code ?_)
    refine X.cond rfl (fun h2 => ?_) (fun h2 => ?_)
    · have h2 : v = topV := by simpa using h2
      have hz0 : (0 : Nat) = 0 := rfl
      refine LW.region ?_
      refine X.u (LU.moveS Is.rfl') rfl ?_
      refine X.u (LU.call (bottom_calls) Tryd.func74 rfl rfl Opds.nil) rfl ?_
      refine X.u (LU.lits Tryd.underlying26 Tryd.sizeOf35 Tryd.zeroValue35 (ones rfl) rfl (by decide) (by decide) (Elems.cons Is.rfl' (by exact Cells.agg) Elems.nil) (by (simp; done)) rfl) rfl ?_
      refine X.act (X.append 0 rfl rfl Tryd.underlying26 (El.of (P := Tryd.prog) (z := (.agg #[(.int .u8 0), (.int .u8 0), (.int .u8 0), (.int .u8 0), (.int .u8 0), (.int .u8 0), (.int .u8 0), (.int .u8 0), (.int .u8 0), (.int .u8 0), (.int .u8 0), (.int .u8 0), (.int .u8 0), (.int .u8 0), (.int .u8 0), (.int .u8 0), (.int .u8 0), (.int .u8 0), (.int .u8 0), (.int .u8 0), (.int .u8 0), (.int .u8 0), (.int .u8 0), (.int .u8 0), (.int .u8 0), (.int .u8 0), (.int .u8 0), (.int .u8 0), (.int .u8 0), (.int .u8 0), (.int .u8 0), (.int .u8 0), (.int .i64 0)])) (size := 33) (bytes := 40) rfl rfl rfl) Is.rfl' Is.rfl' (SrcL.slice Tryd.underlying26 (by decide) (by intro e he; rw [List.mem_singleton.1 he]; exact hbl)) (by simp only [Option.getD_some, Option.getD_none, byteEls_length, intEls_length, List.length_append, List.length_cons, List.length_nil, List.length_map, List.length_drop, List.length_take, Int.toNat_natCast]; omega) (by simp only [Option.getD_some, Option.getD_none, byteEls_length, intEls_length, List.length_append, List.length_cons, List.length_nil, List.length_map, List.length_drop, List.length_take, Int.toNat_natCast]; omega) (fun b15 o15 c15 => X.weak (t := 15) (Is.of (y := Vxs [botV] (.tok b15 o15 c15)) (rfl)) ?_))
      refine X.u (LU.assignS Is.rfl') rfl ?_
      refine LL.nil (after_rnd ?_)
      refine X.meets (([botV], b15, o15, c15)) rfl (EnvLe.cons (by rfl) (EnvLe.nil)) (Keeps.cons (by exact Eq.trans (b := .raw _) rfl rfl) (Keeps.cons (by exact Eq.trans (b := .raw _) rfl rfl) (Keeps.cons (by exact Eq.trans (b := .sl _ _ _) rfl rfl) (Keeps.nil)))) (by repeat (exact HSub.refl _)) ?_
      unfold st0; rw [if_pos h2]
    · have h2 : v ≠ topV := by simpa using h2
      have hz0 : (0 : Nat) = 0 := rfl
      refine LW.skip (after_rnd ?_)
      refine X.meets (([], 0, 0, 0)) rfl (EnvLe.cons (by rfl) (EnvLe.nil)) (Keeps.cons (by exact Eq.trans (b := .raw _) rfl rfl) (Keeps.cons (by exact Eq.trans (b := .raw _) rfl rfl) (Keeps.cons (by exact Eq.trans (b := .sl _ _ _) rfl rfl) (Keeps.nil)))) (by repeat (exact HSub.refl _)) ?_
      unfold st0; rw [if_neg h2]
  · rintro ⟨o0, b, o, c⟩ hI
    refine LW.seq ?_
    refine LW.seq ?_
    refine LW.region ?_
    refine X.u (LU.assignR Is.rfl') rfl ?_
    refine LL.nil (after_code ?_)
    refine LW.block ?_
    refine X.loopK (α := Nat × List Vx × Nat × Nat × Nat) (fun ⟨i, out, b_, o_, c_⟩ => [(6, i64 i), (5, Vxs out (.tok b_ o_ c_))]) [2, 3, 4] (fun ⟨i, out, b_, o_, c_⟩ => .tail b_ o_ c_ :: .cells b3 35 (vxL v) :: .cells b2 59 (rgL r) :: Rf) (fun ⟨i, out, b_, o_, c_⟩ => i ≤ r.L.length ∧ (out = st0 v ++ (r.L.take i).flatMap fun a => st1 a v ++ (st2 a v ++ st3 a v)) ∧ out.length ≤ 3 * i + 1) (fun ⟨i, out, b_, o_, c_⟩ => r.L.length - i) ((0, o0, b, o, c)) (EnvLe.cons (by rfl) (EnvLe.cons (by rfl) (EnvLe.nil))) (by repeat (exact HSub.refl _)) ?_ ?_
    · exact ⟨Nat.zero_le _, by rw [hI]; simp, by rw [hI]; omega⟩
    · rintro ⟨i, out, b_, o_, c_⟩ hI
      obtain ⟨hi, ho, hol⟩ := hI
      refine LW.seq ?_
      refine LW.seq ?_
      refine LW.region ?_
      refine X.u (LU.moveR Is.rfl') rfl ?_
      refine X.u (LU.fieldO Tryd.underlying59 rfl Tryd.sizeOf56 (by decide) Is.rfl') rfl ?_
      refine X.u (LU.loadO 2 rfl ⟨Tryd.sizeOf56, Tryd.isAgg56⟩ Is.rfl' (Part.one rfl)) rfl ?_
      refine X.u (LU.lenN Tryd.underlying56 Is.rfl' (by (simp only [Option.getD_some, Option.getD_none, byteEls_length, intEls_length, List.length_append, List.length_cons, List.length_nil, List.length_map, List.length_drop, List.length_take, Int.toNat_natCast]; rfl))) rfl ?_
      refine X.u (LU.lss Is.rfl' Is.rfl') rfl ?_
      refine LL.nil (after_code ?_)
      refine X.cond rfl (fun h5 => ?_) (fun h5 => ?_)
      · try have h5 := of_decide_eq_true h5
        refine LW.skip (after_code ?_)
        refine LW.seq ?_
        refine LW.block ?_
        refine LW.seq ?_
        obtain ⟨a, ha⟩ := at_lt (show i < r.L.length by omega)
        obtain ⟨hne1, hal3⟩ := hne a (List.mem_of_getElem? ha)
        have hal := ad_len a
        have ha1 : a.up.p.1.length = 32 := a.up.p.2
        have ha2 : a.down.p.1.length = 32 := a.down.p.2
        have hdl := vxL_len a.down
        have hpr := placeG_range a.ids v
        have hpos : 0 < a.ids.length := List.length_pos_iff.2 hne1
        have hhd : a.ids[0]? = some (a.ids.headD topV) := by
          cases hq : a.ids with
          | nil => exact absurd hq hne1
          | cons x y => rfl
        obtain ⟨w0, hw0⟩ : ∃ w0, w0 = a.ids.headD topV := ⟨_, rfl⟩
        rw [← hw0] at hhd
        have hhl := vxL_len w0
        have hw32 : w0.p.1.length = 32 := w0.p.2
        have e1 := st1_len a v
        have e2 := st2_len a v
        have e3 := st3_len a v
        refine LW.region ?_
        refine X.u (LU.fieldO Tryd.underlying59 rfl Tryd.sizeOf56 (by decide) Is.rfl') rfl ?_
        refine X.u (LU.loadO 2 rfl ⟨Tryd.sizeOf56, Tryd.isAgg56⟩ Is.rfl' (Part.one rfl)) rfl ?_
        refine X.u (LU.moveR Is.rfl') rfl ?_
        refine X.u (LU.at Tryd.underlying56 ⟨Tryd.sizeOf104, Tryd.isAgg104⟩ Is.rfl' Is.rfl' (by omega) (ads_at ha) (ad_ne a)) rfl ?_
        refine X.u (LU.weak (LU.load ⟨Tryd.sizeOf104, Tryd.isAgg104⟩ Is.rfl' (by assumption) (Part.whole (by assumption))) (Is.of (y := .agg (adL a)) (rfl))) rfl ?_
        refine X.act (X.alloc rfl Tryd.zeroValue104 (by exact Cells.rawagg (by decide)) (fun b7 => ?_))
        refine X.act (X.store 0 rfl Tryd.sizeOf104 Is.rfl' Is.rfl' (by exact Cells.agg) (by assumption) (by exact Nat.le_of_ble_eq_true rfl) ?_)
        refine LL.nil (after_code ?_)
        refine X.meetK (α := List Vx × Nat × Nat × Nat) (fun ⟨u1, p1, p2, p3⟩ => [(5, Vxs u1 (.tok p1 p2 p3))]) [2, 3, 4, 6, 7] (fun ⟨u1, p1, p2, p3⟩ => .tail p1 p2 p3 :: .cells b7 104 (adL a) :: .cells b3 35 (vxL v) :: .cells b2 59 (rgL r) :: Rf) (fun ⟨u1, p1, p2, p3⟩ => u1 = out ++ st1 a v) ?_ ?_
        · refine LW.seq ?_
          refine X.wcells (ys := adL a) (putAt_all (by rw [hal]; rfl)) ?_
          refine X.wghost (H' := .tail b_ o_ c_ :: .cells b7 104 (adL a) :: .cells b3 35 (vxL v) :: .cells b2 59 (rgL r) :: Rf) (by repeat (first | exact HSub.refl _ | refine HSub.pick 1 rfl ?_)) ?_
          refine LW.region ?_
          refine X.u (LU.fieldO Tryd.underlying104 rfl Tryd.sizeOf35 (by decide) Is.rfl') rfl ?_
          refine X.u (LU.weak (LU.loadO 1 rfl ⟨Tryd.sizeOf35, Tryd.isAgg35⟩ Is.rfl' (Part.sub (by (simp; omega)))) (Is.of (y := .agg (vxL a.up)) (congrArg LV.agg (ad_up a)))) rfl ?_
          refine X.u (LU.loadO 2 rfl ⟨Tryd.sizeOf35, Tryd.isAgg35⟩ Is.rfl' (Part.whole (by assumption))) rfl ?_
          refine X.u (LU.eqlVx vxty Is.rfl' Is.rfl') rfl ?_
          refine LL.nil (after_code ?_)
          refine X.cond rfl (fun h8 => ?_) (fun h8 => ?_)
          · have h8 : a.up = v := by simpa using h8
            have hz0 : (0 : Nat) = 0 := rfl
            refine LW.region ?_
            refine X.u (LU.moveS Is.rfl') rfl ?_
            refine X.u (LU.fieldO Tryd.underlying104 rfl Tryd.sizeOf26 (by decide) Is.rfl') rfl ?_
            refine X.u (LU.loadO 1 rfl ⟨Tryd.sizeOf26, Tryd.isAgg26⟩ Is.rfl' (Part.one ((show (adL a)[66]? = some (Vxs a.ids .unk) from ad_ids2 a)))) rfl ?_
            refine X.u (LU.at Tryd.underlying26 ⟨Tryd.sizeOf35, Tryd.isAgg35⟩ Is.rfl' Is.rfl' (by omega) (show (vxs a.ids)[(0 : Int).toNat]? = some (vxL w0) from vxs_at (i := 0) hhd) (vx_ne _)) rfl ?_
            refine X.u (LU.weak (LU.load ⟨Tryd.sizeOf35, Tryd.isAgg35⟩ Is.rfl' (by assumption) (Part.whole (by assumption))) (Is.of (y := .agg (vxL w0)) (rfl))) rfl ?_
            refine X.u (LU.lits Tryd.underlying26 Tryd.sizeOf35 Tryd.zeroValue35 (ones rfl) rfl (by decide) (by decide) (Elems.cons Is.rfl' (by exact Cells.agg) Elems.nil) (by (simp; assumption)) rfl) rfl ?_
            refine X.act (X.append 0 rfl rfl Tryd.underlying26 (El.of (P := Tryd.prog) (z := (.agg #[(.int .u8 0), (.int .u8 0), (.int .u8 0), (.int .u8 0), (.int .u8 0), (.int .u8 0), (.int .u8 0), (.int .u8 0), (.int .u8 0), (.int .u8 0), (.int .u8 0), (.int .u8 0), (.int .u8 0), (.int .u8 0), (.int .u8 0), (.int .u8 0), (.int .u8 0), (.int .u8 0), (.int .u8 0), (.int .u8 0), (.int .u8 0), (.int .u8 0), (.int .u8 0), (.int .u8 0), (.int .u8 0), (.int .u8 0), (.int .u8 0), (.int .u8 0), (.int .u8 0), (.int .u8 0), (.int .u8 0), (.int .u8 0), (.int .i64 0)])) (size := 33) (bytes := 40) rfl rfl rfl) Is.rfl' Is.rfl' (SrcL.slice Tryd.underlying26 (by decide) (by intro e he; rw [List.mem_singleton.1 he]; exact vxL_len _)) (by simp only [Option.getD_some, Option.getD_none, byteEls_length, intEls_length, List.length_append, List.length_cons, List.length_nil, List.length_map, List.length_drop, List.length_take, Int.toNat_natCast]; omega) (by simp only [Option.getD_some, Option.getD_none, byteEls_length, intEls_length, List.length_append, List.length_cons, List.length_nil, List.length_map, List.length_drop, List.length_take, Int.toNat_natCast]; omega) (fun b38 o38 c38 => X.weak (t := 38) (Is.of (y := Vxs (out ++ [w0]) (.tok b38 o38 c38)) (congrArg (fun z => LV.sl 33 z (.tok b38 o38 c38)) (vxs_app out [w0]))) ?_))
            refine X.u (LU.assignS Is.rfl') rfl ?_
            refine LL.nil (after_rnd ?_)
            refine X.meets ((out ++ [w0], b38, o38, c38)) rfl (EnvLe.cons (by rfl) (EnvLe.nil)) (Keeps.cons (by exact Eq.trans (b := .raw _) rfl rfl) (Keeps.cons (by exact Eq.trans (b := .raw _) rfl rfl) (Keeps.cons (by exact Eq.trans (b := .sl _ _ _) rfl rfl) (Keeps.cons (by exact Eq.trans (b := .raw _) rfl rfl) (Keeps.cons (by exact Eq.trans (b := .raw _) rfl rfl) (Keeps.nil)))))) (by repeat (exact HSub.refl _)) ?_
            unfold st1; rw [if_pos h8, ← hw0]
          · have h8 : a.up ≠ v := by simpa using h8
            have hz0 : (0 : Nat) = 0 := rfl
            refine LW.skip (after_rnd ?_)
            refine X.meets ((out, b_, o_, c_)) rfl (EnvLe.cons (by rfl) (EnvLe.nil)) (Keeps.cons (by exact Eq.trans (b := .raw _) rfl rfl) (Keeps.cons (by exact Eq.trans (b := .raw _) rfl rfl) (Keeps.cons (by exact Eq.trans (b := .sl _ _ _) rfl rfl) (Keeps.cons (by exact Eq.trans (b := .raw _) rfl rfl) (Keeps.cons (by exact Eq.trans (b := .raw _) rfl rfl) (Keeps.nil)))))) (by repeat (exact HSub.refl _)) ?_
            unfold st1; rw [if_neg h8, List.append_nil]
        · rintro ⟨u1, p1, p2, p3⟩ hI
          have hu1 : u1.length = out.length + (st1 a v).length := by rw [hI, List.length_append]
          have hI1 := hI
          refine LW.seq ?_
          refine LW.region ?_
          refine X.u (LU.fieldO Tryd.underlying104 rfl Tryd.sizeOf26 (by decide) Is.rfl') rfl ?_
          refine X.u (LU.loadO 1 rfl ⟨Tryd.sizeOf26, Tryd.isAgg26⟩ Is.rfl' (Part.one ((show (adL a)[66]? = some (Vxs a.ids .unk) from ad_ids2 a)))) rfl ?_
          refine X.u (LU.loadO 2 rfl ⟨Tryd.sizeOf35, Tryd.isAgg35⟩ Is.rfl' (Part.whole (by assumption))) rfl ?_
          refine X.u (LU.call (place_calls a.ids .unk v (by omega)) Tryd.func63 rfl rfl (Opds.cons Is.rfl' (Opds.cons Is.rfl' Opds.nil))) rfl ?_
          refine X.u (LU.assignR Is.rfl') rfl ?_
          refine LL.nil (after_code ?_)
          refine X.meetK (α := List Vx × Nat × Nat × Nat) (fun ⟨u2, p4, p5, p6⟩ => [(5, Vxs u2 (.tok p4 p5 p6))]) [2, 3, 4, 6, 7, 8] (fun ⟨u2, p4, p5, p6⟩ => .tail p4 p5 p6 :: .cells b7 104 (adL a) :: .cells b3 35 (vxL v) :: .cells b2 59 (rgL r) :: Rf) (fun ⟨u2, p4, p5, p6⟩ => u2 = u1 ++ st2 a v) ?_ ?_
          · refine LW.seq ?_
            refine LW.region ?_
            refine X.u (LU.moveR Is.rfl') rfl ?_
            refine X.u (LU.geq Is.rfl' Is.rfl') rfl ?_
            refine X.u (LU.moveR Is.rfl') rfl ?_
            refine X.gT rfl rfl (fun hg => LU.moveR (by exact Is.rfl')) rfl ?_
            refine X.gT rfl rfl (fun hg => LU.addN (by exact Is.whenE hg) (by exact Is.rfl') (wrap_i64 (by omega) (by omega))) rfl ?_
            refine X.gT rfl rfl (fun hg => LU.fieldO Tryd.underlying104 rfl Tryd.sizeOf26 (by decide) (by exact Is.rfl')) rfl ?_
            refine X.gT rfl rfl (fun hg => LU.loadO 1 rfl ⟨Tryd.sizeOf26, Tryd.isAgg26⟩ (by exact Is.whenE hg) (Part.one ((show (adL a)[66]? = some (Vxs a.ids .unk) from ad_ids2 a)))) rfl ?_
            refine X.gT rfl rfl (fun hg => LU.lenN Tryd.underlying26 (by exact Is.whenE hg) (by (simp only [Option.getD_some, Option.getD_none, byteEls_length, intEls_length, List.length_append, List.length_cons, List.length_nil, List.length_map, List.length_drop, List.length_take, Int.toNat_natCast]; rfl))) rfl ?_
            refine X.gT rfl rfl (fun hg => LU.lss (by exact Is.whenE hg) (by exact Is.whenE hg)) rfl ?_
            refine X.u (LU.pickAnd Is.rfl' (fun hq => (by exact Is.whenE hq)) Is.rfl') rfl ?_
            refine LL.nil (after_code ?_)
            refine X.cond rfl (fun h11 => ?_) (fun h11 => ?_)
            · have h11 : (decide (0 ≤ placeG a.ids v) && decide (placeG a.ids v + 1 < a.ids.length)) = true := by simpa using h11
              have h11b : 0 ≤ placeG a.ids v ∧ placeG a.ids v + 1 < a.ids.length := by simpa using h11
              obtain ⟨kk, hkk⟩ : ∃ kk : Nat, placeG a.ids v + 1 = kk := ⟨(placeG a.ids v + 1).toNat, by omega⟩
              obtain ⟨z, hz⟩ := at_lt (show kk < a.ids.length by omega)
              have hzl := vxL_len z
              have hz32 : z.p.1.length = 32 := z.p.2
              have hst : st2 a v = [z] := by
                unfold st2
                rw [if_pos h11, hkk, Int.toNat_natCast, List.getD_eq_getElem?_getD, hz]; rfl
              refine LW.region ?_
              refine X.u (LU.moveS Is.rfl') rfl ?_
              refine X.u (LU.fieldO Tryd.underlying104 rfl Tryd.sizeOf26 (by decide) Is.rfl') rfl ?_
              refine X.u (LU.loadO 1 rfl ⟨Tryd.sizeOf26, Tryd.isAgg26⟩ Is.rfl' (Part.one ((show (adL a)[66]? = some (Vxs a.ids .unk) from ad_ids2 a)))) rfl ?_
              refine X.u (LU.moveR Is.rfl') rfl ?_
              refine X.u (LU.weak (LU.addN Is.rfl' Is.rfl' (wrap_i64 (by omega) (by omega))) (Is.of (y := i64 (kk : Nat)) (congrArg i64 hkk))) rfl ?_
              refine X.u (LU.at Tryd.underlying26 ⟨Tryd.sizeOf35, Tryd.isAgg35⟩ Is.rfl' Is.rfl' (by omega) (vxs_at hz) (vx_ne z)) rfl ?_
              refine X.u (LU.weak (LU.load ⟨Tryd.sizeOf35, Tryd.isAgg35⟩ Is.rfl' (by assumption) (Part.whole (by assumption))) (Is.of (y := .agg (vxL z)) (rfl))) rfl ?_
              refine X.u (LU.lits Tryd.underlying26 Tryd.sizeOf35 Tryd.zeroValue35 (ones rfl) rfl (by decide) (by decide) (Elems.cons Is.rfl' (by exact Cells.agg) Elems.nil) (by (simp; assumption)) rfl) rfl ?_
              refine X.act (X.append 0 rfl rfl Tryd.underlying26 (El.of (P := Tryd.prog) (z := (.agg #[(.int .u8 0), (.int .u8 0), (.int .u8 0), (.int .u8 0), (.int .u8 0), (.int .u8 0), (.int .u8 0), (.int .u8 0), (.int .u8 0), (.int .u8 0), (.int .u8 0), (.int .u8 0), (.int .u8 0), (.int .u8 0), (.int .u8 0), (.int .u8 0), (.int .u8 0), (.int .u8 0), (.int .u8 0), (.int .u8 0), (.int .u8 0), (.int .u8 0), (.int .u8 0), (.int .u8 0), (.int .u8 0), (.int .u8 0), (.int .u8 0), (.int .u8 0), (.int .u8 0), (.int .u8 0), (.int .u8 0), (.int .u8 0), (.int .i64 0)])) (size := 33) (bytes := 40) rfl rfl rfl) Is.rfl' Is.rfl' (SrcL.slice Tryd.underlying26 (by decide) (by intro e he; rw [List.mem_singleton.1 he]; exact hzl)) (by simp only [Option.getD_some, Option.getD_none, byteEls_length, intEls_length, List.length_append, List.length_cons, List.length_nil, List.length_map, List.length_drop, List.length_take, Int.toNat_natCast]; omega) (by simp only [Option.getD_some, Option.getD_none, byteEls_length, intEls_length, List.length_append, List.length_cons, List.length_nil, List.length_map, List.length_drop, List.length_take, Int.toNat_natCast]; omega) (fun b61 o61 c61 => X.weak (t := 61) (Is.of (y := Vxs (u1 ++ [z]) (.tok b61 o61 c61)) (congrArg (fun z => LV.sl 33 z (.tok b61 o61 c61)) (vxs_app u1 [z]))) ?_))
              refine X.u (LU.assignS Is.rfl') rfl ?_
              refine LL.nil (after_rnd ?_)
              refine X.meets ((u1 ++ [z], b61, o61, c61)) rfl (EnvLe.cons (by rfl) (EnvLe.nil)) (Keeps.cons (by exact Eq.trans (b := .raw _) rfl rfl) (Keeps.cons (by exact Eq.trans (b := .raw _) rfl rfl) (Keeps.cons (by exact Eq.trans (b := .sl _ _ _) rfl rfl) (Keeps.cons (by exact Eq.trans (b := .raw _) rfl rfl) (Keeps.cons (by exact Eq.trans (b := .raw _) rfl rfl) (Keeps.cons (by exact Eq.trans (b := .raw _) rfl rfl) (Keeps.nil))))))) (by repeat (exact HSub.refl _)) ?_
              rw [hst]
            · have h11 : (decide (0 ≤ placeG a.ids v) && decide (placeG a.ids v + 1 < a.ids.length)) = false := by simpa using h11
              have hst : st2 a v = [] := by unfold st2; rw [if_neg (by rw [h11]; decide)]
              refine LW.skip (after_rnd ?_)
              refine X.meets ((u1, p1, p2, p3)) rfl (EnvLe.cons (by rfl) (EnvLe.nil)) (Keeps.cons (by exact Eq.trans (b := .raw _) rfl rfl) (Keeps.cons (by exact Eq.trans (b := .raw _) rfl rfl) (Keeps.cons (by exact Eq.trans (b := .sl _ _ _) rfl rfl) (Keeps.cons (by exact Eq.trans (b := .raw _) rfl rfl) (Keeps.cons (by exact Eq.trans (b := .raw _) rfl rfl) (Keeps.cons (by exact Eq.trans (b := .raw _) rfl rfl) (Keeps.nil))))))) (by repeat (exact HSub.refl _)) ?_
              rw [hst, List.append_nil]
          · rintro ⟨u2, p4, p5, p6⟩ hI
            have hu2 : u2.length = u1.length + (st2 a v).length := by rw [hI, List.length_append]
            have hI2 := hI
            refine LW.seq ?_
            refine LW.region ?_
            refine X.u (LU.moveR Is.rfl') rfl ?_
            refine X.u (LU.geq Is.rfl' Is.rfl') rfl ?_
            refine X.u (LU.moveR Is.rfl') rfl ?_
            refine X.gT rfl rfl (fun hg => LU.moveR (by exact Is.rfl')) rfl ?_
            refine X.gT rfl rfl (fun hg => LU.addN (by exact Is.whenE hg) (by exact Is.rfl') (wrap_i64 (by omega) (by omega))) rfl ?_
            refine X.gT rfl rfl (fun hg => LU.fieldO Tryd.underlying104 rfl Tryd.sizeOf26 (by decide) (by exact Is.rfl')) rfl ?_
            refine X.gT rfl rfl (fun hg => LU.loadO 1 rfl ⟨Tryd.sizeOf26, Tryd.isAgg26⟩ (by exact Is.whenE hg) (Part.one ((show (adL a)[66]? = some (Vxs a.ids .unk) from ad_ids2 a)))) rfl ?_
            refine X.gT rfl rfl (fun hg => LU.lenN Tryd.underlying26 (by exact Is.whenE hg) (by (simp only [Option.getD_some, Option.getD_none, byteEls_length, intEls_length, List.length_append, List.length_cons, List.length_nil, List.length_map, List.length_drop, List.length_take, Int.toNat_natCast]; rfl))) rfl ?_
            refine X.gT rfl rfl (fun hg => LU.eql (by exact Is.whenE hg) (by exact Is.whenE hg)) rfl ?_
            refine X.u (LU.pickAnd Is.rfl' (fun hq => (by exact Is.whenE hq)) Is.rfl') rfl ?_
            refine LL.nil (after_code ?_)
            refine X.cond rfl (fun h13 => ?_) (fun h13 => ?_)
            · have h13 : (decide (0 ≤ placeG a.ids v) && decide (placeG a.ids v + 1 = a.ids.length)) = true := by simpa using h13
              have hs3 : st3 a v = [a.down] := by unfold st3; rw [if_pos h13]
              refine LW.region ?_
              refine X.u (LU.moveS Is.rfl') rfl ?_
              refine X.u (LU.fieldO Tryd.underlying104 rfl Tryd.sizeOf35 (by decide) Is.rfl') rfl ?_
              refine X.u (LU.weak (LU.loadO 1 rfl ⟨Tryd.sizeOf35, Tryd.isAgg35⟩ Is.rfl' (Part.sub (by (simp; omega)))) (Is.of (y := .agg (vxL a.down)) (congrArg LV.agg (ad_down a)))) rfl ?_
              refine X.u (LU.lits Tryd.underlying26 Tryd.sizeOf35 Tryd.zeroValue35 (ones rfl) rfl (by decide) (by decide) (Elems.cons Is.rfl' (by exact Cells.agg) Elems.nil) (by (simp; assumption)) rfl) rfl ?_
              refine X.act (X.append 0 rfl rfl Tryd.underlying26 (El.of (P := Tryd.prog) (z := (.agg #[(.int .u8 0), (.int .u8 0), (.int .u8 0), (.int .u8 0), (.int .u8 0), (.int .u8 0), (.int .u8 0), (.int .u8 0), (.int .u8 0), (.int .u8 0), (.int .u8 0), (.int .u8 0), (.int .u8 0), (.int .u8 0), (.int .u8 0), (.int .u8 0), (.int .u8 0), (.int .u8 0), (.int .u8 0), (.int .u8 0), (.int .u8 0), (.int .u8 0), (.int .u8 0), (.int .u8 0), (.int .u8 0), (.int .u8 0), (.int .u8 0), (.int .u8 0), (.int .u8 0), (.int .u8 0), (.int .u8 0), (.int .u8 0), (.int .i64 0)])) (size := 33) (bytes := 40) rfl rfl rfl) Is.rfl' Is.rfl' (SrcL.slice Tryd.underlying26 (by decide) (by intro e he; rw [List.mem_singleton.1 he]; exact hdl)) (by simp only [Option.getD_some, Option.getD_none, byteEls_length, intEls_length, List.length_append, List.length_cons, List.length_nil, List.length_map, List.length_drop, List.length_take, Int.toNat_natCast]; omega) (by simp only [Option.getD_some, Option.getD_none, byteEls_length, intEls_length, List.length_append, List.length_cons, List.length_nil, List.length_map, List.length_drop, List.length_take, Int.toNat_natCast]; omega) (fun b76 o76 c76 => X.weak (t := 76) (Is.of (y := Vxs (u2 ++ [a.down]) (.tok b76 o76 c76)) (congrArg (fun z => LV.sl 33 z (.tok b76 o76 c76)) (vxs_app u2 [a.down]))) ?_))
              refine X.u (LU.assignS Is.rfl') rfl ?_
              refine LL.nil (after_blk (after_code ?_))
              refine LW.region ?_
              refine X.u (LU.moveR Is.rfl') rfl ?_
              refine X.u (LU.addN Is.rfl' Is.rfl' (wrap_i64 (by omega) (by omega))) rfl ?_
              refine X.u (LU.assignR Is.rfl') rfl ?_
              refine LL.nil (after_rnd ?_)
              refine X.next ((i + 1, u2 ++ [a.down], b76, o76, c76)) rfl (EnvLe.cons (by rfl) (EnvLe.cons (by rfl) (EnvLe.nil))) (Keeps.cons (by exact Eq.trans (b := .raw _) rfl rfl) (Keeps.cons (by exact Eq.trans (b := .raw _) rfl rfl) (Keeps.cons (by exact Eq.trans (b := .sl _ _ _) rfl rfl) (Keeps.nil)))) (by repeat (first | exact HSub.refl _ | refine HSub.pick 0 rfl ?_ | refine HSub.pick 1 rfl ?_ | refine HSub.drop ?_)) ?_ ?_
              · refine ⟨by omega, ?_, by rw [List.length_append, List.length_singleton]; omega⟩
                rw [take_snoc ha, List.flatMap_append, ← List.append_assoc, ← ho, hI2, hI1]; simp [hs3]
              · (simp; omega)
            · have h13 : (decide (0 ≤ placeG a.ids v) && decide (placeG a.ids v + 1 = a.ids.length)) = false := by simpa using h13
              have hs3 : st3 a v = [] := by unfold st3; rw [if_neg (by rw [h13]; decide)]
              refine LW.skip (after_blk (after_code ?_))
              refine LW.region ?_
              refine X.u (LU.moveR Is.rfl') rfl ?_
              refine X.u (LU.addN Is.rfl' Is.rfl' (wrap_i64 (by omega) (by omega))) rfl ?_
              refine X.u (LU.assignR Is.rfl') rfl ?_
              refine LL.nil (after_rnd ?_)
              refine X.next ((i + 1, u2, p4, p5, p6)) rfl (EnvLe.cons (by rfl) (EnvLe.cons (by rfl) (EnvLe.nil))) (Keeps.cons (by exact Eq.trans (b := .raw _) rfl rfl) (Keeps.cons (by exact Eq.trans (b := .raw _) rfl rfl) (Keeps.cons (by exact Eq.trans (b := .sl _ _ _) rfl rfl) (Keeps.nil)))) (by repeat (first | exact HSub.refl _ | refine HSub.pick 0 rfl ?_ | refine HSub.pick 1 rfl ?_ | refine HSub.drop ?_)) ?_ ?_
              · refine ⟨by omega, ?_, by omega⟩
                rw [take_snoc ha, List.flatMap_append, ← List.append_assoc, ← ho, hI2, hI1]; simp [hs3]
              · (simp; omega)
      · try have h5 := of_decide_eq_false h5
        refine LW.exit (exit_code (exit_rnd (exit_blk (after_code ?_))))
        refine LW.seq ?_
        refine LW.region ?_
        refine X.u (LU.moveS Is.rfl') rfl ?_
        refine X.u (LU.assignS Is.rfl') rfl ?_
        refine LL.nil (after_code ?_)
        refine LW.ret (after_end ?_)
        refine X.ret (H' := [.tail b_ o_ c_]) (Res.one Is.rfl') (by repeat (first | exact HSub.refl _ | refine HSub.pick 0 rfl ?_ | refine HSub.drop ?_)) ?_
        exact ⟨b_, o_, c_, by rw [ho, List.take_of_length_le (by omega)]; rfl, rfl⟩
end Go.Proofs.YtolpkeajokjbjaaDoor
