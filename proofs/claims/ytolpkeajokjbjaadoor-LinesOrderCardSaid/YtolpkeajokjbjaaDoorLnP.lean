/- Lines: the document's graph; Ids, Has, Kills. -/
import Derived.Test.YtolpkeajokjbjaaDoorLnO
set_option linter.unusedVariables false
set_option linter.unusedSimpArgs false
namespace Go.Proofs.YtolpkeajokjbjaaDoor
open Go.RowKit Go.L Go.Lib
attribute [local irreducible] LL LW LO
structure Ad where
  up : Vx
  down : Vx
  ids : List Vx
  texts : List (List UInt8)
structure De where
  v : Vx
  by_ : Hs
deriving DecidableEq
structure Rg where
  L : List Ad
  D : List De
abbrev adL (a : Ad) : List LV := vxL a.up ++ (vxL a.down ++ [Vxs a.ids .unk, .sl 1 (strsL a.texts) .unk])
abbrev deL (d : De) : List LV := vxL d.v ++ hsL d.by_
abbrev ads (l : List Ad) : List (List LV) := l.map adL
abbrev des (l : List De) : List (List LV) := l.map deL
abbrev rgL (r : Rg) : List LV := [.sl 68 (ads r.L) .unk, .sl 65 (des r.D) .unk]
theorem ad_len (a : Ad) : (adL a).length = 68 := by simp [a.up.p.2, a.down.p.2]
theorem de_len (d : De) : (deL d).length = 65 := by simp [d.v.p.2, d.by_.2]
theorem ad_ne (a : Ad) : adL a ≠ [] := fun c => by have := ad_len a; rw [c] at this; cases this
theorem de_ne (d : De) : deL d ≠ [] := fun c => by have := de_len d; rw [c] at this; cases this
theorem ads_at {l : List Ad} {i : Nat} {x : Ad} (h : l[i]? = some x) : (ads l)[(i : Int).toNat]? = some (adL x) := by
  rw [Int.toNat_natCast, List.getElem?_map, h]; rfl
theorem des_at {l : List De} {i : Nat} {x : De} (h : l[i]? = some x) : (des l)[(i : Int).toNat]? = some (deL x) := by
  rw [Int.toNat_natCast, List.getElem?_map, h]; rfl
theorem ad_up (a : Ad) : ((adL a).drop 0).take 33 = vxL a.up := by rw [List.drop_zero, List.take_left' (vxL_len a.up)]
theorem ad_down (a : Ad) : ((adL a).drop 33).take 33 = vxL a.down := by rw [List.drop_left' (vxL_len a.up), List.take_left' (vxL_len a.down)]
theorem ad_ids (a : Ad) : ((adL a).drop 66).take 1 = [Vxs a.ids .unk] := by
  rw [show (66 : Nat) = 33 + 33 from rfl, ← List.drop_drop, List.drop_left' (vxL_len a.up), List.drop_left' (vxL_len a.down)]; rfl
theorem ad_ids2 (a : Ad) : (adL a)[66]? = some (Vxs a.ids .unk) := by
  rw [List.getElem?_append_right (by rw [vxL_len]; decide), vxL_len, List.getElem?_append_right (by rw [vxL_len]; decide), vxL_len]; rfl
theorem de_v (d : De) : ((deL d).drop 0).take 33 = vxL d.v := by rw [List.drop_zero, List.take_left' (vxL_len d.v)]
theorem de_by (d : De) : ((deL d).drop 33).take 32 = hsL d.by_ := by rw [List.drop_left' (vxL_len d.v), List.take_of_length_le (by rw [hsL_len]; exact Nat.le_refl _)]
def idsG (l : List Ad) : List Vx := l.flatMap (·.ids)
theorem ids_snoc (l : List Ad) (a : Ad) : idsG (l ++ [a]) = idsG l ++ a.ids := by unfold idsG; rw [List.flatMap_append]; simp
theorem ids_take_le (l : List Ad) (i : Nat) : (idsG (l.take i)).length ≤ (idsG l).length := by
  conv => rhs; rw [← List.take_append_drop i l]
  unfold idsG
  rw [List.flatMap_append, List.length_append]
  omega
set_option maxHeartbeats 1000000 in
set_option maxRecDepth 100000 in
theorem ids_calls (r : Rg) (hl : r.L.length < 1000000) (hi : (idsG r.L).length < 1000000) : LCalls Tryd.prog 61 [.agg (rgL r)] [] (fun x H' => x = Vxs (idsG r.L) .unk ∧ H' = []) := by
  refine LCalls.of Tryd.func61 rfl Tryd.ntmps61 Tryd.results61 rfl (fun Rf => ?_)
  refine LW.seq ?_
  refine LW.region ?_
  refine X.act (X.box rfl Is.rfl' (by exact Cells.agg) (fun b1 => ?_))
  refine X.u (LU.assign (Is.nil 33)) rfl ?_
  refine LL.nil (after_code ?_)
  refine LW.seq ?_
  refine LW.region ?_
  refine X.u (LU.assign (Is.nil 33)) rfl ?_
  refine LL.nil (after_code ?_)
  refine LW.seq ?_
  refine LW.seq ?_
  refine LW.region ?_
  refine X.u (LU.assignR Is.rfl') rfl ?_
  refine LL.nil (after_code ?_)
  refine LW.block ?_
  refine X.wweak (t := 3) (v := Vxs [] (.tok 0 0 0)) (Is.full_tok 0 0) ?_
  refine X.wghost (HSub.tail0 0 0 0 (Nat.le_refl _) _) ?_
  refine X.loopK (α := Nat × Nat × Nat × Nat) (fun ⟨i, b, o, c⟩ => [(4, i64 i), (3, Vxs (idsG (r.L.take i)) (.tok b o c))]) [1, 2] (fun ⟨i, b, o, c⟩ => .tail b o c :: .cells b1 59 (rgL r) :: Rf) (fun ⟨i, b, o, c⟩ => i ≤ r.L.length) (fun ⟨i, b, o, c⟩ => r.L.length - i) ((0, 0, 0, 0)) (EnvLe.cons (by rfl) (EnvLe.cons (by rfl) (EnvLe.nil))) (by repeat (exact HSub.refl _)) ?_ ?_
  · exact Nat.zero_le _
  · rintro ⟨i, b, o, c⟩ hI
    refine LW.seq ?_
    refine LW.seq ?_
    refine LW.region ?_
    refine X.u (LU.moveR Is.rfl') rfl ?_
    refine X.u (LU.fieldO Tryd.underlying59 rfl Tryd.sizeOf56 (by decide) Is.rfl') rfl ?_
    refine X.u (LU.loadO 1 rfl ⟨Tryd.sizeOf56, Tryd.isAgg56⟩ Is.rfl' (Part.one rfl)) rfl ?_
    refine X.u (LU.lenN Tryd.underlying56 Is.rfl' (by (simp only [Option.getD_some, Option.getD_none, byteEls_length, intEls_length, List.length_append, List.length_cons, List.length_nil, List.length_map, List.length_drop, List.length_take, Int.toNat_natCast]; rfl))) rfl ?_
    refine X.u (LU.lss Is.rfl' Is.rfl') rfl ?_
    refine LL.nil (after_code ?_)
    refine X.cond rfl (fun h3 => ?_) (fun h3 => ?_)
    · try have h3 := of_decide_eq_true h3
      refine LW.skip (after_code ?_)
      refine LW.seq ?_
      refine LW.block ?_
      obtain ⟨a, ha⟩ := at_lt (show i < r.L.length by omega)
      have hal := ad_len a
      have ha1 : a.up.p.1.length = 32 := a.up.p.2
      have ha2 : a.down.p.1.length = 32 := a.down.p.2
      have h1 := ids_take_le r.L i
      have h2 := ids_take_le r.L (i + 1)
      rw [take_snoc ha, ids_snoc, List.length_append] at h2
      refine LW.region ?_
      refine X.u (LU.moveS Is.rfl') rfl ?_
      refine X.u (LU.fieldO Tryd.underlying59 rfl Tryd.sizeOf56 (by decide) Is.rfl') rfl ?_
      refine X.u (LU.loadO 1 rfl ⟨Tryd.sizeOf56, Tryd.isAgg56⟩ Is.rfl' (Part.one rfl)) rfl ?_
      refine X.u (LU.moveR Is.rfl') rfl ?_
      refine X.u (LU.at Tryd.underlying56 ⟨Tryd.sizeOf104, Tryd.isAgg104⟩ Is.rfl' Is.rfl' (by omega) (ads_at ha) (ad_ne a)) rfl ?_
      refine X.u (LU.weak (LU.fieldP Tryd.underlying104 rfl ⟨Tryd.sizeOf26, Tryd.isAgg26⟩ (by decide) Is.rfl' (by (simp; omega))) (Is.of (y := .pin [Vxs a.ids .unk]) (congrArg LV.pin (ad_ids a)))) rfl ?_
      refine X.u (LU.load ⟨Tryd.sizeOf26, Tryd.isAgg26⟩ Is.rfl' (by (simp; done)) (Part.one rfl)) rfl ?_
      refine X.act (X.append 0 rfl rfl Tryd.underlying26 (El.of (P := Tryd.prog) (z := (.agg #[(.int .u8 0), (.int .u8 0), (.int .u8 0), (.int .u8 0), (.int .u8 0), (.int .u8 0), (.int .u8 0), (.int .u8 0), (.int .u8 0), (.int .u8 0), (.int .u8 0), (.int .u8 0), (.int .u8 0), (.int .u8 0), (.int .u8 0), (.int .u8 0), (.int .u8 0), (.int .u8 0), (.int .u8 0), (.int .u8 0), (.int .u8 0), (.int .u8 0), (.int .u8 0), (.int .u8 0), (.int .u8 0), (.int .u8 0), (.int .u8 0), (.int .u8 0), (.int .u8 0), (.int .u8 0), (.int .u8 0), (.int .u8 0), (.int .i64 0)])) (size := 33) (bytes := 40) rfl rfl rfl) Is.rfl' Is.rfl' (SrcL.slice Tryd.underlying26 (by decide) (vxs_size a.ids)) (by simp only [Option.getD_some, Option.getD_none, byteEls_length, intEls_length, List.length_append, List.length_cons, List.length_nil, List.length_map, List.length_drop, List.length_take, Int.toNat_natCast]; omega) (by simp only [Option.getD_some, Option.getD_none, byteEls_length, intEls_length, List.length_append, List.length_cons, List.length_nil, List.length_map, List.length_drop, List.length_take, Int.toNat_natCast]; omega) (fun b19 o19 c19 => X.weak (t := 19) (Is.of (y := Vxs (idsG (r.L.take (i + 1))) (.tok b19 o19 c19)) (congrArg (fun z => LV.sl 33 z (.tok b19 o19 c19)) (by rw [take_snoc ha, ids_snoc]; exact vxs_app _ _))) ?_))
      refine X.u (LU.assignS Is.rfl') rfl ?_
      refine LL.nil (after_blk (after_code ?_))
      refine LW.region ?_
      refine X.u (LU.moveR Is.rfl') rfl ?_
      refine X.u (LU.addN Is.rfl' Is.rfl' (wrap_i64 (by omega) (by omega))) rfl ?_
      refine X.u (LU.assignR Is.rfl') rfl ?_
      refine LL.nil (after_rnd ?_)
      refine X.next ((i + 1, b19, o19, c19)) rfl (EnvLe.cons (by rfl) (EnvLe.cons (by rfl) (EnvLe.nil))) (Keeps.cons (by exact Eq.trans (b := .raw _) rfl rfl) (Keeps.cons (by exact Eq.trans (b := .sl _ _ _) rfl rfl) (Keeps.nil))) (by repeat (exact HSub.refl _)) ?_ ?_
      · omega
      · (simp; omega)
    · try have h3 := of_decide_eq_false h3
      refine LW.exit (exit_code (exit_rnd (exit_blk (after_code ?_))))
      refine LW.seq ?_
      refine LW.region ?_
      refine X.u (LU.moveS Is.rfl') rfl ?_
      refine X.u (LU.assignS Is.rfl') rfl ?_
      refine LL.nil (after_code ?_)
      refine LW.ret (after_end ?_)
      refine X.ret (H' := []) (Res.one (by exact IsS rfl)) (by repeat (first | exact HSub.refl _ | refine HSub.drop ?_)) ?_
      exact ⟨by rw [List.take_of_length_le (by omega)], rfl⟩
def hasG (r : Rg) (v : Vx) : Bool := endsB v || decide (v ∈ idsG r.L)
set_option maxHeartbeats 1000000 in
set_option maxRecDepth 100000 in
theorem rhas_calls (r : Rg) (v : Vx) (hl : r.L.length < 1000000) (hi : (idsG r.L).length < 1000000) : LCalls Tryd.prog 47 [.agg (rgL r), .agg (vxL v)] [] (fun x H' => x = bl (hasG r v) ∧ H' = []) := by
  have hvl := vxL_len v
  refine LCalls.of Tryd.func47 rfl Tryd.ntmps47 Tryd.results47 rfl (fun Rf => ?_)
  refine LW.seq ?_
  refine LW.region ?_
  refine X.act (X.box rfl Is.rfl' (by exact Cells.agg) (fun b2 => ?_))
  refine X.act (X.box rfl Is.rfl' (by exact Cells.agg) (fun b3 => ?_))
  refine X.u (LU.assignR Is.rfl') rfl ?_
  refine LL.nil (after_code ?_)
  refine LW.seq ?_
  refine X.drawM 10 rfl (by kernel_rfl) rfl ?_
  refine QD.u (LU.loadO 0 rfl ⟨Tryd.sizeOf35, Tryd.isAgg35⟩ Is.rfl' (Part.whole (by assumption))) rfl ?_
  refine QD.u (LU.call (rends_calls v) Tryd.func64 rfl rfl (Opds.cons Is.rfl' Opds.nil)) rfl ?_
  refine QD.u (LU.moveR Is.rfl') rfl ?_
  refine QD.gF rfl rfl (fun hg => LU.loadO 1 rfl ⟨Tryd.sizeOf59, Tryd.isAgg59⟩ (by exact Is.rfl') (Part.whole (by (simp; done)))) rfl ?_
  refine QD.gF rfl rfl (fun hg => LU.call (ids_calls r hl hi) Tryd.func61 rfl rfl (Opds.cons (by exact Is.whenN hg) Opds.nil)) rfl ?_
  refine QD.gF rfl rfl (fun hg => LU.loadO 0 rfl ⟨Tryd.sizeOf35, Tryd.isAgg35⟩ (by exact Is.rfl') (Part.whole (by assumption))) rfl ?_
  refine QD.gF rfl rfl (fun hg => LU.call (place_calls (idsG r.L) .unk v (by omega)) Tryd.func63 rfl rfl (Opds.cons (by exact Is.whenN hg) (Opds.cons (by exact Is.whenN hg) Opds.nil))) rfl ?_
  refine QD.gF rfl rfl (fun hg => LU.geq (by exact Is.whenN hg) (by exact Is.rfl')) rfl ?_
  refine QD.u (LU.weak (LU.pickOr Is.rfl' Is.rfl' (fun hq => (by exact Is.whenN hq))) (Is.of (y := bl (hasG r v)) (by unfold hasG; rw [← placeG_in]; try (cases endsB v <;> rfl)))) rfl ?_
  refine QD.u (LU.assignR Is.rfl') rfl ?_
  refine QD.nil ?_
  refine LL.nil (after_code ?_)
  refine LW.ret (after_end ?_)
  refine X.ret (H' := []) (Res.one (by exact IsR rfl)) (by repeat (first | exact HSub.refl _ | refine HSub.drop ?_)) ?_
  exact ⟨rfl, rfl⟩
def killsG (r : Rg) (v : Vx) : Nat := (r.D.filter fun d => decide (d.v = v)).length
set_option maxHeartbeats 1000000 in
set_option maxRecDepth 100000 in
theorem rkills_calls (r : Rg) (v : Vx) (hl : r.D.length < 1000000) : LCalls Tryd.prog 60 [.agg (rgL r), .agg (vxL v)] [] (fun x H' => x = i64 (killsG r v : Nat) ∧ H' = []) := by
  have hvl := vxL_len v
  refine LCalls.of Tryd.func60 rfl Tryd.ntmps60 Tryd.results60 rfl (fun Rf => ?_)
  refine LW.seq ?_
  refine LW.region ?_
  refine X.act (X.box rfl Is.rfl' (by exact Cells.agg) (fun b2 => ?_))
  refine X.act (X.box rfl Is.rfl' (by exact Cells.agg) (fun b3 => ?_))
  refine X.u (LU.assignR Is.rfl') rfl ?_
  refine LL.nil (after_code ?_)
  refine LW.seq ?_
  refine LW.region ?_
  refine X.u (LU.assignR Is.rfl') rfl ?_
  refine LL.nil (after_code ?_)
  refine LW.seq ?_
  refine LW.seq ?_
  refine LW.region ?_
  refine X.u (LU.assignR Is.rfl') rfl ?_
  refine LL.nil (after_code ?_)
  refine LW.block ?_
  refine X.loopK (α := Nat × Nat) (fun ⟨i, n⟩ => [(6, i64 i), (5, i64 n)]) [2, 3, 4] (fun ⟨i, n⟩ => .cells b3 35 (vxL v) :: .cells b2 59 (rgL r) :: Rf) (fun ⟨i, n⟩ => i ≤ r.D.length ∧ n = ((r.D.take i).filter fun d => decide (d.v = v)).length ∧ n ≤ i) (fun ⟨i, n⟩ => r.D.length - i) ((0, 0)) (EnvLe.cons (by rfl) (EnvLe.cons (by rfl) (EnvLe.nil))) (by repeat (exact HSub.refl _)) ?_ ?_
  · exact ⟨Nat.zero_le _, by simp, Nat.le_refl _⟩
  · rintro ⟨i, n⟩ hI
    obtain ⟨hi, hn, hni⟩ := hI
    refine LW.seq ?_
    refine LW.seq ?_
    refine LW.region ?_
    refine X.u (LU.moveR Is.rfl') rfl ?_
    refine X.u (LU.fieldO Tryd.underlying59 rfl Tryd.sizeOf57 (by decide) Is.rfl') rfl ?_
    refine X.u (LU.loadO 1 rfl ⟨Tryd.sizeOf57, Tryd.isAgg57⟩ Is.rfl' (Part.one rfl)) rfl ?_
    refine X.u (LU.lenN Tryd.underlying57 Is.rfl' (by (simp only [Option.getD_some, Option.getD_none, byteEls_length, intEls_length, List.length_append, List.length_cons, List.length_nil, List.length_map, List.length_drop, List.length_take, Int.toNat_natCast]; rfl))) rfl ?_
    refine X.u (LU.lss Is.rfl' Is.rfl') rfl ?_
    refine LL.nil (after_code ?_)
    refine X.cond rfl (fun h3 => ?_) (fun h3 => ?_)
    · try have h3 := of_decide_eq_true h3
      refine LW.skip (after_code ?_)
      refine LW.seq ?_
      refine LW.block ?_
      refine LW.seq ?_
      obtain ⟨d_, hd⟩ := at_lt (show i < r.D.length by omega)
      have hdl := de_len d_
      have hd1 : d_.v.p.1.length = 32 := d_.v.p.2
      have hd2 : d_.by_.1.length = 32 := d_.by_.2
      refine X.drawM 8 rfl (by kernel_rfl) rfl ?_
      refine QD.u (LU.fieldO Tryd.underlying59 rfl Tryd.sizeOf57 (by decide) Is.rfl') rfl ?_
      refine QD.u (LU.loadO 1 rfl ⟨Tryd.sizeOf57, Tryd.isAgg57⟩ Is.rfl' (Part.one rfl)) rfl ?_
      refine QD.u (LU.moveR Is.rfl') rfl ?_
      refine QD.u (LU.at Tryd.underlying57 ⟨Tryd.sizeOf106, Tryd.isAgg106⟩ Is.rfl' Is.rfl' (by omega) (des_at hd) (de_ne d_)) rfl ?_
      refine QD.u (LU.fieldP Tryd.underlying106 rfl ⟨Tryd.sizeOf35, Tryd.isAgg35⟩ (by decide) Is.rfl' (by (simp; omega))) rfl ?_
      refine QD.u (LU.weak (LU.load ⟨Tryd.sizeOf35, Tryd.isAgg35⟩ Is.rfl' (by (simp; omega)) (Part.whole (by (simp; omega)))) (Is.of (y := .agg (vxL d_.v)) (congrArg LV.agg (de_v d_)))) rfl ?_
      refine QD.u (LU.loadO 0 rfl ⟨Tryd.sizeOf35, Tryd.isAgg35⟩ Is.rfl' (Part.whole (by assumption))) rfl ?_
      refine QD.u (LU.eqlVx vxty Is.rfl' Is.rfl') rfl ?_
      refine QD.nil ?_
      refine LL.nil (after_code ?_)
      refine X.cond rfl (fun h5 => ?_) (fun h5 => ?_)
      · have h5 : d_.v = v := by simpa using h5
        have hz0 : (0 : Nat) = 0 := rfl
        refine LW.region ?_
        refine X.u (LU.moveR Is.rfl') rfl ?_
        refine X.u (LU.addN Is.rfl' Is.rfl' (wrap_i64 (by omega) (by omega))) rfl ?_
        refine X.u (LU.assignR Is.rfl') rfl ?_
        refine LL.nil (after_blk (after_code ?_))
        refine LW.region ?_
        refine X.u (LU.moveR Is.rfl') rfl ?_
        refine X.u (LU.addN Is.rfl' Is.rfl' (wrap_i64 (by omega) (by omega))) rfl ?_
        refine X.u (LU.assignR Is.rfl') rfl ?_
        refine LL.nil (after_rnd ?_)
        refine X.next ((i + 1, n + 1)) rfl (EnvLe.cons (by rfl) (EnvLe.cons (by rfl) (EnvLe.nil))) (Keeps.cons (by exact Eq.trans (b := .raw _) rfl rfl) (Keeps.cons (by exact Eq.trans (b := .raw _) rfl rfl) (Keeps.cons (by exact Eq.trans (b := .raw _) rfl rfl) (Keeps.nil)))) (by repeat (exact HSub.refl _)) ?_ ?_
        · exact ⟨by omega, by rw [take_snoc hd, List.filter_append, List.length_append, ← hn, List.filter_cons, if_pos (decide_eq_true h5)]; rfl, by omega⟩
        · (simp; omega)
      · have h5 : d_.v ≠ v := by simpa using h5
        have hz0 : (0 : Nat) = 0 := rfl
        refine LW.skip (after_blk (after_code ?_))
        refine LW.region ?_
        refine X.u (LU.moveR Is.rfl') rfl ?_
        refine X.u (LU.addN Is.rfl' Is.rfl' (wrap_i64 (by omega) (by omega))) rfl ?_
        refine X.u (LU.assignR Is.rfl') rfl ?_
        refine LL.nil (after_rnd ?_)
        refine X.next ((i + 1, n)) rfl (EnvLe.cons (by rfl) (EnvLe.cons (by rfl) (EnvLe.nil))) (Keeps.cons (by exact Eq.trans (b := .raw _) rfl rfl) (Keeps.cons (by exact Eq.trans (b := .raw _) rfl rfl) (Keeps.cons (by exact Eq.trans (b := .raw _) rfl rfl) (Keeps.nil)))) (by repeat (exact HSub.refl _)) ?_ ?_
        · exact ⟨by omega, by rw [take_snoc hd, List.filter_append, List.length_append, ← hn, List.filter_cons, if_neg (by rw [decide_eq_false h5]; decide)]; rfl, by omega⟩
        · (simp; omega)
    · try have h3 := of_decide_eq_false h3
      refine LW.exit (exit_code (exit_rnd (exit_blk (after_code ?_))))
      refine LW.seq ?_
      refine LW.region ?_
      refine X.u (LU.moveR Is.rfl') rfl ?_
      refine X.u (LU.assignR Is.rfl') rfl ?_
      refine LL.nil (after_code ?_)
      refine LW.ret (after_end ?_)
      refine X.ret (H' := []) (Res.one (by exact IsR rfl)) (by repeat (first | exact HSub.refl _ | refine HSub.drop ?_)) ?_
      exact ⟨by rw [hn, List.take_of_length_le (by omega)]; rfl, rfl⟩
end Go.Proofs.YtolpkeajokjbjaaDoor
