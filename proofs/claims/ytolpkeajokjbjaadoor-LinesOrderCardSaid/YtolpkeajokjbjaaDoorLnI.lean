/- Lines: Ahead. -/
import Derived.Test.YtolpkeajokjbjaaDoorLnH
set_option linter.unusedVariables false
set_option linter.unusedSimpArgs false
namespace Go.Proofs.YtolpkeajokjbjaaDoor
open Go.RowKit Go.L
attribute [local irreducible] LL LW LO
abbrev sE (n : Int) : LV := i64 n
theorem seen_is (S : List (Vx × Int)) (ks : List Vx) (h : ∀ w, lookA S w = if w ∈ ks then some 1 else none) (w : Vx) : (lookM (encM sE S) w).getD (.raw (.int .i64 0)) = i64 (if w ∈ ks then 1 else 0) := by
  rw [look_enc, h]
  split <;> rfl
theorem own1 (a : Vx) (b : Nat) : OwnS 33 (vxs [a]) (some b) 0 1 1 [vxL a].flatten := by
  rw [show [vxL a].flatten = vxL a by simp]
  exact ⟨rfl, Nat.le_refl _, by rw [vxL_len]; decide, by rw [List.drop_zero, List.take_of_length_le (by rw [vxL_len]; decide)]; simp, vxs_size [a], fun h => by cases h⟩
theorem sliced0 (b off n c : Nat) : sliced ((some b).map fun b => (⟨b, off, none⟩ : Addr)) 0 n c 33 = .slice (some ⟨b, off, none⟩) n c := by
  unfold sliced
  by_cases h : c = 0
  · rw [if_pos h]; rfl
  · rw [if_neg h]; simp [add_lit]
set_option maxHeartbeats 2000000 in
set_option maxRecDepth 100000 in
theorem ahead_calls (g ma mb : Nat) (n : Int) (m : At) (a b : Vx) (t : Bool) (hT : (allN m).length < 900000) (hN : ∀ v, (nx m v).length < 900000) (ht : t = true ↔ (lookA m a).isSome = true ∧ (lookA m b).isSome = true ∧ Rch (nx m) a b) : LCalls Tryd.prog 21 [pt g, .agg (vxL a), .agg (vxL b)] [gC g ma mb n, gA ma m] (fun r H' => r = bl t ∧ H' = [gC g ma mb n, gA ma m]) := by
  have hal := vxL_len a
  have hbl := vxL_len b
  have ha32 : a.p.1.length = 32 := a.p.2
  have hb32 : b.p.1.length = 32 := b.p.2
  refine LCalls.of Tryd.func21 rfl Tryd.ntmps21 Tryd.results21 rfl (fun Rf => ?_)
  refine LW.seq ?_
  refine LW.region ?_
  refine X.act (X.box rfl Is.rfl' (by exact Cells.agg) (fun b4 => ?_))
  refine X.act (X.box rfl Is.rfl' (by exact Cells.agg) (fun b5 => ?_))
  refine X.u (LU.assignR Is.rfl') rfl ?_
  refine LL.nil (after_code ?_)
  refine LW.seq ?_
  refine LW.seq ?_
  refine LW.region ?_
  refine X.u (LU.moveR Is.rfl') rfl ?_
  refine X.u (LU.loadO 1 rfl ⟨Tryd.sizeOf35, Tryd.isAgg35⟩ Is.rfl' (Part.whole (by assumption))) rfl ?_
  refine X.u (LU.callP (show List.Perm _ ([gC g ma mb n, gA ma m] ++ (.cells b5 35 (vxL b) :: .cells b4 35 (vxL a) :: Rf)) from perm_of fun x => (by simp only [List.count_append, List.count_cons, List.count_nil]; omega)) (has_calls g ma mb n m a) Tryd.func20 rfl rfl (Opds.cons Is.rfl' (Opds.cons Is.rfl' Opds.nil))) rfl ?_
  refine X.u (LU.not Is.rfl') rfl ?_
  refine X.u (LU.moveR Is.rfl') rfl ?_
  refine X.gF rfl rfl (fun hg => LU.moveR (by exact Is.rfl')) rfl ?_
  refine X.gF rfl rfl (fun hg => LU.loadO 0 rfl ⟨Tryd.sizeOf35, Tryd.isAgg35⟩ (by exact Is.rfl') (Part.whole (by assumption))) rfl ?_
  refine X.gF rfl rfl (fun hg => LU.callP (show List.Perm _ ([gC g ma mb n, gA ma m] ++ (.cells b5 35 (vxL b) :: .cells b4 35 (vxL a) :: Rf)) from perm_of fun x => (by simp only [List.count_append, List.count_cons, List.count_nil]; omega)) (has_calls g ma mb n m b) Tryd.func20 rfl rfl (Opds.cons (by exact Is.whenN hg) (Opds.cons (by exact Is.whenN hg) Opds.nil))) rfl ?_
  refine X.gF rfl rfl (fun hg => LU.not (by exact Is.whenN hg)) rfl ?_
  refine X.u (LU.pickOr Is.rfl' Is.rfl' (fun hq => (by exact Is.whenN hq))) rfl ?_
  refine LL.nil (after_code ?_)
  refine X.cond rfl (fun h1 => ?_) (fun h1 => ?_)
  · have h1 : (lookA m a).isSome = false ∨ (lookA m b).isSome = false := by simpa using h1
    have htf : t = false := Bool.eq_false_iff.2 (fun e => by obtain ⟨x1, x2, _⟩ := ht.1 e; rcases h1 with e | e <;> simp_all)
    refine LW.seq ?_
    refine LW.region ?_
    refine X.u (LU.assignR Is.rfl') rfl ?_
    refine LL.nil (after_code ?_)
    refine LW.ret (ret_code (after_end ?_))
    refine X.ret (H' := [gC g ma mb n, gA ma m]) (Res.one (by exact IsR rfl)) (by repeat (first | exact HSub.refl _ | refine HSub.pick 2 rfl ?_ | refine HSub.drop ?_)) ?_
    exact ⟨by rw [htf], rfl⟩
  · have h1 : (lookA m a).isSome = true ∧ (lookA m b).isSome = true := by simpa using h1
    have hz0 : (0 : Nat) = 0 := rfl
    refine LW.skip (after_code ?_)
    refine LW.seq ?_
    refine LW.region ?_
    refine X.act (LO.makeMap (st := ⟨_, _, _⟩) rfl (fun b22 => ?_))
    refine X.u (LU.assignR Is.rfl') rfl ?_
    refine LL.nil (after_code ?_)
    refine LW.seq ?_
    refine LW.region ?_
    refine X.u (LU.loadO 2 rfl ⟨Tryd.sizeOf35, Tryd.isAgg35⟩ Is.rfl' (Part.whole (by assumption))) rfl ?_
    refine X.act (X.litO rfl Tryd.underlying26 Tryd.sizeOf35 Tryd.zeroValue35 (ones rfl) rfl (by decide) (by decide) (Elems.cons Is.rfl' Cells.agg Elems.nil) (by intro e he; rw [List.mem_singleton.1 he]; exact hal) rfl (fun b24 => ?_))
    refine X.u (LU.assignR Is.rfl') rfl ?_
    refine LL.nil (after_code ?_)
    refine LW.seq ?_
    refine LW.block ?_
    refine X.wghost (H' := .map b22 (mp vxV (encM sE [])) :: .cells b5 35 (vxL b) :: gC g ma mb n :: gA ma m :: .cells b24 35 [vxL a].flatten :: Rf) (by repeat (first | exact HSub.refl _ | refine HSub.pick 0 rfl ?_ | refine HSub.pick 1 rfl ?_ | refine HSub.pick 2 rfl ?_ | refine HSub.drop ?_)) ?_
    refine X.loopK (α := List Vx × List Vx × List Vx × List (Vx × Int) × Nat × TypeId × Nat × Nat × List LV) (fun ⟨D, ks, todo, S, bA, te, off, c, xs⟩ => [(8, ownV (some bA) off todo.length c)]) [0, 5, 7] (fun ⟨D, ks, todo, S, bA, te, off, c, xs⟩ => .map b22 (mp vxV (encM sE S)) :: .cells b5 35 (vxL b) :: gC g ma mb n :: gA ma m :: .cells bA te xs :: Rf) (fun ⟨D, ks, todo, S, bA, te, off, c, xs⟩ => Sk m a b D ks todo S ∧ OwnS 33 (vxs todo) (some bA) off todo.length c xs) (fun ⟨D, ks, todo, S, bA, te, off, c, xs⟩ => 2 * ((allN m).length - ks.length) + todo.length) (([], [], [a], [], b24, 35, 0, 1, [vxL a].flatten)) (EnvLe.cons (by rfl) (EnvLe.nil)) (by repeat (exact HSub.refl _)) ?_ ?_
    · exact ⟨⟨List.nodup_nil, List.Perm.refl _, (fun v hv => by cases hv), (fun v hv => by cases hv), fun w => rfl⟩, own1 a b24⟩
    · rintro ⟨D, ks, todo, S, bA, te, off, c, xs⟩ hI
      obtain ⟨hS, ow⟩ := hI
      have hsl := hS.len
      refine LW.seq ?_
      refine LW.seq ?_
      refine LW.region ?_
      refine X.u (LU.moveR Is.rfl') rfl ?_
      refine X.u (LU.lenO Tryd.underlying26 Is.rfl') rfl ?_
      refine X.u (LU.gtr Is.rfl' Is.rfl') rfl ?_
      refine LL.nil (after_code ?_)
      refine X.cond rfl (fun h5 => ?_) (fun h5 => ?_)
      · obtain ⟨td, v, htd⟩ : ∃ td v, todo = td ++ [v] := ⟨todo.dropLast, todo.getLast (by intro e; rw [e] at h5; simp at h5), (List.dropLast_concat_getLast _).symm⟩
        have hvl := vxL_len v
        have hv32 : v.p.1.length = 32 := v.p.2
        have htl : todo.length = td.length + 1 := by rw [htd, List.length_append]; rfl
        have hS0 := hS
        rw [htd] at hS0
        have hpop := hS0.pop
        have ow0 := ow
        rw [htd, ← vxs_app] at ow0
        obtain ⟨owp, hlast, hn0⟩ := OwnS.pop ow0
        rw [List.length_append, List.length_singleton, Nat.add_sub_cancel] at hlast
        have howl := ow.len
        have howle := ow.le
        have hbd : off + td.length * 33 + 33 ≤ xs.length := by omega
        refine LW.skip (after_code ?_)
        refine LW.block ?_
        refine LW.seq ?_
        refine LW.region ?_
        refine X.u (LU.moveR Is.rfl') rfl ?_
        refine X.u (LU.moveR Is.rfl') rfl ?_
        refine X.u (LU.lenO Tryd.underlying26 Is.rfl') rfl ?_
        refine X.u (LU.weak (LU.subN Is.rfl' Is.rfl' (wrap_i64 (by omega) (by omega))) (Is.of (y := i64 (td.length : Nat)) (congrArg i64 (by omega)))) rfl ?_
        refine X.u (LU.atO Tryd.underlying26 Tryd.sizeOf35 Is.rfl' Is.rfl' (by omega) (by omega)) rfl ?_
        refine X.u (LU.weak (LU.loadO 4 rfl ⟨Tryd.sizeOf35, Tryd.isAgg35⟩ Is.rfl' (Part.sub (by (simp; omega)))) (Is.of (y := .agg (vxL v)) (congrArg LV.agg hlast))) rfl ?_
        refine X.act (X.alloc rfl Tryd.zeroValue35 (by exact Cells.rawagg (by decide)) (fun b9 => ?_))
        refine X.act (X.store 0 rfl Tryd.sizeOf35 Is.rfl' Is.rfl' (by exact Cells.agg) (by assumption) (by exact Nat.le_of_ble_eq_true rfl) ?_)
        refine LL.nil (after_code ?_)
        refine LW.seq ?_
        refine X.wcells (ys := vxL v) (putAt_all (by rw [hvl]; rfl)) ?_
        refine LW.region ?_
        refine X.u (LU.moveR Is.rfl') rfl ?_
        refine X.u (LU.moveR Is.rfl') rfl ?_
        refine X.u (LU.lenO Tryd.underlying26 Is.rfl') rfl ?_
        refine X.u (LU.weak (LU.subN Is.rfl' Is.rfl' (wrap_i64 (by omega) (by omega))) (Is.of (y := i64 (td.length : Nat)) (congrArg i64 (by omega)))) rfl ?_
        refine X.u (LU.weak (LU.sliceR (l := none) (h := some ((td.length : Nat) : Int)) Tryd.sizeOf35 Tryd.underlying26 Is.rfl' trivial ⟨_, Is.rfl'⟩ (by simp) (by simp) (by simp; omega) (by omega)) (Is.of (y := ownV (some bA) off td.length c) (congrArg LV.raw ((sliced0 bA off _ c).trans (by simp))))) rfl ?_
        refine X.u (LU.assignR Is.rfl') rfl ?_
        refine LL.nil (after_code ?_)
        refine LW.seq ?_
        refine X.drawM 9 rfl (by kernel_rfl) rfl ?_
        refine QD.u (LU.moveR Is.rfl') rfl ?_
        refine QD.u (LU.nilCheck Is.rfl') rfl ?_
        refine QD.u (LU.fieldO Tryd.underlying68 rfl Tryd.sizeOf65 (by decide) Is.rfl') rfl ?_
        refine QD.u (LU.loadO 3 rfl ⟨Tryd.sizeOf65, Tryd.isAgg65⟩ Is.rfl' (Part.one rfl)) rfl ?_
        refine QD.u (LU.loadO 0 rfl ⟨Tryd.sizeOf35, Tryd.isAgg35⟩ Is.rfl' (Part.whole (by assumption))) rfl ?_
        refine QD.u (LU.weak (LU.lookup 4 (KeyOk.vx vxty) rfl Tryd.underlying65 Tryd.zeroValue73 Is.rfl' (by exact Is.vx _)) (at_is m v)) rfl ?_
        refine QD.u (LU.field Tryd.underlying73 rfl ⟨Tryd.sizeOf26, Tryd.isAgg26⟩ Is.rfl' (Part.one rfl)) rfl ?_
        refine QD.u (LU.lenN Tryd.underlying26 Is.rfl' (by (simp only [Option.getD_some, Option.getD_none, byteEls_length, intEls_length, List.length_append, List.length_cons, List.length_nil, List.length_map, List.length_drop, List.length_take, Int.toNat_natCast]; rfl))) rfl ?_
        refine QD.u (LU.moveR Is.rfl') rfl ?_
        refine QD.nil ?_
        refine LL.nil (after_code ?_)
        refine LW.block ?_
        refine X.wghost (H' := .map b22 (mp vxV (encM sE S)) :: .cells b5 35 (vxL b) :: gC g ma mb n :: gA ma m :: .cells bA te xs :: Rf) (by repeat (first | exact HSub.refl _ | refine HSub.pick 1 rfl ?_ | refine HSub.drop ?_)) ?_
        refine X.loopK (α := Nat × List Vx × List Vx × List (Vx × Int) × Nat × TypeId × Nat × Nat × List LV) (fun ⟨j, ks2, td2, S2, bB, te2, off2, c2, xs2⟩ => [(47, i64 j), (8, ownV (some bB) off2 td2.length c2)]) [0, 5, 7, 45, 46] (fun ⟨j, ks2, td2, S2, bB, te2, off2, c2, xs2⟩ => .map b22 (mp vxV (encM sE S2)) :: .cells b5 35 (vxL b) :: gC g ma mb n :: gA ma m :: .cells bB te2 xs2 :: Rf) (fun ⟨j, ks2, td2, S2, bB, te2, off2, c2, xs2⟩ => j ≤ (atG m v).next.length ∧ Si m a b v j D ks2 td2 S2 ∧ OwnS 33 (vxs td2) (some bB) off2 td2.length c2 xs2 ∧ ks.length ≤ ks2.length ∧ td2.length + ks.length = td.length + ks2.length) (fun ⟨j, ks2, td2, S2, bB, te2, off2, c2, xs2⟩ => (atG m v).next.length - j) ((0, ks, td, S, bA, te, off, c, xs)) (EnvLe.cons (by rfl) (EnvLe.cons (by rfl) (EnvLe.nil))) (by repeat (exact HSub.refl _)) ?_ ?_
        · exact ⟨Nat.zero_le _, hpop, (by rw [show td.length = (td ++ [v]).length - 1 by simp]; exact owp), Nat.le_refl _, rfl⟩
        · rintro ⟨j, ks2, td2, S2, bB, te2, off2, c2, xs2⟩ hI
          obtain ⟨hj, hS2, ow2, hkk, htk⟩ := hI
          have hNv : (atG m v).next.length < 900000 := hN v
          have hks2 := nodup_len hS2.nd fun x hx => by obtain ⟨y, hy⟩ := (hS2.rch x hx).last; exact nx_all hy
          have htd2 : td2.length ≤ ks2.length + 1 := by have := hS2.perm.length_eq; rw [List.length_append, List.length_cons, List.length_cons] at this; omega
          refine LW.seq ?_
          refine LW.region ?_
          refine X.u (LU.lss Is.rfl' Is.rfl') rfl ?_
          refine LL.nil (after_code ?_)
          refine LW.seq ?_
          refine X.cond rfl (fun h9 => ?_) (fun h9 => ?_)
          · try have h9 := of_decide_eq_true h9
            refine LW.skip (after_code ?_)
            refine LW.seq ?_
            refine LW.block ?_
            refine LW.seq ?_
            obtain ⟨w, hw⟩ := at_lt (show j < (atG m v).next.length by omega)
            have hwl := vxL_len w
            have hw32 : w.p.1.length = 32 := w.p.2
            refine LW.region ?_
            refine X.u (LU.at Tryd.underlying26 ⟨Tryd.sizeOf35, Tryd.isAgg35⟩ Is.rfl' Is.rfl' (by omega) (vxs_at hw) (vx_ne w)) rfl ?_
            refine X.u (LU.weak (LU.load ⟨Tryd.sizeOf35, Tryd.isAgg35⟩ Is.rfl' (by assumption) (Part.whole (by assumption))) (Is.of (y := .agg (vxL w)) (rfl))) rfl ?_
            refine X.act (X.alloc rfl Tryd.zeroValue35 (by exact Cells.rawagg (by decide)) (fun b11 => ?_))
            refine X.act (X.store 0 rfl Tryd.sizeOf35 Is.rfl' Is.rfl' (by exact Cells.agg) (by assumption) (by exact Nat.le_of_ble_eq_true rfl) ?_)
            refine LL.nil (after_code ?_)
            refine LW.seq ?_
            refine LW.seq ?_
            refine X.wcells (ys := vxL w) (putAt_all (by rw [hwl]; rfl)) ?_
            refine X.wghost (H' := .map b22 (mp vxV (encM sE S2)) :: .cells b11 35 (vxL w) :: .cells b5 35 (vxL b) :: gC g ma mb n :: gA ma m :: .cells bB te2 xs2 :: Rf) (by repeat (first | exact HSub.refl _ | refine HSub.pick 1 rfl ?_)) ?_
            refine LW.region ?_
            refine X.u (LU.loadO 1 rfl ⟨Tryd.sizeOf35, Tryd.isAgg35⟩ Is.rfl' (Part.whole (by assumption))) rfl ?_
            refine X.u (LU.loadO 2 rfl ⟨Tryd.sizeOf35, Tryd.isAgg35⟩ Is.rfl' (Part.whole (by assumption))) rfl ?_
            refine X.u (LU.eqlVx vxty Is.rfl' Is.rfl') rfl ?_
            refine LL.nil (after_code ?_)
            refine X.cond rfl (fun h11 => ?_) (fun h11 => ?_)
            · have h11 : w = b := by simpa using h11
              have htt : t = true := ht.2 ⟨h1.1, h1.2, by rw [← h11]; exact hS2.mem (List.mem_of_getElem? hw)⟩
              refine LW.seq ?_
              refine LW.region ?_
              refine X.u (LU.assignR Is.rfl') rfl ?_
              refine LL.nil (after_code ?_)
              refine LW.ret (ret_code (ret_blk (ret_code (ret_rnd (ret_blk (ret_blk (ret_rnd (ret_blk (ret_code (after_end ?_))))))))))
              refine X.ret (H' := [gC g ma mb n, gA ma m]) (Res.one (by exact IsR rfl)) (by repeat (first | exact HSub.refl _ | refine HSub.pick 3 rfl ?_ | refine HSub.drop ?_)) ?_
              exact ⟨by rw [htt], rfl⟩
            · have h11 : w ≠ b := by simpa using h11
              have hz0 : (0 : Nat) = 0 := rfl
              refine LW.skip (after_code ?_)
              refine LW.seq ?_
              refine LW.region ?_
              refine X.u (LU.moveR Is.rfl') rfl ?_
              refine X.u (LU.loadO 1 rfl ⟨Tryd.sizeOf35, Tryd.isAgg35⟩ Is.rfl' (Part.whole (by assumption))) rfl ?_
              refine X.u (LU.weak (LU.lookup 0 (KeyOk.vx vxty) rfl Tryd.underlying87 Tryd.zeroValue3 Is.rfl' (by exact Is.vx _)) (Is.of (y := i64 (if w ∈ ks2 then 1 else 0)) (seen_is S2 ks2 hS2.look w))) rfl ?_
              refine X.u (LU.eql Is.rfl' Is.rfl') rfl ?_
              refine LL.nil (after_code ?_)
              refine X.cond rfl (fun h13 => ?_) (fun h13 => ?_)
              · have h13 : w ∉ ks2 := fun c => by rw [if_pos c] at h13; simp at h13
                have hz0 : (0 : Nat) = 0 := rfl
                refine LW.seq ?_
                refine LW.region ?_
                refine X.u (LU.moveR Is.rfl') rfl ?_
                refine X.u (LU.loadO 1 rfl ⟨Tryd.sizeOf35, Tryd.isAgg35⟩ Is.rfl' (Part.whole (by assumption))) rfl ?_
                refine X.act (LO.mapUpdate (st := ⟨_, _, _⟩) 0 (KeyOk.vx vxty) rfl Tryd.underlying87 Is.rfl' (by exact Is.vx _) Is.rfl' ?_)
                refine LL.nil (after_code ?_)
                refine X.wghost (H' := .map b22 (mp vxV (encM sE (setA S2 w 1))) :: .cells b11 35 (vxL w) :: .cells b5 35 (vxL b) :: gC g ma mb n :: gA ma m :: .cells bB te2 xs2 :: Rf) (by rw [← set_enc sE]; exact (by repeat (exact HSub.refl _))) ?_
                refine LW.region ?_
                refine X.u (LU.moveR Is.rfl') rfl ?_
                refine X.u (LU.loadO 1 rfl ⟨Tryd.sizeOf35, Tryd.isAgg35⟩ Is.rfl' (Part.whole (by assumption))) rfl ?_
                refine X.u (LU.lits Tryd.underlying26 Tryd.sizeOf35 Tryd.zeroValue35 (ones rfl) rfl (by decide) (by decide) (Elems.cons Is.rfl' (by exact Cells.agg) Elems.nil) (by (simp; assumption)) rfl) rfl ?_
                refine X.act (X.appendR ow2 (HSub.pick 5 rfl (HSub.refl _)) rfl Tryd.underlying26 (El.of (P := Tryd.prog) (z := (.agg #[(.int .u8 0), (.int .u8 0), (.int .u8 0), (.int .u8 0), (.int .u8 0), (.int .u8 0), (.int .u8 0), (.int .u8 0), (.int .u8 0), (.int .u8 0), (.int .u8 0), (.int .u8 0), (.int .u8 0), (.int .u8 0), (.int .u8 0), (.int .u8 0), (.int .u8 0), (.int .u8 0), (.int .u8 0), (.int .u8 0), (.int .u8 0), (.int .u8 0), (.int .u8 0), (.int .u8 0), (.int .u8 0), (.int .u8 0), (.int .u8 0), (.int .u8 0), (.int .u8 0), (.int .u8 0), (.int .u8 0), (.int .u8 0), (.int .i64 0)])) (size := 33) (bytes := 40) rfl rfl rfl) (ones rfl) Is.rfl' Is.rfl' (SrcL.slice Tryd.underlying26 (by decide) (vxs_size [w])) (by simp) (by simp; omega) (by simp; omega) (fun b63 te63 off63 c63 xs63 ow63 => ?_))
                refine X.u (LU.assignR Is.rfl') rfl ?_
                refine LL.nil (after_blk (after_code ?_))
                refine LW.region ?_
                refine X.u (LU.addN Is.rfl' Is.rfl' (wrap_i64 (by omega) (by omega))) rfl ?_
                refine X.u (LU.moveR Is.rfl') rfl ?_
                refine LL.nil (after_rnd ?_)
                refine X.next ((j + 1, ks2 ++ [w], td2 ++ [w], setA S2 w 1, b63, te63, off63, c63, xs63)) rfl (EnvLe.cons (by rfl) (EnvLe.cons (by exact (by rw [List.length_append]; rfl)) (EnvLe.nil))) (Keeps.cons (by exact Eq.trans (b := .raw _) rfl rfl) (Keeps.cons (by exact Eq.trans (b := .raw _) rfl rfl) (Keeps.cons (by exact Eq.trans (b := .raw _) rfl rfl) (Keeps.cons (by exact Eq.trans (b := .sl _ _ _) rfl rfl) (Keeps.cons (by exact Eq.trans (b := .raw _) rfl rfl) (Keeps.nil)))))) (by repeat (first | exact HSub.refl _ | refine HSub.pick 0 rfl ?_ | refine HSub.pick 1 rfl ?_ | refine HSub.pick 2 rfl ?_ | refine HSub.drop ?_)) ?_ ?_
                · exact ⟨by omega, hS2.new hw h11 h13, by rw [← vxs_app, List.length_append]; exact ow63, by rw [List.length_append]; omega, by rw [List.length_append, List.length_append]; omega⟩
                · (simp; omega)
              · have h13 : w ∈ ks2 := Classical.byContradiction fun c => by rw [if_neg c] at h13; simp at h13
                have hz0 : (0 : Nat) = 0 := rfl
                refine LW.skip (after_blk (after_code ?_))
                refine LW.region ?_
                refine X.u (LU.addN Is.rfl' Is.rfl' (wrap_i64 (by omega) (by omega))) rfl ?_
                refine X.u (LU.moveR Is.rfl') rfl ?_
                refine LL.nil (after_rnd ?_)
                refine X.next ((j + 1, ks2, td2, S2, bB, te2, off2, c2, xs2)) rfl (EnvLe.cons (by rfl) (EnvLe.cons (by rfl) (EnvLe.nil))) (Keeps.cons (by exact Eq.trans (b := .raw _) rfl rfl) (Keeps.cons (by exact Eq.trans (b := .raw _) rfl rfl) (Keeps.cons (by exact Eq.trans (b := .raw _) rfl rfl) (Keeps.cons (by exact Eq.trans (b := .sl _ _ _) rfl rfl) (Keeps.cons (by exact Eq.trans (b := .raw _) rfl rfl) (Keeps.nil)))))) (by repeat (first | exact HSub.refl _ | refine HSub.pick 0 rfl ?_ | refine HSub.pick 1 rfl ?_ | refine HSub.drop ?_)) ?_ ?_
                · exact ⟨by omega, hS2.old hw h11 h13, ow2, hkk, htk⟩
                · (simp; omega)
          · try have h9 := of_decide_eq_false h9
            refine LW.exit (exit_code (exit_rnd (exit_blk (after_blk (after_rnd ?_)))))
            refine X.next ((v :: D, ks2, td2, S2, bB, te2, off2, c2, xs2)) rfl (EnvLe.cons (by rfl) (EnvLe.nil)) (Keeps.cons (by exact Eq.trans (b := .raw _) rfl rfl) (Keeps.cons (by exact Eq.trans (b := .raw _) rfl rfl) (Keeps.cons (by exact Eq.trans (b := .raw _) rfl rfl) (Keeps.nil)))) (by repeat (exact HSub.refl _)) ?_ ?_
            · exact ⟨(by rw [show j = (atG m v).next.length by omega] at hS2; exact hS2.done), ow2⟩
            · (simp; omega)
      · have h5 : todo = [] := by simp at h5; exact h5
        have htf : t = false := Bool.eq_false_iff.2 (fun e => by rw [h5] at hS; exact hS.none (ht.1 e).2.2)
        refine LW.exit (exit_code (exit_rnd (exit_blk (after_code ?_))))
        refine LW.seq ?_
        refine LW.region ?_
        refine X.u (LU.assignR Is.rfl') rfl ?_
        refine LL.nil (after_code ?_)
        refine LW.ret (after_end ?_)
        refine X.ret (H' := [gC g ma mb n, gA ma m]) (Res.one (by exact IsR rfl)) (by repeat (first | exact HSub.refl _ | refine HSub.pick 2 rfl ?_ | refine HSub.drop ?_)) ?_
        exact ⟨by rw [htf], rfl⟩
end Go.Proofs.YtolpkeajokjbjaaDoor
