/- A path's parts are told one by one, as often as one likes. -/
import Derived.Test.YtcemodldbfiomaaNmJ
set_option linter.unusedVariables false
set_option linter.unusedSimpArgs false
namespace Go.Proofs.Ytcemodldbfiomaa
open Go.RowKit Go.L
attribute [local irreducible] LL LW LO
theorem want_at {s p : List UInt8} {k : Nat} (h : (wantS s)[k]? = some p) : k < (wantS s).length ∧ (wantS s).getD k [] = p := by
  have h1 := (List.getElem?_eq_some_iff.1 h).1
  exact ⟨h1, by rw [List.getD_eq_getElem?_getD, h]; rfl⟩
theorem want_le (s : List UInt8) : (wantS s).length ≤ s.length + 1 := by
  unfold wantS
  split
  · exact splits_le s
  · exact Nat.zero_le _
set_option maxHeartbeats 2000000 in
set_option maxRecDepth 100000 in
theorem np_calls (s : List UInt8) (stop : Int) (hs : s.length ≤ reachBytes) : LCalls Try.prog 7 [Str s, i64 stop] [] (fun r _ => r = .raw (.bool true)) := by
  have hr : reachBytes < 1099511627776 * 1024 := by decide
  refine LCalls.of Try.func7 rfl Try.ntmps7 Try.results7 rfl (fun Rf => ?_)
  refine LW.seq ?_
  refine LW.region ?_
  refine X.act (X.box rfl Is.rfl' (by exact Cells.raw rfl) (fun b3 => ?_))
  refine X.act (X.alloc rfl Try.zeroValue4 (by exact Cells.raw rfl) (fun b4 => ?_))
  refine LL.nil (after_code ?_)
  refine LW.seq ?_
  refine LW.seq ?_
  refine LW.region ?_
  refine X.u (LU.moveR Is.rfl') rfl ?_
  refine X.u (LU.strlenN Try.underlying9 Is.rfl') rfl ?_
  refine X.u (LU.gtr Is.rfl' Is.rfl') rfl ?_
  refine LL.nil (after_code ?_)
  refine X.cond rfl (fun h1 => ?_) (fun h1 => ?_)
  · try have h1 := of_decide_eq_true h1
    refine LW.seq ?_
    refine LW.region ?_
    refine X.u (LU.call (lives_calls) Try.func8 rfl rfl Opds.nil) rfl ?_
    refine X.act (X.store 0 rfl Try.sizeOf4 Is.rfl' Is.rfl' (by exact Cells.raw rfl) (by (simp; done)) (by (simp; done)) ?_)
    refine LL.nil (after_code ?_)
    refine LW.ret (ret_code (after_end ?_))
    refine X.ret (H' := []) (by exact Res.cell1 0 rfl rfl ⟨Try.sizeOf4, Try.isAgg4⟩ (Part.one rfl) (by exact IsR rfl)) (by repeat (first | exact HSub.refl _ | refine HSub.drop ?_)) ?_
    exact rfl
  · have h1 : s.length ≤ 10000 := by have := of_decide_eq_false h1; omega
    have hwl := want_le s
    refine LW.skip (after_code ?_)
    refine LW.seq ?_
    refine LW.region ?_
    refine X.act (X.alloc rfl Try.zeroValue24 (by exact Cells.raw rfl) (fun b5 => ?_))
    refine LL.nil (after_code ?_)
    refine X.meetK (α := Unit) (fun u => []) [0, 3, 4, 5] (fun u => .cells b5 24 [Strs (wantS s) .unk] :: .cells b4 4 [bl false] :: .cells b3 3 [i64 stop] :: Rf) (fun u => True) ?_ ?_
    · refine LW.seq ?_
      refine X.wghost (H' := .cells b5 24 [Strs [] .unk] :: .cells b4 4 [bl false] :: .cells b3 3 [i64 stop] :: Rf) (HSub.trans (by repeat (exact HSub.refl _)) (HSub.cell 0 rfl ((Is.nil 1).trans Is.unk))) ?_
      refine LW.region ?_
      refine X.u (LU.moveR Is.rfl') rfl ?_
      refine X.u (LU.call (rpath_calls s) Try.func12 rfl rfl (Opds.cons Is.rfl' Opds.nil)) rfl ?_
      refine LL.nil (after_code ?_)
      refine X.cond rfl (fun h4 => ?_) (fun h4 => ?_)
      · have hw : wantS s = splits s := by unfold wantS; rw [if_pos h4]
        refine LW.region ?_
        refine X.u (LU.moveR Is.rfl') rfl ?_
        refine X.u (LU.call (split_calls s (by omega)) Try.func18 rfl rfl (Opds.cons Is.rfl' Opds.nil)) rfl ?_
        refine X.act (X.store 0 rfl Try.sizeOf24 Is.rfl' Is.rfl' (by exact Cells.sl) (by (simp; done)) (by (simp; done)) ?_)
        refine LL.nil (after_rnd ?_)
        rw [hw]
        refine X.meets (()) rfl (EnvLe.nil) (Keeps.cons (by exact Eq.trans (b := .raw _) rfl rfl) (Keeps.cons (by exact Eq.trans (b := .raw _) rfl rfl) (Keeps.cons (by exact Eq.trans (b := .raw _) rfl rfl) (Keeps.cons (by exact Eq.trans (b := .raw _) rfl rfl) (Keeps.nil))))) (by repeat (exact HSub.refl _)) ?_
        trivial
      · have hw : wantS s = [] := by unfold wantS; rw [if_neg (by rw [h4]; decide)]
        rw [hw]
        refine LW.skip (after_rnd ?_)
        refine X.meets (()) rfl (EnvLe.nil) (Keeps.cons (by exact Eq.trans (b := .raw _) rfl rfl) (Keeps.cons (by exact Eq.trans (b := .raw _) rfl rfl) (Keeps.cons (by exact Eq.trans (b := .raw _) rfl rfl) (Keeps.cons (by exact Eq.trans (b := .raw _) rfl rfl) (Keeps.nil))))) (by repeat (exact HSub.refl _)) ?_
        trivial
    · rintro u hI
      refine LW.seq ?_
      refine LW.region ?_
      refine X.u (LU.moveR Is.rfl') rfl ?_
      refine X.act (X.call (parts_calls s) Try.func19 rfl rfl rfl (HSub.refl _) (Opds.cons Is.rfl' Opds.nil) ?_)
      rintro r H' ⟨bp, rfl, rfl⟩
      refine X.u (LU.assignR Is.rfl') rfl ?_
      refine LL.nil (after_code ?_)
      refine LW.seq ?_
      refine LW.seq ?_
      refine LW.region ?_
      refine X.u (LU.moveR Is.rfl') rfl ?_
      refine X.u (LU.nilFEqS Try.underlying33 Is.rfl' Is.rfl') rfl ?_
      refine LL.nil (after_code ?_)
      refine X.condF rfl ?_ ?_
      · rfl
      refine LW.skip (after_code ?_)
      refine LW.seq ?_
      refine LW.seq ?_
      refine LW.region ?_
      refine X.act (X.alloc rfl Try.zeroValue3 (by exact Cells.raw rfl) (fun b7 => ?_))
      refine X.act (X.store 0 rfl Try.sizeOf3 Is.rfl' Is.rfl' (by exact Cells.raw rfl) (by (simp; done)) (by (simp; done)) ?_)
      refine LL.nil (after_code ?_)
      refine LW.block ?_
      refine X.loopN (α := Nat × Nat × List Nat) (fun ⟨r, bk, Ds⟩ => ⟨95, Ds.map markOf, true⟩) (fun ⟨r, bk, Ds⟩ => [(7, .raw (.pointer (some ⟨bk, 0, none⟩)))]) [0, 3, 4, 5, 6] (fun ⟨r, bk, Ds⟩ => .cells bk 3 [i64 r] :: .cells b5 24 [Strs (wantS s) .unk] :: .cells b4 4 [bl false] :: .cells b3 3 [i64 stop] :: .cells bp 9 [Str s] :: (markA Ds ++ Rf)) (fun ⟨r, bk, Ds⟩ => r ≤ 2) (fun ⟨r, bk, Ds⟩ => 2 - r) ((0, b7, [])) rfl (EnvLe.cons (by rfl) (EnvLe.nil)) (by repeat (first | exact HSub.refl _ | refine HSub.pick 0 rfl ?_ | refine HSub.pick 1 rfl ?_)) ?_ ?_
      · exact Nat.zero_le _
      · rintro ⟨r, bk, Ds⟩ hI
        refine LW.seq ?_
        refine LW.seq ?_
        refine LW.region ?_
        refine X.u (LU.loadO 0 rfl ⟨Try.sizeOf3, Try.isAgg3⟩ Is.rfl' (Part.one rfl)) rfl ?_
        refine X.u (LU.lss Is.rfl' Is.rfl') rfl ?_
        refine LL.nil (after_code ?_)
        refine X.cond rfl (fun h10 => ?_) (fun h10 => ?_)
        · try have h10 := of_decide_eq_true h10
          refine LW.skip (after_code ?_)
          refine LW.seq ?_
          refine LW.block ?_
          refine LW.seq ?_
          refine LW.region ?_
          refine X.act (X.alloc rfl Try.zeroValue3 (by exact Cells.raw rfl) (fun b8 => ?_))
          refine X.act (X.store 0 rfl Try.sizeOf3 Is.rfl' Is.rfl' (by exact Cells.raw rfl) (by (simp; done)) (by (simp; done)) ?_)
          refine LL.nil (after_code ?_)
          refine LW.seq ?_
          refine LW.seq ?_
          refine LW.region ?_
          refine X.u (LU.moveR Is.rfl') rfl ?_
          refine LL.nil (after_code ?_)
          refine LW.block ?_
          refine X.rangeB (items := pcs 0 (wantS s)) Is.rfl' Try.func28 rfl rfl (parts_iter s (by omega) bp) rfl (by intro x hx; obtain ⟨i, hi⟩ := List.getElem?_of_mem hx; obtain ⟨p, _, rfl⟩ := pcs_get0 hi; rfl) (α := Nat) (β := Nat) (fun n => [.cells b8 3 [i64 n], .cells bk 3 [i64 r], .cells b5 24 [Strs (wantS s) .unk], .cells b4 4 [bl false], .cells b3 3 [i64 stop]]) (fun m => [.cells b8 3 [i64 m], .cells bk 3 [i64 r], .cells b5 24 [Strs (wantS s) .unk], .cells b4 4 [bl false], .cells b3 3 [i64 stop]]) (fun k n => n = k) (fun c m => c = .exit 2 ∧ (r = 0 ∧ (m : Int) = stop)) (0) ?_ (by (refine HSub.pick 5 rfl ?_); (refine HSub.pick 0 rfl ?_); (refine HSub.pick 0 rfl ?_); (refine HSub.pick 0 rfl ?_); (refine HSub.pick 0 rfl ?_); (refine HSub.pick 0 rfl ?_); exact HSub.refl _) ?_ ?_ ?_
          · exact rfl
          · rintro k n x hx hI R1
            obtain ⟨p, hp, rfl⟩ := pcs_get0 hx
            obtain ⟨hpl, hpg⟩ := want_at hp
            subst hI
            refine LW.seq ?_
            refine LW.region ?_
            refine X.u (LU.assignR Is.rfl') rfl ?_
            refine LL.nil (after_code ?_)
            refine LW.region ?_
            refine X.u (LU.assignR Is.rfl') rfl ?_
            refine LL.nil (after_end ?_)
            refine ⟨rfl, _, _, rfl, fun R2 => ?_⟩
            refine LW.block ?_
            refine LW.seq ?_
            refine LW.seq ?_
            refine LW.region ?_
            refine X.u (LU.moveR Is.rfl') rfl ?_
            refine X.u (LU.loadO 0 rfl ⟨Try.sizeOf3, Try.isAgg3⟩ Is.rfl' (Part.one rfl)) rfl ?_
            refine X.u (LU.neq Is.rfl' Is.rfl') rfl ?_
            refine X.u (LU.moveR Is.rfl') rfl ?_
            refine X.gF rfl rfl (fun hg => LU.loadO 0 rfl ⟨Try.sizeOf3, Try.isAgg3⟩ (by exact Is.rfl') (Part.one rfl)) rfl ?_
            refine X.gF rfl rfl (fun hg => LU.loadO 2 rfl ⟨Try.sizeOf24, Try.isAgg24⟩ (by exact Is.rfl') (Part.one rfl)) rfl ?_
            refine X.gF rfl rfl (fun hg => LU.lenN Try.underlying24 (by exact Is.whenN hg) (by (simp only [Option.getD_some, Option.getD_none, byteEls_length, intEls_length, List.length_append, List.length_cons, List.length_nil, List.length_map, List.length_drop, List.length_take, Int.toNat_natCast]; rfl))) rfl ?_
            refine X.gF rfl rfl (fun hg => LU.geq (by exact Is.whenN hg) (by exact Is.whenN hg)) rfl ?_
            refine X.u (LU.pickOr Is.rfl' Is.rfl' (fun hq => (by exact Is.whenN hq))) rfl ?_
            refine X.u (LU.moveR Is.rfl') rfl ?_
            refine X.gF rfl rfl (fun hg => LU.moveR (by exact Is.rfl')) rfl ?_
            refine X.gF rfl rfl (fun hg => LU.loadO 2 rfl ⟨Try.sizeOf24, Try.isAgg24⟩ (by exact Is.rfl') (Part.one rfl)) rfl ?_
            refine X.gF rfl rfl (fun hg => LU.loadO 0 rfl ⟨Try.sizeOf3, Try.isAgg3⟩ (by exact Is.rfl') (Part.one rfl)) rfl ?_
            refine X.gF rfl rfl (fun hg => LU.at Try.underlying24 ⟨Try.sizeOf9, Try.isAgg9⟩ (by exact Is.whenN hg) (by exact Is.whenN hg) (by omega) (strEls_at (by omega)) (by simp)) rfl ?_
            refine X.gF rfl rfl (fun hg => LU.load ⟨Try.sizeOf9, Try.isAgg9⟩ (by exact Is.whenN hg) (by (simp; done)) (Part.one rfl)) rfl ?_
            refine X.gF rfl rfl (fun hg => LU.strneN (by exact Is.whenN hg) (by exact Is.whenN hg)) rfl ?_
            refine X.u (LU.weak (LU.pickOr Is.rfl' Is.rfl' (fun hq => (by exact Is.whenN hq))) (asB (c := false) rfl (by simp [hp]; omega))) rfl ?_
            refine LL.nil (after_code ?_)
            refine X.condF rfl ?_ ?_
            · rfl
            refine LW.skip (after_code ?_)
            refine LW.seq ?_
            refine LW.region ?_
            refine X.u (LU.loadO 0 rfl ⟨Try.sizeOf3, Try.isAgg3⟩ Is.rfl' (Part.one rfl)) rfl ?_
            refine X.u (LU.addN Is.rfl' Is.rfl' (wrap_i64 (by omega) (by omega))) rfl ?_
            refine X.act (X.store 0 rfl Try.sizeOf3 Is.rfl' Is.rfl' (by exact Cells.raw rfl) (by (simp; done)) (by (simp; done)) ?_)
            refine LL.nil (after_code ?_)
            refine LW.seq ?_
            refine LW.region ?_
            refine X.u (LU.loadO 1 rfl ⟨Try.sizeOf3, Try.isAgg3⟩ Is.rfl' (Part.one rfl)) rfl ?_
            refine X.u (LU.eql Is.rfl' Is.rfl') rfl ?_
            refine X.u (LU.moveR Is.rfl') rfl ?_
            refine X.gT rfl rfl (fun hg => LU.loadO 0 rfl ⟨Try.sizeOf3, Try.isAgg3⟩ (by exact Is.rfl') (Part.one rfl)) rfl ?_
            refine X.gT rfl rfl (fun hg => LU.loadO 4 rfl ⟨Try.sizeOf3, Try.isAgg3⟩ (by exact Is.rfl') (Part.one rfl)) rfl ?_
            refine X.gT rfl rfl (fun hg => LU.eql (by exact Is.whenE hg) (by exact Is.whenE hg)) rfl ?_
            refine X.u (LU.pickAnd Is.rfl' (fun hq => (by exact Is.whenE hq)) Is.rfl') rfl ?_
            refine LL.nil (after_code ?_)
            refine X.cond rfl (fun h19 => ?_) (fun h19 => ?_)
            · try have h19 := of_decide_eq_true h19
              refine LW.exit (exit_blk' rfl (after_end ?_))
              refine ⟨n + 1, ⟨rfl, ?_⟩, (by repeat (exact HSub.refl _))⟩
              exact ⟨by simp at h19; omega, by simp at h19; omega⟩
            · try have h19 := of_decide_eq_false h19
              refine LW.skip (after_blk (after_end ?_))
              refine ⟨n + 1, ?_, (by repeat (exact HSub.refl _))⟩
              exact rfl
          · rintro D n hI
            rw [pcs_len] at hI
            refine after_blk (after_code ?_)
            refine LW.seq ?_
            refine LW.region ?_
            refine X.u (LU.loadO 1 rfl ⟨Try.sizeOf3, Try.isAgg3⟩ Is.rfl' (Part.one rfl)) rfl ?_
            refine X.u (LU.loadO 3 rfl ⟨Try.sizeOf24, Try.isAgg24⟩ Is.rfl' (Part.one rfl)) rfl ?_
            refine X.u (LU.lenN Try.underlying24 Is.rfl' (by (simp only [Option.getD_some, Option.getD_none, byteEls_length, intEls_length, List.length_append, List.length_cons, List.length_nil, List.length_map, List.length_drop, List.length_take, Int.toNat_natCast]; rfl))) rfl ?_
            refine X.u (LU.neq Is.rfl' Is.rfl') rfl ?_
            refine X.u (LU.moveR Is.rfl') rfl ?_
            refine X.gT rfl rfl (fun hg => LU.loadO 2 rfl ⟨Try.sizeOf3, Try.isAgg3⟩ (by exact Is.rfl') (Part.one rfl)) rfl ?_
            refine X.gT rfl rfl (fun hg => LU.eql (by exact Is.whenE hg) (by exact Is.rfl')) rfl ?_
            refine X.gT rfl rfl (fun hg => LU.moveR (by exact Is.whenE hg)) rfl ?_
            refine X.gF2 rfl rfl (fun hg0 hg => LU.loadO 1 rfl ⟨Try.sizeOf3, Try.isAgg3⟩ (by exact Is.rfl') (Part.one rfl)) rfl ?_
            refine X.gF2 rfl rfl (fun hg0 hg => LU.loadO 5 rfl ⟨Try.sizeOf3, Try.isAgg3⟩ (by exact Is.rfl') (Part.one rfl)) rfl ?_
            refine X.gF2 rfl rfl (fun hg0 hg => LU.neq (by exact Is.whenE (by rw [hg0, hg]; rfl)) (by exact Is.whenE (by rw [hg0, hg]; rfl))) rfl ?_
            refine X.gT rfl rfl (fun hg => LU.pickOr (by exact Is.whenE hg) (by exact Is.rfl') (fun hq => (by exact Is.whenE (by rw [hg, hq]; rfl)))) rfl ?_
            refine X.u (LU.weak (LU.pickAnd Is.rfl' (fun hq => (by exact Is.whenE hq)) Is.rfl') (asB (c := false) rfl (by simp [hI]))) rfl ?_
            refine LL.nil (after_code ?_)
            refine X.condF rfl ?_ ?_
            · rfl
            refine LW.skip (after_blk (after_code ?_))
            refine LW.seq ?_
            refine LW.seq ?_
            refine LW.region ?_
            refine X.u (LU.loadO 2 rfl ⟨Try.sizeOf3, Try.isAgg3⟩ Is.rfl' (Part.one rfl)) rfl ?_
            refine LL.nil (after_code ?_)
            refine LW.region ?_
            refine X.act (X.alloc rfl Try.zeroValue3 (by exact Cells.raw rfl) (fun b7 => ?_))
            refine X.act (X.store 0 rfl Try.sizeOf3 Is.rfl' Is.rfl' (by exact Cells.raw rfl) (by (simp; done)) (by (simp; done)) ?_)
            refine LL.nil (after_code ?_)
            refine LW.region ?_
            refine X.u (LU.loadO 0 rfl ⟨Try.sizeOf3, Try.isAgg3⟩ Is.rfl' (Part.one rfl)) rfl ?_
            refine X.u (LU.addN Is.rfl' Is.rfl' (wrap_i64 (by omega) (by omega))) rfl ?_
            refine X.act (X.store 0 rfl Try.sizeOf3 Is.rfl' Is.rfl' (by exact Cells.raw rfl) (by (simp; done)) (by exact Nat.le_of_ble_eq_true rfl) ?_)
            refine LL.nil (after_rnd ?_)
            refine X.nextN ((r + 1, b7, D :: Ds)) rfl (EnvLe.cons (by rfl) (EnvLe.nil)) (Keeps.cons (by exact Eq.trans (b := .raw _) rfl rfl) (Keeps.cons (by exact Eq.trans (b := .raw _) rfl rfl) (Keeps.cons (by exact Eq.trans (b := .raw _) rfl rfl) (Keeps.cons (by exact Eq.trans (b := .raw _) rfl rfl) (Keeps.cons (by exact Eq.trans (b := .raw _) rfl rfl) (Keeps.nil)))))) (by repeat (first | exact HSub.refl _ | refine HSub.pick 0 rfl ?_ | refine HSub.pick 2 rfl ?_ | refine HSub.pick 3 rfl ?_ | refine HSub.drop ?_)) ?_ ?_
            · omega
            · (simp; omega)
          · rintro D c m ⟨rfl, hL⟩
            refine LW.exit (exit_blk (after_code ?_))
            refine LW.seq ?_
            refine LW.region ?_
            refine X.u (LU.loadO 1 rfl ⟨Try.sizeOf3, Try.isAgg3⟩ Is.rfl' (Part.one rfl)) rfl ?_
            refine X.u (LU.loadO 3 rfl ⟨Try.sizeOf24, Try.isAgg24⟩ Is.rfl' (Part.one rfl)) rfl ?_
            refine X.u (LU.lenN Try.underlying24 Is.rfl' (by (simp only [Option.getD_some, Option.getD_none, byteEls_length, intEls_length, List.length_append, List.length_cons, List.length_nil, List.length_map, List.length_drop, List.length_take, Int.toNat_natCast]; rfl))) rfl ?_
            refine X.u (LU.neq Is.rfl' Is.rfl') rfl ?_
            refine X.u (LU.moveR Is.rfl') rfl ?_
            refine X.gT rfl rfl (fun hg => LU.loadO 2 rfl ⟨Try.sizeOf3, Try.isAgg3⟩ (by exact Is.rfl') (Part.one rfl)) rfl ?_
            refine X.gT rfl rfl (fun hg => LU.eql (by exact Is.whenE hg) (by exact Is.rfl')) rfl ?_
            refine X.gT rfl rfl (fun hg => LU.moveR (by exact Is.whenE hg)) rfl ?_
            refine X.gF2 rfl rfl (fun hg0 hg => LU.loadO 1 rfl ⟨Try.sizeOf3, Try.isAgg3⟩ (by exact Is.rfl') (Part.one rfl)) rfl ?_
            refine X.gF2 rfl rfl (fun hg0 hg => LU.loadO 5 rfl ⟨Try.sizeOf3, Try.isAgg3⟩ (by exact Is.rfl') (Part.one rfl)) rfl ?_
            refine X.gF2 rfl rfl (fun hg0 hg => LU.neq (by exact Is.whenE (by rw [hg0, hg]; rfl)) (by exact Is.whenE (by rw [hg0, hg]; rfl))) rfl ?_
            refine X.gT rfl rfl (fun hg => LU.pickOr (by exact Is.whenE hg) (by exact Is.rfl') (fun hq => (by exact Is.whenE (by rw [hg, hq]; rfl)))) rfl ?_
            refine X.u (LU.weak (LU.pickAnd Is.rfl' (fun hq => (by exact Is.whenE hq)) Is.rfl') (asB (c := false) rfl (by simp [hL.1, hL.2]))) rfl ?_
            refine LL.nil (after_code ?_)
            refine X.condF rfl ?_ ?_
            · rfl
            refine LW.skip (after_blk (after_code ?_))
            refine LW.seq ?_
            refine LW.seq ?_
            refine LW.region ?_
            refine X.u (LU.loadO 2 rfl ⟨Try.sizeOf3, Try.isAgg3⟩ Is.rfl' (Part.one rfl)) rfl ?_
            refine LL.nil (after_code ?_)
            refine LW.region ?_
            refine X.act (X.alloc rfl Try.zeroValue3 (by exact Cells.raw rfl) (fun b7 => ?_))
            refine X.act (X.store 0 rfl Try.sizeOf3 Is.rfl' Is.rfl' (by exact Cells.raw rfl) (by (simp; done)) (by (simp; done)) ?_)
            refine LL.nil (after_code ?_)
            refine LW.region ?_
            refine X.u (LU.loadO 0 rfl ⟨Try.sizeOf3, Try.isAgg3⟩ Is.rfl' (Part.one rfl)) rfl ?_
            refine X.u (LU.addN Is.rfl' Is.rfl' (wrap_i64 (by omega) (by omega))) rfl ?_
            refine X.act (X.store 0 rfl Try.sizeOf3 Is.rfl' Is.rfl' (by exact Cells.raw rfl) (by (simp; done)) (by exact Nat.le_of_ble_eq_true rfl) ?_)
            refine LL.nil (after_rnd ?_)
            refine X.nextN ((r + 1, b7, D :: Ds)) rfl (EnvLe.cons (by rfl) (EnvLe.nil)) (Keeps.cons (by exact Eq.trans (b := .raw _) rfl rfl) (Keeps.cons (by exact Eq.trans (b := .raw _) rfl rfl) (Keeps.cons (by exact Eq.trans (b := .raw _) rfl rfl) (Keeps.cons (by exact Eq.trans (b := .raw _) rfl rfl) (Keeps.cons (by exact Eq.trans (b := .raw _) rfl rfl) (Keeps.nil)))))) (by repeat (first | exact HSub.refl _ | refine HSub.pick 0 rfl ?_ | refine HSub.pick 2 rfl ?_ | refine HSub.pick 3 rfl ?_ | refine HSub.drop ?_)) ?_ ?_
            · omega
            · (simp; omega)
        · try have h10 := of_decide_eq_false h10
          refine LW.exit (exit_code (exit_rnd (exit_blk (after_code ?_))))
          refine LW.seq ?_
          refine LW.region ?_
          refine X.u (LU.moveR Is.rfl') rfl ?_
          refine X.u (LU.call (parent_calls s (by omega)) Try.func17 rfl rfl (Opds.cons Is.rfl' Opds.nil)) rfl ?_
          refine X.u (LU.moveT Is.rfl') rfl ?_
          refine X.u (LU.extract Is.rfl' rfl) rfl ?_
          refine X.u (LU.extract Is.rfl' rfl) rfl ?_
          refine X.u (LU.assignR Is.rfl') rfl ?_
          refine X.u (LU.assignR Is.rfl') rfl ?_
          refine LL.nil (after_code ?_)
          refine LW.seq ?_
          refine LW.region ?_
          refine X.u (LU.moveR Is.rfl') rfl ?_
          refine X.u (LU.call (rparent_calls s (by omega)) Try.func20 rfl rfl (Opds.cons Is.rfl' Opds.nil)) rfl ?_
          refine X.u (LU.moveT Is.rfl') rfl ?_
          refine X.u (LU.extract Is.rfl' rfl) rfl ?_
          refine X.u (LU.extract Is.rfl' rfl) rfl ?_
          refine X.u (LU.assignR Is.rfl') rfl ?_
          refine X.u (LU.assignR Is.rfl') rfl ?_
          refine LL.nil (after_code ?_)
          refine LW.seq ?_
          refine LW.region ?_
          refine X.u (LU.moveR Is.rfl') rfl ?_
          refine X.u (LU.moveR Is.rfl') rfl ?_
          refine X.u (LU.weak (LU.streqN Is.rfl' Is.rfl') (asB (c := true) rfl (by simp))) rfl ?_
          refine X.u (LU.moveR Is.rfl') rfl ?_
          refine X.doT rfl rfl (LU.moveR (by exact Is.rfl')) rfl ?_
          refine X.doT rfl rfl (LU.moveR (by exact Is.rfl')) rfl ?_
          refine X.doT rfl rfl (LU.weak (LU.booleq Try.underlying4 (by exact Is.rfl') (by exact Is.rfl')) (asB (c := true) rfl (by simp))) rfl ?_
          refine X.u (LU.pickT Is.rfl' (by exact Is.rfl')) rfl ?_
          refine X.u (LU.moveR Is.rfl') rfl ?_
          refine X.doT rfl rfl (LU.call (lives_calls) Try.func8 rfl rfl Opds.nil) rfl ?_
          refine X.u (LU.weak (LU.pickT Is.rfl' (by exact Is.rfl')) (asB (c := true) rfl (by rfl))) rfl ?_
          refine X.act (X.store 2 rfl Try.sizeOf4 Is.rfl' Is.rfl' (by exact Cells.raw rfl) (by (simp; done)) (by (simp; done)) ?_)
          refine LL.nil (after_code ?_)
          refine LW.ret (after_end ?_)
          refine X.retMs (H1 := .cells b4 4 [bl true] :: Rf) (H' := []) Ds (HSub.trans (B := .cells b4 4 [bl true] :: (markA Ds ++ Rf)) (by repeat (first | exact HSub.refl _ | refine HSub.pick 0 rfl ?_ | refine HSub.drop ?_)) (hsub_swap1 _ _ _)) (Res.cell1 0 rfl rfl ⟨Try.sizeOf4, Try.isAgg4⟩ (Part.one rfl) (IsR rfl)) (HSub.drop (HSub.refl _)) ?_
          exact rfl
theorem NamesParts_row (s : List UInt8) (stop : Int) (hs : s.length ≤ reachBytes) (hw : (Lit.int .i64 stop).wf = true) : LCalls Try.prog 7 [Str s, i64 stop] [] (fun r _ => r = .raw (.bool true)) := np_calls s stop hs
end Go.Proofs.Ytcemodldbfiomaa
