/- A map's keys in order. -/
import Derived.Test.YtmaeepckfbnpjaaDpF
set_option linter.unusedVariables false
set_option linter.unusedSimpArgs false
namespace Go.Proofs.Ytmaeepckfbnpjaa
open Go.RowKit Go.L Go.Lib
attribute [local irreducible] LL LW LO
theorem ownA_drop : ∀ (A : Option Nat) (te : TypeId) (xs : List LV) (R : List Atom), HSub (ownA A te xs ++ R) R
  | none, _, _, R => HSub.refl _
  | some _, _, _, R => HSub.drop (HSub.refl _)
theorem own_swap (a : Atom) : ∀ (A : Option Nat) (te : TypeId) (xs : List LV) (R : List Atom), HSub (a :: (ownA A te xs ++ R)) (ownA A te xs ++ (a :: R))
  | none, _, _, R => HSub.refl _
  | some _, _, _, R => HSub.pick 1 rfl (HSub.refl _)
set_option maxHeartbeats 1000000 in
set_option maxRecDepth 100000 in
theorem sorted_calls (m : Nat) (M : List (Hs × LV)) (hk : (M.map (·.1)).Nodup) (hl : M.length ≤ 1000000) : LCalls Try.prog 32 [.raw (.map (some m)), .raw (.func (.func 25) #[] #[])] [.map m (mp hsKey M)] (fun r H' => ∃ ks, r = .sl 32 (hss (sortH ks)) .unk ∧ H' = [] ∧ ks.Nodup ∧ ∀ x, x ∈ ks ↔ x ∈ M.map (·.1)) := by
  refine LCalls.of Try.func32 rfl Try.ntmps32 Try.results32 rfl (fun Rf => ?_)
  refine LW.seq ?_
  refine LW.region ?_
  refine X.u (LU.assign (Is.nil 32)) rfl ?_
  refine LL.nil (after_code ?_)
  refine LW.seq ?_
  refine LW.region ?_
  refine X.u (LU.assignR Is.rfl') rfl ?_
  refine LL.nil (after_code ?_)
  refine LW.seq ?_
  refine LW.seq ?_
  refine LW.region ?_
  refine X.u (LU.moveR Is.rfl') rfl ?_
  refine X.act (LO.rangeMap (st := ⟨_, _, _⟩) 0 rfl rfl Try.underlying43 Is.rfl' (fun b8 => ?_))
  refine LL.nil (after_code ?_)
  refine LW.block ?_
  refine X.loopK (α := List Nat × Option Nat × TypeId × Nat × Nat × Nat × List LV) (fun ⟨seen, A, te, off, n, c, xs⟩ => [(5, ownV A off n c)]) [1, 4, 8] (fun ⟨seen, A, te, off, n, c, xs⟩ => .mapr m b8 (mp hsKey M) seen :: (ownA A te xs ++ Rf)) (fun ⟨seen, A, te, off, n, c, xs⟩ => OwnS 32 (hss (pickK (M.map (·.1)) seen)) A off n c xs ∧ seen.Nodup ∧ (∀ i ∈ seen, i < M.length) ∧ n = seen.length) (fun ⟨seen, A, te, off, n, c, xs⟩ => unseen M.length seen) (([], none, 0, 0, 0, 0, [])) (EnvLe.cons (by rfl) (EnvLe.nil)) (by repeat (exact HSub.refl _)) ?_ ?_
  · exact ⟨OwnS.none 32, List.nodup_nil, (fun i hi => by cases hi), rfl⟩
  · rintro ⟨seen, A, te, off, n, c, xs⟩ hI
    obtain ⟨ow, hsn, hsl, hns⟩ := hI
    have hnl : n ≤ M.length := by
      have h1 := (nodup_len (k := seen) (l := List.range M.length) hsn (fun x hx => List.mem_range.2 (hsl x hx))).1
      rw [List.length_range] at h1
      omega
    refine LW.seq ?_
    refine LW.region ?_
    refine X.act (LO.nextMap (st := ⟨_, _, _⟩) 0 rfl rfl Is.rfl' (fun i9 kv9 hi9 hn9 => ?_) (fun hall9 => ?_))
    · refine X.u (LU.extract Is.rfl' rfl) rfl ?_
      refine LL.nil (after_code ?_)
      refine LW.seq ?_
      refine X.condT rfl ?_ ?_
      · rfl
      refine LW.skip (after_code ?_)
      refine LW.block ?_
      refine LW.seq ?_
      have hex : ∃ p, M[i9]? = some p ∧ kv9 = (.raw (hsKey p.1), p.2) := by
        rw [List.getElem?_map] at hi9
        cases hq : M[i9]? with
        | none => rw [hq] at hi9; cases hi9
        | some p => rw [hq] at hi9; exact ⟨p, rfl, (Option.some.inj hi9).symm⟩
      obtain ⟨p, hp, rfl⟩ := hex
      have hil := (List.getElem?_eq_some_iff.1 hp).1
      have hka : (M.map (·.1))[i9]? = some p.1 := by rw [List.getElem?_map, hp]; rfl
      have hmu := unseen_lt hil hn9
      have hx2 : p.1.1.length = 32 := p.1.2
      refine LW.region ?_
      refine X.u (LU.entryMap 0 rfl (by assumption) Is.rfl') rfl ?_
      refine X.u (LU.weak (LU.extract Is.rfl' rfl) (Is.rawhk p.1)) rfl ?_
      refine X.act (X.alloc rfl Try.zeroValue34 (by exact Cells.rawagg (by decide)) (fun b6 => ?_))
      refine X.act (X.store 0 rfl Try.sizeOf34 Is.rfl' Is.rfl' (by exact Cells.agg) (by (simp; omega)) (by exact Nat.le_of_ble_eq_true rfl) ?_)
      refine LL.nil (after_code ?_)
      refine X.wcells (ys := hsL p.1) (putAt_all (by rw [List.length_map, hx2]; rfl)) ?_
      refine X.wghost (H' := .cells b6 34 (hsL p.1) :: .mapr m b8 (mp hsKey M) (seen ++ [i9]) :: (ownA A te xs ++ Rf)) (by repeat (exact HSub.refl _)) ?_
      refine LW.region ?_
      refine X.u (LU.moveR Is.rfl') rfl ?_
      refine X.u (LU.weak (LU.loadO 0 rfl ⟨Try.sizeOf34, Try.isAgg34⟩ Is.rfl' (Part.sub (by (simp; omega)))) (Is.of (y := .agg (hsL p.1)) (congrArg LV.agg (by rw [List.drop_zero, List.take_of_length_le (by rw [List.length_map, hx2]; exact Nat.le_refl _)])))) rfl ?_
      refine X.u (LU.lits Try.underlying26 Try.sizeOf34 Try.zeroValue34 (ones rfl) rfl (by decide) (by decide) (Elems.cons Is.rfl' (by exact Cells.agg) Elems.nil) (by (simp; assumption)) rfl) rfl ?_
      refine X.act (X.appendR ow (HSub.drop (own_swap _ A te xs Rf)) rfl Try.underlying26 (El.of (P := Try.prog) (z := .agg (Array.replicate 32 (.int .u8 0))) (size := 32) (bytes := 32) rfl rfl rfl) (ones rfl) Is.rfl' Is.rfl' (SrcL.slice Try.underlying26 (by decide) (by intro e he; rw [List.mem_singleton.1 he, List.length_map]; exact hx2)) (by simp) (by simp; omega) (by simp; omega) (fun b16 te16 off16 c16 xs16 ow16 => ?_))
      refine X.u (LU.assignR Is.rfl') rfl ?_
      refine LL.nil (after_blk (after_rnd ?_))
      refine X.next ((seen ++ [i9], some b16, te16, off16, n + 1, c16, xs16)) rfl (EnvLe.cons (by rfl) (EnvLe.nil)) (Keeps.cons (by exact Eq.trans (b := .raw _) rfl rfl) (Keeps.cons (by exact Eq.trans (b := .sl _ _ _) rfl rfl) (Keeps.cons (by exact Eq.trans (b := .raw _) rfl rfl) (Keeps.nil)))) (by repeat (first | exact HSub.refl _ | refine HSub.pick 1 rfl ?_)) ?_ ?_
      · refine ⟨?_, ?_, ?_, ?_⟩
        · rw [pickK_snoc hka, hss, List.map_append]; exact ow16
        · rw [List.nodup_append]; exact ⟨hsn, by simp, fun x hx y hy => by rw [List.mem_singleton.1 hy]; rintro rfl; exact hn9 hx⟩
        · intro i hi
          rcases List.mem_append.1 hi with h | h
          · exact hsl i h
          · rw [List.mem_singleton.1 h]; exact hil
        · rw [List.length_append, hns]; rfl
      · omega
    · refine X.u (LU.extract Is.rfl' rfl) rfl ?_
      refine LL.nil (after_code ?_)
      refine LW.seq ?_
      refine X.condF rfl ?_ ?_
      · rfl
      refine LW.exit (exit_code (exit_rnd (exit_blk (after_code ?_))))
      refine LW.seq ?_
      have hcall := sortN_calls (pickK (M.map (·.1)) seen) A te off n c xs ow (by omega)
      refine X.wghost (HSub.drop (HSub.refl _)) ?_
      refine LW.region ?_
      refine X.u (LU.moveR Is.rfl') rfl ?_
      refine X.u (LU.moveR Is.rfl') rfl ?_
      refine X.act (X.call (hcall) Try.func24 rfl rfl rfl (HSub.refl _) (Opds.cons Is.rfl' (Opds.cons Is.rfl' Opds.nil)) ?_)
      rintro r H' ⟨rfl, xs2, rfl, ow2⟩
      refine LL.nil (after_code ?_)
      refine LW.seq ?_
      refine LW.freezeOw (t := 5) (HSub.refl _) rfl ow2 ?_
      refine LW.region ?_
      refine X.u (LU.moveS Is.rfl') rfl ?_
      refine X.u (LU.assignS Is.rfl') rfl ?_
      refine LL.nil (after_code ?_)
      refine LW.ret (after_end ?_)
      refine X.ret (H' := []) (Res.one (by exact IsS rfl)) (HSub.refl _) ?_
      refine ⟨_, rfl, rfl, pickK_nodup hk hsn (by rw [List.length_map]; exact hsl), fun x => pickK_mem (by rw [List.length_map]; exact hsl) (fun i hi => hall9 i (by simpa using hi)) x⟩
end Go.Proofs.Ytmaeepckfbnpjaa
