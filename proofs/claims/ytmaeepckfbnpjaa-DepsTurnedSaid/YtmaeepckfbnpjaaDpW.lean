/- Who needs a hash. -/
import Derived.Test.YtmaeepckfbnpjaaDpV
set_option linter.unusedVariables false
set_option linter.unusedSimpArgs false
namespace Go.Proofs.Ytmaeepckfbnpjaa
open Go.RowKit Go.L Go.Lib
attribute [local irreducible] LL LW LO
def byX (x : It) (l : List Hs) (d : Hs) : List Hs := (l.filter fun y => y = d).map fun _ => x.name
theorem byOf_snoc (l : List It) (x : It) (d : Hs) : byOf (l ++ [x]) d = byOf l d ++ byX x x.deps d := by unfold byOf byX; rw [List.flatMap_append]; simp
theorem byX_snoc (x : It) (l : List Hs) (e d : Hs) : byX x (l ++ [e]) d = byX x l d ++ (if e = d then [x.name] else []) := by
  unfold byX
  rw [List.filter_append, List.map_append]
  by_cases c : e = d
  · simp [c]
  · simp [c]
theorem byX_len (x : It) (l : List Hs) (d : Hs) : (byX x l d).length ≤ l.length := by unfold byX; rw [List.length_map]; exact List.length_filter_le _ _
theorem byOf_len : ∀ (l : List It) (d : Hs), (byOf l d).length ≤ totalD l
  | [], d => Nat.le_refl 0
  | x :: l, d => by
    have ih := byOf_len l d
    have e : totalD (x :: l) = x.deps.length + totalD l := rfl
    have f : byOf (x :: l) d = byX x x.deps d ++ byOf l d := rfl
    have := byX_len x x.deps d
    rw [e, f, List.length_append]
    omega
set_option maxHeartbeats 2000000 in
set_option maxRecDepth 100000 in
theorem above_calls (l : List It) (h : Hs) (ks : List Hs) (k : Cap) (hl : l.length < 140737488355328) (hd : totalD l ≤ 1000000) (hks : IsA l h ks) : LCalls Try.prog 16 [.sl 33 (its l) k, .agg (hsL h)] [] (fun r H' => r = .sl 32 (hss ks) .unk ∧ H' = []) := by
  have hx2 : h.1.length = 32 := h.2
  refine LCalls.of Try.func16 rfl Try.ntmps16 Try.results16 rfl (fun Rf => ?_)
  refine LW.seq ?_
  refine LW.region ?_
  refine X.act (X.box rfl Is.rfl' (by exact Cells.agg) (fun b3 => ?_))
  refine X.u (LU.assign (Is.nil 32)) rfl ?_
  refine LL.nil (after_code ?_)
  refine LW.seq ?_
  refine LW.seq ?_
  refine LW.region ?_
  refine X.u (LU.moveS Is.rfl') rfl ?_
  refine X.u (LU.lenN Try.underlying22 Is.rfl' (by (simp only [Option.getD_some, Option.getD_none, byteEls_length, intEls_length, List.length_append, List.length_cons, List.length_nil, List.length_map, List.length_drop, List.length_take, Int.toNat_natCast]; rfl))) rfl ?_
  refine X.u (LU.gtr Is.rfl' Is.rfl') rfl ?_
  refine LL.nil (after_code ?_)
  refine X.cond rfl (fun h1 => ?_) (fun h1 => ?_)
  · have h1 : 256 < l.length := by have := of_decide_eq_true h1; omega
    refine LW.seq ?_
    refine LW.region ?_
    refine X.u (LU.assign (Is.nil 32)) rfl ?_
    refine LL.nil (after_code ?_)
    refine LW.ret (ret_code (after_end ?_))
    refine X.ret (H' := []) (Res.one Is.unk) (by repeat (first | exact HSub.refl _ | refine HSub.drop ?_)) ?_
    refine ⟨?_, rfl⟩
    rw [hks.1 h1]; rfl
  · have h1 : ¬ 256 < l.length := by have := of_decide_eq_false h1; omega
    refine LW.skip (after_code ?_)
    refine LW.seq ?_
    refine LW.region ?_
    refine X.act (LO.makeMap (st := ⟨_, _, _⟩) rfl (fun b13 => ?_))
    refine X.u (LU.assignR Is.rfl') rfl ?_
    refine LL.nil (after_code ?_)
    refine LW.seq ?_
    refine LW.seq ?_
    refine LW.region ?_
    refine X.u (LU.moveS Is.rfl') rfl ?_
    refine X.u (LU.lenN Try.underlying22 Is.rfl' (by (simp only [Option.getD_some, Option.getD_none, byteEls_length, intEls_length, List.length_append, List.length_cons, List.length_nil, List.length_map, List.length_drop, List.length_take, Int.toNat_natCast]; rfl))) rfl ?_
    refine X.u (LU.moveR Is.rfl') rfl ?_
    refine LL.nil (after_code ?_)
    refine LW.block ?_
    refine X.loopK (α := Nat × List (Hs × Gr)) (fun ⟨i, N⟩ => [(16, i64 i)]) [3, 4, 5, 14, 15] (fun ⟨i, N⟩ => .map b13 (mp hsKey (nV N)) :: .cells b3 34 (hsL h) :: (tls N ++ Rf)) (fun ⟨i, N⟩ => i ≤ l.length ∧ ∀ d, (curN N d).es = byOf (l.take i) d) (fun ⟨i, N⟩ => l.length - i) ((0, [])) (EnvLe.cons (by rfl) (EnvLe.nil)) (by repeat (exact HSub.refl _)) ?_ ?_
    · exact ⟨Nat.zero_le _, fun h => rfl⟩
    · rintro ⟨i, N⟩ hI
      obtain ⟨hi, hN⟩ := hI
      refine LW.seq ?_
      refine LW.region ?_
      refine X.u (LU.lss Is.rfl' Is.rfl') rfl ?_
      refine LL.nil (after_code ?_)
      refine LW.seq ?_
      refine X.cond rfl (fun h5 => ?_) (fun h5 => ?_)
      · try have h5 := of_decide_eq_true h5
        refine LW.skip (after_code ?_)
        refine LW.seq ?_
        refine LW.block ?_
        refine LW.seq ?_
        obtain ⟨x, hx⟩ := at_lt (show i < l.length by omega)
        have htot := totalD_at hx
        have hxl := it_len x
        have hxn : x.name.1.length = 32 := x.name.2
        refine LW.region ?_
        refine X.u (LU.at Try.underlying22 ⟨Try.sizeOf36, Try.isAgg36⟩ Is.rfl' Is.rfl' (by omega) (its_at hx) (by simp)) rfl ?_
        refine X.u (LU.load ⟨Try.sizeOf36, Try.isAgg36⟩ Is.rfl' (by assumption) (Part.whole (by assumption))) rfl ?_
        refine X.act (X.alloc rfl Try.zeroValue36 (by exact Cells.rawagg (by decide)) (fun b7 => ?_))
        refine X.act (X.store 0 rfl Try.sizeOf36 Is.rfl' Is.rfl' (by exact Cells.agg) (by assumption) (by exact Nat.le_of_ble_eq_true rfl) ?_)
        refine LL.nil (after_code ?_)
        refine LW.seq ?_
        refine X.wcells (ys := itL x) (putAt_all (by rw [hxl]; rfl)) ?_
        refine LW.region ?_
        refine X.u (LU.fieldO Try.underlying36 rfl Try.sizeOf26 (by decide) Is.rfl') rfl ?_
        refine X.u (LU.loadO 0 rfl ⟨Try.sizeOf26, Try.isAgg26⟩ Is.rfl' (Part.one (it_deps x))) rfl ?_
        refine X.u (LU.lenN Try.underlying26 Is.rfl' (by (simp only [Option.getD_some, Option.getD_none, byteEls_length, intEls_length, List.length_append, List.length_cons, List.length_nil, List.length_map, List.length_drop, List.length_take, Int.toNat_natCast]; rfl))) rfl ?_
        refine X.u (LU.moveR Is.rfl') rfl ?_
        refine LL.nil (after_code ?_)
        refine LW.block ?_
        refine X.wghost (H' := .map b13 (mp hsKey (nV N)) :: .cells b7 36 (itL x) :: .cells b3 34 (hsL h) :: (tls N ++ Rf)) (by repeat (first | exact HSub.refl _ | refine HSub.pick 1 rfl ?_)) ?_
        refine X.loopK (α := Nat × List (Hs × Gr)) (fun ⟨j, N2⟩ => [(23, i64 j)]) [3, 4, 5, 7, 14, 15, 16, 21, 22] (fun ⟨j, N2⟩ => .map b13 (mp hsKey (nV N2)) :: .cells b7 36 (itL x) :: .cells b3 34 (hsL h) :: (tls N2 ++ Rf)) (fun ⟨j, N2⟩ => j ≤ x.deps.length ∧ ∀ d, (curN N2 d).es = byOf (l.take i) d ++ byX x (x.deps.take j) d) (fun ⟨j, N2⟩ => x.deps.length - j) ((0, N)) (EnvLe.cons (by rfl) (EnvLe.nil)) (by repeat (exact HSub.refl _)) ?_ ?_
        · exact ⟨Nat.zero_le _, fun d => by rw [hN d]; simp [byX]⟩
        · rintro ⟨j, N2⟩ hI
          obtain ⟨hj, hN2⟩ := hI
          refine LW.seq ?_
          refine LW.region ?_
          refine X.u (LU.lss Is.rfl' Is.rfl') rfl ?_
          refine LL.nil (after_code ?_)
          refine LW.seq ?_
          refine X.cond rfl (fun h8 => ?_) (fun h8 => ?_)
          · try have h8 := of_decide_eq_true h8
            refine LW.skip (after_code ?_)
            refine LW.seq ?_
            refine LW.block ?_
            refine LW.seq ?_
            obtain ⟨e_, hd2⟩ := at_lt (show j < x.deps.length by omega)
            have hdl : e_.1.length = 32 := e_.2
            have hcn : (curN N2 e_).es.length ≤ 1000000 := by
              rw [hN2 e_, List.length_append]
              have h1 := byOf_len (l.take i) e_
              have h2 := byX_len x (x.deps.take j) e_
              rw [List.length_take] at h2
              omega
            refine LW.region ?_
            refine X.u (LU.at Try.underlying26 ⟨Try.sizeOf34, Try.isAgg34⟩ Is.rfl' Is.rfl' (by omega) (hss_at hd2) (hs_ne e_)) rfl ?_
            refine X.u (LU.weak (LU.load ⟨Try.sizeOf34, Try.isAgg34⟩ Is.rfl' (by (simp; omega)) (Part.whole (by (simp; omega)))) (Is.of (y := .agg (hsL e_)) (rfl))) rfl ?_
            refine X.act (X.alloc rfl Try.zeroValue34 (by exact Cells.rawagg (by decide)) (fun b9 => ?_))
            refine X.act (X.store 0 rfl Try.sizeOf34 Is.rfl' Is.rfl' (by exact Cells.agg) (by (simp; omega)) (by exact Nat.le_of_ble_eq_true rfl) ?_)
            refine LL.nil (after_code ?_)
            refine X.wcells (ys := hsL e_) (putAt_all (by rw [List.length_map, hdl]; rfl)) ?_
            refine LW.region ?_
            refine X.u (LU.moveR Is.rfl') rfl ?_
            refine X.u (LU.weak (LU.loadO 0 rfl ⟨Try.sizeOf34, Try.isAgg34⟩ Is.rfl' (Part.sub (by (simp; omega)))) (Is.of (y := .agg (hsL e_)) (hs_whole e_))) rfl ?_
            refine X.u (LU.fieldO Try.underlying36 rfl Try.sizeOf34 (by decide) Is.rfl') rfl ?_
            refine X.u (LU.weak (LU.loadO 2 rfl ⟨Try.sizeOf34, Try.isAgg34⟩ Is.rfl' (Part.sub (by (simp; omega)))) (Is.of (y := .agg (hsL x.name)) (congrArg LV.agg (it_name x)))) rfl ?_
            refine X.u (LU.lits Try.underlying26 Try.sizeOf34 Try.zeroValue34 (ones rfl) rfl (by decide) (by decide) (Elems.cons Is.rfl' (by exact Cells.agg) Elems.nil) (by (simp; assumption)) rfl) rfl ?_
            refine X.act (LO.mapEntry (st := ⟨_, _, _⟩) 1 rfl (KeyOk.hs Try.underlying34 Try.underlying5 Try.sizeOf5) rfl Try.underlying44 Try.zeroValue26 Is.rfl' (by exact Is.hk _) (fun s33 => ?_))
            refine X.u (LU.weak (LU.extract Is.rfl' rfl) (nV_is N2 e_)) rfl ?_
            refine X.act (X.appendP (HSub.trans (HSub.cons (HSub.cons (HSub.cons (HSub.cons (tls_take N2 e_ Rf))))) (HSub.pick 4 rfl (HSub.refl _))) rfl Try.underlying26 (El.of (P := Try.prog) (z := .agg (Array.replicate 32 (.int .u8 0))) (size := 32) (bytes := 32) rfl rfl rfl) Is.rfl' Is.rfl' (SrcL.slice Try.underlying26 (by decide) (hss_size [x.name])) (by rw [List.length_map]; simp; omega) (by rw [List.length_map]; simp; omega) (fun b34 o34 c34 => ?_))
            refine X.weak (t := 34) (v := grL ⟨(curN N2 e_).es ++ [x.name], b34, o34, c34⟩) (Is.of (congrArg (fun z => LV.sl 32 z (.tok b34 o34 c34)) (hss_app (curN N2 e_).es [x.name]))) ?_
            refine X.u (LU.extract Is.rfl' rfl) rfl ?_
            refine X.act (X.entryStore 1 rfl Is.rfl' Is.rfl' Is.rfl' ?_)
            refine LL.nil (after_blk (after_code ?_))
            refine X.wghost (H' := .map b13 (mp hsKey (nV (setN N2 e_ ⟨(curN N2 e_).es ++ [x.name], b34, o34, c34⟩))) :: .cells b7 36 (itL x) :: .cells b3 34 (hsL h) :: (tls (setN N2 e_ ⟨(curN N2 e_).es ++ [x.name], b34, o34, c34⟩) ++ Rf)) (HSub.trans (B := .map b13 (mp hsKey (setM (nV N2) e_ (grL ⟨(curN N2 e_).es ++ [x.name], b34, o34, c34⟩))) :: .cells b7 36 (itL x) :: .cells b3 34 (hsL h) :: (grA ⟨(curN N2 e_).es ++ [x.name], b34, o34, c34⟩ :: (restN N2 e_ ++ Rf))) (by repeat (first | exact HSub.refl _ | refine HSub.pick 0 rfl ?_ | refine HSub.pick 2 rfl ?_ | refine HSub.drop ?_)) (by rw [nV_set]; exact HSub.cons (HSub.cons (HSub.cons (tls_put N2 e_ ⟨(curN N2 e_).es ++ [x.name], b34, o34, c34⟩ Rf))))) ?_
            refine LW.region ?_
            refine X.u (LU.addN Is.rfl' Is.rfl' (wrap_i64 (by omega) (by omega))) rfl ?_
            refine X.u (LU.moveR Is.rfl') rfl ?_
            refine LL.nil (after_rnd ?_)
            refine X.next ((j + 1, setN N2 e_ ⟨(curN N2 e_).es ++ [x.name], b34, o34, c34⟩)) rfl (EnvLe.cons (by rfl) (EnvLe.nil)) (Keeps.cons (by exact Eq.trans (b := .raw _) rfl rfl) (Keeps.cons (by exact Eq.trans (b := .sl _ _ _) rfl rfl) (Keeps.cons (by exact Eq.trans (b := .raw _) rfl rfl) (Keeps.cons (by exact Eq.trans (b := .raw _) rfl rfl) (Keeps.cons (by exact Eq.trans (b := .sl _ _ _) rfl rfl) (Keeps.cons (by exact Eq.trans (b := .raw _) rfl rfl) (Keeps.cons (by exact Eq.trans (b := .raw _) rfl rfl) (Keeps.cons (by exact Eq.trans (b := .sl _ _ _) rfl rfl) (Keeps.cons (by exact Eq.trans (b := .raw _) rfl rfl) (Keeps.nil)))))))))) (by repeat (exact HSub.refl _)) ?_ ?_
            · refine ⟨by omega, fun d => ?_⟩
              rw [cur_set, take_snoc hd2, byX_snoc]
              by_cases c : e_ = d
              · rw [if_pos c, if_pos c, ← c, ← List.append_assoc, ← hN2 e_]
              · rw [if_neg c, if_neg c, List.append_nil]; exact hN2 d
            · (simp; omega)
          · try have h8 := of_decide_eq_false h8
            refine LW.exit (exit_code (exit_rnd (exit_blk (after_blk (after_code ?_)))))
            refine X.wghost (H' := .map b13 (mp hsKey (nV N2)) :: .cells b3 34 (hsL h) :: (tls N2 ++ Rf)) (by repeat (first | exact HSub.refl _ | refine HSub.pick 0 rfl ?_ | refine HSub.pick 1 rfl ?_ | refine HSub.drop ?_)) ?_
            refine LW.region ?_
            refine X.u (LU.addN Is.rfl' Is.rfl' (wrap_i64 (by omega) (by omega))) rfl ?_
            refine X.u (LU.moveR Is.rfl') rfl ?_
            refine LL.nil (after_rnd ?_)
            refine X.next ((i + 1, N2)) rfl (EnvLe.cons (by rfl) (EnvLe.nil)) (Keeps.cons (by exact Eq.trans (b := .raw _) rfl rfl) (Keeps.cons (by exact Eq.trans (b := .sl _ _ _) rfl rfl) (Keeps.cons (by exact Eq.trans (b := .raw _) rfl rfl) (Keeps.cons (by exact Eq.trans (b := .sl _ _ _) rfl rfl) (Keeps.cons (by exact Eq.trans (b := .raw _) rfl rfl) (Keeps.nil)))))) (by repeat (exact HSub.refl _)) ?_ ?_
            · refine ⟨by omega, fun d => ?_⟩
              have := hN2 d
              rw [show j = x.deps.length by omega, List.take_length] at this
              rw [this, take_snoc hx, byOf_snoc]
            · (simp; omega)
      · try have h5 := of_decide_eq_false h5
        refine LW.exit (exit_code (exit_rnd (exit_blk (after_code ?_))))
        refine LW.seq ?_
        have hil : i = l.length := by omega
        subst hil
        rw [List.take_length] at hN
        have hre := reach_calls b13 N h (names l) (fun x d hd => by
          rw [show fN N x = byOf l x from hN x] at hd
          obtain ⟨z, a, b, _⟩ := depsOf_mem.1 (byOf_mem.1 hd)
          exact List.mem_map.2 ⟨z, a, b⟩) (by rw [List.length_map]; omega) (fun x => by rw [hN x]; have := byOf_len l x; omega)
        refine X.wghost (H' := .cells b3 34 (hsL h) :: .map b13 (mp hsKey (nV N)) :: (tls N ++ Rf)) (by repeat (first | exact HSub.refl _ | refine HSub.pick 1 rfl ?_)) ?_
        refine LW.region ?_
        refine X.u (LU.moveR Is.rfl') rfl ?_
        refine X.u (LU.weak (LU.loadO 0 rfl ⟨Try.sizeOf34, Try.isAgg34⟩ Is.rfl' (Part.sub (by (simp; omega)))) (Is.of (y := .agg (hsL h)) (hs_whole h))) rfl ?_
        refine X.act (X.call (hre) Try.func30 rfl rfl rfl (HSub.pick 1 rfl (tls_push _ Rf N)) (Opds.cons Is.rfl' (Opds.cons Is.rfl' Opds.nil)) ?_)
        rintro r H' ⟨k0, rfl, rfl, hk0, hk1⟩
        refine X.u (LU.assignS Is.rfl') rfl ?_
        refine LL.nil (after_code ?_)
        refine LW.ret (after_end ?_)
        refine X.ret (H' := []) (Res.one (by exact IsS rfl)) (by repeat (first | exact HSub.refl _ | refine HSub.drop ?_)) ?_
        have hf : fN N = byOf l := funext hN
        rw [hf] at hk1
        have hj := (Just.of hk0 fun x => (hk1 x).trans rch_by).uniq (hks.2 (by omega))
        exact ⟨by rw [hj], rfl⟩
end Go.Proofs.Ytmaeepckfbnpjaa
