/- The order of items: the walk. -/
import Derived.Test.YtmaeepckfbnpjaaDqC
set_option linter.unusedVariables false
set_option linter.unusedSimpArgs false
namespace Go.Proofs.Ytmaeepckfbnpjaa
open Go.RowKit Go.L Go.Lib
attribute [local irreducible] LL LW LO LP LA
set_option maxHeartbeats 4000000 in
set_option maxRecDepth 100000 in
theorem order_calls (l : List It) (k : Cap) (hl : l.length < 140737488355328) (hd : totalD l ≤ 1000000) : LCalls Try.prog 11 [.sl 33 (its l) k] [] (fun r H' => r = .tup [.sl 32 (hss (orderS l).1) .unk, i64 ((orderS l).2 : Nat)] ∧ H' = []) := by
  refine LCalls.of Try.func11 rfl Try.ntmps11 Try.results11 rfl (fun Rf => ?_)
  refine LW.seq ?_
  refine LW.region ?_
  refine X.u (LU.assign (Is.nil 32)) rfl ?_
  refine X.u (LU.assignR Is.rfl') rfl ?_
  refine LL.nil (after_code ?_)
  refine LW.seq ?_
  refine LW.block ?_
  refine LW.seq ?_
  refine LW.region ?_
  refine X.u (LU.moveS Is.rfl') rfl ?_
  refine X.u (LU.lenN Try.underlying22 Is.rfl' (by (simp only [Option.getD_some, Option.getD_none, byteEls_length, intEls_length, List.length_append, List.length_cons, List.length_nil, List.length_map, List.length_drop, List.length_take, Int.toNat_natCast]; rfl))) rfl ?_
  refine X.u (LU.gtr Is.rfl' Is.rfl') rfl ?_
  refine X.u (LU.assignR Is.rfl') rfl ?_
  refine LL.nil (after_code ?_)
  refine X.cond rfl (fun h1 => ?_) (fun h1 => ?_)
  · have h1 : 256 < l.length := by have := of_decide_eq_true h1; omega
    refine LW.seq ?_
    refine LW.region ?_
    refine X.u (LU.assign (Is.nil 32)) rfl ?_
    refine X.u (LU.assignR Is.rfl') rfl ?_
    refine LL.nil (after_code ?_)
    refine LW.ret (ret_blk (ret_code (after_end ?_)))
    refine X.ret (H' := []) (Res.two Is.unk Is.rfl') (by repeat (exact HSub.refl _)) ?_
    refine ⟨?_, rfl⟩
    unfold orderS; rw [if_pos h1]; rfl
  · have h1 : ¬ 256 < l.length := by have := of_decide_eq_false h1; omega
    refine LW.seq ?_
    refine LW.region ?_
    refine X.u (LU.moveS Is.rfl') rfl ?_
    refine X.u (LU.call (once_calls l k hl hd) Try.func23 rfl rfl (Opds.cons Is.rfl' Opds.nil)) rfl ?_
    refine X.u (LU.not Is.rfl') rfl ?_
    refine X.u (LU.assignR Is.rfl') rfl ?_
    refine LL.nil (after_code ?_)
    refine X.cond rfl (fun h3 => ?_) (fun h3 => ?_)
    · have h3 : ¬ (names l).Nodup := by simpa using h3
      refine LW.seq ?_
      refine LW.region ?_
      refine X.u (LU.assign (Is.nil 32)) rfl ?_
      refine X.u (LU.assignR Is.rfl') rfl ?_
      refine LL.nil (after_code ?_)
      refine LW.ret (ret_blk (ret_code (after_end ?_)))
      refine X.ret (H' := []) (Res.two Is.unk Is.rfl') (by repeat (exact HSub.refl _)) ?_
      refine ⟨?_, rfl⟩
      unfold orderS; rw [if_neg h1, if_pos h3]; rfl
    · have h3 : ¬ ¬ (names l).Nodup := by simpa using h3
      refine LW.seq ?_
      refine LW.region ?_
      refine X.u (LU.moveS Is.rfl') rfl ?_
      refine X.u (LU.call (missing_calls l k hl hd) Try.func18 rfl rfl (Opds.cons Is.rfl' Opds.nil)) rfl ?_
      refine X.u (LU.lenN Try.underlying26 Is.rfl' (by (simp only [Option.getD_some, Option.getD_none, byteEls_length, intEls_length, List.length_append, List.length_cons, List.length_nil, List.length_map, List.length_drop, List.length_take, Int.toNat_natCast]; rfl))) rfl ?_
      refine X.u (LU.gtr Is.rfl' Is.rfl') rfl ?_
      refine X.u (LU.assignR Is.rfl') rfl ?_
      refine LL.nil (after_code ?_)
      refine X.cond rfl (fun h5 => ?_) (fun h5 => ?_)
      · have h5 : 0 < (missS l).length := by have := of_decide_eq_true h5; omega
        refine LW.seq ?_
        refine LW.region ?_
        refine X.u (LU.assign (Is.nil 32)) rfl ?_
        refine X.u (LU.assignR Is.rfl') rfl ?_
        refine LL.nil (after_code ?_)
        refine LW.ret (ret_blk (ret_code (after_end ?_)))
        refine X.ret (H' := []) (Res.two Is.unk Is.rfl') (by repeat (exact HSub.refl _)) ?_
        refine ⟨?_, rfl⟩
        unfold orderS; rw [if_neg h1, if_neg h3, if_pos h5]; rfl
      · have h5 : ¬ 0 < (missS l).length := by have := of_decide_eq_false h5; omega
        have hnd : (names l).Nodup := Classical.not_not.1 h3
        refine LW.skip (after_blk (after_code ?_))
        refine LW.seq ?_
        refine LW.region ?_
        refine X.act (LO.makeMap (st := ⟨_, _, _⟩) rfl (fun b28 => ?_))
        refine X.act (LO.makeMap (st := ⟨_, _, _⟩) rfl (fun b29 => ?_))
        refine X.u (LU.assignR Is.rfl') rfl ?_
        refine X.u (LU.assignR Is.rfl') rfl ?_
        refine LL.nil (after_code ?_)
        refine LW.seq ?_
        refine LW.region ?_
        refine X.u (LU.assignR Is.rfl') rfl ?_
        refine X.u (LU.assign (Is.nil 32)) rfl ?_
        refine LL.nil (after_code ?_)
        refine LW.seq ?_
        refine LW.seq ?_
        refine LW.region ?_
        refine X.u (LU.moveS Is.rfl') rfl ?_
        refine X.u (LU.lenN Try.underlying22 Is.rfl' (by (simp only [Option.getD_some, Option.getD_none, byteEls_length, intEls_length, List.length_append, List.length_cons, List.length_nil, List.length_map, List.length_drop, List.length_take, Int.toNat_natCast]; rfl))) rfl ?_
        refine X.u (LU.moveR Is.rfl') rfl ?_
        refine LL.nil (after_code ?_)
        refine LW.block ?_
        refine X.loopK (α := Nat × List (Hs × LV) × List (Hs × Gr) × List Hs × Option Nat × TypeId × Nat × Nat × Nat × List LV) (fun ⟨i, W, N, R, Ao, te, off, n, c, xs⟩ => [(32, i64 i), (6, ownV Ao off n c)]) [0, 2, 3, 4, 5, 7, 30, 31] (fun ⟨i, W, N, R, Ao, te, off, n, c, xs⟩ => .map b28 (mp hsKey W) :: .map b29 (mp hsKey (nV N)) :: (tls N ++ (ownA Ao te xs ++ Rf))) (fun ⟨i, W, N, R, Ao, te, off, n, c, xs⟩ => i ≤ l.length ∧ (∀ y ∈ l.take i, lookM W y.name = some (i64 (y.deps.length : Nat))) ∧ (∀ d, (curN N d).es = byOf (l.take i) d) ∧ R = rdy0 (l.take i) ∧ OwnS 32 (hss R) Ao off n c xs) (fun ⟨i, W, N, R, Ao, te, off, n, c, xs⟩ => l.length - i) ((0, [], [], [], none, 0, 0, 0, 0, [])) (EnvLe.cons (by rfl) (EnvLe.cons (by rfl) (EnvLe.nil))) (by repeat (first | exact HSub.refl _ | refine HSub.pick 1 rfl ?_)) ?_ ?_
        · exact ⟨Nat.zero_le _, (fun y hy => by simp at hy), (fun d => rfl), rfl, OwnS.none 32⟩
        · rintro ⟨i, W, N, R, Ao, te, off, n, c, xs⟩ hI
          obtain ⟨hi, hW, hN, hR, ow⟩ := hI
          have hnR : R.length = n := by have := ow.cnt; rwa [List.length_map] at this
          have hRl : R.length ≤ l.length := by
            rw [hR]
            have := rdy0_len (l.take i)
            rw [List.length_take] at this
            omega
          refine LW.seq ?_
          refine LW.region ?_
          refine X.u (LU.lss Is.rfl' Is.rfl') rfl ?_
          refine LL.nil (after_code ?_)
          refine LW.seq ?_
          refine X.cond rfl (fun h10 => ?_) (fun h10 => ?_)
          · try have h10 := of_decide_eq_true h10
            refine LW.skip (after_code ?_)
            refine LW.seq ?_
            refine LW.block ?_
            refine LW.seq ?_
            obtain ⟨x, hx⟩ := at_lt (show i < l.length by omega)
            have htot := totalD_at hx
            have hxl := it_len x
            have hxn : x.name.1.length = 32 := x.name.2
            refine LW.region ?_
            refine X.u (LU.at Try.underlying22 ⟨Try.sizeOf36, Try.isAgg36⟩ Is.rfl' Is.rfl' (by omega) (its_at hx) (by simp)) rfl ?_
            refine X.u (LU.load ⟨Try.sizeOf36, Try.isAgg36⟩ Is.rfl' (by assumption) (Part.whole (by assumption))) rfl ?_
            refine X.act (X.alloc rfl Try.zeroValue36 (by exact Cells.rawagg (by decide)) (fun b9 => ?_))
            refine X.act (X.store 0 rfl Try.sizeOf36 Is.rfl' Is.rfl' (by exact Cells.agg) (by assumption) (by exact Nat.le_of_ble_eq_true rfl) ?_)
            refine LL.nil (after_code ?_)
            refine LW.seq ?_
            refine X.wcells (ys := itL x) (putAt_all (by rw [hxl]; rfl)) ?_
            refine LW.region ?_
            refine X.u (LU.moveR Is.rfl') rfl ?_
            refine X.u (LU.fieldO Try.underlying36 rfl Try.sizeOf34 (by decide) Is.rfl') rfl ?_
            refine X.u (LU.weak (LU.loadO 0 rfl ⟨Try.sizeOf34, Try.isAgg34⟩ Is.rfl' (Part.sub (by (simp; omega)))) (Is.of (y := .agg (hsL x.name)) (congrArg LV.agg (it_name x)))) rfl ?_
            refine X.u (LU.fieldO Try.underlying36 rfl Try.sizeOf26 (by decide) Is.rfl') rfl ?_
            refine X.u (LU.loadO 0 rfl ⟨Try.sizeOf26, Try.isAgg26⟩ Is.rfl' (Part.one (it_deps x))) rfl ?_
            refine X.u (LU.weak (LU.lenN Try.underlying26 Is.rfl' (by (simp only [Option.getD_some, Option.getD_none, byteEls_length, intEls_length, List.length_append, List.length_cons, List.length_nil, List.length_map, List.length_drop, List.length_take, Int.toNat_natCast]; rfl))) (Is.of (y := i64 (x.deps.length : Nat)) (congrArg i64 (by rfl)))) rfl ?_
            refine X.act (LO.mapUpdate (st := ⟨_, _, _⟩) 1 (KeyOk.hs Try.underlying34 Try.underlying5 Try.sizeOf5) rfl Try.underlying43 Is.rfl' (by exact Is.hk _) Is.rfl' ?_)
            refine LL.nil (after_code ?_)
            refine X.meetK (α := List Hs × Option Nat × TypeId × Nat × Nat × Nat × List LV) (fun ⟨R1, A1, te1, off1, n1, c1, xs1⟩ => [(6, ownV A1 off1 n1 c1)]) [0, 2, 3, 4, 5, 7, 9, 30, 31, 32] (fun ⟨R1, A1, te1, off1, n1, c1, xs1⟩ => .cells b9 36 (itL x) :: .map b28 (mp hsKey (setM W x.name (i64 (x.deps.length : Nat)))) :: .map b29 (mp hsKey (nV N)) :: (tls N ++ (ownA A1 te1 xs1 ++ Rf))) (fun ⟨R1, A1, te1, off1, n1, c1, xs1⟩ => R1 = rdy0 (l.take (i + 1)) ∧ OwnS 32 (hss R1) A1 off1 n1 c1 xs1) ?_ ?_
            · refine LW.seq ?_
              refine X.wghost (H' := .cells b9 36 (itL x) :: .map b28 (mp hsKey (setM W x.name (i64 (x.deps.length : Nat)))) :: .map b29 (mp hsKey (nV N)) :: (tls N ++ (ownA Ao te xs ++ Rf))) (by repeat (first | exact HSub.refl _ | refine HSub.pick 1 rfl ?_)) ?_
              refine LW.region ?_
              refine X.u (LU.fieldO Try.underlying36 rfl Try.sizeOf26 (by decide) Is.rfl') rfl ?_
              refine X.u (LU.loadO 0 rfl ⟨Try.sizeOf26, Try.isAgg26⟩ Is.rfl' (Part.one (it_deps x))) rfl ?_
              refine X.u (LU.lenN Try.underlying26 Is.rfl' (by (simp only [Option.getD_some, Option.getD_none, byteEls_length, intEls_length, List.length_append, List.length_cons, List.length_nil, List.length_map, List.length_drop, List.length_take, Int.toNat_natCast]; rfl))) rfl ?_
              refine X.u (LU.eql Is.rfl' Is.rfl') rfl ?_
              refine LL.nil (after_code ?_)
              refine X.cond rfl (fun h13 => ?_) (fun h13 => ?_)
              · have h13 : x.deps.length = 0 := by have := of_decide_eq_true h13; omega
                have hz0 : (0 : Nat) = 0 := rfl
                refine LW.region ?_
                refine X.u (LU.moveR Is.rfl') rfl ?_
                refine X.u (LU.fieldO Try.underlying36 rfl Try.sizeOf34 (by decide) Is.rfl') rfl ?_
                refine X.u (LU.weak (LU.loadO 0 rfl ⟨Try.sizeOf34, Try.isAgg34⟩ Is.rfl' (Part.sub (by (simp; omega)))) (Is.of (y := .agg (hsL x.name)) (congrArg LV.agg (it_name x)))) rfl ?_
                refine X.u (LU.lits Try.underlying26 Try.sizeOf34 Try.zeroValue34 (ones rfl) rfl (by decide) (by decide) (Elems.cons Is.rfl' (by exact Cells.agg) Elems.nil) (by (simp; assumption)) rfl) rfl ?_
                refine X.act (X.appendR ow (hswap (ownA Ao te xs) Rf ([.cells b9 36 (itL x), .map b28 (mp hsKey (setM W x.name (i64 (x.deps.length : Nat)))), .map b29 (mp hsKey (nV N))] ++ tls N)) rfl Try.underlying26 (El.of (P := Try.prog) (z := .agg (Array.replicate 32 (.int .u8 0))) (size := 32) (bytes := 32) rfl rfl rfl) (ones rfl) Is.rfl' Is.rfl' (SrcL.slice Try.underlying26 (by decide) (hss_size [x.name])) (by simp) (by simp; omega) (by simp; omega) (fun b50 te50 off50 c50 xs50 ow50 => ?_))
                refine LL.ghost (H' := .cells b9 36 (itL x) :: .map b28 (mp hsKey (setM W x.name (i64 (x.deps.length : Nat)))) :: .map b29 (mp hsKey (nV N)) :: (tls N ++ (ownA (some b50) te50 xs50 ++ Rf))) (hpush _ Rf ([.cells b9 36 (itL x), .map b28 (mp hsKey (setM W x.name (i64 (x.deps.length : Nat)))), .map b29 (mp hsKey (nV N))] ++ tls N)) ?_
                refine X.u (LU.assignR Is.rfl') rfl ?_
                refine LL.nil (after_rnd ?_)
                refine X.meets ((R ++ [x.name], some b50, te50, off50, n + 1, c50, xs50)) rfl (EnvLe.cons (by rfl) (EnvLe.nil)) (Keeps.cons (by exact Eq.trans (b := .sl _ _ _) rfl rfl) (Keeps.cons (by exact Eq.trans (b := .sl _ _ _) rfl rfl) (Keeps.cons (by exact Eq.trans (b := .raw _) rfl rfl) (Keeps.cons (by exact Eq.trans (b := .raw _) rfl rfl) (Keeps.cons (by exact Eq.trans (b := .raw _) rfl rfl) (Keeps.cons (by exact Eq.trans (b := .sl _ _ _) rfl rfl) (Keeps.cons (by exact Eq.trans (b := .raw _) rfl rfl) (Keeps.cons (by exact Eq.trans (b := .sl _ _ _) rfl rfl) (Keeps.cons (by exact Eq.trans (b := .raw _) rfl rfl) (Keeps.cons (by exact Eq.trans (b := .raw _) rfl rfl) (Keeps.nil))))))))))) (by repeat (exact HSub.refl _)) ?_
                exact ⟨by rw [take_snoc hx, rdy0_snoc, if_pos h13, hR], by rw [hss, List.map_append]; exact ow50⟩
              · have h13 : ¬ x.deps.length = 0 := by have := of_decide_eq_false h13; omega
                have hz0 : (0 : Nat) = 0 := rfl
                refine LW.skip (after_rnd ?_)
                refine X.meets ((R, Ao, te, off, n, c, xs)) rfl (EnvLe.cons (by rfl) (EnvLe.nil)) (Keeps.cons (by exact Eq.trans (b := .sl _ _ _) rfl rfl) (Keeps.cons (by exact Eq.trans (b := .sl _ _ _) rfl rfl) (Keeps.cons (by exact Eq.trans (b := .raw _) rfl rfl) (Keeps.cons (by exact Eq.trans (b := .raw _) rfl rfl) (Keeps.cons (by exact Eq.trans (b := .raw _) rfl rfl) (Keeps.cons (by exact Eq.trans (b := .sl _ _ _) rfl rfl) (Keeps.cons (by exact Eq.trans (b := .raw _) rfl rfl) (Keeps.cons (by exact Eq.trans (b := .sl _ _ _) rfl rfl) (Keeps.cons (by exact Eq.trans (b := .raw _) rfl rfl) (Keeps.cons (by exact Eq.trans (b := .raw _) rfl rfl) (Keeps.nil))))))))))) (by repeat (exact HSub.refl _)) ?_
                exact ⟨by rw [take_snoc hx, rdy0_snoc, if_neg h13, List.append_nil]; exact hR, ow⟩
            · rintro ⟨R1, A1, te1, off1, n1, c1, xs1⟩ hI
              obtain ⟨hR1, ow1⟩ := hI
              refine LW.seq ?_
              refine LW.region ?_
              refine X.u (LU.fieldO Try.underlying36 rfl Try.sizeOf26 (by decide) Is.rfl') rfl ?_
              refine X.u (LU.loadO 0 rfl ⟨Try.sizeOf26, Try.isAgg26⟩ Is.rfl' (Part.one (it_deps x))) rfl ?_
              refine X.u (LU.lenN Try.underlying26 Is.rfl' (by (simp only [Option.getD_some, Option.getD_none, byteEls_length, intEls_length, List.length_append, List.length_cons, List.length_nil, List.length_map, List.length_drop, List.length_take, Int.toNat_natCast]; rfl))) rfl ?_
              refine X.u (LU.moveR Is.rfl') rfl ?_
              refine LL.nil (after_code ?_)
              refine LW.block ?_
              refine X.wghost (H' := .map b29 (mp hsKey (nV N)) :: .cells b9 36 (itL x) :: .map b28 (mp hsKey (setM W x.name (i64 (x.deps.length : Nat)))) :: (tls N ++ (ownA A1 te1 xs1 ++ Rf))) (by repeat (first | exact HSub.refl _ | refine HSub.pick 2 rfl ?_)) ?_
              refine X.loopK (α := Nat × List (Hs × Gr)) (fun ⟨j, N2⟩ => [(54, i64 j)]) [0, 2, 3, 4, 5, 6, 7, 9, 30, 31, 32, 52, 53] (fun ⟨j, N2⟩ => .map b29 (mp hsKey (nV N2)) :: .cells b9 36 (itL x) :: .map b28 (mp hsKey (setM W x.name (i64 (x.deps.length : Nat)))) :: (tls N2 ++ (ownA A1 te1 xs1 ++ Rf))) (fun ⟨j, N2⟩ => j ≤ x.deps.length ∧ ∀ d, (curN N2 d).es = byOf (l.take i) d ++ byX x (x.deps.take j) d) (fun ⟨j, N2⟩ => x.deps.length - j) ((0, N)) (EnvLe.cons (by rfl) (EnvLe.nil)) (by repeat (exact HSub.refl _)) ?_ ?_
              · exact ⟨Nat.zero_le _, fun d => by rw [hN d]; simp [byX]⟩
              · rintro ⟨j, N2⟩ hI
                obtain ⟨hj, hN2⟩ := hI
                refine LW.seq ?_
                refine LW.region ?_
                refine X.u (LU.lss Is.rfl' Is.rfl') rfl ?_
                refine LL.nil (after_code ?_)
                refine LW.seq ?_
                refine X.cond rfl (fun h16 => ?_) (fun h16 => ?_)
                · try have h16 := of_decide_eq_true h16
                  refine LW.skip (after_code ?_)
                  refine LW.seq ?_
                  refine LW.block ?_
                  refine LW.seq ?_
                  obtain ⟨e_, hd2⟩ := at_lt (show j < x.deps.length by omega)
                  have hdl : e_.1.length = 32 := e_.2
                  have hcn : (curN N2 e_).es.length ≤ 1000000 := by
                    rw [hN2 e_, List.length_append]
                    have h1 := byOf_len (l.take i) e_
                    have h2 := byX_len x (x.deps.take j) e_
                    rw [List.length_take] at h2
                    omega
                  refine LW.region ?_
                  refine X.u (LU.at Try.underlying26 ⟨Try.sizeOf34, Try.isAgg34⟩ Is.rfl' Is.rfl' (by omega) (hss_at hd2) (hs_ne e_)) rfl ?_
                  refine X.u (LU.weak (LU.load ⟨Try.sizeOf34, Try.isAgg34⟩ Is.rfl' (by (simp; omega)) (Part.whole (by (simp; omega)))) (Is.of (y := .agg (hsL e_)) (rfl))) rfl ?_
                  refine X.act (X.alloc rfl Try.zeroValue34 (by exact Cells.rawagg (by decide)) (fun b11 => ?_))
                  refine X.act (X.store 0 rfl Try.sizeOf34 Is.rfl' Is.rfl' (by exact Cells.agg) (by (simp; omega)) (by exact Nat.le_of_ble_eq_true rfl) ?_)
                  refine LL.nil (after_code ?_)
                  refine X.wcells (ys := hsL e_) (putAt_all (by rw [List.length_map, hdl]; rfl)) ?_
                  refine LW.region ?_
                  refine X.u (LU.moveR Is.rfl') rfl ?_
                  refine X.u (LU.weak (LU.loadO 0 rfl ⟨Try.sizeOf34, Try.isAgg34⟩ Is.rfl' (Part.sub (by (simp; omega)))) (Is.of (y := .agg (hsL e_)) (hs_whole e_))) rfl ?_
                  refine X.u (LU.fieldO Try.underlying36 rfl Try.sizeOf34 (by decide) Is.rfl') rfl ?_
                  refine X.u (LU.weak (LU.loadO 2 rfl ⟨Try.sizeOf34, Try.isAgg34⟩ Is.rfl' (Part.sub (by (simp; omega)))) (Is.of (y := .agg (hsL x.name)) (congrArg LV.agg (it_name x)))) rfl ?_
                  refine X.u (LU.lits Try.underlying26 Try.sizeOf34 Try.zeroValue34 (ones rfl) rfl (by decide) (by decide) (Elems.cons Is.rfl' (by exact Cells.agg) Elems.nil) (by (simp; assumption)) rfl) rfl ?_
                  refine X.act (LO.mapEntry (st := ⟨_, _, _⟩) 1 rfl (KeyOk.hs Try.underlying34 Try.underlying5 Try.sizeOf5) rfl Try.underlying44 Try.zeroValue26 Is.rfl' (by exact Is.hk _) (fun s64 => ?_))
                  refine X.u (LU.weak (LU.extract Is.rfl' rfl) (nV_is N2 e_)) rfl ?_
                  refine X.act (X.appendP (HSub.trans (HSub.cons (HSub.cons (HSub.cons (HSub.cons (tls_take N2 e_ (ownA A1 te1 xs1 ++ Rf)))))) (HSub.pick 4 rfl (HSub.refl _))) rfl Try.underlying26 (El.of (P := Try.prog) (z := .agg (Array.replicate 32 (.int .u8 0))) (size := 32) (bytes := 32) rfl rfl rfl) Is.rfl' Is.rfl' (SrcL.slice Try.underlying26 (by decide) (hss_size [x.name])) (by rw [List.length_map]; simp; omega) (by rw [List.length_map]; simp; omega) (fun b65 o65 c65 => ?_))
                  refine X.weak (t := 65) (v := grL ⟨(curN N2 e_).es ++ [x.name], b65, o65, c65⟩) (Is.of (congrArg (fun z => LV.sl 32 z (.tok b65 o65 c65)) (hss_app (curN N2 e_).es [x.name]))) ?_
                  refine X.u (LU.extract Is.rfl' rfl) rfl ?_
                  refine X.act (X.entryStore 1 rfl Is.rfl' Is.rfl' Is.rfl' ?_)
                  refine LL.nil (after_blk (after_code ?_))
                  refine X.wghost (H' := .map b29 (mp hsKey (nV (setN N2 e_ ⟨(curN N2 e_).es ++ [x.name], b65, o65, c65⟩))) :: .cells b9 36 (itL x) :: .map b28 (mp hsKey (setM W x.name (i64 (x.deps.length : Nat)))) :: (tls (setN N2 e_ ⟨(curN N2 e_).es ++ [x.name], b65, o65, c65⟩) ++ (ownA A1 te1 xs1 ++ Rf))) (HSub.trans (B := .map b29 (mp hsKey (setM (nV N2) e_ (grL ⟨(curN N2 e_).es ++ [x.name], b65, o65, c65⟩))) :: .cells b9 36 (itL x) :: .map b28 (mp hsKey (setM W x.name (i64 (x.deps.length : Nat)))) :: (grA ⟨(curN N2 e_).es ++ [x.name], b65, o65, c65⟩ :: (restN N2 e_ ++ (ownA A1 te1 xs1 ++ Rf)))) (by repeat (first | exact HSub.refl _ | refine HSub.pick 0 rfl ?_ | refine HSub.pick 2 rfl ?_ | refine HSub.drop ?_)) (by rw [nV_set]; exact HSub.cons (HSub.cons (HSub.cons (tls_put N2 e_ ⟨(curN N2 e_).es ++ [x.name], b65, o65, c65⟩ (ownA A1 te1 xs1 ++ Rf)))))) ?_
                  refine LW.region ?_
                  refine X.u (LU.addN Is.rfl' Is.rfl' (wrap_i64 (by omega) (by omega))) rfl ?_
                  refine X.u (LU.moveR Is.rfl') rfl ?_
                  refine LL.nil (after_rnd ?_)
                  refine X.next ((j + 1, setN N2 e_ ⟨(curN N2 e_).es ++ [x.name], b65, o65, c65⟩)) rfl (EnvLe.cons (by rfl) (EnvLe.nil)) (Keeps.cons (by exact Eq.trans (b := .sl _ _ _) rfl rfl) (Keeps.cons (by exact Eq.trans (b := .sl _ _ _) rfl rfl) (Keeps.cons (by exact Eq.trans (b := .raw _) rfl rfl) (Keeps.cons (by exact Eq.trans (b := .raw _) rfl rfl) (Keeps.cons (by exact Eq.trans (b := .raw _) rfl rfl) (Keeps.cons (by exact Eq.trans (b := .raw _) rfl rfl) (Keeps.cons (by exact Eq.trans (b := .sl _ _ _) rfl rfl) (Keeps.cons (by exact Eq.trans (b := .raw _) rfl rfl) (Keeps.cons (by exact Eq.trans (b := .sl _ _ _) rfl rfl) (Keeps.cons (by exact Eq.trans (b := .raw _) rfl rfl) (Keeps.cons (by exact Eq.trans (b := .raw _) rfl rfl) (Keeps.cons (by exact Eq.trans (b := .sl _ _ _) rfl rfl) (Keeps.cons (by exact Eq.trans (b := .raw _) rfl rfl) (Keeps.nil)))))))))))))) (by repeat (exact HSub.refl _)) ?_ ?_
                  · refine ⟨by omega, fun d => ?_⟩
                    rw [cur_set, take_snoc hd2, byX_snoc]
                    by_cases c : e_ = d
                    · rw [if_pos c, if_pos c, ← c, ← List.append_assoc, ← hN2 e_]
                    · rw [if_neg c, if_neg c, List.append_nil]; exact hN2 d
                  · (simp; omega)
                · try have h16 := of_decide_eq_false h16
                  refine LW.exit (exit_code (exit_rnd (exit_blk (after_blk (after_code ?_)))))
                  refine X.wghost (H' := .map b28 (mp hsKey (setM W x.name (i64 (x.deps.length : Nat)))) :: .map b29 (mp hsKey (nV N2)) :: (tls N2 ++ (ownA A1 te1 xs1 ++ Rf))) (by repeat (first | exact HSub.refl _ | refine HSub.pick 0 rfl ?_ | refine HSub.pick 2 rfl ?_ | refine HSub.drop ?_)) ?_
                  refine LW.region ?_
                  refine X.u (LU.addN Is.rfl' Is.rfl' (wrap_i64 (by omega) (by omega))) rfl ?_
                  refine X.u (LU.moveR Is.rfl') rfl ?_
                  refine LL.nil (after_rnd ?_)
                  refine X.next ((i + 1, setM W x.name (i64 (x.deps.length : Nat)), N2, R1, A1, te1, off1, n1, c1, xs1)) rfl (EnvLe.cons (by rfl) (EnvLe.cons (by rfl) (EnvLe.nil))) (Keeps.cons (by exact Eq.trans (b := .sl _ _ _) rfl rfl) (Keeps.cons (by exact Eq.trans (b := .sl _ _ _) rfl rfl) (Keeps.cons (by exact Eq.trans (b := .raw _) rfl rfl) (Keeps.cons (by exact Eq.trans (b := .raw _) rfl rfl) (Keeps.cons (by exact Eq.trans (b := .raw _) rfl rfl) (Keeps.cons (by exact Eq.trans (b := .sl _ _ _) rfl rfl) (Keeps.cons (by exact Eq.trans (b := .sl _ _ _) rfl rfl) (Keeps.cons (by exact Eq.trans (b := .raw _) rfl rfl) (Keeps.nil))))))))) (by repeat (exact HSub.refl _)) ?_ ?_
                  · refine ⟨by omega, waits_step hnd hx hW, fun d => ?_, hR1, ow1⟩
                    have := hN2 d
                    rw [show j = x.deps.length by omega, List.take_length] at this
                    rw [this, take_snoc hx, byOf_snoc]
                  · (simp; omega)
          · try have h10 := of_decide_eq_false h10
            refine LW.exit (exit_code (exit_rnd (exit_blk (after_code ?_))))
            refine LW.seq ?_
            refine LW.block ?_
            have hil : i = l.length := by omega
            rw [hil, List.take_length] at hW hN hR
            have hKO : KO l [] W R := by rw [hR]; exact KO.first hnd hW
            refine X.wweak (t := 7) (v := .sl 32 (hss []) (.tok 0 0 0)) (Is.full_tok 0 0) ?_
            refine X.wghost (H' := .tail 0 0 0 :: .map b28 (mp hsKey W) :: .map b29 (mp hsKey (nV N)) :: (ownA Ao te xs ++ Rf)) (HSub.trans (HSub.tail0 0 0 0 (Nat.le_refl _) _) (HSub.cons (HSub.cons (HSub.cons (tls_drop N (ownA Ao te xs ++ Rf)))))) ?_
            refine X.loopK (α := List Hs × List (Hs × LV) × List Hs × Option Nat × TypeId × Nat × Nat × Nat × List LV × Nat × Nat × Nat) (fun ⟨out, W0, R0, A0, te0, off0, n0, c0, xs0, b, o, r⟩ => [(6, ownV A0 off0 n0 c0), (7, .sl 32 (hss out) (.tok b o r))]) [0, 2, 3, 4, 5] (fun ⟨out, W0, R0, A0, te0, off0, n0, c0, xs0, b, o, r⟩ => .tail b o r :: .map b28 (mp hsKey W0) :: .map b29 (mp hsKey (nV N)) :: (ownA A0 te0 xs0 ++ Rf)) (fun ⟨out, W0, R0, A0, te0, off0, n0, c0, xs0, b, o, r⟩ => Kh l out ∧ Told l out ∧ KO l out W0 R0 ∧ OwnS 32 (hss R0) A0 off0 n0 c0 xs0) (fun ⟨out, W0, R0, A0, te0, off0, n0, c0, xs0, b, o, r⟩ => l.length - out.length) (([], W, R, Ao, te, off, n, c, xs, 0, 0, 0)) (EnvLe.cons (by rfl) (EnvLe.cons (by rfl) (EnvLe.nil))) (by repeat (exact HSub.refl _)) ?_ ?_
            · exact ⟨Kh.nil l, Told.nil, hKO, ow⟩
            · rintro ⟨out, W0, R0, A0, te0, off0, n0, c0, xs0, b, o, r⟩ hI
              obtain ⟨hK, hT, hO, ow0⟩ := hI
              have hkl := hK.len
              have hnR0 : R0.length = n0 := by have := ow0.cnt; rwa [List.length_map] at this
              have hRl0 : R0.length ≤ l.length := by
                have := (nodup_len (l := names l) hO.nd fun y hy => by obtain ⟨x, hx, e, _⟩ := readyL_mem.1 ((hO.r y).1 hy); exact List.mem_map.2 ⟨x, hx, e⟩).1
                rwa [List.length_map] at this
              refine LW.seq ?_
              refine LW.seq ?_
              refine LW.region ?_
              refine X.u (LU.moveR Is.rfl') rfl ?_
              refine X.u (LU.lenO Try.underlying26 Is.rfl') rfl ?_
              refine X.u (LU.gtr Is.rfl' Is.rfl') rfl ?_
              refine LL.nil (after_code ?_)
              refine X.cond rfl (fun h21 => ?_) (fun h21 => ?_)
              · have h21 : 0 < n0 := by have := of_decide_eq_true h21; omega
                obtain ⟨bA, rfl⟩ : ∃ bA, A0 = some bA := by
                  cases A0 with
                  | none => have := ow0.nil rfl; have := ow0.le; omega
                  | some bA => exact ⟨bA, rfl⟩
                have hcall := sortN_calls R0 (some bA) te0 off0 n0 c0 xs0 ow0 (by omega)
                obtain ⟨h, rest, hs⟩ := ne_cons (l := sortH R0) (by rw [sortH_len]; omega)
                have hx2 : h.1.length = 32 := h.2
                obtain ⟨hq, hKI0⟩ := hO.next hnd hs
                have hst := hK.step hq
                have hle0 := ow0.le
                refine LW.skip (after_code ?_)
                refine LW.block ?_
                refine LW.seq ?_
                refine LW.region ?_
                refine X.u (LU.moveR Is.rfl') rfl ?_
                refine X.act (X.call (hcall) Try.func24 rfl rfl rfl (HSub.pick 3 rfl (HSub.refl _)) (Opds.cons Is.rfl' (Opds.cons Is.rfl' Opds.nil)) ?_)
                rintro r H' ⟨rfl, xs2, rfl, ow2⟩
                refine LL.nil (after_code ?_)
                refine LW.seq ?_
                rw [hs] at ow2
                have hl2 := ow2.len
                have hlx : off0 + 32 ≤ xs2.length := by omega
                refine X.wghost (H' := .cells bA te0 xs2 :: .tail b o r :: .map b28 (mp hsKey W0) :: .map b29 (mp hsKey (nV N)) :: Rf) (by repeat (exact HSub.refl _)) ?_
                refine LW.region ?_
                refine X.u (LU.moveR Is.rfl') rfl ?_
                refine X.u (LU.atO Try.underlying26 Try.sizeOf34 Is.rfl' Is.rfl' (by omega) (by omega)) rfl ?_
                refine X.u (LU.weak (LU.loadO 0 rfl ⟨Try.sizeOf34, Try.isAgg34⟩ Is.rfl' (Part.sub (by (simp; omega)))) (Is.of (y := .agg (hsL h)) (congrArg LV.agg (OwnS.head ow2)))) rfl ?_
                refine X.act (X.alloc rfl Try.zeroValue34 (by exact Cells.rawagg (by decide)) (fun b12 => ?_))
                refine X.act (X.store 0 rfl Try.sizeOf34 Is.rfl' Is.rfl' (by exact Cells.agg) (by (simp; omega)) (by exact Nat.le_of_ble_eq_true rfl) ?_)
                refine LL.nil (after_code ?_)
                refine LW.seq ?_
                refine X.wcells (ys := hsL h) (putAt_all (by rw [List.length_map, hx2]; rfl)) ?_
                refine LW.region ?_
                refine X.u (LU.moveR Is.rfl') rfl ?_
                refine X.u (LU.weak (LU.sliceR (l := some (1 : Int)) (h := none) Try.sizeOf34 Try.underlying26 Is.rfl' ⟨_, Is.rfl'⟩ trivial (by decide) (by simp; omega) (by simp; omega) (by omega)) (Is.of (y := ownV (some bA) (if c0 = 1 then off0 else off0 + 32) (n0 - 1) (c0 - 1)) (congrArg LV.raw (own_tailV bA off0 n0 c0)))) rfl ?_
                refine X.u (LU.assignR Is.rfl') rfl ?_
                refine LL.nil (after_code ?_)
                refine LW.seq ?_
                refine X.wghost (H' := .tail b o r :: .cells b12 34 (hsL h) :: .map b28 (mp hsKey W0) :: .map b29 (mp hsKey (nV N)) :: .cells bA te0 xs2 :: Rf) (by repeat (first | exact HSub.refl _ | refine HSub.pick 0 rfl ?_ | refine HSub.pick 1 rfl ?_ | refine HSub.pick 2 rfl ?_)) ?_
                refine LW.region ?_
                refine X.u (LU.moveS Is.rfl') rfl ?_
                refine X.u (LU.weak (LU.loadO 1 rfl ⟨Try.sizeOf34, Try.isAgg34⟩ Is.rfl' (Part.sub (by (simp; omega)))) (Is.of (y := .agg (hsL h)) (hs_whole h))) rfl ?_
                refine X.u (LU.lits Try.underlying26 Try.sizeOf34 Try.zeroValue34 (ones rfl) rfl (by decide) (by decide) (Elems.cons Is.rfl' (by exact Cells.agg) Elems.nil) (by (simp; assumption)) rfl) rfl ?_
                refine X.act (X.append 0 rfl rfl Try.underlying26 (El.of (P := Try.prog) (z := (.agg #[(.int .u8 0), (.int .u8 0), (.int .u8 0), (.int .u8 0), (.int .u8 0), (.int .u8 0), (.int .u8 0), (.int .u8 0), (.int .u8 0), (.int .u8 0), (.int .u8 0), (.int .u8 0), (.int .u8 0), (.int .u8 0), (.int .u8 0), (.int .u8 0), (.int .u8 0), (.int .u8 0), (.int .u8 0), (.int .u8 0), (.int .u8 0), (.int .u8 0), (.int .u8 0), (.int .u8 0), (.int .u8 0), (.int .u8 0), (.int .u8 0), (.int .u8 0), (.int .u8 0), (.int .u8 0), (.int .u8 0), (.int .u8 0)])) (size := 32) (bytes := 32) rfl rfl rfl) Is.rfl' Is.rfl' (SrcL.slice Try.underlying26 (by decide) (by intro e he; rw [List.mem_singleton.1 he, List.length_map]; exact hx2)) (by simp only [Option.getD_some, Option.getD_none, byteEls_length, intEls_length, List.length_append, List.length_cons, List.length_nil, List.length_map, List.length_drop, List.length_take, Int.toNat_natCast]; omega) (by simp only [Option.getD_some, Option.getD_none, byteEls_length, intEls_length, List.length_append, List.length_cons, List.length_nil, List.length_map, List.length_drop, List.length_take, Int.toNat_natCast]; omega) (fun b82 o82 c82 => X.weak (t := 82) (Is.of (y := .sl 32 (hss (out ++ [h])) (.tok b82 o82 c82)) (congrArg (fun z => LV.sl 32 z (.tok b82 o82 c82)) (hss_app out [h]))) ?_))
                refine X.u (LU.assignS Is.rfl') rfl ?_
                refine LL.nil (after_code ?_)
                refine LW.seq ?_
                refine LW.region ?_
                refine X.u (LU.moveR Is.rfl') rfl ?_
                refine X.u (LU.weak (LU.loadO 1 rfl ⟨Try.sizeOf34, Try.isAgg34⟩ Is.rfl' (Part.sub (by (simp; omega)))) (Is.of (y := .agg (hsL h)) (hs_whole h))) rfl ?_
                refine X.u (LU.weak (LU.lookup 3 (KeyOk.hs Try.underlying34 Try.underlying5 Try.sizeOf5) rfl Try.underlying44 Try.zeroValue26 Is.rfl' (by exact Is.hk _)) ((nV_is N h).trans Is.unk)) rfl ?_
                refine X.u (LU.lenN Try.underlying26 Is.rfl' (by (simp only [Option.getD_some, Option.getD_none, byteEls_length, intEls_length, List.length_append, List.length_cons, List.length_nil, List.length_map, List.length_drop, List.length_take, Int.toNat_natCast]; rfl))) rfl ?_
                refine X.u (LU.moveR Is.rfl') rfl ?_
                refine LL.nil (after_code ?_)
                refine LW.block ?_
                have hBy : (curN N h).es = byOf l h := hN h
                have hBl := byOf_len l h
                have hBl2 : (curN N h).es.length = (byOf l h).length := congrArg List.length hBy
                refine X.wghost (H' := .map b28 (mp hsKey W0) :: .map b29 (mp hsKey (nV N)) :: .cells b12 34 (hsL h) :: .tail b82 o82 c82 :: .cells bA te0 xs2 :: Rf) (by repeat (first | exact HSub.refl _ | refine HSub.pick 1 rfl ?_ | refine HSub.pick 2 rfl ?_)) ?_
                refine X.loopK (α := Nat × List (Hs × LV) × List Hs × Option Nat × TypeId × Nat × Nat × Nat × List LV) (fun ⟨j, W2, R2, A2, te2, off2, n2, c2, xs3⟩ => [(87, i64 j), (6, ownV A2 off2 n2 c2)]) [0, 2, 3, 4, 5, 7, 85, 86] (fun ⟨j, W2, R2, A2, te2, off2, n2, c2, xs3⟩ => .map b28 (mp hsKey W2) :: .map b29 (mp hsKey (nV N)) :: .cells b12 34 (hsL h) :: .tail b82 o82 c82 :: (ownA A2 te2 xs3 ++ Rf)) (fun ⟨j, W2, R2, A2, te2, off2, n2, c2, xs3⟩ => j ≤ (curN N h).es.length ∧ KI l (out ++ [h]) ((curN N h).es.drop j) W2 R2 ∧ OwnS 32 (hss R2) A2 off2 n2 c2 xs3) (fun ⟨j, W2, R2, A2, te2, off2, n2, c2, xs3⟩ => (curN N h).es.length - j) ((0, W0, rest, some bA, te0, if c0 = 1 then off0 else off0 + 32, n0 - 1, c0 - 1, xs2)) (EnvLe.cons (by rfl) (EnvLe.cons (by rfl) (EnvLe.nil))) (by repeat (exact HSub.refl _)) ?_ ?_
                · exact ⟨Nat.zero_le _, by rw [hBy]; exact hKI0, OwnS.tail ow2⟩
                · rintro ⟨j, W2, R2, A2, te2, off2, n2, c2, xs3⟩ hI
                  obtain ⟨hj, hKI, ow3⟩ := hI
                  have hnR2 : R2.length = n2 := by have := ow3.cnt; rwa [List.length_map] at this
                  have hRl2 : R2.length ≤ l.length := by
                    have := (nodup_len (l := names l) hKI.nd fun y hy => by obtain ⟨x, hx, e, _⟩ := (hKI.r y).1 hy; exact List.mem_map.2 ⟨x, hx, e⟩).1
                    rwa [List.length_map] at this
                  refine LW.seq ?_
                  refine LW.region ?_
                  refine X.u (LU.lss Is.rfl' Is.rfl') rfl ?_
                  refine LL.nil (after_code ?_)
                  refine LW.seq ?_
                  refine X.cond rfl (fun h27 => ?_) (fun h27 => ?_)
                  · try have h27 := of_decide_eq_true h27
                    refine LW.skip (after_code ?_)
                    refine LW.seq ?_
                    refine LW.block ?_
                    refine LW.seq ?_
                    obtain ⟨e_, hd2⟩ := at_lt (show j < (curN N h).es.length by omega)
                    have hdl : e_.1.length = 32 := e_.2
                    have hdr : (curN N h).es.drop j = e_ :: (curN N h).es.drop (j + 1) := by
                      obtain ⟨q1, q2⟩ := List.getElem?_eq_some_iff.1 hd2
                      rw [List.drop_eq_getElem_cons q1, q2]
                    obtain ⟨z, hz, hzn, hzo⟩ := by_out hnd hT hq (by rw [← hBy]; exact List.mem_of_getElem? hd2)
                    rw [hdr] at hKI
                    obtain ⟨hw1, hKI2⟩ := hKI.step hnd hz hzn hzo
                    have hw1l : rem z (out ++ [h]) + ((curN N h).es.drop (j + 1)).count e_ ≤ 2000000 := by
                      have q1 := rem_le z (out ++ [h])
                      have q2 := List.count_le_length (l := (curN N h).es.drop (j + 1)) (a := e_)
                      have q3 := List.length_drop (l := (curN N h).es) (i := j + 1)
                      have q4 : z.deps.length ≤ totalD l := by
                        obtain ⟨iz, hiz⟩ := List.getElem?_of_mem hz
                        have := totalD_at hiz
                        omega
                      rw [hBy] at q2 q3 ⊢
                      omega
                    obtain ⟨w1, hw1d⟩ : ∃ w1, w1 = rem z (out ++ [h]) + ((curN N h).es.drop (j + 1)).count e_ := ⟨_, rfl⟩
                    rw [← hw1d] at hw1 hKI2 hw1l
                    have hget : (lookM W2 e_).getD (.raw (.int .i64 0)) = i64 ((w1 + 1 : Nat) : Int) := by rw [hw1]; rfl
                    have hget2 : (lookM (setM W2 e_ (i64 (w1 : Nat))) e_).getD (.raw (.int .i64 0)) = i64 (w1 : Nat) := by rw [look_set, if_pos rfl]; rfl
                    refine LW.region ?_
                    refine X.u (LU.at Try.underlying26 ⟨Try.sizeOf34, Try.isAgg34⟩ Is.rfl' Is.rfl' (by omega) (hss_at hd2) (hs_ne e_)) rfl ?_
                    refine X.u (LU.weak (LU.load ⟨Try.sizeOf34, Try.isAgg34⟩ Is.rfl' (by (simp; omega)) (Part.whole (by (simp; omega)))) (Is.of (y := .agg (hsL e_)) (rfl))) rfl ?_
                    refine X.act (X.alloc rfl Try.zeroValue34 (by exact Cells.rawagg (by decide)) (fun b14 => ?_))
                    refine X.act (X.store 0 rfl Try.sizeOf34 Is.rfl' Is.rfl' (by exact Cells.agg) (by (simp; omega)) (by exact Nat.le_of_ble_eq_true rfl) ?_)
                    refine LL.nil (after_code ?_)
                    refine LW.seq ?_
                    refine X.wcells (ys := hsL e_) (putAt_all (by rw [List.length_map, hdl]; rfl)) ?_
                    refine LW.invM (m := 6) (γ := Nat × Nat) [(0, 91), (1, 92), (2, 93), (3, 94), (4, 95), (5, 96)] (fun g_ d => match g_ with | ⟨s_, q_⟩ => match d with | 91 => .raw (.map (some b28)) | 92 => .agg (hsL e_) | 93 => i64 ((w1 + 1 : Nat) : Int) | 94 => i64 (w1 : Nat) | 95 => .tup [i64 ((w1 + 1 : Nat) : Int), i64 (s_ : Nat)] | 96 => i64 (q_ : Nat) | _ => .any) (fun g_ f => match g_ with | ⟨s_, q_⟩ => cond (f 4) (.mape b28 (mp hsKey (entM W2 e_ (i64 0))) (entI W2 e_) (cond (f 5) q_ s_)) (.map b28 (mp hsKey W2)) :: .cells b14 34 (hsL e_) :: .map b29 (mp hsKey (nV N)) :: .cells b12 34 (hsL h) :: .tail b82 o82 c82 :: (ownA A2 te2 xs3 ++ Rf)) (0, 0) rfl (by kernel_rfl) rfl rfl ((by repeat (first | exact HSub.refl _ | refine HSub.pick 1 rfl ?_))) ?_ ?_
                    · intro i hi f g_ hfi hdir hdown
                      obtain ⟨s_, q_⟩ := g_
                      have hc : i = 0 ∨ i = 1 ∨ i = 2 ∨ i = 3 ∨ i = 4 ∨ i = 5 := by omega
                      rcases hc with rfl | rfl | rfl | rfl | rfl | rfl
                      · refine ⟨_, rfl, ?_⟩
                        refine A.u (LU.moveR Is.rfl') rfl ?_
                        refine ⟨⟨s_, q_⟩, Weaker.mk' ?_ (HSub.refl _)⟩
                        refine env_back0 (envS_hit (sl := [(0, 91), (1, 92), (2, 93), (3, 94), (4, 95), (5, 96)]) (j := 0) (d := 91) rfl (fun _ _ h => h))  (envS_next ?_)
                        · intro p hp hne; simp only [List.mem_cons, List.not_mem_nil, or_false] at hp; rcases hp with rfl | rfl | rfl | rfl | rfl | rfl <;> first | exact absurd rfl hne | exact ⟨rfl, rfl⟩
                      · refine ⟨_, rfl, ?_⟩
                        refine A.u (LU.weak (LU.loadO 1 rfl ⟨Try.sizeOf34, Try.isAgg34⟩ Is.rfl' (Part.sub (by (simp; omega)))) (Is.of (y := .agg (hsL e_)) (hs_whole e_))) rfl ?_
                        refine ⟨⟨s_, q_⟩, Weaker.mk' ?_ (HSub.refl _)⟩
                        refine env_back0 (envS_hit (sl := [(0, 91), (1, 92), (2, 93), (3, 94), (4, 95), (5, 96)]) (j := 1) (d := 92) rfl (fun _ _ h => h))  (envS_next ?_)
                        · intro p hp hne; simp only [List.mem_cons, List.not_mem_nil, or_false] at hp; rcases hp with rfl | rfl | rfl | rfl | rfl | rfl <;> first | exact absurd rfl hne | exact ⟨rfl, rfl⟩
                      · have d0 := hdir 0 (List.mem_of_elem_eq_true (by kernel_rfl))
                        have d1 := hdir 1 (List.mem_of_elem_eq_true (by kernel_rfl))
                        refine ⟨_, rfl, ?_⟩
                        refine LP.weak (t := 91) (v := .raw (.map (some b28))) (envS_is (j := 0) rfl d0) ?_
                        refine LP.weak (t := 92) (v := .agg (hsL e_)) (envS_is (j := 1) rfl d1) ?_
                        refine A.u (LU.weak (LU.lookupC 0 (KeyOk.hs Try.underlying34 Try.underlying5 Try.sizeOf5) rfl Try.underlying43 Try.zeroValue3 Is.rfl' (Is.hk _)) (Is.of (y := i64 ((w1 + 1 : Nat) : Int)) (hget))) rfl ?_
                        refine ⟨⟨s_, q_⟩, Weaker.mk' ?_ (HSub.refl _)⟩
                        refine env_back2 (envS_hit (sl := [(0, 91), (1, 92), (2, 93), (3, 94), (4, 95), (5, 96)]) (j := 2) (d := 93) rfl (fun _ _ h => h)) (envS_hit (sl := [(0, 91), (1, 92), (2, 93), (3, 94), (4, 95), (5, 96)]) (j := 1) (d := 92) rfl (fun _ _ h => h)) (envS_hit (sl := [(0, 91), (1, 92), (2, 93), (3, 94), (4, 95), (5, 96)]) (j := 0) (d := 91) rfl (fun _ _ h => h)) (envS_next ?_)
                        · intro p hp hne; simp only [List.mem_cons, List.not_mem_nil, or_false] at hp; rcases hp with rfl | rfl | rfl | rfl | rfl | rfl <;> first | exact absurd rfl hne | exact ⟨rfl, rfl⟩
                      · have d2 := hdir 2 (List.mem_of_elem_eq_true (by kernel_rfl))
                        refine ⟨_, rfl, ?_⟩
                        refine LP.weak (t := 93) (v := i64 ((w1 + 1 : Nat) : Int)) (envS_is (j := 2) rfl d2) ?_
                        refine A.u (LU.weak (LU.sub Is.rfl' Is.rfl') (Is.of (y := i64 (w1 : Nat)) (congrArg i64 ((wrap_i64 (by omega) (by omega)).trans (by omega))))) rfl ?_
                        refine ⟨⟨s_, q_⟩, Weaker.mk' ?_ (HSub.refl _)⟩
                        refine env_back1 (envS_hit (sl := [(0, 91), (1, 92), (2, 93), (3, 94), (4, 95), (5, 96)]) (j := 3) (d := 94) rfl (fun _ _ h => h)) (envS_hit (sl := [(0, 91), (1, 92), (2, 93), (3, 94), (4, 95), (5, 96)]) (j := 2) (d := 93) rfl (fun _ _ h => h)) (envS_next ?_)
                        · intro p hp hne; simp only [List.mem_cons, List.not_mem_nil, or_false] at hp; rcases hp with rfl | rfl | rfl | rfl | rfl | rfl <;> first | exact absurd rfl hne | exact ⟨rfl, rfl⟩
                      · have d0 := hdir 0 (List.mem_of_elem_eq_true (by kernel_rfl))
                        have d1 := hdir 1 (List.mem_of_elem_eq_true (by kernel_rfl))
                        refine ⟨_, rfl, ?_⟩
                        have h6 : f 5 = false := Bool.eq_false_iff.2 (fun h => by rw [hdown 5 (by omega) h 4 (List.mem_of_elem_eq_true (by kernel_rfl))] at hfi; cases hfi)
                        refine LP.ghost (H' := .map b28 (mp hsKey W2) :: .cells b14 34 (hsL e_) :: .map b29 (mp hsKey (nV N)) :: .cells b12 34 (hsL h) :: .tail b82 o82 c82 :: (ownA A2 te2 xs3 ++ Rf)) (by rw [hfi]; exact HSub.refl _) ?_
                        refine LP.weak (t := 91) (v := .raw (.map (some b28))) (envS_is (j := 0) rfl d0) ?_
                        refine LP.weak (t := 92) (v := .agg (hsL e_)) (envS_is (j := 1) rfl d1) ?_
                        refine A.act (LO.mapEntry (st := ⟨_, _, _⟩) 0 rfl (KeyOk.hs Try.underlying34 Try.underlying5 Try.sizeOf5) rfl Try.underlying43 Try.zeroValue3 Is.rfl' (by exact Is.hk _) (fun s95 => ?_))
                        refine ⟨(s95, q_), Weaker.mk' ?_ (by show L.HSub _ (.mape b28 (mp hsKey (entM W2 e_ (i64 0))) (entI W2 e_) (cond (f 5) q_ s95) :: _); rw [h6]; exact HSub.refl _)⟩
                        refine env_back2 (envS_hit (sl := [(0, 91), (1, 92), (2, 93), (3, 94), (4, 95), (5, 96)]) (j := 4) (d := 95) rfl (Is.of (congrArg (fun z => LV.tup [z, i64 (s95 : Nat)]) hget))) (envS_hit (sl := [(0, 91), (1, 92), (2, 93), (3, 94), (4, 95), (5, 96)]) (j := 1) (d := 92) rfl (fun _ _ h => h)) (envS_hit (sl := [(0, 91), (1, 92), (2, 93), (3, 94), (4, 95), (5, 96)]) (j := 0) (d := 91) rfl (fun _ _ h => h)) (envS_next ?_)
                        · intro p hp hne; simp only [List.mem_cons, List.not_mem_nil, or_false] at hp; rcases hp with rfl | rfl | rfl | rfl | rfl | rfl <;> first | exact absurd rfl hne | exact ⟨rfl, rfl⟩
                      · have d4 := hdir 4 (List.mem_of_elem_eq_true (by kernel_rfl))
                        refine ⟨_, rfl, ?_⟩
                        refine LP.weak (t := 95) (v := .tup [i64 ((w1 + 1 : Nat) : Int), i64 (s_ : Nat)]) (envS_is (j := 4) rfl d4) ?_
                        refine A.u (LU.extract Is.rfl' rfl) rfl ?_
                        refine ⟨(s_, s_), Weaker.mk' ?_ (by show L.HSub (cond (f 4) (.mape b28 (mp hsKey (entM W2 e_ (i64 0))) (entI W2 e_) (cond (f 5) q_ s_)) (.map b28 (mp hsKey W2)) :: _) (cond (f 4) (.mape b28 (mp hsKey (entM W2 e_ (i64 0))) (entI W2 e_) s_) (.map b28 (mp hsKey W2)) :: _); rw [hfi]; exact HSub.refl _)⟩
                        refine env_back1 (envS_hit (sl := [(0, 91), (1, 92), (2, 93), (3, 94), (4, 95), (5, 96)]) (j := 5) (d := 96) rfl (fun _ _ h => h)) (envS_hit (sl := [(0, 91), (1, 92), (2, 93), (3, 94), (4, 95), (5, 96)]) (j := 4) (d := 95) rfl (fun _ _ h => h)) (envS_next ?_)
                        · intro p hp hne; simp only [List.mem_cons, List.not_mem_nil, or_false] at hp; rcases hp with rfl | rfl | rfl | rfl | rfl | rfl <;> first | exact absurd rfl hne | exact ⟨rfl, rfl⟩
                    · intro g_ f hf_
                      obtain ⟨s_, q_⟩ := g_
                      refine X.ghost (H' := .mape b28 (mp hsKey (entM W2 e_ (i64 0))) (entI W2 e_) q_ :: .cells b14 34 (hsL e_) :: .map b29 (mp hsKey (nV N)) :: .cells b12 34 (hsL h) :: .tail b82 o82 c82 :: (ownA A2 te2 xs3 ++ Rf)) (by show L.HSub (cond (f 4) (.mape b28 (mp hsKey (entM W2 e_ (i64 0))) (entI W2 e_) (cond (f 5) q_ s_)) _ :: _) _; rw [hf_ 4 (by omega), hf_ 5 (by omega)]; exact HSub.refl _) ?_
                      refine X.act (X.entryStore 0 rfl Is.rfl' Is.rfl' Is.rfl' ?_)
                      refine LL.nil (after_code ?_)
                      refine LW.seq ?_
                      refine X.wghost (H' := .map b28 (mp hsKey (setM W2 e_ (i64 (w1 : Nat)))) :: .cells b14 34 (hsL e_) :: .map b29 (mp hsKey (nV N)) :: .cells b12 34 (hsL h) :: .tail b82 o82 c82 :: (ownA A2 te2 xs3 ++ Rf)) (by repeat (exact HSub.refl _)) ?_
                      refine LW.region ?_
                      refine X.u (LU.moveR Is.rfl') rfl ?_
                      refine X.u (LU.weak (LU.loadO 1 rfl ⟨Try.sizeOf34, Try.isAgg34⟩ Is.rfl' (Part.sub (by (simp; omega)))) (Is.of (y := .agg (hsL e_)) (hs_whole e_))) rfl ?_
                      refine X.u (LU.weak (LU.lookup 0 (KeyOk.hs Try.underlying34 Try.underlying5 Try.sizeOf5) rfl Try.underlying43 Try.zeroValue3 Is.rfl' (by exact Is.hk _)) (Is.of (y := i64 (w1 : Nat)) (hget2))) rfl ?_
                      refine X.u (LU.eql Is.rfl' Is.rfl') rfl ?_
                      refine LL.nil (after_code ?_)
                      refine X.cond rfl (fun h30 => ?_) (fun h30 => ?_)
                      · have h30 : w1 = 0 := by have := of_decide_eq_true h30; omega
                        rw [if_pos h30] at hKI2
                        refine LW.region ?_
                        refine X.u (LU.moveR Is.rfl') rfl ?_
                        refine X.u (LU.weak (LU.loadO 1 rfl ⟨Try.sizeOf34, Try.isAgg34⟩ Is.rfl' (Part.sub (by (simp; omega)))) (Is.of (y := .agg (hsL e_)) (hs_whole e_))) rfl ?_
                        refine X.u (LU.lits Try.underlying26 Try.sizeOf34 Try.zeroValue34 (ones rfl) rfl (by decide) (by decide) (Elems.cons Is.rfl' (by exact Cells.agg) Elems.nil) (by (simp; assumption)) rfl) rfl ?_
                        refine X.act (X.appendR ow3 (hswap (ownA A2 te2 xs3) Rf [.map b28 (mp hsKey (setM W2 e_ (i64 (w1 : Nat)))), .cells b14 34 (hsL e_), .map b29 (mp hsKey (nV N)), .cells b12 34 (hsL h), .tail b82 o82 c82]) rfl Try.underlying26 (El.of (P := Try.prog) (z := .agg (Array.replicate 32 (.int .u8 0))) (size := 32) (bytes := 32) rfl rfl rfl) (ones rfl) Is.rfl' Is.rfl' (SrcL.slice Try.underlying26 (by decide) (hss_size [e_])) (by simp) (by simp; omega) (by simp; omega) (fun b104 te104 off104 c104 xs104 ow104 => ?_))
                        refine X.u (LU.assignR Is.rfl') rfl ?_
                        refine LL.nil (after_blk (after_code ?_))
                        refine LW.region ?_
                        refine X.u (LU.addN Is.rfl' Is.rfl' (wrap_i64 (by omega) (by omega))) rfl ?_
                        refine X.u (LU.moveR Is.rfl') rfl ?_
                        refine LL.nil (after_rnd ?_)
                        refine X.next ((j + 1, setM W2 e_ (i64 (w1 : Nat)), R2 ++ [e_], some b104, te104, off104, n2 + 1, c104, xs104)) rfl (EnvLe.cons (by rfl) (EnvLe.cons (by rfl) (EnvLe.nil))) (Keeps.cons (by exact Eq.trans (b := .sl _ _ _) rfl rfl) (Keeps.cons (by exact Eq.trans (b := .sl _ _ _) rfl rfl) (Keeps.cons (by exact Eq.trans (b := .raw _) rfl rfl) (Keeps.cons (by exact Eq.trans (b := .raw _) rfl rfl) (Keeps.cons (by exact Eq.trans (b := .raw _) rfl rfl) (Keeps.cons (by exact Eq.trans (b := .sl _ _ _) rfl rfl) (Keeps.cons (by exact Eq.trans (b := .sl _ _ _) rfl rfl) (Keeps.cons (by exact Eq.trans (b := .raw _) rfl rfl) (Keeps.nil))))))))) (by repeat (first | exact HSub.refl _ | refine HSub.pick 0 rfl ?_ | refine HSub.pick 1 rfl ?_ | refine HSub.pick 2 rfl ?_ | refine HSub.drop ?_)) ?_ ?_
                        · exact ⟨by omega, hKI2, by rw [hss, List.map_append]; exact ow104⟩
                        · (simp; omega)
                      · have h30 : ¬ w1 = 0 := by have := of_decide_eq_false h30; omega
                        rw [if_neg h30] at hKI2
                        refine LW.skip (after_blk (after_code ?_))
                        refine LW.region ?_
                        refine X.u (LU.addN Is.rfl' Is.rfl' (wrap_i64 (by omega) (by omega))) rfl ?_
                        refine X.u (LU.moveR Is.rfl') rfl ?_
                        refine LL.nil (after_rnd ?_)
                        refine X.next ((j + 1, setM W2 e_ (i64 (w1 : Nat)), R2, A2, te2, off2, n2, c2, xs3)) rfl (EnvLe.cons (by rfl) (EnvLe.cons (by rfl) (EnvLe.nil))) (Keeps.cons (by exact Eq.trans (b := .sl _ _ _) rfl rfl) (Keeps.cons (by exact Eq.trans (b := .sl _ _ _) rfl rfl) (Keeps.cons (by exact Eq.trans (b := .raw _) rfl rfl) (Keeps.cons (by exact Eq.trans (b := .raw _) rfl rfl) (Keeps.cons (by exact Eq.trans (b := .raw _) rfl rfl) (Keeps.cons (by exact Eq.trans (b := .sl _ _ _) rfl rfl) (Keeps.cons (by exact Eq.trans (b := .sl _ _ _) rfl rfl) (Keeps.cons (by exact Eq.trans (b := .raw _) rfl rfl) (Keeps.nil))))))))) (by repeat (first | exact HSub.refl _ | refine HSub.pick 0 rfl ?_ | refine HSub.pick 1 rfl ?_ | refine HSub.drop ?_)) ?_ ?_
                        · exact ⟨by omega, hKI2, ow3⟩
                        · (simp; omega)
                  · try have h27 := of_decide_eq_false h27
                    refine LW.exit (exit_code (exit_rnd (exit_blk (after_blk (after_rnd ?_)))))
                    refine X.next ((out ++ [h], W2, R2, A2, te2, off2, n2, c2, xs3, b82, o82, c82)) rfl (EnvLe.cons (by rfl) (EnvLe.cons (by rfl) (EnvLe.nil))) (Keeps.cons (by exact Eq.trans (b := .sl _ _ _) rfl rfl) (Keeps.cons (by exact Eq.trans (b := .sl _ _ _) rfl rfl) (Keeps.cons (by exact Eq.trans (b := .raw _) rfl rfl) (Keeps.cons (by exact Eq.trans (b := .raw _) rfl rfl) (Keeps.cons (by exact Eq.trans (b := .raw _) rfl rfl) (Keeps.nil)))))) (by repeat (first | exact HSub.refl _ | refine HSub.pick 0 rfl ?_ | refine HSub.pick 3 rfl ?_ | refine HSub.drop ?_)) ?_ ?_
                    · exact ⟨hst.1, hT.snoc hq, KI.done (by rw [List.drop_of_length_le (by omega)] at hKI; exact hKI), ow3⟩
                    · (simp; omega)
              · have h21 : ¬ 0 < n0 := by have := of_decide_eq_false h21; omega
                have hR0 : R0 = [] := List.eq_nil_of_length_eq_zero (by omega)
                have hdn : nextO l out = none := by
                  cases hq : nextO l out with
                  | none => rfl
                  | some h => have := (hO.r h).2 (nextO_mem hq); rw [hR0] at this; cases this
                have hgo := hK.stop hdn
                refine LW.exit (exit_code (exit_rnd (exit_blk (after_code ?_))))
                refine LW.seq ?_
                refine LW.seq ?_
                refine LW.region ?_
                refine X.u (LU.moveS Is.rfl') rfl ?_
                refine X.u (LU.lenN Try.underlying26 Is.rfl' (by (simp only [Option.getD_some, Option.getD_none, byteEls_length, intEls_length, List.length_append, List.length_cons, List.length_nil, List.length_map, List.length_drop, List.length_take, Int.toNat_natCast]; rfl))) rfl ?_
                refine X.u (LU.moveS Is.rfl') rfl ?_
                refine X.u (LU.lenN Try.underlying22 Is.rfl' (by (simp only [Option.getD_some, Option.getD_none, byteEls_length, intEls_length, List.length_append, List.length_cons, List.length_nil, List.length_map, List.length_drop, List.length_take, Int.toNat_natCast]; rfl))) rfl ?_
                refine X.u (LU.lss Is.rfl' Is.rfl') rfl ?_
                refine LL.nil (after_code ?_)
                refine X.cond rfl (fun h33 => ?_) (fun h33 => ?_)
                · have h33 : out.length < l.length := by have := of_decide_eq_true h33; omega
                  refine LW.seq ?_
                  refine LW.region ?_
                  refine X.u (LU.assign (Is.nil 32)) rfl ?_
                  refine X.u (LU.assignR Is.rfl') rfl ?_
                  refine LL.nil (after_code ?_)
                  refine LW.ret (ret_code (after_end ?_))
                  refine X.ret (H' := []) (Res.two Is.unk Is.rfl') (HSub.drop (HSub.drop (HSub.drop (ownA_drop _ _ _ Rf)))) ?_
                  refine ⟨?_, rfl⟩
                  unfold orderS
                  rw [if_neg h1, if_neg h3, if_neg h5, hgo, if_pos h33]; rfl
                · have h33 : ¬ out.length < l.length := by have := of_decide_eq_false h33; omega
                  refine LW.skip (after_code ?_)
                  refine LW.seq ?_
                  refine LW.region ?_
                  refine X.u (LU.moveS Is.rfl') rfl ?_
                  refine X.u (LU.assignS Is.rfl') rfl ?_
                  refine X.u (LU.assignR Is.rfl') rfl ?_
                  refine LL.nil (after_code ?_)
                  refine LW.ret (after_end ?_)
                  refine X.ret (H' := []) (Res.two Is.unk Is.rfl') (HSub.drop (HSub.drop (HSub.drop (ownA_drop _ _ _ Rf)))) ?_
                  refine ⟨?_, rfl⟩
                  unfold orderS
                  rw [if_neg h1, if_neg h3, if_neg h5, hgo, if_neg h33]; rfl
end Go.Proofs.Ytmaeepckfbnpjaa
