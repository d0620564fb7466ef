/- What is missing. -/
import Derived.Test.YtmaeepckfbnpjaaDpH
set_option linter.unusedVariables false
set_option linter.unusedSimpArgs false
namespace Go.Proofs.Ytmaeepckfbnpjaa
open Go.RowKit Go.L Go.Lib
attribute [local irreducible] LL LW LO LP LA
theorem hss_at {l : List Hs} {i : Nat} {x : Hs} (h : l[i]? = some x) : (hss l)[(i : Int).toNat]? = some (hsL x) := by
  rw [Int.toNat_natCast, List.getElem?_map, h]; rfl
theorem hs_pos (x : Hs) : 0 < (hsL x).length := by rw [List.length_map, x.2]; decide
theorem hs_ne (x : Hs) : hsL x ≠ [] := fun c => by have := hs_pos x; rw [c] at this; exact absurd this (Nat.lt_irrefl 0)
def missO (l k : List It) : List Hs := (k.flatMap (·.deps)).filter fun y => decide (y ∉ names l)
def missS (l : List It) : List Hs := if 256 < l.length then [] else sortU (missO l l)
theorem missO_snoc (l k : List It) (x : It) : missO l (k ++ [x]) = missO l k ++ x.deps.filter fun y => decide (y ∉ names l) := by
  unfold missO; rw [List.flatMap_append, List.filter_append]; simp
set_option maxHeartbeats 2000000 in
set_option maxRecDepth 100000 in
theorem missing_calls (l : List It) (k : Cap) (hl : l.length < 140737488355328) (hd : totalD l ≤ 1000000) : LCalls Try.prog 18 [.sl 33 (its l) k] [] (fun r H' => r = .sl 32 (hss (missS l)) .unk ∧ H' = []) := by
  refine LCalls.of Try.func18 rfl Try.ntmps18 Try.results18 rfl (fun Rf => ?_)
  refine LW.seq ?_
  refine LW.region ?_
  refine X.u (LU.assign (Is.nil 32)) rfl ?_
  refine LL.nil (after_code ?_)
  refine LW.seq ?_
  refine LW.seq ?_
  refine LW.region ?_
  refine X.u (LU.moveS Is.rfl') rfl ?_
  refine X.u (LU.lenN Try.underlying22 Is.rfl' (by (simp only [Option.getD_some, Option.getD_none, byteEls_length, intEls_length, List.length_append, List.length_cons, List.length_nil, List.length_map, List.length_drop, List.length_take, Int.toNat_natCast]; rfl))) rfl ?_
  refine X.u (LU.gtr Is.rfl' Is.rfl') rfl ?_
  refine LL.nil (after_code ?_)
  refine X.cond rfl (fun h1 => ?_) (fun h1 => ?_)
  · have h1 : 256 < l.length := by have := of_decide_eq_true h1; omega
    refine LW.seq ?_
    refine LW.region ?_
    refine X.u (LU.assign (Is.nil 32)) rfl ?_
    refine LL.nil (after_code ?_)
    refine LW.ret (ret_code (after_end ?_))
    refine X.ret (H' := []) (Res.one Is.unk) (by repeat (exact HSub.refl _)) ?_
    refine ⟨?_, rfl⟩
    unfold missS; rw [if_pos h1]; rfl
  · have h1 : ¬ 256 < l.length := by have := of_decide_eq_false h1; omega
    refine LW.skip (after_code ?_)
    refine LW.seq ?_
    refine LW.region ?_
    refine X.u (LU.moveS Is.rfl') rfl ?_
    refine X.act (X.call (table_calls l k hl hd) Try.func29 rfl rfl rfl (HSub.refl _) (Opds.cons Is.rfl' Opds.nil) ?_)
    rintro r H' ⟨m1, m2, M, N, rfl, rfl, hM, hN⟩
    refine X.u (LU.moveT Is.rfl') rfl ?_
    refine X.u (LU.extract Is.rfl' rfl) rfl ?_
    refine X.u (LU.extract Is.rfl' rfl) rfl ?_
    refine X.u (LU.assignR Is.rfl') rfl ?_
    refine X.u (LU.assignR Is.rfl') rfl ?_
    refine LL.nil (after_code ?_)
    refine LW.seq ?_
    refine LW.region ?_
    refine X.act (LO.makeMap (st := ⟨_, _, _⟩) rfl (fun b18 => ?_))
    refine X.u (LU.assignR Is.rfl') rfl ?_
    refine LL.nil (after_code ?_)
    refine LW.seq ?_
    refine LW.seq ?_
    refine LW.region ?_
    refine X.u (LU.moveS Is.rfl') rfl ?_
    refine X.u (LU.lenN Try.underlying22 Is.rfl' (by (simp only [Option.getD_some, Option.getD_none, byteEls_length, intEls_length, List.length_append, List.length_cons, List.length_nil, List.length_map, List.length_drop, List.length_take, Int.toNat_natCast]; rfl))) rfl ?_
    refine X.u (LU.moveR Is.rfl') rfl ?_
    refine LL.nil (after_code ?_)
    refine LW.block ?_
    refine X.wghost (H' := .map b18 (mp hsKey []) :: .map m1 (mp hsKey M) :: Rf) (HSub.cons (HSub.cons (HSub.drop (tls_drop N Rf)))) ?_
    refine X.loopK (α := Nat × List (Hs × LV)) (fun ⟨i, K⟩ => [(21, i64 i)]) [2, 3, 5, 19, 20] (fun ⟨i, K⟩ => .map b18 (mp hsKey K) :: .map m1 (mp hsKey M) :: Rf) (fun ⟨i, K⟩ => i ≤ l.length ∧ Many K (missO l (l.take i))) (fun ⟨i, K⟩ => l.length - i) ((0, [])) (EnvLe.cons (by rfl) (EnvLe.nil)) (by repeat (exact HSub.refl _)) ?_ ?_
    · exact ⟨Nat.zero_le _, Many.nil⟩
    · rintro ⟨i, K⟩ hI
      obtain ⟨hi, hK⟩ := hI
      refine LW.seq ?_
      refine LW.region ?_
      refine X.u (LU.lss Is.rfl' Is.rfl') rfl ?_
      refine LL.nil (after_code ?_)
      refine LW.seq ?_
      refine X.cond rfl (fun h6 => ?_) (fun h6 => ?_)
      · try have h6 := of_decide_eq_true h6
        refine LW.skip (after_code ?_)
        refine LW.seq ?_
        refine LW.block ?_
        refine LW.seq ?_
        obtain ⟨x, hx⟩ := at_lt (show i < l.length by omega)
        have htot := totalD_at hx
        have hxl := it_len x
        have hx2 : x.name.1.length = 32 := x.name.2
        obtain ⟨ml, hml⟩ : ∃ ml, ml = missO l (l.take i) := ⟨_, rfl⟩
        have hmll : ml.length ≤ totalD (l.take i) := by
          rw [hml]
          refine Nat.le_trans (List.length_filter_le _ _) ?_
          unfold totalD
          rw [List.length_flatMap]
          exact Nat.le_refl _
        rw [← hml] at hK
        refine LW.region ?_
        refine X.u (LU.at Try.underlying22 ⟨Try.sizeOf36, Try.isAgg36⟩ Is.rfl' Is.rfl' (by omega) (its_at hx) (by simp)) rfl ?_
        refine X.u (LU.load ⟨Try.sizeOf36, Try.isAgg36⟩ Is.rfl' (by assumption) (Part.whole (by assumption))) rfl ?_
        refine X.act (X.alloc rfl Try.zeroValue36 (by exact Cells.rawagg (by decide)) (fun b7 => ?_))
        refine X.act (X.store 0 rfl Try.sizeOf36 Is.rfl' Is.rfl' (by exact Cells.agg) (by assumption) (by exact Nat.le_of_ble_eq_true rfl) ?_)
        refine LL.nil (after_code ?_)
        refine LW.seq ?_
        refine X.wcells (ys := itL x) (putAt_all (by rw [hxl]; rfl)) ?_
        refine LW.region ?_
        refine X.u (LU.fieldO Try.underlying36 rfl Try.sizeOf26 (by decide) Is.rfl') rfl ?_
        refine X.u (LU.loadO 0 rfl ⟨Try.sizeOf26, Try.isAgg26⟩ Is.rfl' (Part.one (it_deps x))) rfl ?_
        refine X.u (LU.lenN Try.underlying26 Is.rfl' (by (simp only [Option.getD_some, Option.getD_none, byteEls_length, intEls_length, List.length_append, List.length_cons, List.length_nil, List.length_map, List.length_drop, List.length_take, Int.toNat_natCast]; rfl))) rfl ?_
        refine X.u (LU.moveR Is.rfl') rfl ?_
        refine LL.nil (after_code ?_)
        refine LW.block ?_
        refine X.wghost (H' := .map b18 (mp hsKey K) :: .map m1 (mp hsKey M) :: .cells b7 36 (itL x) :: Rf) (by repeat (first | exact HSub.refl _ | refine HSub.pick 1 rfl ?_)) ?_
        refine X.loopK (α := Nat × List (Hs × LV)) (fun ⟨j, K2⟩ => [(28, i64 j)]) [2, 3, 5, 19, 20, 21, 26, 27] (fun ⟨j, K2⟩ => .map b18 (mp hsKey K2) :: .map m1 (mp hsKey M) :: .cells b7 36 (itL x) :: Rf) (fun ⟨j, K2⟩ => j ≤ x.deps.length ∧ Many K2 (ml ++ (x.deps.take j).filter fun y => decide (y ∉ names l))) (fun ⟨j, K2⟩ => x.deps.length - j) ((0, K)) (EnvLe.cons (by rfl) (EnvLe.nil)) (by repeat (exact HSub.refl _)) ?_ ?_
        · exact ⟨Nat.zero_le _, by simpa using hK⟩
        · rintro ⟨j, K2⟩ hI
          obtain ⟨hj, hK2⟩ := hI
          refine LW.seq ?_
          refine LW.region ?_
          refine X.u (LU.lss Is.rfl' Is.rfl') rfl ?_
          refine LL.nil (after_code ?_)
          refine LW.seq ?_
          refine X.cond rfl (fun h9 => ?_) (fun h9 => ?_)
          · try have h9 := of_decide_eq_true h9
            refine LW.skip (after_code ?_)
            refine LW.seq ?_
            refine LW.block ?_
            refine LW.seq ?_
            obtain ⟨e_, hd2⟩ := at_lt (show j < x.deps.length by omega)
            have hdl : e_.1.length = 32 := e_.2
            have hcc : ((ml ++ (x.deps.take j).filter fun y => decide (y ∉ names l)).count e_) ≤ 1000000 := by
              refine Nat.le_trans List.count_le_length ?_
              rw [List.length_append]
              have := List.length_filter_le (fun y => decide (y ∉ names l)) (x.deps.take j)
              rw [List.length_take] at this
              omega
            refine LW.region ?_
            refine X.u (LU.at Try.underlying26 ⟨Try.sizeOf34, Try.isAgg34⟩ Is.rfl' Is.rfl' (by omega) (hss_at hd2) (by exact hs_ne e_)) rfl ?_
            refine X.u (LU.load ⟨Try.sizeOf34, Try.isAgg34⟩ Is.rfl' (by (simp; omega)) (Part.whole (by (simp; omega)))) rfl ?_
            refine X.act (X.alloc rfl Try.zeroValue34 (by exact Cells.rawagg (by decide)) (fun b9 => ?_))
            refine X.act (X.store 0 rfl Try.sizeOf34 Is.rfl' Is.rfl' (by exact Cells.agg) (by (simp; omega)) (by exact Nat.le_of_ble_eq_true rfl) ?_)
            refine LL.nil (after_code ?_)
            refine LW.seq ?_
            refine X.wcells (ys := hsL e_) (putAt_all (by rw [List.length_map, hdl]; rfl)) ?_
            refine LW.region ?_
            refine X.u (LU.moveR Is.rfl') rfl ?_
            refine X.u (LU.weak (LU.loadO 0 rfl ⟨Try.sizeOf34, Try.isAgg34⟩ Is.rfl' (Part.sub (by (simp; omega)))) (Is.of (y := .agg (hsL e_)) (congrArg LV.agg (by rw [List.drop_zero, List.take_of_length_le (by rw [List.length_map, hdl]; exact Nat.le_refl _)])))) rfl ?_
            refine X.u (LU.weak (LU.lookup 2 (KeyOk.hs Try.underlying34 Try.underlying5 Try.sizeOf5) rfl Try.underlying43 Try.zeroValue3 Is.rfl' (by exact Is.hk _)) (Is.of (y := i64 ((names l).count e_ : Nat)) (hM.get e_))) rfl ?_
            refine X.u (LU.eql Is.rfl' Is.rfl') rfl ?_
            refine LL.nil (after_code ?_)
            refine X.cond rfl (fun h11 => ?_) (fun h11 => ?_)
            · have h11 : e_ ∉ names l := by have := of_decide_eq_true h11; exact List.count_eq_zero.1 (by omega)
              refine X.wghost (H' := .map b18 (mp hsKey K2) :: .map m1 (mp hsKey M) :: .cells b9 34 (hsL e_) :: .cells b7 36 (itL x) :: Rf) (by repeat (first | exact HSub.refl _ | refine HSub.pick 1 rfl ?_)) ?_
              refine LW.invM (m := 6) (γ := Nat × Nat) [(0, 36), (1, 37), (2, 38), (3, 39), (4, 40), (5, 41)] (fun g_ d => match g_ with | ⟨s_, q_⟩ => match d with | 36 => .raw (.map (some b18)) | 37 => .agg (hsL e_) | 38 => i64 (((ml ++ (x.deps.take j).filter fun y => decide (y ∉ names l)).count e_) : Nat) | 39 => i64 ((((ml ++ (x.deps.take j).filter fun y => decide (y ∉ names l)).count e_) + 1 : Nat) : Int) | 40 => .tup [i64 (((ml ++ (x.deps.take j).filter fun y => decide (y ∉ names l)).count e_) : Nat), i64 (s_ : Nat)] | 41 => i64 (q_ : Nat) | _ => .any) (fun g_ f => match g_ with | ⟨s_, q_⟩ => cond (f 4) (.mape b18 (mp hsKey (entM K2 e_ (i64 0))) (entI K2 e_) (cond (f 5) q_ s_)) (.map b18 (mp hsKey K2)) :: .map m1 (mp hsKey M) :: .cells b9 34 (hsL e_) :: .cells b7 36 (itL x) :: Rf) (0, 0) rfl (by kernel_rfl) rfl rfl ((HSub.refl _)) ?_ ?_
              · intro i hi f g_ hfi hdir hdown
                obtain ⟨s_, q_⟩ := g_
                have hc : i = 0 ∨ i = 1 ∨ i = 2 ∨ i = 3 ∨ i = 4 ∨ i = 5 := by omega
                rcases hc with rfl | rfl | rfl | rfl | rfl | rfl
                · refine ⟨_, rfl, ?_⟩
                  refine A.u (LU.moveR Is.rfl') rfl ?_
                  refine ⟨⟨s_, q_⟩, Weaker.mk' ?_ (HSub.refl _)⟩
                  refine env_back0 (envS_hit (sl := [(0, 36), (1, 37), (2, 38), (3, 39), (4, 40), (5, 41)]) (j := 0) (d := 36) rfl (fun _ _ h => h))  (envS_next ?_)
                  · intro p hp hne; simp only [List.mem_cons, List.not_mem_nil, or_false] at hp; rcases hp with rfl | rfl | rfl | rfl | rfl | rfl <;> first | exact absurd rfl hne | exact ⟨rfl, rfl⟩
                · refine ⟨_, rfl, ?_⟩
                  refine A.u (LU.weak (LU.loadO 2 rfl ⟨Try.sizeOf34, Try.isAgg34⟩ Is.rfl' (Part.sub (by (simp; omega)))) (Is.of (y := .agg (hsL e_)) (congrArg LV.agg (by rw [List.drop_zero, List.take_of_length_le (by rw [List.length_map, hdl]; exact Nat.le_refl _)])))) rfl ?_
                  refine ⟨⟨s_, q_⟩, Weaker.mk' ?_ (HSub.refl _)⟩
                  refine env_back0 (envS_hit (sl := [(0, 36), (1, 37), (2, 38), (3, 39), (4, 40), (5, 41)]) (j := 1) (d := 37) rfl (fun _ _ h => h))  (envS_next ?_)
                  · intro p hp hne; simp only [List.mem_cons, List.not_mem_nil, or_false] at hp; rcases hp with rfl | rfl | rfl | rfl | rfl | rfl <;> first | exact absurd rfl hne | exact ⟨rfl, rfl⟩
                · have d0 := hdir 0 (List.mem_of_elem_eq_true (by kernel_rfl))
                  have d1 := hdir 1 (List.mem_of_elem_eq_true (by kernel_rfl))
                  refine ⟨_, rfl, ?_⟩
                  refine LP.weak (t := 36) (v := .raw (.map (some b18))) (envS_is (j := 0) rfl d0) ?_
                  refine LP.weak (t := 37) (v := .agg (hsL e_)) (envS_is (j := 1) rfl d1) ?_
                  refine A.u (LU.weak (LU.lookupC 0 (KeyOk.hs Try.underlying34 Try.underlying5 Try.sizeOf5) rfl Try.underlying43 Try.zeroValue3 Is.rfl' (Is.hk _)) (Is.of (y := i64 (((ml ++ (x.deps.take j).filter fun y => decide (y ∉ names l)).count e_) : Nat)) (hK2.get e_))) rfl ?_
                  refine ⟨⟨s_, q_⟩, Weaker.mk' ?_ (HSub.refl _)⟩
                  refine env_back2 (envS_hit (sl := [(0, 36), (1, 37), (2, 38), (3, 39), (4, 40), (5, 41)]) (j := 2) (d := 38) rfl (fun _ _ h => h)) (envS_hit (sl := [(0, 36), (1, 37), (2, 38), (3, 39), (4, 40), (5, 41)]) (j := 1) (d := 37) rfl (fun _ _ h => h)) (envS_hit (sl := [(0, 36), (1, 37), (2, 38), (3, 39), (4, 40), (5, 41)]) (j := 0) (d := 36) rfl (fun _ _ h => h)) (envS_next ?_)
                  · intro p hp hne; simp only [List.mem_cons, List.not_mem_nil, or_false] at hp; rcases hp with rfl | rfl | rfl | rfl | rfl | rfl <;> first | exact absurd rfl hne | exact ⟨rfl, rfl⟩
                · have d2 := hdir 2 (List.mem_of_elem_eq_true (by kernel_rfl))
                  refine ⟨_, rfl, ?_⟩
                  refine LP.weak (t := 38) (v := i64 (((ml ++ (x.deps.take j).filter fun y => decide (y ∉ names l)).count e_) : Nat)) (envS_is (j := 2) rfl d2) ?_
                  refine A.u (LU.weak (LU.add Is.rfl' Is.rfl') (Is.of (y := i64 ((((ml ++ (x.deps.take j).filter fun y => decide (y ∉ names l)).count e_) + 1 : Nat) : Int)) (congrArg i64 ((wrap_i64 (by omega) (by omega)).trans (by omega))))) rfl ?_
                  refine ⟨⟨s_, q_⟩, Weaker.mk' ?_ (HSub.refl _)⟩
                  refine env_back1 (envS_hit (sl := [(0, 36), (1, 37), (2, 38), (3, 39), (4, 40), (5, 41)]) (j := 3) (d := 39) rfl (fun _ _ h => h)) (envS_hit (sl := [(0, 36), (1, 37), (2, 38), (3, 39), (4, 40), (5, 41)]) (j := 2) (d := 38) rfl (fun _ _ h => h)) (envS_next ?_)
                  · intro p hp hne; simp only [List.mem_cons, List.not_mem_nil, or_false] at hp; rcases hp with rfl | rfl | rfl | rfl | rfl | rfl <;> first | exact absurd rfl hne | exact ⟨rfl, rfl⟩
                · have d0 := hdir 0 (List.mem_of_elem_eq_true (by kernel_rfl))
                  have d1 := hdir 1 (List.mem_of_elem_eq_true (by kernel_rfl))
                  refine ⟨_, rfl, ?_⟩
                  have h6 : f 5 = false := Bool.eq_false_iff.2 (fun h => by rw [hdown 5 (by omega) h 4 (List.mem_of_elem_eq_true (by kernel_rfl))] at hfi; cases hfi)
                  refine LP.ghost (H' := .map b18 (mp hsKey K2) :: .map m1 (mp hsKey M) :: .cells b9 34 (hsL e_) :: .cells b7 36 (itL x) :: Rf) (by rw [hfi]; exact HSub.refl _) ?_
                  refine LP.weak (t := 36) (v := .raw (.map (some b18))) (envS_is (j := 0) rfl d0) ?_
                  refine LP.weak (t := 37) (v := .agg (hsL e_)) (envS_is (j := 1) rfl d1) ?_
                  refine A.act (LO.mapEntry (st := ⟨_, _, _⟩) 0 rfl (KeyOk.hs Try.underlying34 Try.underlying5 Try.sizeOf5) rfl Try.underlying43 Try.zeroValue3 Is.rfl' (by exact Is.hk _) (fun s40 => ?_))
                  refine ⟨(s40, q_), Weaker.mk' ?_ (by show L.HSub _ (.mape b18 (mp hsKey (entM K2 e_ (i64 0))) (entI K2 e_) (cond (f 5) q_ s40) :: _); rw [h6]; exact HSub.refl _)⟩
                  refine env_back2 (envS_hit (sl := [(0, 36), (1, 37), (2, 38), (3, 39), (4, 40), (5, 41)]) (j := 4) (d := 40) rfl (Is.of (congrArg (fun z => LV.tup [z, i64 (s40 : Nat)]) (hK2.get e_)))) (envS_hit (sl := [(0, 36), (1, 37), (2, 38), (3, 39), (4, 40), (5, 41)]) (j := 1) (d := 37) rfl (fun _ _ h => h)) (envS_hit (sl := [(0, 36), (1, 37), (2, 38), (3, 39), (4, 40), (5, 41)]) (j := 0) (d := 36) rfl (fun _ _ h => h)) (envS_next ?_)
                  · intro p hp hne; simp only [List.mem_cons, List.not_mem_nil, or_false] at hp; rcases hp with rfl | rfl | rfl | rfl | rfl | rfl <;> first | exact absurd rfl hne | exact ⟨rfl, rfl⟩
                · have d4 := hdir 4 (List.mem_of_elem_eq_true (by kernel_rfl))
                  refine ⟨_, rfl, ?_⟩
                  refine LP.weak (t := 40) (v := .tup [i64 (((ml ++ (x.deps.take j).filter fun y => decide (y ∉ names l)).count e_) : Nat), i64 (s_ : Nat)]) (envS_is (j := 4) rfl d4) ?_
                  refine A.u (LU.extract Is.rfl' rfl) rfl ?_
                  refine ⟨(s_, s_), Weaker.mk' ?_ (by show L.HSub (cond (f 4) (.mape b18 (mp hsKey (entM K2 e_ (i64 0))) (entI K2 e_) (cond (f 5) q_ s_)) (.map b18 (mp hsKey K2)) :: _) (cond (f 4) (.mape b18 (mp hsKey (entM K2 e_ (i64 0))) (entI K2 e_) s_) (.map b18 (mp hsKey K2)) :: _); rw [hfi]; exact HSub.refl _)⟩
                  refine env_back1 (envS_hit (sl := [(0, 36), (1, 37), (2, 38), (3, 39), (4, 40), (5, 41)]) (j := 5) (d := 41) rfl (fun _ _ h => h)) (envS_hit (sl := [(0, 36), (1, 37), (2, 38), (3, 39), (4, 40), (5, 41)]) (j := 4) (d := 40) rfl (fun _ _ h => h)) (envS_next ?_)
                  · intro p hp hne; simp only [List.mem_cons, List.not_mem_nil, or_false] at hp; rcases hp with rfl | rfl | rfl | rfl | rfl | rfl <;> first | exact absurd rfl hne | exact ⟨rfl, rfl⟩
              · intro g_ f hf_
                obtain ⟨s_, q_⟩ := g_
                refine X.ghost (H' := .mape b18 (mp hsKey (entM K2 e_ (i64 0))) (entI K2 e_) q_ :: .map m1 (mp hsKey M) :: .cells b9 34 (hsL e_) :: .cells b7 36 (itL x) :: Rf) (by show L.HSub (cond (f 4) (.mape b18 (mp hsKey (entM K2 e_ (i64 0))) (entI K2 e_) (cond (f 5) q_ s_)) _ :: _) _; rw [hf_ 4 (by omega), hf_ 5 (by omega)]; exact HSub.refl _) ?_
                refine X.act (X.entryStore 0 rfl Is.rfl' Is.rfl' Is.rfl' ?_)
                refine LL.nil (after_blk (after_code ?_))
                refine LW.region ?_
                refine X.u (LU.addN Is.rfl' Is.rfl' (wrap_i64 (by omega) (by omega))) rfl ?_
                refine X.u (LU.moveR Is.rfl') rfl ?_
                refine LL.nil (after_rnd ?_)
                refine X.next ((j + 1, setM K2 e_ (i64 ((((ml ++ (x.deps.take j).filter fun y => decide (y ∉ names l)).count e_) + 1 : Nat) : Int)))) rfl (EnvLe.cons (by rfl) (EnvLe.nil)) (Keeps.cons (by exact Eq.trans (b := .sl _ _ _) rfl rfl) (Keeps.cons (by exact Eq.trans (b := .raw _) rfl rfl) (Keeps.cons (by exact Eq.trans (b := .raw _) rfl rfl) (Keeps.cons (by exact Eq.trans (b := .sl _ _ _) rfl rfl) (Keeps.cons (by exact Eq.trans (b := .raw _) rfl rfl) (Keeps.cons (by exact Eq.trans (b := .raw _) rfl rfl) (Keeps.cons (by exact Eq.trans (b := .sl _ _ _) rfl rfl) (Keeps.cons (by exact Eq.trans (b := .raw _) rfl rfl) (Keeps.nil))))))))) (by repeat (first | exact HSub.refl _ | refine HSub.pick 0 rfl ?_ | refine HSub.pick 1 rfl ?_ | refine HSub.drop ?_)) ?_ ?_
                · refine ⟨by omega, ?_⟩
                  rw [take_snoc hd2, List.filter_append, ← List.append_assoc]
                  have : List.filter (fun y => decide (y ∉ names l)) [e_] = [e_] := by rw [List.filter_cons, if_pos (decide_eq_true h11)]; rfl
                  rw [this]
                  exact hK2.add e_
                · (simp; omega)
            · have h11 : e_ ∈ names l := by have := of_decide_eq_false h11; exact Classical.byContradiction fun c => this (by rw [List.count_eq_zero.2 c]; rfl)
              refine LW.skip (after_blk (after_code ?_))
              refine LW.region ?_
              refine X.u (LU.addN Is.rfl' Is.rfl' (wrap_i64 (by omega) (by omega))) rfl ?_
              refine X.u (LU.moveR Is.rfl') rfl ?_
              refine LL.nil (after_rnd ?_)
              refine X.next ((j + 1, K2)) rfl (EnvLe.cons (by rfl) (EnvLe.nil)) (Keeps.cons (by exact Eq.trans (b := .sl _ _ _) rfl rfl) (Keeps.cons (by exact Eq.trans (b := .raw _) rfl rfl) (Keeps.cons (by exact Eq.trans (b := .raw _) rfl rfl) (Keeps.cons (by exact Eq.trans (b := .sl _ _ _) rfl rfl) (Keeps.cons (by exact Eq.trans (b := .raw _) rfl rfl) (Keeps.cons (by exact Eq.trans (b := .raw _) rfl rfl) (Keeps.cons (by exact Eq.trans (b := .sl _ _ _) rfl rfl) (Keeps.cons (by exact Eq.trans (b := .raw _) rfl rfl) (Keeps.nil))))))))) (by repeat (first | exact HSub.refl _ | refine HSub.pick 1 rfl ?_ | refine HSub.drop ?_)) ?_ ?_
              · refine ⟨by omega, ?_⟩
                rw [take_snoc hd2, List.filter_append]
                have : List.filter (fun y => decide (y ∉ names l)) [e_] = [] := by rw [List.filter_cons, if_neg (by rw [decide_eq_false (fun h : e_ ∉ names l => h h11)]; decide)]; rfl
                rw [this, List.append_nil]
                exact hK2
              · (simp; omega)
          · try have h9 := of_decide_eq_false h9
            refine LW.exit (exit_code (exit_rnd (exit_blk (after_blk (after_code ?_)))))
            refine LW.region ?_
            refine X.u (LU.addN Is.rfl' Is.rfl' (wrap_i64 (by omega) (by omega))) rfl ?_
            refine X.u (LU.moveR Is.rfl') rfl ?_
            refine LL.nil (after_rnd ?_)
            refine X.next ((i + 1, K2)) rfl (EnvLe.cons (by rfl) (EnvLe.nil)) (Keeps.cons (by exact Eq.trans (b := .sl _ _ _) rfl rfl) (Keeps.cons (by exact Eq.trans (b := .raw _) rfl rfl) (Keeps.cons (by exact Eq.trans (b := .raw _) rfl rfl) (Keeps.cons (by exact Eq.trans (b := .sl _ _ _) rfl rfl) (Keeps.cons (by exact Eq.trans (b := .raw _) rfl rfl) (Keeps.nil)))))) (by repeat (first | exact HSub.refl _ | refine HSub.pick 0 rfl ?_ | refine HSub.drop ?_)) ?_ ?_
            · refine ⟨by omega, ?_⟩
              rw [take_snoc hx, missO_snoc, ← hml]
              have hj : j = x.deps.length := by omega
              rw [hj, List.take_length] at hK2
              exact hK2
            · (simp; omega)
      · try have h6 := of_decide_eq_false h6
        refine LW.exit (exit_code (exit_rnd (exit_blk (after_code ?_))))
        refine LW.seq ?_
        have hil : i = l.length := by omega
        have hkl : K.length ≤ 1000000 := by
          have h2 := (nodup_len hK.keys (fun x hx => (hK.mem x).1 hx)).1
          rw [List.length_map] at h2
          have h3 : (missO l (l.take i)).length ≤ totalD (l.take i) := by
            refine Nat.le_trans (List.length_filter_le _ _) ?_
            unfold totalD
            rw [List.length_flatMap]
            exact Nat.le_refl _
          have := totalD_take l i
          omega
        have hso := sorted_calls b18 K hK.keys hkl
        refine LW.region ?_
        refine X.u (LU.moveR Is.rfl') rfl ?_
        refine X.act (X.call (hso) Try.func32 rfl rfl rfl (by (refine HSub.pick 0 rfl ?_); exact HSub.refl _) (Opds.cons Is.rfl' (Opds.cons Is.rfl' Opds.nil)) ?_)
        rintro r H' ⟨ks, rfl, rfl, hks, hkm⟩
        refine X.u (LU.assignS Is.rfl') rfl ?_
        refine LL.nil (after_code ?_)
        refine LW.ret (after_end ?_)
        refine X.ret (H' := []) (Res.one (by exact IsS rfl)) (by repeat (first | exact HSub.refl _ | refine HSub.drop ?_)) ?_
        refine ⟨?_, rfl⟩
        have : sortH ks = missS l := by
          unfold missS
          rw [if_neg h1]
          rw [hil, List.take_length] at hK
          exact sortU_of hks (fun x => by rw [hkm, hK.mem])
        rw [this]
end Go.Proofs.Ytmaeepckfbnpjaa
