/- The table of items. -/
import Derived.Test.YtmaeepckfbnpjaaDpD
set_option linter.unusedVariables false
set_option linter.unusedSimpArgs false
namespace Go.Proofs.Ytmaeepckfbnpjaa
open Go.RowKit Go.L Go.Lib
attribute [local irreducible] LL LW LO LP LA
structure It where
  name : Hs
  deps : List Hs
abbrev Hss (l : List Hs) : LV := .sl 32 (hss l) .unk
abbrev itL (x : It) : List LV := hsL x.name ++ [Hss x.deps]
abbrev its (l : List It) : List (List LV) := l.map itL
abbrev names (l : List It) : List Hs := l.map (·.name)
def depsOf (l : List It) (h : Hs) : List Hs := (l.filter fun x => x.name = h).flatMap (·.deps)
def totalD (l : List It) : Nat := (l.map fun x => x.deps.length).sum
theorem at_lt {α : Type} {l : List α} {i : Nat} (h : i < l.length) : ∃ x, l[i]? = some x := ⟨_, List.getElem?_eq_getElem h⟩
theorem its_at {l : List It} {i : Nat} {x : It} (h : l[i]? = some x) : (its l)[(i : Int).toNat]? = some (itL x) := by
  rw [Int.toNat_natCast, List.getElem?_map, h]; rfl
theorem it_len (x : It) : (itL x).length = 33 := by simp [x.name.2]
theorem it_name (x : It) : ((itL x).drop 0).take 32 = hsL x.name := by
  rw [List.drop_zero, List.take_left' (by rw [List.length_map]; exact x.name.2)]
theorem it_deps (x : It) : (itL x)[0 + 32]? = some (Hss x.deps) := by
  rw [List.getElem?_append_right (by rw [List.length_map, x.name.2]; decide), List.length_map, x.name.2]; rfl
theorem take_snoc {α : Type} {l : List α} {i : Nat} {x : α} (h : l[i]? = some x) : l.take (i + 1) = l.take i ++ [x] := by
  obtain ⟨h1, h2⟩ := List.getElem?_eq_some_iff.1 h
  rw [List.take_succ_eq_append_getElem h1, h2]
theorem depsOf_snoc (l : List It) (x : It) (h : Hs) : depsOf (l ++ [x]) h = depsOf l h ++ (if x.name = h then x.deps else []) := by
  unfold depsOf
  rw [List.filter_append, List.flatMap_append]
  by_cases c : x.name = h
  · simp [c]
  · simp [c]
theorem depsOf_len : ∀ (l : List It) (h : Hs), (depsOf l h).length ≤ totalD l
  | [], h => Nat.le_refl 0
  | x :: l, h => by
    have ih := depsOf_len l h
    have e : totalD (x :: l) = x.deps.length + totalD l := rfl
    have f : depsOf (x :: l) h = (if x.name = h then x.deps else []) ++ depsOf l h := by
      unfold depsOf
      by_cases c : x.name = h
      · simp [c]
      · simp [c]
    rw [e, f, List.length_append]
    split
    · omega
    · simp only [List.length_nil]; omega
theorem totalD_take (l : List It) (i : Nat) : totalD (l.take i) ≤ totalD l := by
  unfold totalD
  rw [List.map_take]
  conv => rhs; rw [← List.take_append_drop i (l.map fun x => x.deps.length), List.sum_append]
  omega
theorem totalD_at {l : List It} {i : Nat} {x : It} (h : l[i]? = some x) : totalD (l.take i) + x.deps.length ≤ totalD l := by
  have := totalD_take l (i + 1)
  rw [take_snoc h] at this
  unfold totalD at this ⊢
  rw [List.map_append, List.sum_append] at this
  simpa using this
set_option maxHeartbeats 1000000 in
set_option maxRecDepth 100000 in
theorem table_calls (l : List It) (k : Cap) (hl : l.length < 140737488355328) (hd : totalD l ≤ 1000000) : LCalls Try.prog 29 [.sl 33 (its l) k] [] (fun r H' => ∃ m1 m2 M N, r = .tup [.raw (.map (some m1)), .raw (.map (some m2))] ∧ H' = .map m1 (mp hsKey M) :: .map m2 (mp hsKey (nV N)) :: tls N ∧ Many M (names l) ∧ ∀ h, (curN N h).es = depsOf l h) := by
  refine LCalls.of Try.func29 rfl Try.ntmps29 Try.results29 rfl (fun Rf => ?_)
  refine LW.seq ?_
  refine LW.region ?_
  refine X.u (LU.assignR Is.rfl') rfl ?_
  refine X.u (LU.assignR Is.rfl') rfl ?_
  refine LL.nil (after_code ?_)
  refine LW.seq ?_
  refine LW.region ?_
  refine X.act (LO.makeMap (st := ⟨_, _, _⟩) rfl (fun b8 => ?_))
  refine X.act (LO.makeMap (st := ⟨_, _, _⟩) rfl (fun b9 => ?_))
  refine X.u (LU.assignR Is.rfl') rfl ?_
  refine X.u (LU.assignR Is.rfl') rfl ?_
  refine LL.nil (after_code ?_)
  refine LW.seq ?_
  refine LW.seq ?_
  refine LW.region ?_
  refine X.u (LU.moveS Is.rfl') rfl ?_
  refine X.u (LU.lenN Try.underlying22 Is.rfl' (by (simp only [Option.getD_some, Option.getD_none, byteEls_length, intEls_length, List.length_append, List.length_cons, List.length_nil, List.length_map, List.length_drop, List.length_take, Int.toNat_natCast]; rfl))) rfl ?_
  refine X.u (LU.moveR Is.rfl') rfl ?_
  refine LL.nil (after_code ?_)
  refine LW.block ?_
  refine X.loopK (α := Nat × List (Hs × LV) × List (Hs × Gr)) (fun ⟨i, M, N⟩ => [(12, i64 i)]) [2, 3, 4, 5, 10, 11] (fun ⟨i, M, N⟩ => .map b8 (mp hsKey M) :: .map b9 (mp hsKey (nV N)) :: (tls N ++ Rf)) (fun ⟨i, M, N⟩ => i ≤ l.length ∧ Many M (names (l.take i)) ∧ ∀ h, (curN N h).es = depsOf (l.take i) h) (fun ⟨i, M, N⟩ => l.length - i) ((0, [], [])) (EnvLe.cons (by rfl) (EnvLe.nil)) (by repeat (first | exact HSub.refl _ | refine HSub.pick 1 rfl ?_)) ?_ ?_
  · exact ⟨Nat.zero_le _, Many.nil, fun h => rfl⟩
  · rintro ⟨i, M, N⟩ hI
    obtain ⟨hi, hM, hN⟩ := hI
    refine LW.seq ?_
    refine LW.region ?_
    refine X.u (LU.lss Is.rfl' Is.rfl') rfl ?_
    refine LL.nil (after_code ?_)
    refine LW.seq ?_
    refine X.cond rfl (fun h3 => ?_) (fun h3 => ?_)
    · try have h3 := of_decide_eq_true h3
      refine LW.skip (after_code ?_)
      refine LW.seq ?_
      refine LW.block ?_
      refine LW.seq ?_
      obtain ⟨x, hx⟩ := at_lt (show i < l.length by omega)
      have htot := totalD_at hx
      have hcl := depsOf_len (l.take i) x.name
      have hcn := hN x.name
      have hcc : (names (l.take i)).count x.name ≤ i := by have := List.count_le_length (l := names (l.take i)) (a := x.name); rw [List.length_map, List.length_take] at this; omega
      have hxl := it_len x
      have hx2 : x.name.1.length = 32 := x.name.2
      refine LW.region ?_
      refine X.u (LU.at Try.underlying22 ⟨Try.sizeOf36, Try.isAgg36⟩ Is.rfl' Is.rfl' (by omega) (its_at hx) (by simp)) rfl ?_
      refine X.u (LU.load ⟨Try.sizeOf36, Try.isAgg36⟩ Is.rfl' (by assumption) (Part.whole (by assumption))) rfl ?_
      refine X.act (X.alloc rfl Try.zeroValue36 (by exact Cells.rawagg (by decide)) (fun b7 => ?_))
      refine X.act (X.store 0 rfl Try.sizeOf36 Is.rfl' Is.rfl' (by exact Cells.agg) (by assumption) (by exact Nat.le_of_ble_eq_true rfl) ?_)
      refine LL.nil (after_code ?_)
      refine LW.seq ?_
      refine X.wcells (ys := itL x) (putAt_all (by rw [hxl]; rfl)) ?_
      refine LW.invM (m := 7) (γ := Nat × Nat) [(0, 16), (1, 17), (2, 18), (3, 19), (4, 20), (5, 21), (6, 22)] (fun g_ d => match g_ with | ⟨s_, q_⟩ => match d with | 16 => .raw (.map (some b8)) | 17 => .raw (.pointer (some ⟨b7, 0, none⟩)) | 18 => .agg (hsL x.name) | 19 => i64 ((names (l.take i)).count x.name : Nat) | 20 => i64 (((names (l.take i)).count x.name + 1 : Nat) : Int) | 21 => .tup [i64 ((names (l.take i)).count x.name : Nat), i64 (s_ : Nat)] | 22 => i64 (q_ : Nat) | _ => .any) (fun g_ f => match g_ with | ⟨s_, q_⟩ => cond (f 5) (.mape b8 (mp hsKey (entM M x.name (i64 0))) (entI M x.name) (cond (f 6) q_ s_)) (.map b8 (mp hsKey M)) :: .cells b7 36 (itL x) :: .map b9 (mp hsKey (nV N)) :: (tls N ++ Rf)) (0, 0) rfl (by kernel_rfl) rfl rfl ((by repeat (first | exact HSub.refl _ | refine HSub.pick 1 rfl ?_))) ?_ ?_
      · intro i hi f g_ hfi hdir hdown
        obtain ⟨s_, q_⟩ := g_
        have hc : i = 0 ∨ i = 1 ∨ i = 2 ∨ i = 3 ∨ i = 4 ∨ i = 5 ∨ i = 6 := by omega
        rcases hc with rfl | rfl | rfl | rfl | rfl | rfl | rfl
        · refine ⟨_, rfl, ?_⟩
          refine A.u (LU.moveR Is.rfl') rfl ?_
          refine ⟨⟨s_, q_⟩, Weaker.mk' ?_ (HSub.refl _)⟩
          refine env_back0 (envS_hit (sl := [(0, 16), (1, 17), (2, 18), (3, 19), (4, 20), (5, 21), (6, 22)]) (j := 0) (d := 16) rfl (fun _ _ h => h))  (envS_next ?_)
          · intro p hp hne; simp only [List.mem_cons, List.not_mem_nil, or_false] at hp; rcases hp with rfl | rfl | rfl | rfl | rfl | rfl | rfl <;> first | exact absurd rfl hne | exact ⟨rfl, rfl⟩
        · refine ⟨_, rfl, ?_⟩
          refine A.u (LU.fieldO Try.underlying36 rfl Try.sizeOf34 (by decide) Is.rfl') rfl ?_
          refine ⟨⟨s_, q_⟩, Weaker.mk' ?_ (HSub.refl _)⟩
          refine env_back0 (envS_hit (sl := [(0, 16), (1, 17), (2, 18), (3, 19), (4, 20), (5, 21), (6, 22)]) (j := 1) (d := 17) rfl (fun _ _ h => h))  (envS_next ?_)
          · intro p hp hne; simp only [List.mem_cons, List.not_mem_nil, or_false] at hp; rcases hp with rfl | rfl | rfl | rfl | rfl | rfl | rfl <;> first | exact absurd rfl hne | exact ⟨rfl, rfl⟩
        · have d1 := hdir 1 (List.mem_of_elem_eq_true (by kernel_rfl))
          refine ⟨_, rfl, ?_⟩
          refine LP.weak (t := 17) (v := .raw (.pointer (some ⟨b7, 0, none⟩))) (envS_is (j := 1) rfl d1) ?_
          refine A.u (LU.weak (LU.loadO 1 rfl ⟨Try.sizeOf34, Try.isAgg34⟩ Is.rfl' (Part.sub (by (simp; omega)))) (Is.of (y := .agg (hsL x.name)) (congrArg LV.agg (it_name x)))) rfl ?_
          refine ⟨⟨s_, q_⟩, Weaker.mk' ?_ (HSub.refl _)⟩
          refine env_back1 (envS_hit (sl := [(0, 16), (1, 17), (2, 18), (3, 19), (4, 20), (5, 21), (6, 22)]) (j := 2) (d := 18) rfl (fun _ _ h => h)) (envS_hit (sl := [(0, 16), (1, 17), (2, 18), (3, 19), (4, 20), (5, 21), (6, 22)]) (j := 1) (d := 17) rfl (fun _ _ h => h)) (envS_next ?_)
          · intro p hp hne; simp only [List.mem_cons, List.not_mem_nil, or_false] at hp; rcases hp with rfl | rfl | rfl | rfl | rfl | rfl | rfl <;> first | exact absurd rfl hne | exact ⟨rfl, rfl⟩
        · have d0 := hdir 0 (List.mem_of_elem_eq_true (by kernel_rfl))
          have d2 := hdir 2 (List.mem_of_elem_eq_true (by kernel_rfl))
          refine ⟨_, rfl, ?_⟩
          refine LP.weak (t := 16) (v := .raw (.map (some b8))) (envS_is (j := 0) rfl d0) ?_
          refine LP.weak (t := 18) (v := .agg (hsL x.name)) (envS_is (j := 2) rfl d2) ?_
          refine A.u (LU.weak (LU.lookupC 0 (KeyOk.hs Try.underlying34 Try.underlying5 Try.sizeOf5) rfl Try.underlying43 Try.zeroValue3 Is.rfl' (Is.hk _)) (Is.of (y := i64 ((names (l.take i)).count x.name : Nat)) (hM.get x.name))) rfl ?_
          refine ⟨⟨s_, q_⟩, Weaker.mk' ?_ (HSub.refl _)⟩
          refine env_back2 (envS_hit (sl := [(0, 16), (1, 17), (2, 18), (3, 19), (4, 20), (5, 21), (6, 22)]) (j := 3) (d := 19) rfl (fun _ _ h => h)) (envS_hit (sl := [(0, 16), (1, 17), (2, 18), (3, 19), (4, 20), (5, 21), (6, 22)]) (j := 2) (d := 18) rfl (fun _ _ h => h)) (envS_hit (sl := [(0, 16), (1, 17), (2, 18), (3, 19), (4, 20), (5, 21), (6, 22)]) (j := 0) (d := 16) rfl (fun _ _ h => h)) (envS_next ?_)
          · intro p hp hne; simp only [List.mem_cons, List.not_mem_nil, or_false] at hp; rcases hp with rfl | rfl | rfl | rfl | rfl | rfl | rfl <;> first | exact absurd rfl hne | exact ⟨rfl, rfl⟩
        · have d3 := hdir 3 (List.mem_of_elem_eq_true (by kernel_rfl))
          refine ⟨_, rfl, ?_⟩
          refine LP.weak (t := 19) (v := i64 ((names (l.take i)).count x.name : Nat)) (envS_is (j := 3) rfl d3) ?_
          refine A.u (LU.weak (LU.add Is.rfl' Is.rfl') (Is.of (y := i64 (((names (l.take i)).count x.name + 1 : Nat) : Int)) (congrArg i64 ((wrap_i64 (by omega) (by omega)).trans (by omega))))) rfl ?_
          refine ⟨⟨s_, q_⟩, Weaker.mk' ?_ (HSub.refl _)⟩
          refine env_back1 (envS_hit (sl := [(0, 16), (1, 17), (2, 18), (3, 19), (4, 20), (5, 21), (6, 22)]) (j := 4) (d := 20) rfl (fun _ _ h => h)) (envS_hit (sl := [(0, 16), (1, 17), (2, 18), (3, 19), (4, 20), (5, 21), (6, 22)]) (j := 3) (d := 19) rfl (fun _ _ h => h)) (envS_next ?_)
          · intro p hp hne; simp only [List.mem_cons, List.not_mem_nil, or_false] at hp; rcases hp with rfl | rfl | rfl | rfl | rfl | rfl | rfl <;> first | exact absurd rfl hne | exact ⟨rfl, rfl⟩
        · have d0 := hdir 0 (List.mem_of_elem_eq_true (by kernel_rfl))
          have d1 := hdir 1 (List.mem_of_elem_eq_true (by kernel_rfl))
          have d2 := hdir 2 (List.mem_of_elem_eq_true (by kernel_rfl))
          refine ⟨_, rfl, ?_⟩
          have h6 : f 6 = false := Bool.eq_false_iff.2 (fun h => by rw [hdown 6 (by omega) h 5 (List.mem_of_elem_eq_true (by kernel_rfl))] at hfi; cases hfi)
          refine LP.ghost (H' := .map b8 (mp hsKey M) :: .cells b7 36 (itL x) :: .map b9 (mp hsKey (nV N)) :: (tls N ++ Rf)) (by rw [hfi]; exact HSub.refl _) ?_
          refine LP.weak (t := 16) (v := .raw (.map (some b8))) (envS_is (j := 0) rfl d0) ?_
          refine LP.weak (t := 18) (v := .agg (hsL x.name)) (envS_is (j := 2) rfl d2) ?_
          refine A.act (LO.mapEntry (st := ⟨_, _, _⟩) 0 rfl (KeyOk.hs Try.underlying34 Try.underlying5 Try.sizeOf5) rfl Try.underlying43 Try.zeroValue3 Is.rfl' (by exact Is.hk _) (fun s21 => ?_))
          refine ⟨(s21, q_), Weaker.mk' ?_ (by show L.HSub _ (.mape b8 (mp hsKey (entM M x.name (i64 0))) (entI M x.name) (cond (f 6) q_ s21) :: _); rw [h6]; exact HSub.refl _)⟩
          refine env_back2 (envS_hit (sl := [(0, 16), (1, 17), (2, 18), (3, 19), (4, 20), (5, 21), (6, 22)]) (j := 5) (d := 21) rfl (Is.of (congrArg (fun z => LV.tup [z, i64 (s21 : Nat)]) (hM.get x.name)))) (envS_hit (sl := [(0, 16), (1, 17), (2, 18), (3, 19), (4, 20), (5, 21), (6, 22)]) (j := 2) (d := 18) rfl (fun _ _ h => h)) (envS_hit (sl := [(0, 16), (1, 17), (2, 18), (3, 19), (4, 20), (5, 21), (6, 22)]) (j := 0) (d := 16) rfl (fun _ _ h => h)) (envS_next ?_)
          · intro p hp hne; simp only [List.mem_cons, List.not_mem_nil, or_false] at hp; rcases hp with rfl | rfl | rfl | rfl | rfl | rfl | rfl <;> first | exact absurd rfl hne | exact ⟨rfl, rfl⟩
        · have d5 := hdir 5 (List.mem_of_elem_eq_true (by kernel_rfl))
          refine ⟨_, rfl, ?_⟩
          refine LP.weak (t := 21) (v := .tup [i64 ((names (l.take i)).count x.name : Nat), i64 (s_ : Nat)]) (envS_is (j := 5) rfl d5) ?_
          refine A.u (LU.extract Is.rfl' rfl) rfl ?_
          refine ⟨(s_, s_), Weaker.mk' ?_ (by show L.HSub (cond (f 5) (.mape b8 (mp hsKey (entM M x.name (i64 0))) (entI M x.name) (cond (f 6) q_ s_)) (.map b8 (mp hsKey M)) :: _) (cond (f 5) (.mape b8 (mp hsKey (entM M x.name (i64 0))) (entI M x.name) s_) (.map b8 (mp hsKey M)) :: _); rw [hfi]; exact HSub.refl _)⟩
          refine env_back1 (envS_hit (sl := [(0, 16), (1, 17), (2, 18), (3, 19), (4, 20), (5, 21), (6, 22)]) (j := 6) (d := 22) rfl (fun _ _ h => h)) (envS_hit (sl := [(0, 16), (1, 17), (2, 18), (3, 19), (4, 20), (5, 21), (6, 22)]) (j := 5) (d := 21) rfl (fun _ _ h => h)) (envS_next ?_)
          · intro p hp hne; simp only [List.mem_cons, List.not_mem_nil, or_false] at hp; rcases hp with rfl | rfl | rfl | rfl | rfl | rfl | rfl <;> first | exact absurd rfl hne | exact ⟨rfl, rfl⟩
      · intro g_ f hf_
        obtain ⟨s_, q_⟩ := g_
        refine X.ghost (H' := .mape b8 (mp hsKey (entM M x.name (i64 0))) (entI M x.name) q_ :: .cells b7 36 (itL x) :: .map b9 (mp hsKey (nV N)) :: (tls N ++ Rf)) (by show L.HSub (cond (f 5) (.mape b8 (mp hsKey (entM M x.name (i64 0))) (entI M x.name) (cond (f 6) q_ s_)) _ :: _) _; rw [hf_ 5 (by omega), hf_ 6 (by omega)]; exact HSub.refl _) ?_
        refine X.act (X.entryStore 0 rfl Is.rfl' Is.rfl' Is.rfl' ?_)
        refine LL.nil (after_code ?_)
        refine LW.region ?_
        refine X.u (LU.moveR Is.rfl') rfl ?_
        refine X.u (LU.fieldO Try.underlying36 rfl Try.sizeOf34 (by decide) Is.rfl') rfl ?_
        refine X.u (LU.weak (LU.loadO 1 rfl ⟨Try.sizeOf34, Try.isAgg34⟩ Is.rfl' (Part.sub (by (simp; omega)))) (Is.of (y := .agg (hsL x.name)) (congrArg LV.agg (it_name x)))) rfl ?_
        refine X.u (LU.fieldO Try.underlying36 rfl Try.sizeOf26 (by decide) Is.rfl') rfl ?_
        refine X.u (LU.loadO 1 rfl ⟨Try.sizeOf26, Try.isAgg26⟩ Is.rfl' (Part.one (it_deps x))) rfl ?_
        refine X.act (LO.mapEntry (st := ⟨_, _, _⟩) 2 rfl (KeyOk.hs Try.underlying34 Try.underlying5 Try.sizeOf5) rfl Try.underlying44 Try.zeroValue26 Is.rfl' (by exact Is.hk _) (fun s29 => ?_))
        refine X.u (LU.weak (LU.extract Is.rfl' rfl) (nV_is N x.name)) rfl ?_
        refine X.act (X.appendP (HSub.trans (HSub.cons (HSub.cons (HSub.cons (tls_take N x.name Rf)))) (HSub.pick 3 rfl (HSub.refl _))) rfl Try.underlying26 (El.of (P := Try.prog) (z := .agg (Array.replicate 32 (.int .u8 0))) (size := 32) (bytes := 32) rfl rfl rfl) Is.rfl' Is.rfl' (SrcL.slice Try.underlying26 (by decide) (hss_size x.deps)) (by rw [List.length_map, List.length_map, hcn]; omega) (by rw [List.length_map, List.length_map, hcn]; omega) (fun b30 o30 c30 => ?_))
        refine X.weak (t := 30) (v := grL ⟨(curN N x.name).es ++ x.deps, b30, o30, c30⟩) (Is.of (congrArg (fun z => LV.sl 32 z (.tok b30 o30 c30)) (List.map_append ..).symm)) ?_
        refine X.u (LU.extract Is.rfl' rfl) rfl ?_
        refine X.act (X.entryStore 1 rfl Is.rfl' Is.rfl' Is.rfl' ?_)
        refine LL.nil (after_blk (after_code ?_))
        refine X.wghost (H' := .map b8 (mp hsKey (setM M x.name (i64 (((names (l.take i)).count x.name + 1 : Nat) : Int)))) :: .map b9 (mp hsKey (nV (setN N x.name ⟨(curN N x.name).es ++ x.deps, b30, o30, c30⟩))) :: (tls (setN N x.name ⟨(curN N x.name).es ++ x.deps, b30, o30, c30⟩) ++ Rf)) (HSub.trans (B := .map b8 (mp hsKey (setM M x.name (i64 (((names (l.take i)).count x.name + 1 : Nat) : Int)))) :: .map b9 (mp hsKey (setM (nV N) x.name (grL ⟨(curN N x.name).es ++ x.deps, b30, o30, c30⟩))) :: (grA ⟨(curN N x.name).es ++ x.deps, b30, o30, c30⟩ :: (restN N x.name ++ Rf))) (by repeat (first | exact HSub.refl _ | refine HSub.pick 0 rfl ?_ | refine HSub.pick 2 rfl ?_ | refine HSub.drop ?_)) (by rw [nV_set]; exact HSub.cons (HSub.cons (tls_put N x.name ⟨(curN N x.name).es ++ x.deps, b30, o30, c30⟩ Rf)))) ?_
        refine LW.region ?_
        refine X.u (LU.addN Is.rfl' Is.rfl' (wrap_i64 (by omega) (by omega))) rfl ?_
        refine X.u (LU.moveR Is.rfl') rfl ?_
        refine LL.nil (after_rnd ?_)
        refine X.next ((i + 1, setM M x.name (i64 (((names (l.take i)).count x.name + 1 : Nat) : Int)), setN N x.name ⟨(curN N x.name).es ++ x.deps, b30, o30, c30⟩)) rfl (EnvLe.cons (by rfl) (EnvLe.nil)) (Keeps.cons (by exact Eq.trans (b := .raw _) rfl rfl) (Keeps.cons (by exact Eq.trans (b := .raw _) rfl rfl) (Keeps.cons (by exact Eq.trans (b := .raw _) rfl rfl) (Keeps.cons (by exact Eq.trans (b := .raw _) rfl rfl) (Keeps.cons (by exact Eq.trans (b := .sl _ _ _) rfl rfl) (Keeps.cons (by exact Eq.trans (b := .raw _) rfl rfl) (Keeps.nil))))))) (by repeat (exact HSub.refl _)) ?_ ?_
        · refine ⟨by omega, by rw [take_snoc hx, show names (l.take i ++ [x]) = names (l.take i) ++ [x.name] from List.map_append ..]; exact hM.add x.name, fun h => ?_⟩
          rw [cur_set, take_snoc hx, depsOf_snoc]
          by_cases c : x.name = h
          · rw [if_pos c, if_pos c, ← c, ← hN x.name]
          · rw [if_neg c, if_neg c, List.append_nil]; exact hN h
        · (simp; omega)
    · try have h3 := of_decide_eq_false h3
      refine LW.exit (exit_code (exit_rnd (exit_blk (after_code ?_))))
      refine LW.seq ?_
      refine LW.region ?_
      refine X.u (LU.moveR Is.rfl') rfl ?_
      refine X.u (LU.moveR Is.rfl') rfl ?_
      refine X.u (LU.assignR Is.rfl') rfl ?_
      refine X.u (LU.assignR Is.rfl') rfl ?_
      refine LL.nil (after_code ?_)
      refine LW.ret (after_end ?_)
      refine X.ret (H' := .map b8 (mp hsKey M) :: .map b9 (mp hsKey (nV N)) :: tls N) (Res.two (by exact IsR rfl) (by exact IsR rfl)) (HSub.refl _) ?_
      have hil : i = l.length := by omega
      subst hil
      rw [List.take_length] at hM hN
      exact ⟨b8, b9, M, N, rfl, rfl, hM, hN⟩
end Go.Proofs.Ytmaeepckfbnpjaa
