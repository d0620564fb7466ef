/- Lines: a graph's memory; Has, step. -/
import Derived.Test.YtolpkeajokjbjaaDoorLnB
set_option linter.unusedVariables false
set_option linter.unusedSimpArgs false
namespace Go.Proofs.YtolpkeajokjbjaaDoor
open Go.RowKit Go.L
attribute [local irreducible] LL LW LO LP LA
/-- A line. -/
structure Ln where
  text : List UInt8
  kills : List Hs
  part : Int
  next : List Vx
  prev : List Vx
abbrev lnL (x : Ln) : List LV := [Str x.text, .sl 32 (hss x.kills) .unk, i64 x.part, Vxs x.next .unk, Vxs x.prev .unk]
abbrev lnE (x : Ln) : LV := .agg (lnL x)
abbrev ln0 : Ln := ⟨[], [], 0, [], []⟩
abbrev z73 : Value := .agg #[.string ⟨#[]⟩, .slice none 0 0, .int .i64 0, .slice none 0 0, .slice none 0 0]
theorem ln0_is : Is (.raw z73) (lnE ln0) := by
  have h := Is.raw_agg (vs := [.string ⟨#[]⟩, .slice none 0 0, .int .i64 0, .slice none 0 0, .slice none 0 0]) (fun v hv => by
    simp only [List.mem_cons, List.not_mem_nil, or_false] at hv
    rcases hv with rfl | rfl | rfl | rfl | rfl <;> rfl)
  refine h.trans (Is.agg rfl fun i x y hx hy => ?_)
  match i, hx, hy with
  | 0, hx, hy => cases hx; cases hy; exact Is.rfl'
  | 1, hx, hy => cases hx; cases hy; exact (Is.nil 32).trans Is.unk
  | 2, hx, hy => cases hx; cases hy; exact Is.rfl'
  | 3, hx, hy => cases hx; cases hy; exact (Is.nil 33).trans Is.unk
  | 4, hx, hy => cases hx; cases hy; exact (Is.nil 33).trans Is.unk
abbrev At := List (Vx × Ln)
def atG (m : At) (v : Vx) : Ln := (lookA m v).getD ln0
theorem at_is (m : At) (v : Vx) : Is ((lookM (encM lnE m) v).getD (.raw z73)) (lnE (atG m v)) := by
  rw [look_enc]
  unfold atG
  cases lookA m v with
  | none => exact ln0_is
  | some x => exact Is.rfl'
abbrev gC (g ma mb : Nat) (n : Int) : Atom := .cells g 68 [.raw (.map (some ma)), .raw (.map (some mb)), i64 n]
abbrev gA (ma : Nat) (m : At) : Atom := .map ma (mp vxV (encM lnE m))
set_option maxRecDepth 100000 in
theorem none_calls (g ma mb : Nat) (n : Int) : LCalls Tryd.prog 33 [pt g] [gC g ma mb n] (fun r H' => r = bl false ∧ H' = [gC g ma mb n]) := by
  refine LCalls.of Tryd.func33 rfl Tryd.ntmps33 Tryd.results33 rfl (fun Rf => ?_)
  refine LW.seq ?_
  refine LW.region ?_
  refine X.u (LU.assignR Is.rfl') rfl ?_
  refine LL.nil (after_code ?_)
  refine LW.seq ?_
  refine LW.region ?_
  refine X.u (LU.moveR Is.rfl') rfl ?_
  refine X.u (LU.nilEqS Tryd.underlying23 Is.rfl' Is.rfl') rfl ?_
  refine X.u (LU.moveR Is.rfl') rfl ?_
  refine X.doF rfl rfl (LU.moveR (by exact Is.rfl')) rfl ?_
  refine X.doF rfl rfl (LU.nilCheck (by exact Is.rfl')) rfl ?_
  refine X.doF rfl rfl (LU.fieldO Tryd.underlying68 rfl Tryd.sizeOf65 (by decide) (by exact Is.rfl')) rfl ?_
  refine X.doF rfl rfl (LU.loadO 0 rfl ⟨Tryd.sizeOf65, Tryd.isAgg65⟩ (by exact Is.rfl') (Part.one rfl)) rfl ?_
  refine X.doF rfl rfl (LU.nilMEqS Tryd.underlying65 (by exact Is.rfl') (by exact Is.rfl')) rfl ?_
  refine X.u (LU.pickF Is.rfl' (by exact Is.rfl')) rfl ?_
  refine X.u (LU.assignR Is.rfl') rfl ?_
  refine LL.nil (after_code ?_)
  refine LW.ret (after_end ?_)
  refine X.ret (H' := [gC g ma mb n]) (Res.one (by exact IsR rfl)) (by repeat (exact HSub.refl _)) ?_
  exact ⟨rfl, rfl⟩
theorem gA_set (ma : Nat) (m : At) (a : Vx) (x : Ln) : Atom.map ma (mp vxV (setM (encM lnE m) a (lnE x))) = gA ma (setA m a x) := by rw [set_enc]
def stepA (m : At) (a b : Vx) : At :=
  let m1 := setA m a { atG m a with next := (atG m a).next ++ [b] }
  setA m1 b { atG m1 b with prev := (atG m1 b).prev ++ [a] }
set_option maxHeartbeats 1000000 in
set_option maxRecDepth 100000 in
theorem step_calls (g ma mb : Nat) (n : Int) (m : At) (a b : Vx) (hn : ∀ v, (atG m v).next.length < 900000 ∧ (atG m v).prev.length < 900000) : LCalls Tryd.prog 29 [pt g, .agg (vxL a), .agg (vxL b)] [gC g ma mb n, gA ma m] (fun r H' => r = .tup [] ∧ H' = [gC g ma mb n, gA ma (stepA m a b)]) := by
  have hal := vxL_len a
  have hbl := vxL_len b
  have ha32 : a.p.1.length = 32 := a.p.2
  have hb32 : b.p.1.length = 32 := b.p.2
  obtain ⟨x, hx⟩ : ∃ x, x = atG m a := ⟨_, rfl⟩
  have hxn := (hn a).1
  rw [← hx] at hxn
  obtain ⟨m1, hm1⟩ : ∃ m1, m1 = setA m a { x with next := x.next ++ [b] } := ⟨_, rfl⟩
  obtain ⟨y, hy⟩ : ∃ y, y = atG m1 b := ⟨_, rfl⟩
  have hyn : y.prev.length < 900000 := by
    rw [hy, hm1]
    unfold atG
    rw [look_setA]
    by_cases c : a = b
    · rw [if_pos c]; show x.prev.length < _; rw [hx]; exact (hn a).2
    · rw [if_neg c]; exact (hn b).2
  have hst : stepA m a b = setA m1 b { y with prev := y.prev ++ [a] } := by
    unfold stepA
    rw [hy, hm1, hx]
  rw [hst]
  have hxi : Is ((lookM (encM lnE m) a).getD (.raw z73)) (lnE x) := by rw [hx]; exact at_is m a
  have hyi : Is ((lookM (encM lnE m1) b).getD (.raw z73)) (lnE y) := by rw [hy]; exact at_is m1 b
  refine LCalls.of Tryd.func29 rfl Tryd.ntmps29 Tryd.results29 rfl (fun Rf => ?_)
  refine LW.seq ?_
  refine LW.region ?_
  refine X.act (X.box rfl Is.rfl' (by exact Cells.agg) (fun b4 => ?_))
  refine X.act (X.box rfl Is.rfl' (by exact Cells.agg) (fun b5 => ?_))
  refine LL.nil (after_code ?_)
  refine LW.seq ?_
  refine LW.invM (m := 7) (γ := Nat × Nat) [(0, 8), (1, 9), (2, 10), (3, 11), (4, 12), (5, 13), (6, 6)] (fun g_ d => match g_ with | ⟨b_, z_⟩ => match d with | 8 => pt g | 9 => pt g | 10 => pt g | 11 => .raw (.map (some ma)) | 12 => .agg (vxL a) | 13 => lnE x | 6 => pt b_ | _ => .any) (fun g_ f => match g_ with | ⟨b_, z_⟩ => cond (f 6) (.cells b_ 73 (raws z73.cells.toList)) (.tail 0 0 0) :: .cells b4 35 (vxL a) :: .cells b5 35 (vxL b) :: gC g ma mb n :: gA ma m :: Rf) (0, 0) rfl (by kernel_rfl) rfl rfl ((HSub.trans (by repeat (first | exact HSub.refl _ | refine HSub.pick 1 rfl ?_)) (HSub.tail0 0 0 0 (Nat.le_refl _) _))) ?_ ?_
  · intro i hi f g_ hfi hdir hdown
    obtain ⟨b_, z_⟩ := g_
    have hc : i = 0 ∨ i = 1 ∨ i = 2 ∨ i = 3 ∨ i = 4 ∨ i = 5 ∨ i = 6 := by omega
    rcases hc with rfl | rfl | rfl | rfl | rfl | rfl | rfl
    · refine ⟨_, rfl, ?_⟩
      refine A.u (LU.moveR Is.rfl') rfl ?_
      refine ⟨⟨b_, z_⟩, Weaker.mk' ?_ (HSub.refl _)⟩
      refine env_back0 (envS_hit (sl := [(0, 8), (1, 9), (2, 10), (3, 11), (4, 12), (5, 13), (6, 6)]) (j := 0) (d := 8) rfl (fun _ _ h => h))  (envS_next ?_)
      · intro p hp hne; simp only [List.mem_cons, List.not_mem_nil, or_false] at hp; rcases hp with rfl | rfl | rfl | rfl | rfl | rfl | rfl <;> first | exact absurd rfl hne | exact ⟨rfl, rfl⟩
    · have d0 := hdir 0 (List.mem_of_elem_eq_true (by kernel_rfl))
      refine ⟨_, rfl, ?_⟩
      refine LP.weak (t := 8) (v := pt g) (envS_is (j := 0) rfl d0) ?_
      refine A.u (LU.nilCheck Is.rfl') rfl ?_
      refine ⟨⟨b_, z_⟩, Weaker.mk' ?_ (HSub.refl _)⟩
      refine env_back1 (envS_hit (sl := [(0, 8), (1, 9), (2, 10), (3, 11), (4, 12), (5, 13), (6, 6)]) (j := 1) (d := 9) rfl (fun _ _ h => h)) (envS_hit (sl := [(0, 8), (1, 9), (2, 10), (3, 11), (4, 12), (5, 13), (6, 6)]) (j := 0) (d := 8) rfl (fun _ _ h => h)) (envS_next ?_)
      · intro p hp hne; simp only [List.mem_cons, List.not_mem_nil, or_false] at hp; rcases hp with rfl | rfl | rfl | rfl | rfl | rfl | rfl <;> first | exact absurd rfl hne | exact ⟨rfl, rfl⟩
    · have d1 := hdir 1 (List.mem_of_elem_eq_true (by kernel_rfl))
      refine ⟨_, rfl, ?_⟩
      refine LP.weak (t := 9) (v := pt g) (envS_is (j := 1) rfl d1) ?_
      refine A.u (LU.fieldO Tryd.underlying68 rfl Tryd.sizeOf65 (by decide) Is.rfl') rfl ?_
      refine ⟨⟨b_, z_⟩, Weaker.mk' ?_ (HSub.refl _)⟩
      refine env_back1 (envS_hit (sl := [(0, 8), (1, 9), (2, 10), (3, 11), (4, 12), (5, 13), (6, 6)]) (j := 2) (d := 10) rfl (fun _ _ h => h)) (envS_hit (sl := [(0, 8), (1, 9), (2, 10), (3, 11), (4, 12), (5, 13), (6, 6)]) (j := 1) (d := 9) rfl (fun _ _ h => h)) (envS_next ?_)
      · intro p hp hne; simp only [List.mem_cons, List.not_mem_nil, or_false] at hp; rcases hp with rfl | rfl | rfl | rfl | rfl | rfl | rfl <;> first | exact absurd rfl hne | exact ⟨rfl, rfl⟩
    · have d2 := hdir 2 (List.mem_of_elem_eq_true (by kernel_rfl))
      refine ⟨_, rfl, ?_⟩
      refine LP.weak (t := 10) (v := pt g) (envS_is (j := 2) rfl d2) ?_
      refine A.u (LU.loadO 3 rfl ⟨Tryd.sizeOf65, Tryd.isAgg65⟩ Is.rfl' (Part.one rfl)) rfl ?_
      refine ⟨⟨b_, z_⟩, Weaker.mk' ?_ (HSub.refl _)⟩
      refine env_back1 (envS_hit (sl := [(0, 8), (1, 9), (2, 10), (3, 11), (4, 12), (5, 13), (6, 6)]) (j := 3) (d := 11) rfl (fun _ _ h => h)) (envS_hit (sl := [(0, 8), (1, 9), (2, 10), (3, 11), (4, 12), (5, 13), (6, 6)]) (j := 2) (d := 10) rfl (fun _ _ h => h)) (envS_next ?_)
      · intro p hp hne; simp only [List.mem_cons, List.not_mem_nil, or_false] at hp; rcases hp with rfl | rfl | rfl | rfl | rfl | rfl | rfl <;> first | exact absurd rfl hne | exact ⟨rfl, rfl⟩
    · refine ⟨_, rfl, ?_⟩
      refine A.u (LU.loadO 1 rfl ⟨Tryd.sizeOf35, Tryd.isAgg35⟩ Is.rfl' (Part.whole (by assumption))) rfl ?_
      refine ⟨⟨b_, z_⟩, Weaker.mk' ?_ (HSub.refl _)⟩
      refine env_back0 (envS_hit (sl := [(0, 8), (1, 9), (2, 10), (3, 11), (4, 12), (5, 13), (6, 6)]) (j := 4) (d := 12) rfl (fun _ _ h => h))  (envS_next ?_)
      · intro p hp hne; simp only [List.mem_cons, List.not_mem_nil, or_false] at hp; rcases hp with rfl | rfl | rfl | rfl | rfl | rfl | rfl <;> first | exact absurd rfl hne | exact ⟨rfl, rfl⟩
    · have d3 := hdir 3 (List.mem_of_elem_eq_true (by kernel_rfl))
      have d4 := hdir 4 (List.mem_of_elem_eq_true (by kernel_rfl))
      refine ⟨_, rfl, ?_⟩
      refine LP.weak (t := 11) (v := .raw (.map (some ma))) (envS_is (j := 3) rfl d3) ?_
      refine LP.weak (t := 12) (v := .agg (vxL a)) (envS_is (j := 4) rfl d4) ?_
      refine A.u (LU.weak (LU.lookup 4 (KeyOk.vx vxty) rfl Tryd.underlying65 Tryd.zeroValue73 Is.rfl' (by exact Is.vx _)) (hxi)) rfl ?_
      refine ⟨⟨b_, z_⟩, Weaker.mk' ?_ (HSub.refl _)⟩
      refine env_back2 (envS_hit (sl := [(0, 8), (1, 9), (2, 10), (3, 11), (4, 12), (5, 13), (6, 6)]) (j := 5) (d := 13) rfl (fun _ _ h => h)) (envS_hit (sl := [(0, 8), (1, 9), (2, 10), (3, 11), (4, 12), (5, 13), (6, 6)]) (j := 4) (d := 12) rfl (fun _ _ h => h)) (envS_hit (sl := [(0, 8), (1, 9), (2, 10), (3, 11), (4, 12), (5, 13), (6, 6)]) (j := 3) (d := 11) rfl (fun _ _ h => h)) (envS_next ?_)
      · intro p hp hne; simp only [List.mem_cons, List.not_mem_nil, or_false] at hp; rcases hp with rfl | rfl | rfl | rfl | rfl | rfl | rfl <;> first | exact absurd rfl hne | exact ⟨rfl, rfl⟩
    · refine ⟨_, rfl, ?_⟩
      refine A.act (X.alloc rfl Tryd.zeroValue73 (by exact Cells.rawagg (by decide)) (fun b6 => ?_))
      refine ⟨(b6, 0), Weaker.mk' ?_ (by show L.HSub (_ :: cond (f 6) _ (.tail 0 0 0) :: _) _; rw [hfi]; exact HSub.cons (HSub.drop (HSub.refl _)))⟩
      refine env_back0 (envS_hit (sl := [(0, 8), (1, 9), (2, 10), (3, 11), (4, 12), (5, 13), (6, 6)]) (j := 6) (d := 6) rfl (fun _ _ h => h))  (envS_next ?_)
      · intro p hp hne; simp only [List.mem_cons, List.not_mem_nil, or_false] at hp; rcases hp with rfl | rfl | rfl | rfl | rfl | rfl | rfl <;> first | exact absurd rfl hne | exact ⟨rfl, rfl⟩
  · intro g_ f hf_
    obtain ⟨b_, z_⟩ := g_
    refine X.ghost (H' := .cells b_ 73 (raws z73.cells.toList) :: .cells b4 35 (vxL a) :: .cells b5 35 (vxL b) :: gC g ma mb n :: gA ma m :: Rf) (by show L.HSub (cond (f 6) _ (.tail 0 0 0) :: _) _; rw [hf_ 6 (by omega)]; exact HSub.refl _) ?_
    refine X.act (X.store 0 rfl Tryd.sizeOf73 Is.rfl' Is.rfl' (by exact Cells.agg) (by (simp; done)) (by exact Nat.le_of_ble_eq_true rfl) ?_)
    refine LL.nil (after_code ?_)
    refine LW.seq ?_
    refine X.wcells (ys := lnL x) rfl ?_
    refine X.wghost (H' := .cells b_ 73 (lnL x) :: gC g ma mb n :: gA ma m :: .cells b4 35 (vxL a) :: .cells b5 35 (vxL b) :: Rf) (by repeat (first | exact HSub.refl _ | refine HSub.pick 0 rfl ?_ | refine HSub.pick 2 rfl ?_)) ?_
    refine LW.invM (m := 6) (γ := Nat × Nat × Nat × Nat × Nat × Nat) [(0, 14), (1, 15), (2, 16), (3, 17), (4, 18), (5, 19)] (fun g_ d => match g_ with | ⟨q1, q2, q3, q4, q5, q6⟩ => match d with | 14 => .raw (.pointer (some ⟨b_, 3, none⟩)) | 15 => Vxs x.next .unk | 16 => Vxs x.next (.tok q1 q2 q3) | 17 => .agg (vxL b) | 18 => .sl 33 [vxL b] .full | 19 => Vxs (x.next ++ [b]) (.tok q4 q5 q6) | _ => .any) (fun g_ f => match g_ with | ⟨q1, q2, q3, q4, q5, q6⟩ => cond (f 5) (.tail q4 q5 q6) (cond (f 2) (.tail q1 q2 q3) (.tail 0 0 0)) :: .cells b_ 73 (lnL x) :: gC g ma mb n :: gA ma m :: .cells b4 35 (vxL a) :: .cells b5 35 (vxL b) :: Rf) (0, 0, 0, 0, 0, 0) rfl (by kernel_rfl) rfl rfl ((HSub.trans (by repeat (exact HSub.refl _)) (HSub.tail0 0 0 0 (Nat.le_refl _) _))) ?_ ?_
    · intro i hi f g_ hfi hdir hdown
      obtain ⟨q1, q2, q3, q4, q5, q6⟩ := g_
      have hc : i = 0 ∨ i = 1 ∨ i = 2 ∨ i = 3 ∨ i = 4 ∨ i = 5 := by omega
      rcases hc with rfl | rfl | rfl | rfl | rfl | rfl
      · refine ⟨_, rfl, ?_⟩
        refine A.u (LU.fieldO Tryd.underlying73 rfl Tryd.sizeOf26 (by decide) Is.rfl') rfl ?_
        refine ⟨⟨q1, q2, q3, q4, q5, q6⟩, Weaker.mk' ?_ (HSub.refl _)⟩
        refine env_back0 (envS_hit (sl := [(0, 14), (1, 15), (2, 16), (3, 17), (4, 18), (5, 19)]) (j := 0) (d := 14) rfl (fun _ _ h => h))  (envS_next ?_)
        · intro p hp hne; simp only [List.mem_cons, List.not_mem_nil, or_false] at hp; rcases hp with rfl | rfl | rfl | rfl | rfl | rfl <;> first | exact absurd rfl hne | exact ⟨rfl, rfl⟩
      · have d0 := hdir 0 (List.mem_of_elem_eq_true (by kernel_rfl))
        refine ⟨_, rfl, ?_⟩
        refine LP.weak (t := 14) (v := .raw (.pointer (some ⟨b_, 3, none⟩))) (envS_is (j := 0) rfl d0) ?_
        refine A.u (LU.loadO 1 rfl ⟨Tryd.sizeOf26, Tryd.isAgg26⟩ Is.rfl' (Part.one rfl)) rfl ?_
        refine ⟨⟨q1, q2, q3, q4, q5, q6⟩, Weaker.mk' ?_ (HSub.refl _)⟩
        refine env_back1 (envS_hit (sl := [(0, 14), (1, 15), (2, 16), (3, 17), (4, 18), (5, 19)]) (j := 1) (d := 15) rfl (fun _ _ h => h)) (envS_hit (sl := [(0, 14), (1, 15), (2, 16), (3, 17), (4, 18), (5, 19)]) (j := 0) (d := 14) rfl (fun _ _ h => h)) (envS_next ?_)
        · intro p hp hne; simp only [List.mem_cons, List.not_mem_nil, or_false] at hp; rcases hp with rfl | rfl | rfl | rfl | rfl | rfl <;> first | exact absurd rfl hne | exact ⟨rfl, rfl⟩
      · have d1 := hdir 1 (List.mem_of_elem_eq_true (by kernel_rfl))
        refine ⟨_, rfl, ?_⟩
        have h6 : f 5 = false := Bool.eq_false_iff.2 (fun h => by rw [hdown 5 (by omega) h 2 (List.mem_of_elem_eq_true (by kernel_rfl))] at hfi; cases hfi)
        refine LP.ghost (H' := .cells b_ 73 (lnL x) :: gC g ma mb n :: gA ma m :: .cells b4 35 (vxL a) :: .cells b5 35 (vxL b) :: Rf) (by show L.HSub (cond (f 5) _ (cond (f 2) _ _) :: _) _; rw [h6, hfi]; exact HSub.drop (HSub.refl _)) ?_
        refine LP.weak (t := 15) (v := Vxs x.next .unk) (envS_is (j := 1) rfl d1) ?_
        refine A.act (X.call (clone_calls x.next .unk (by omega)) Tryd.func36 rfl rfl rfl (HSub.refl _) (Opds.cons Is.rfl' Opds.nil) ?_)
        rintro r H' ⟨b16, o16, c16, rfl, rfl⟩
        refine ⟨(b16, o16, c16, q4, q5, q6), Weaker.mk' ?_ (by show L.HSub _ (cond (f 5) _ (.tail b16 o16 c16) :: _); rw [h6]; exact HSub.refl _)⟩
        refine env_back1 (envS_hit (sl := [(0, 14), (1, 15), (2, 16), (3, 17), (4, 18), (5, 19)]) (j := 2) (d := 16) rfl (fun _ _ h => h)) (envS_hit (sl := [(0, 14), (1, 15), (2, 16), (3, 17), (4, 18), (5, 19)]) (j := 1) (d := 15) rfl (fun _ _ h => h)) (envS_next ?_)
        · intro p hp hne; simp only [List.mem_cons, List.not_mem_nil, or_false] at hp; rcases hp with rfl | rfl | rfl | rfl | rfl | rfl <;> first | exact absurd rfl hne | exact ⟨rfl, rfl⟩
      · refine ⟨_, rfl, ?_⟩
        refine A.u (LU.loadO 5 rfl ⟨Tryd.sizeOf35, Tryd.isAgg35⟩ Is.rfl' (Part.whole (by assumption))) rfl ?_
        refine ⟨⟨q1, q2, q3, q4, q5, q6⟩, Weaker.mk' ?_ (HSub.refl _)⟩
        refine env_back0 (envS_hit (sl := [(0, 14), (1, 15), (2, 16), (3, 17), (4, 18), (5, 19)]) (j := 3) (d := 17) rfl (fun _ _ h => h))  (envS_next ?_)
        · intro p hp hne; simp only [List.mem_cons, List.not_mem_nil, or_false] at hp; rcases hp with rfl | rfl | rfl | rfl | rfl | rfl <;> first | exact absurd rfl hne | exact ⟨rfl, rfl⟩
      · have d3 := hdir 3 (List.mem_of_elem_eq_true (by kernel_rfl))
        refine ⟨_, rfl, ?_⟩
        refine LP.weak (t := 17) (v := .agg (vxL b)) (envS_is (j := 3) rfl d3) ?_
        refine A.u (LU.lits Tryd.underlying26 Tryd.sizeOf35 Tryd.zeroValue35 (ones rfl) rfl (by decide) (by decide) (Elems.cons Is.rfl' (by exact Cells.agg) Elems.nil) (by (simp; assumption)) rfl) rfl ?_
        refine ⟨⟨q1, q2, q3, q4, q5, q6⟩, Weaker.mk' ?_ (HSub.refl _)⟩
        refine env_back1 (envS_hit (sl := [(0, 14), (1, 15), (2, 16), (3, 17), (4, 18), (5, 19)]) (j := 4) (d := 18) rfl (fun _ _ h => h)) (envS_hit (sl := [(0, 14), (1, 15), (2, 16), (3, 17), (4, 18), (5, 19)]) (j := 3) (d := 17) rfl (fun _ _ h => h)) (envS_next ?_)
        · intro p hp hne; simp only [List.mem_cons, List.not_mem_nil, or_false] at hp; rcases hp with rfl | rfl | rfl | rfl | rfl | rfl <;> first | exact absurd rfl hne | exact ⟨rfl, rfl⟩
      · have d2 := hdir 2 (List.mem_of_elem_eq_true (by kernel_rfl))
        have d4 := hdir 4 (List.mem_of_elem_eq_true (by kernel_rfl))
        refine ⟨_, rfl, ?_⟩
        have h2 : f 2 = true := hdir 2 (List.mem_of_elem_eq_true (by kernel_rfl))
        refine LP.ghost (H' := .tail q1 q2 q3 :: .cells b_ 73 (lnL x) :: gC g ma mb n :: gA ma m :: .cells b4 35 (vxL a) :: .cells b5 35 (vxL b) :: Rf) (by show L.HSub (cond (f 5) _ (cond (f 2) _ _) :: _) _; rw [h2, hfi]; exact HSub.refl _) ?_
        refine LP.weak (t := 16) (v := Vxs x.next (.tok q1 q2 q3)) (envS_is (j := 2) rfl d2) ?_
        refine LP.weak (t := 18) (v := .sl 33 [vxL b] .full) (envS_is (j := 4) rfl d4) ?_
        refine A.act (X.append 0 rfl rfl Tryd.underlying26 (El.of (P := Tryd.prog) (z := (.agg #[(.int .u8 0), (.int .u8 0), (.int .u8 0), (.int .u8 0), (.int .u8 0), (.int .u8 0), (.int .u8 0), (.int .u8 0), (.int .u8 0), (.int .u8 0), (.int .u8 0), (.int .u8 0), (.int .u8 0), (.int .u8 0), (.int .u8 0), (.int .u8 0), (.int .u8 0), (.int .u8 0), (.int .u8 0), (.int .u8 0), (.int .u8 0), (.int .u8 0), (.int .u8 0), (.int .u8 0), (.int .u8 0), (.int .u8 0), (.int .u8 0), (.int .u8 0), (.int .u8 0), (.int .u8 0), (.int .u8 0), (.int .u8 0), (.int .i64 0)])) (size := 33) (bytes := 40) rfl rfl rfl) Is.rfl' Is.rfl' (SrcL.slice Tryd.underlying26 (by decide) (by intro e he; rw [List.mem_singleton.1 he]; exact hbl)) (by simp only [Option.getD_some, Option.getD_none, byteEls_length, intEls_length, List.length_append, List.length_cons, List.length_nil, List.length_map, List.length_drop, List.length_take, Int.toNat_natCast]; omega) (by simp only [Option.getD_some, Option.getD_none, byteEls_length, intEls_length, List.length_append, List.length_cons, List.length_nil, List.length_map, List.length_drop, List.length_take, Int.toNat_natCast]; omega) (fun b19 o19 c19 => ?_))
        refine ⟨(q1, q2, q3, b19, o19, c19), Weaker.mk' ?_ (HSub.refl _)⟩
        refine env_back2 (envS_hit (sl := [(0, 14), (1, 15), (2, 16), (3, 17), (4, 18), (5, 19)]) (j := 5) (d := 19) rfl (Is.of (congrArg (fun z => LV.sl 33 z (.tok b19 o19 c19)) (vxs_app x.next [b])))) (envS_hit (sl := [(0, 14), (1, 15), (2, 16), (3, 17), (4, 18), (5, 19)]) (j := 4) (d := 18) rfl (fun _ _ h => h)) (envS_hit (sl := [(0, 14), (1, 15), (2, 16), (3, 17), (4, 18), (5, 19)]) (j := 2) (d := 16) rfl (fun _ _ h => h)) (envS_next ?_)
        · intro p hp hne; simp only [List.mem_cons, List.not_mem_nil, or_false] at hp; rcases hp with rfl | rfl | rfl | rfl | rfl | rfl <;> first | exact absurd rfl hne | exact ⟨rfl, rfl⟩
    · intro g_ f hf_
      obtain ⟨q1, q2, q3, q4, q5, q6⟩ := g_
      refine X.ghost (H' := .tail q4 q5 q6 :: .cells b_ 73 (lnL x) :: gC g ma mb n :: gA ma m :: .cells b4 35 (vxL a) :: .cells b5 35 (vxL b) :: Rf) (by show L.HSub (cond (f 5) _ _ :: _) _; rw [hf_ 5 (by omega)]; exact HSub.refl _) ?_
      refine X.u (LU.fieldO Tryd.underlying73 rfl Tryd.sizeOf26 (by decide) Is.rfl') rfl ?_
      refine X.act (X.store 1 rfl Tryd.sizeOf26 Is.rfl' Is.rfl' (by exact Cells.sl) (by (simp; done)) (by (simp; done)) ?_)
      refine LL.nil (after_code ?_)
      refine LW.seq ?_
      refine X.wcells (ys := [Str x.text, .sl 32 (hss x.kills) .unk, i64 x.part, Vxs (x.next ++ [b]) (.tok q4 q5 q6), Vxs x.prev .unk]) rfl ?_
      refine X.wghost (H' := .cells b_ 73 (lnL { x with next := x.next ++ [b] }) :: gC g ma mb n :: gA ma m :: .cells b4 35 (vxL a) :: .cells b5 35 (vxL b) :: Rf) (HSub.trans (B := .cells b_ 73 [Str x.text, .sl 32 (hss x.kills) .unk, i64 x.part, Vxs (x.next ++ [b]) (.tok q4 q5 q6), Vxs x.prev .unk] :: gC g ma mb n :: gA ma m :: .cells b4 35 (vxL a) :: .cells b5 35 (vxL b) :: Rf) (by repeat (first | exact HSub.refl _ | refine HSub.pick 0 rfl ?_ | refine HSub.pick 1 rfl ?_ | refine HSub.drop ?_)) (HSub.cell 3 rfl Is.unk)) ?_
      refine X.drawM 6 rfl (by kernel_rfl) rfl ?_
      refine QD.u (LU.moveR Is.rfl') rfl ?_
      refine QD.u (LU.nilCheck Is.rfl') rfl ?_
      refine QD.u (LU.fieldO Tryd.underlying68 rfl Tryd.sizeOf65 (by decide) Is.rfl') rfl ?_
      refine QD.u (LU.loadO 1 rfl ⟨Tryd.sizeOf65, Tryd.isAgg65⟩ Is.rfl' (Part.one rfl)) rfl ?_
      refine QD.u (LU.loadO 3 rfl ⟨Tryd.sizeOf35, Tryd.isAgg35⟩ Is.rfl' (Part.whole (by assumption))) rfl ?_
      refine QD.u (LU.loadO 0 rfl ⟨Tryd.sizeOf73, Tryd.isAgg73⟩ Is.rfl' (Part.whole (by (simp; done)))) rfl ?_
      refine QD.nil ?_
      refine X.act (LO.mapUpdate (st := ⟨_, _, _⟩) 2 (KeyOk.vx vxty) rfl Tryd.underlying65 Is.rfl' (by exact Is.vx _) Is.rfl' ?_)
      refine LL.nil (after_code ?_)
      refine LW.seq ?_
      refine X.wghost (H' := gC g ma mb n :: gA ma m1 :: .cells b4 35 (vxL a) :: .cells b5 35 (vxL b) :: Rf) (by rw [hm1, ← gA_set]; exact (by repeat (first | exact HSub.refl _ | refine HSub.pick 0 rfl ?_ | refine HSub.pick 1 rfl ?_ | refine HSub.pick 2 rfl ?_ | refine HSub.drop ?_))) ?_
      refine LW.invM (m := 7) (γ := Nat × Nat) [(0, 27), (1, 28), (2, 29), (3, 30), (4, 31), (5, 32), (6, 7)] (fun g_ d => match g_ with | ⟨c_, z_⟩ => match d with | 27 => pt g | 28 => pt g | 29 => pt g | 30 => .raw (.map (some ma)) | 31 => .agg (vxL b) | 32 => lnE y | 7 => pt c_ | _ => .any) (fun g_ f => match g_ with | ⟨c_, z_⟩ => cond (f 6) (.cells c_ 73 (raws z73.cells.toList)) (.tail 0 0 0) :: .cells b4 35 (vxL a) :: .cells b5 35 (vxL b) :: gC g ma mb n :: gA ma m1 :: Rf) (0, 0) rfl (by kernel_rfl) rfl rfl ((HSub.trans (by repeat (first | exact HSub.refl _ | refine HSub.pick 2 rfl ?_)) (HSub.tail0 0 0 0 (Nat.le_refl _) _))) ?_ ?_
      · intro i hi f g_ hfi hdir hdown
        obtain ⟨c_, z_⟩ := g_
        have hc : i = 0 ∨ i = 1 ∨ i = 2 ∨ i = 3 ∨ i = 4 ∨ i = 5 ∨ i = 6 := by omega
        rcases hc with rfl | rfl | rfl | rfl | rfl | rfl | rfl
        · refine ⟨_, rfl, ?_⟩
          refine A.u (LU.moveR Is.rfl') rfl ?_
          refine ⟨⟨c_, z_⟩, Weaker.mk' ?_ (HSub.refl _)⟩
          refine env_back0 (envS_hit (sl := [(0, 27), (1, 28), (2, 29), (3, 30), (4, 31), (5, 32), (6, 7)]) (j := 0) (d := 27) rfl (fun _ _ h => h))  (envS_next ?_)
          · intro p hp hne; simp only [List.mem_cons, List.not_mem_nil, or_false] at hp; rcases hp with rfl | rfl | rfl | rfl | rfl | rfl | rfl <;> first | exact absurd rfl hne | exact ⟨rfl, rfl⟩
        · have d0 := hdir 0 (List.mem_of_elem_eq_true (by kernel_rfl))
          refine ⟨_, rfl, ?_⟩
          refine LP.weak (t := 27) (v := pt g) (envS_is (j := 0) rfl d0) ?_
          refine A.u (LU.nilCheck Is.rfl') rfl ?_
          refine ⟨⟨c_, z_⟩, Weaker.mk' ?_ (HSub.refl _)⟩
          refine env_back1 (envS_hit (sl := [(0, 27), (1, 28), (2, 29), (3, 30), (4, 31), (5, 32), (6, 7)]) (j := 1) (d := 28) rfl (fun _ _ h => h)) (envS_hit (sl := [(0, 27), (1, 28), (2, 29), (3, 30), (4, 31), (5, 32), (6, 7)]) (j := 0) (d := 27) rfl (fun _ _ h => h)) (envS_next ?_)
          · intro p hp hne; simp only [List.mem_cons, List.not_mem_nil, or_false] at hp; rcases hp with rfl | rfl | rfl | rfl | rfl | rfl | rfl <;> first | exact absurd rfl hne | exact ⟨rfl, rfl⟩
        · have d1 := hdir 1 (List.mem_of_elem_eq_true (by kernel_rfl))
          refine ⟨_, rfl, ?_⟩
          refine LP.weak (t := 28) (v := pt g) (envS_is (j := 1) rfl d1) ?_
          refine A.u (LU.fieldO Tryd.underlying68 rfl Tryd.sizeOf65 (by decide) Is.rfl') rfl ?_
          refine ⟨⟨c_, z_⟩, Weaker.mk' ?_ (HSub.refl _)⟩
          refine env_back1 (envS_hit (sl := [(0, 27), (1, 28), (2, 29), (3, 30), (4, 31), (5, 32), (6, 7)]) (j := 2) (d := 29) rfl (fun _ _ h => h)) (envS_hit (sl := [(0, 27), (1, 28), (2, 29), (3, 30), (4, 31), (5, 32), (6, 7)]) (j := 1) (d := 28) rfl (fun _ _ h => h)) (envS_next ?_)
          · intro p hp hne; simp only [List.mem_cons, List.not_mem_nil, or_false] at hp; rcases hp with rfl | rfl | rfl | rfl | rfl | rfl | rfl <;> first | exact absurd rfl hne | exact ⟨rfl, rfl⟩
        · have d2 := hdir 2 (List.mem_of_elem_eq_true (by kernel_rfl))
          refine ⟨_, rfl, ?_⟩
          refine LP.weak (t := 29) (v := pt g) (envS_is (j := 2) rfl d2) ?_
          refine A.u (LU.loadO 3 rfl ⟨Tryd.sizeOf65, Tryd.isAgg65⟩ Is.rfl' (Part.one rfl)) rfl ?_
          refine ⟨⟨c_, z_⟩, Weaker.mk' ?_ (HSub.refl _)⟩
          refine env_back1 (envS_hit (sl := [(0, 27), (1, 28), (2, 29), (3, 30), (4, 31), (5, 32), (6, 7)]) (j := 3) (d := 30) rfl (fun _ _ h => h)) (envS_hit (sl := [(0, 27), (1, 28), (2, 29), (3, 30), (4, 31), (5, 32), (6, 7)]) (j := 2) (d := 29) rfl (fun _ _ h => h)) (envS_next ?_)
          · intro p hp hne; simp only [List.mem_cons, List.not_mem_nil, or_false] at hp; rcases hp with rfl | rfl | rfl | rfl | rfl | rfl | rfl <;> first | exact absurd rfl hne | exact ⟨rfl, rfl⟩
        · refine ⟨_, rfl, ?_⟩
          refine A.u (LU.loadO 2 rfl ⟨Tryd.sizeOf35, Tryd.isAgg35⟩ Is.rfl' (Part.whole (by assumption))) rfl ?_
          refine ⟨⟨c_, z_⟩, Weaker.mk' ?_ (HSub.refl _)⟩
          refine env_back0 (envS_hit (sl := [(0, 27), (1, 28), (2, 29), (3, 30), (4, 31), (5, 32), (6, 7)]) (j := 4) (d := 31) rfl (fun _ _ h => h))  (envS_next ?_)
          · intro p hp hne; simp only [List.mem_cons, List.not_mem_nil, or_false] at hp; rcases hp with rfl | rfl | rfl | rfl | rfl | rfl | rfl <;> first | exact absurd rfl hne | exact ⟨rfl, rfl⟩
        · have d3 := hdir 3 (List.mem_of_elem_eq_true (by kernel_rfl))
          have d4 := hdir 4 (List.mem_of_elem_eq_true (by kernel_rfl))
          refine ⟨_, rfl, ?_⟩
          refine LP.weak (t := 30) (v := .raw (.map (some ma))) (envS_is (j := 3) rfl d3) ?_
          refine LP.weak (t := 31) (v := .agg (vxL b)) (envS_is (j := 4) rfl d4) ?_
          refine A.u (LU.weak (LU.lookup 4 (KeyOk.vx vxty) rfl Tryd.underlying65 Tryd.zeroValue73 Is.rfl' (by exact Is.vx _)) (hyi)) rfl ?_
          refine ⟨⟨c_, z_⟩, Weaker.mk' ?_ (HSub.refl _)⟩
          refine env_back2 (envS_hit (sl := [(0, 27), (1, 28), (2, 29), (3, 30), (4, 31), (5, 32), (6, 7)]) (j := 5) (d := 32) rfl (fun _ _ h => h)) (envS_hit (sl := [(0, 27), (1, 28), (2, 29), (3, 30), (4, 31), (5, 32), (6, 7)]) (j := 4) (d := 31) rfl (fun _ _ h => h)) (envS_hit (sl := [(0, 27), (1, 28), (2, 29), (3, 30), (4, 31), (5, 32), (6, 7)]) (j := 3) (d := 30) rfl (fun _ _ h => h)) (envS_next ?_)
          · intro p hp hne; simp only [List.mem_cons, List.not_mem_nil, or_false] at hp; rcases hp with rfl | rfl | rfl | rfl | rfl | rfl | rfl <;> first | exact absurd rfl hne | exact ⟨rfl, rfl⟩
        · refine ⟨_, rfl, ?_⟩
          refine A.act (X.alloc rfl Tryd.zeroValue73 (by exact Cells.rawagg (by decide)) (fun b7 => ?_))
          refine ⟨(b7, 0), Weaker.mk' ?_ (by show L.HSub (_ :: cond (f 6) _ (.tail 0 0 0) :: _) _; rw [hfi]; exact HSub.cons (HSub.drop (HSub.refl _)))⟩
          refine env_back0 (envS_hit (sl := [(0, 27), (1, 28), (2, 29), (3, 30), (4, 31), (5, 32), (6, 7)]) (j := 6) (d := 7) rfl (fun _ _ h => h))  (envS_next ?_)
          · intro p hp hne; simp only [List.mem_cons, List.not_mem_nil, or_false] at hp; rcases hp with rfl | rfl | rfl | rfl | rfl | rfl | rfl <;> first | exact absurd rfl hne | exact ⟨rfl, rfl⟩
      · intro g_ f hf_
        obtain ⟨c_, z_⟩ := g_
        refine X.ghost (H' := .cells c_ 73 (raws z73.cells.toList) :: .cells b4 35 (vxL a) :: .cells b5 35 (vxL b) :: gC g ma mb n :: gA ma m1 :: Rf) (by show L.HSub (cond (f 6) _ (.tail 0 0 0) :: _) _; rw [hf_ 6 (by omega)]; exact HSub.refl _) ?_
        refine X.act (X.store 0 rfl Tryd.sizeOf73 Is.rfl' Is.rfl' (by exact Cells.agg) (by (simp; done)) (by exact Nat.le_of_ble_eq_true rfl) ?_)
        refine LL.nil (after_code ?_)
        refine LW.seq ?_
        refine X.wcells (ys := lnL y) rfl ?_
        refine X.wghost (H' := .cells c_ 73 (lnL y) :: gC g ma mb n :: gA ma m1 :: .cells b4 35 (vxL a) :: .cells b5 35 (vxL b) :: Rf) (by repeat (first | exact HSub.refl _ | refine HSub.pick 0 rfl ?_ | refine HSub.pick 2 rfl ?_)) ?_
        refine LW.invM (m := 6) (γ := Nat × Nat × Nat × Nat × Nat × Nat) [(0, 33), (1, 34), (2, 35), (3, 36), (4, 37), (5, 38)] (fun g_ d => match g_ with | ⟨r1, r2, r3, r4, r5, r6⟩ => match d with | 33 => .raw (.pointer (some ⟨c_, 4, none⟩)) | 34 => Vxs y.prev .unk | 35 => Vxs y.prev (.tok r1 r2 r3) | 36 => .agg (vxL a) | 37 => .sl 33 [vxL a] .full | 38 => Vxs (y.prev ++ [a]) (.tok r4 r5 r6) | _ => .any) (fun g_ f => match g_ with | ⟨r1, r2, r3, r4, r5, r6⟩ => cond (f 5) (.tail r4 r5 r6) (cond (f 2) (.tail r1 r2 r3) (.tail 0 0 0)) :: .cells c_ 73 (lnL y) :: gC g ma mb n :: gA ma m1 :: .cells b4 35 (vxL a) :: .cells b5 35 (vxL b) :: Rf) (0, 0, 0, 0, 0, 0) rfl (by kernel_rfl) rfl rfl ((HSub.trans (by repeat (exact HSub.refl _)) (HSub.tail0 0 0 0 (Nat.le_refl _) _))) ?_ ?_
        · intro i hi f g_ hfi hdir hdown
          obtain ⟨r1, r2, r3, r4, r5, r6⟩ := g_
          have hc : i = 0 ∨ i = 1 ∨ i = 2 ∨ i = 3 ∨ i = 4 ∨ i = 5 := by omega
          rcases hc with rfl | rfl | rfl | rfl | rfl | rfl
          · refine ⟨_, rfl, ?_⟩
            refine A.u (LU.fieldO Tryd.underlying73 rfl Tryd.sizeOf26 (by decide) Is.rfl') rfl ?_
            refine ⟨⟨r1, r2, r3, r4, r5, r6⟩, Weaker.mk' ?_ (HSub.refl _)⟩
            refine env_back0 (envS_hit (sl := [(0, 33), (1, 34), (2, 35), (3, 36), (4, 37), (5, 38)]) (j := 0) (d := 33) rfl (fun _ _ h => h))  (envS_next ?_)
            · intro p hp hne; simp only [List.mem_cons, List.not_mem_nil, or_false] at hp; rcases hp with rfl | rfl | rfl | rfl | rfl | rfl <;> first | exact absurd rfl hne | exact ⟨rfl, rfl⟩
          · have d0 := hdir 0 (List.mem_of_elem_eq_true (by kernel_rfl))
            refine ⟨_, rfl, ?_⟩
            refine LP.weak (t := 33) (v := .raw (.pointer (some ⟨c_, 4, none⟩))) (envS_is (j := 0) rfl d0) ?_
            refine A.u (LU.loadO 1 rfl ⟨Tryd.sizeOf26, Tryd.isAgg26⟩ Is.rfl' (Part.one rfl)) rfl ?_
            refine ⟨⟨r1, r2, r3, r4, r5, r6⟩, Weaker.mk' ?_ (HSub.refl _)⟩
            refine env_back1 (envS_hit (sl := [(0, 33), (1, 34), (2, 35), (3, 36), (4, 37), (5, 38)]) (j := 1) (d := 34) rfl (fun _ _ h => h)) (envS_hit (sl := [(0, 33), (1, 34), (2, 35), (3, 36), (4, 37), (5, 38)]) (j := 0) (d := 33) rfl (fun _ _ h => h)) (envS_next ?_)
            · intro p hp hne; simp only [List.mem_cons, List.not_mem_nil, or_false] at hp; rcases hp with rfl | rfl | rfl | rfl | rfl | rfl <;> first | exact absurd rfl hne | exact ⟨rfl, rfl⟩
          · have d1 := hdir 1 (List.mem_of_elem_eq_true (by kernel_rfl))
            refine ⟨_, rfl, ?_⟩
            have h6 : f 5 = false := Bool.eq_false_iff.2 (fun h => by rw [hdown 5 (by omega) h 2 (List.mem_of_elem_eq_true (by kernel_rfl))] at hfi; cases hfi)
            refine LP.ghost (H' := .cells c_ 73 (lnL y) :: gC g ma mb n :: gA ma m1 :: .cells b4 35 (vxL a) :: .cells b5 35 (vxL b) :: Rf) (by show L.HSub (cond (f 5) _ (cond (f 2) _ _) :: _) _; rw [h6, hfi]; exact HSub.drop (HSub.refl _)) ?_
            refine LP.weak (t := 34) (v := Vxs y.prev .unk) (envS_is (j := 1) rfl d1) ?_
            refine A.act (X.call (clone_calls y.prev .unk (by omega)) Tryd.func36 rfl rfl rfl (HSub.refl _) (Opds.cons Is.rfl' Opds.nil) ?_)
            rintro r H' ⟨b35, o35, c35, rfl, rfl⟩
            refine ⟨(b35, o35, c35, r4, r5, r6), Weaker.mk' ?_ (by show L.HSub _ (cond (f 5) _ (.tail b35 o35 c35) :: _); rw [h6]; exact HSub.refl _)⟩
            refine env_back1 (envS_hit (sl := [(0, 33), (1, 34), (2, 35), (3, 36), (4, 37), (5, 38)]) (j := 2) (d := 35) rfl (fun _ _ h => h)) (envS_hit (sl := [(0, 33), (1, 34), (2, 35), (3, 36), (4, 37), (5, 38)]) (j := 1) (d := 34) rfl (fun _ _ h => h)) (envS_next ?_)
            · intro p hp hne; simp only [List.mem_cons, List.not_mem_nil, or_false] at hp; rcases hp with rfl | rfl | rfl | rfl | rfl | rfl <;> first | exact absurd rfl hne | exact ⟨rfl, rfl⟩
          · refine ⟨_, rfl, ?_⟩
            refine A.u (LU.loadO 4 rfl ⟨Tryd.sizeOf35, Tryd.isAgg35⟩ Is.rfl' (Part.whole (by assumption))) rfl ?_
            refine ⟨⟨r1, r2, r3, r4, r5, r6⟩, Weaker.mk' ?_ (HSub.refl _)⟩
            refine env_back0 (envS_hit (sl := [(0, 33), (1, 34), (2, 35), (3, 36), (4, 37), (5, 38)]) (j := 3) (d := 36) rfl (fun _ _ h => h))  (envS_next ?_)
            · intro p hp hne; simp only [List.mem_cons, List.not_mem_nil, or_false] at hp; rcases hp with rfl | rfl | rfl | rfl | rfl | rfl <;> first | exact absurd rfl hne | exact ⟨rfl, rfl⟩
          · have d3 := hdir 3 (List.mem_of_elem_eq_true (by kernel_rfl))
            refine ⟨_, rfl, ?_⟩
            refine LP.weak (t := 36) (v := .agg (vxL a)) (envS_is (j := 3) rfl d3) ?_
            refine A.u (LU.lits Tryd.underlying26 Tryd.sizeOf35 Tryd.zeroValue35 (ones rfl) rfl (by decide) (by decide) (Elems.cons Is.rfl' (by exact Cells.agg) Elems.nil) (by (simp; assumption)) rfl) rfl ?_
            refine ⟨⟨r1, r2, r3, r4, r5, r6⟩, Weaker.mk' ?_ (HSub.refl _)⟩
            refine env_back1 (envS_hit (sl := [(0, 33), (1, 34), (2, 35), (3, 36), (4, 37), (5, 38)]) (j := 4) (d := 37) rfl (fun _ _ h => h)) (envS_hit (sl := [(0, 33), (1, 34), (2, 35), (3, 36), (4, 37), (5, 38)]) (j := 3) (d := 36) rfl (fun _ _ h => h)) (envS_next ?_)
            · intro p hp hne; simp only [List.mem_cons, List.not_mem_nil, or_false] at hp; rcases hp with rfl | rfl | rfl | rfl | rfl | rfl <;> first | exact absurd rfl hne | exact ⟨rfl, rfl⟩
          · have d2 := hdir 2 (List.mem_of_elem_eq_true (by kernel_rfl))
            have d4 := hdir 4 (List.mem_of_elem_eq_true (by kernel_rfl))
            refine ⟨_, rfl, ?_⟩
            have h2 : f 2 = true := hdir 2 (List.mem_of_elem_eq_true (by kernel_rfl))
            refine LP.ghost (H' := .tail r1 r2 r3 :: .cells c_ 73 (lnL y) :: gC g ma mb n :: gA ma m1 :: .cells b4 35 (vxL a) :: .cells b5 35 (vxL b) :: Rf) (by show L.HSub (cond (f 5) _ (cond (f 2) _ _) :: _) _; rw [h2, hfi]; exact HSub.refl _) ?_
            refine LP.weak (t := 35) (v := Vxs y.prev (.tok r1 r2 r3)) (envS_is (j := 2) rfl d2) ?_
            refine LP.weak (t := 37) (v := .sl 33 [vxL a] .full) (envS_is (j := 4) rfl d4) ?_
            refine A.act (X.append 0 rfl rfl Tryd.underlying26 (El.of (P := Tryd.prog) (z := (.agg #[(.int .u8 0), (.int .u8 0), (.int .u8 0), (.int .u8 0), (.int .u8 0), (.int .u8 0), (.int .u8 0), (.int .u8 0), (.int .u8 0), (.int .u8 0), (.int .u8 0), (.int .u8 0), (.int .u8 0), (.int .u8 0), (.int .u8 0), (.int .u8 0), (.int .u8 0), (.int .u8 0), (.int .u8 0), (.int .u8 0), (.int .u8 0), (.int .u8 0), (.int .u8 0), (.int .u8 0), (.int .u8 0), (.int .u8 0), (.int .u8 0), (.int .u8 0), (.int .u8 0), (.int .u8 0), (.int .u8 0), (.int .u8 0), (.int .i64 0)])) (size := 33) (bytes := 40) rfl rfl rfl) Is.rfl' Is.rfl' (SrcL.slice Tryd.underlying26 (by decide) (by intro e he; rw [List.mem_singleton.1 he]; exact hal)) (by simp only [Option.getD_some, Option.getD_none, byteEls_length, intEls_length, List.length_append, List.length_cons, List.length_nil, List.length_map, List.length_drop, List.length_take, Int.toNat_natCast]; omega) (by simp only [Option.getD_some, Option.getD_none, byteEls_length, intEls_length, List.length_append, List.length_cons, List.length_nil, List.length_map, List.length_drop, List.length_take, Int.toNat_natCast]; omega) (fun b38 o38 c38 => ?_))
            refine ⟨(r1, r2, r3, b38, o38, c38), Weaker.mk' ?_ (HSub.refl _)⟩
            refine env_back2 (envS_hit (sl := [(0, 33), (1, 34), (2, 35), (3, 36), (4, 37), (5, 38)]) (j := 5) (d := 38) rfl (Is.of (congrArg (fun z => LV.sl 33 z (.tok b38 o38 c38)) (vxs_app y.prev [a])))) (envS_hit (sl := [(0, 33), (1, 34), (2, 35), (3, 36), (4, 37), (5, 38)]) (j := 4) (d := 37) rfl (fun _ _ h => h)) (envS_hit (sl := [(0, 33), (1, 34), (2, 35), (3, 36), (4, 37), (5, 38)]) (j := 2) (d := 35) rfl (fun _ _ h => h)) (envS_next ?_)
            · intro p hp hne; simp only [List.mem_cons, List.not_mem_nil, or_false] at hp; rcases hp with rfl | rfl | rfl | rfl | rfl | rfl <;> first | exact absurd rfl hne | exact ⟨rfl, rfl⟩
        · intro g_ f hf_
          obtain ⟨r1, r2, r3, r4, r5, r6⟩ := g_
          refine X.ghost (H' := .tail r4 r5 r6 :: .cells c_ 73 (lnL y) :: gC g ma mb n :: gA ma m1 :: .cells b4 35 (vxL a) :: .cells b5 35 (vxL b) :: Rf) (by show L.HSub (cond (f 5) _ _ :: _) _; rw [hf_ 5 (by omega)]; exact HSub.refl _) ?_
          refine X.u (LU.fieldO Tryd.underlying73 rfl Tryd.sizeOf26 (by decide) Is.rfl') rfl ?_
          refine X.act (X.store 1 rfl Tryd.sizeOf26 Is.rfl' Is.rfl' (by exact Cells.sl) (by (simp; done)) (by (simp; done)) ?_)
          refine LL.nil (after_code ?_)
          refine X.wcells (ys := [Str y.text, .sl 32 (hss y.kills) .unk, i64 y.part, Vxs y.next .unk, Vxs (y.prev ++ [a]) (.tok r4 r5 r6)]) rfl ?_
          refine X.wghost (H' := .cells c_ 73 (lnL { y with prev := y.prev ++ [a] }) :: gC g ma mb n :: gA ma m1 :: .cells b4 35 (vxL a) :: .cells b5 35 (vxL b) :: Rf) (HSub.trans (B := .cells c_ 73 [Str y.text, .sl 32 (hss y.kills) .unk, i64 y.part, Vxs y.next .unk, Vxs (y.prev ++ [a]) (.tok r4 r5 r6)] :: gC g ma mb n :: gA ma m1 :: .cells b4 35 (vxL a) :: .cells b5 35 (vxL b) :: Rf) (by repeat (first | exact HSub.refl _ | refine HSub.pick 0 rfl ?_ | refine HSub.pick 1 rfl ?_ | refine HSub.drop ?_)) (HSub.cell 4 rfl Is.unk)) ?_
          refine X.drawM 6 rfl (by kernel_rfl) rfl ?_
          refine QD.u (LU.moveR Is.rfl') rfl ?_
          refine QD.u (LU.nilCheck Is.rfl') rfl ?_
          refine QD.u (LU.fieldO Tryd.underlying68 rfl Tryd.sizeOf65 (by decide) Is.rfl') rfl ?_
          refine QD.u (LU.loadO 1 rfl ⟨Tryd.sizeOf65, Tryd.isAgg65⟩ Is.rfl' (Part.one rfl)) rfl ?_
          refine QD.u (LU.loadO 4 rfl ⟨Tryd.sizeOf35, Tryd.isAgg35⟩ Is.rfl' (Part.whole (by assumption))) rfl ?_
          refine QD.u (LU.loadO 0 rfl ⟨Tryd.sizeOf73, Tryd.isAgg73⟩ Is.rfl' (Part.whole (by (simp; done)))) rfl ?_
          refine QD.nil ?_
          refine X.act (LO.mapUpdate (st := ⟨_, _, _⟩) 2 (KeyOk.vx vxty) rfl Tryd.underlying65 Is.rfl' (by exact Is.vx _) Is.rfl' ?_)
          refine LL.nil (after_end ?_)
          refine X.normal (H' := [gC g ma mb n, gA ma (setA m1 b { y with prev := y.prev ++ [a] })]) Res.none (by rw [← gA_set]; exact (by repeat (first | exact HSub.refl _ | refine HSub.pick 0 rfl ?_ | refine HSub.pick 2 rfl ?_ | refine HSub.drop ?_))) ?_
          exact ⟨rfl, rfl⟩
end Go.Proofs.YtolpkeajokjbjaaDoor
