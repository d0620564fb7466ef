/- Lines: a new graph; how many; which ids may not be. -/
import Derived.Test.YtolpkeajokjbjaaDoorLnE
import Derived.Test.YtolpkeajokjbjaaDoorLgC
set_option linter.unusedVariables false
set_option linter.unusedSimpArgs false
namespace Go.Proofs.YtolpkeajokjbjaaDoor
open Go.RowKit Go.L
attribute [local irreducible] LL LW LO LP LA
theorem atG_set (m : At) (a v : Vx) (x : Ln) : atG (setA m a x) v = if a = v then x else atG m v := by
  unfold atG
  rw [look_setA]
  split <;> rfl
theorem step_next (m : At) (a b v : Vx) : (atG (stepA m a b) v).next = (atG m v).next ++ (if a = v then [b] else []) := by
  unfold stepA
  simp only [atG_set]
  by_cases c : b = v
  · subst c
    by_cases d : a = b
    · simp [d]
    · simp [d]
  · by_cases d : a = v
    · simp [c, d]
    · simp [c, d]
theorem step_prev (m : At) (a b v : Vx) : (atG (stepA m a b) v).prev = (atG m v).prev ++ (if b = v then [a] else []) := by
  unfold stepA
  simp only [atG_set]
  by_cases c : b = v
  · subst c
    by_cases d : a = b
    · simp [d]
    · simp [d]
  · by_cases d : a = v
    · simp [c, d]
    · simp [c, d]
/-- No list of a graph is longer than k. -/
def Sz (m : At) (k : Nat) : Prop := ∀ v, (atG m v).next.length ≤ k ∧ (atG m v).prev.length ≤ k
theorem Sz.step {m : At} {k : Nat} (h : Sz m k) (a b : Vx) : Sz (stepA m a b) (k + 1) := fun v => by
  have := h v
  rw [step_next, step_prev, List.length_append, List.length_append]
  constructor
  · split <;> simp <;> omega
  · split <;> simp <;> omega
theorem Sz.mono {m : At} {k l : Nat} (h : Sz m k) (hkl : k ≤ l) : Sz m l := fun v => ⟨Nat.le_trans (h v).1 hkl, Nat.le_trans (h v).2 hkl⟩
abbrev stepV (g : Nat) : Value := .func (.func 29) #[.pointer (some ⟨g, 0, none⟩)] #[]
theorem step_fn (g ma mb : Nat) (n : Int) (m : At) (a b : Vx) (k : Nat) (hz : Sz m k) (hk : k < 900000) : FnCalls Tryd.prog (stepV g) [.agg (vxL a), .agg (vxL b)] [gC g ma mb n, gA ma m] (fun r H' => r = .tup [] ∧ H' = [gC g ma mb n, gA ma (stepA m a b)]) :=
  FnCalls.bound Tryd.func29 rfl rfl (step_calls g ma mb n m a b fun v => ⟨Nat.lt_of_le_of_lt (hz v).1 hk, Nat.lt_of_le_of_lt (hz v).2 hk⟩)
theorem chain_step (g ma mb : Nat) (n : Int) (m : At) (p : Pt) (k : Nat) (hz : Sz m k) (hl : p.ids.length < 400000) (hk : k < 400000) : LCalls Tryd.prog 37 [ptE p, .raw (stepV g)] [gC g ma mb n, gA ma m] (fun r H' => r = .tup [] ∧ H' = [gC g ma mb n, gA ma (chainF stepA m p.up p.ids p.down)] ∧ Sz (chainF stepA m p.up p.ids p.down) (k + (p.ids.length + 1))) :=
  chain_calls (fun m => [gC g ma mb n, gA ma m]) stepA (fun i m => Sz m (k + i)) (stepV g) p m (by omega) (fun i s a b hi hs => ⟨step_fn g ma mb n s a b (k + i) hs (by omega), by rw [← Nat.add_assoc]; exact hs.step a b⟩) hz
abbrev intK : Int → Value := fun n => .int .i64 n
abbrev Ps := List (Int × Pt)
abbrev gP (mb : Nat) (q : Ps) : Atom := .map mb (mp intK (encM ptE q))
theorem ln0_agg : Is (.agg (raws z73.cells.toList)) (lnE ln0) := Is.agg rfl fun i x y hx hy => by
  match i, hx, hy with
  | 0, hx, hy => cases hx; cases hy; exact Is.rfl'
  | 1, hx, hy => cases hx; cases hy; exact (Is.nil 32).trans Is.unk
  | 2, hx, hy => cases hx; cases hy; exact Is.rfl'
  | 3, hx, hy => cases hx; cases hy; exact (Is.nil 33).trans Is.unk
  | 4, hx, hy => cases hx; cases hy; exact (Is.nil 33).trans Is.unk
def at0 : At := [(topV, ln0), (botV, ln0)]
theorem at0_set : setA (setA [] topV ln0) botV ln0 = at0 := by
  show (if topV = botV then (botV, ln0) :: [] else (topV, ln0) :: setA [] botV ln0) = _
  rw [if_neg (by decide +kernel)]
  rfl
theorem at0_sz : Sz at0 0 := fun v => by
  have : at0 = setA (setA [] topV ln0) botV ln0 := at0_set.symm
  rw [this, atG_set, atG_set]
  split
  · exact ⟨Nat.le_refl _, Nat.le_refl _⟩
  · split
    · exact ⟨Nat.le_refl _, Nat.le_refl _⟩
    · exact ⟨Nat.le_refl _, Nat.le_refl _⟩
theorem at1_bot : Is ((lookM (encM lnE [(topV, ln0)]) botV).getD (.raw z73)) (lnE ln0) := by
  have h := at_is [(topV, ln0)] botV
  have e : atG [(topV, ln0)] botV = ln0 := by
    unfold atG lookA
    split <;> rfl
  rwa [e] at h
set_option maxHeartbeats 1000000 in
set_option maxRecDepth 100000 in
theorem new_calls : LCalls Tryd.prog 9 [] [kb] (fun r H' => ∃ g ma mb, r = pt g ∧ H' = [gC g ma mb 0, gA ma (stepA at0 topV botV), gP mb [], kb]) := by
  have hbl := vxL_len botV
  have htl := vxL_len topV
  refine LCalls.of Tryd.func9 rfl Tryd.ntmps9 Tryd.results9 rfl (fun Rf => ?_)
  refine LW.seq ?_
  refine LW.region ?_
  refine X.u (LU.assignR Is.rfl') rfl ?_
  refine LL.nil (after_code ?_)
  refine LW.seq ?_
  refine LW.region ?_
  refine X.act (LO.makeMap (st := ⟨_, _, _⟩) rfl (fun b2 => ?_))
  refine X.act (LO.makeMap (st := ⟨_, _, _⟩) rfl (fun b3 => ?_))
  refine X.u (LU.build (places := #[(0, 1), (1, 1), (2, 1)]) Tryd.underlying68 Tryd.zeroValue68 (ones rfl) (by intro w; simp [Tryd.sizeOf3, Tryd.sizeOf65, Tryd.sizeOf66]) (Parts.cons Is.rfl' (by exact Cells.raw rfl) (Parts.cons Is.rfl' (by exact Cells.raw rfl) Parts.nil)) rfl) rfl ?_
  refine X.act (X.box rfl Is.rfl' (by exact Cells.agg) (fun b5 => ?_))
  refine X.u (LU.assignR Is.rfl') rfl ?_
  refine LL.nil (after_code ?_)
  refine LW.seq ?_
  refine X.wghost (H' := gC b5 b2 b3 0 :: gA b2 [] :: gP b3 [] :: kb :: Rf) (by repeat (first | exact HSub.refl _ | refine HSub.pick 0 rfl ?_ | refine HSub.pick 1 rfl ?_)) ?_
  refine LW.invB (m := 18) (γ := Nat × Nat × Nat × Nat) [(0, 6), (1, 7), (2, 8), (3, 9), (4, 10), (5, 11), (6, 12), (7, 13), (8, 14), (9, 15), (10, 16), (11, 17), (12, 18), (13, 19), (15, 20), (16, 21)] (fun g_ d => match g_ with | ⟨s1, q1, s2, q2⟩ => match d with | 6 => pt b5 | 7 => pt b5 | 8 => pt b5 | 9 => .raw (.map (some b2)) | 10 => .agg (vxL topV) | 11 => pt b5 | 12 => pt b5 | 13 => pt b5 | 14 => .raw (.map (some b2)) | 15 => .agg (vxL botV) | 16 => lnE ln0 | 17 => lnE ln0 | 18 => .tup [lnE ln0, i64 (s1 : Nat)] | 19 => i64 (q1 : Nat) | 20 => .tup [lnE ln0, i64 (s2 : Nat)] | 21 => i64 (q2 : Nat) | _ => .any) (fun g_ f => match g_ with | ⟨s1, q1, s2, q2⟩ => cond (f 17) (.map b2 (mp vxV (setM (encM lnE [(topV, ln0)]) botV (lnE ln0)))) (cond (f 15) (.mape b2 (mp vxV (entM (encM lnE [(topV, ln0)]) botV (.raw z73))) (entI (encM lnE [(topV, ln0)]) botV) (cond (f 16) q2 s2)) (cond (f 14) (gA b2 [(topV, ln0)]) (cond (f 12) (.mape b2 (mp vxV (entM (encM lnE []) topV (.raw z73))) (entI (encM lnE []) topV) (cond (f 13) q1 s1)) (gA b2 [])))) :: gC b5 b2 b3 0 :: gP b3 [] :: kb :: Rf) (0, 0, 0, 0) rfl (by kernel_rfl) rfl rfl ((by repeat (first | exact HSub.refl _ | refine HSub.pick 1 rfl ?_))) ?_ ?_
  · intro i hi f g_ hfi hdir hdown
    obtain ⟨s1, q1, s2, q2⟩ := g_
    have hc : i = 0 ∨ i = 1 ∨ i = 2 ∨ i = 3 ∨ i = 4 ∨ i = 5 ∨ i = 6 ∨ i = 7 ∨ i = 8 ∨ i = 9 ∨ i = 10 ∨ i = 11 ∨ i = 12 ∨ i = 13 ∨ i = 14 ∨ i = 15 ∨ i = 16 ∨ i = 17 := by omega
    rcases hc with rfl | rfl | rfl | rfl | rfl | rfl | rfl | rfl | rfl | rfl | rfl | rfl | rfl | rfl | rfl | rfl | rfl | rfl
    · refine ⟨_, rfl, ?_⟩
      refine A.u (LU.moveR Is.rfl') rfl ?_
      refine ⟨⟨s1, q1, s2, q2⟩, Weaker.mk' ?_ (HSub.refl _)⟩
      refine env_back0 (envS_hit (sl := [(0, 6), (1, 7), (2, 8), (3, 9), (4, 10), (5, 11), (6, 12), (7, 13), (8, 14), (9, 15), (10, 16), (11, 17), (12, 18), (13, 19), (15, 20), (16, 21)]) (j := 0) (d := 6) rfl (fun _ _ h => h))  (envS_next ?_)
      · intro p hp hne; simp only [List.mem_cons, List.not_mem_nil, or_false] at hp; rcases hp with rfl | rfl | rfl | rfl | rfl | rfl | rfl | rfl | rfl | rfl | rfl | rfl | rfl | rfl | rfl | rfl <;> first | exact absurd rfl hne | exact ⟨rfl, rfl⟩
    · have d0 := hdir 0 (List.mem_of_elem_eq_true (by kernel_rfl))
      refine ⟨_, rfl, ?_⟩
      refine LP.weak (t := 6) (v := pt b5) (envS_is (j := 0) rfl d0) ?_
      refine A.u (LU.nilCheck Is.rfl') rfl ?_
      refine ⟨⟨s1, q1, s2, q2⟩, Weaker.mk' ?_ (HSub.refl _)⟩
      refine env_back1 (envS_hit (sl := [(0, 6), (1, 7), (2, 8), (3, 9), (4, 10), (5, 11), (6, 12), (7, 13), (8, 14), (9, 15), (10, 16), (11, 17), (12, 18), (13, 19), (15, 20), (16, 21)]) (j := 1) (d := 7) rfl (fun _ _ h => h)) (envS_hit (sl := [(0, 6), (1, 7), (2, 8), (3, 9), (4, 10), (5, 11), (6, 12), (7, 13), (8, 14), (9, 15), (10, 16), (11, 17), (12, 18), (13, 19), (15, 20), (16, 21)]) (j := 0) (d := 6) rfl (fun _ _ h => h)) (envS_next ?_)
      · intro p hp hne; simp only [List.mem_cons, List.not_mem_nil, or_false] at hp; rcases hp with rfl | rfl | rfl | rfl | rfl | rfl | rfl | rfl | rfl | rfl | rfl | rfl | rfl | rfl | rfl | rfl <;> first | exact absurd rfl hne | exact ⟨rfl, rfl⟩
    · have d1 := hdir 1 (List.mem_of_elem_eq_true (by kernel_rfl))
      refine ⟨_, rfl, ?_⟩
      refine LP.weak (t := 7) (v := pt b5) (envS_is (j := 1) rfl d1) ?_
      refine A.u (LU.fieldO Tryd.underlying68 rfl Tryd.sizeOf65 (by decide) Is.rfl') rfl ?_
      refine ⟨⟨s1, q1, s2, q2⟩, Weaker.mk' ?_ (HSub.refl _)⟩
      refine env_back1 (envS_hit (sl := [(0, 6), (1, 7), (2, 8), (3, 9), (4, 10), (5, 11), (6, 12), (7, 13), (8, 14), (9, 15), (10, 16), (11, 17), (12, 18), (13, 19), (15, 20), (16, 21)]) (j := 2) (d := 8) rfl (fun _ _ h => h)) (envS_hit (sl := [(0, 6), (1, 7), (2, 8), (3, 9), (4, 10), (5, 11), (6, 12), (7, 13), (8, 14), (9, 15), (10, 16), (11, 17), (12, 18), (13, 19), (15, 20), (16, 21)]) (j := 1) (d := 7) rfl (fun _ _ h => h)) (envS_next ?_)
      · intro p hp hne; simp only [List.mem_cons, List.not_mem_nil, or_false] at hp; rcases hp with rfl | rfl | rfl | rfl | rfl | rfl | rfl | rfl | rfl | rfl | rfl | rfl | rfl | rfl | rfl | rfl <;> first | exact absurd rfl hne | exact ⟨rfl, rfl⟩
    · have d2 := hdir 2 (List.mem_of_elem_eq_true (by kernel_rfl))
      refine ⟨_, rfl, ?_⟩
      refine LP.weak (t := 8) (v := pt b5) (envS_is (j := 2) rfl d2) ?_
      refine A.u (LU.loadO 1 rfl ⟨Tryd.sizeOf65, Tryd.isAgg65⟩ Is.rfl' (Part.one rfl)) rfl ?_
      refine ⟨⟨s1, q1, s2, q2⟩, Weaker.mk' ?_ (HSub.refl _)⟩
      refine env_back1 (envS_hit (sl := [(0, 6), (1, 7), (2, 8), (3, 9), (4, 10), (5, 11), (6, 12), (7, 13), (8, 14), (9, 15), (10, 16), (11, 17), (12, 18), (13, 19), (15, 20), (16, 21)]) (j := 3) (d := 9) rfl (fun _ _ h => h)) (envS_hit (sl := [(0, 6), (1, 7), (2, 8), (3, 9), (4, 10), (5, 11), (6, 12), (7, 13), (8, 14), (9, 15), (10, 16), (11, 17), (12, 18), (13, 19), (15, 20), (16, 21)]) (j := 2) (d := 8) rfl (fun _ _ h => h)) (envS_next ?_)
      · intro p hp hne; simp only [List.mem_cons, List.not_mem_nil, or_false] at hp; rcases hp with rfl | rfl | rfl | rfl | rfl | rfl | rfl | rfl | rfl | rfl | rfl | rfl | rfl | rfl | rfl | rfl <;> first | exact absurd rfl hne | exact ⟨rfl, rfl⟩
    · refine ⟨_, rfl, ?_⟩
      refine A.u (LU.weak (LU.build (places := #[(0, 32), (32, 1)]) Tryd.underlying35 Tryd.zeroValue35 (ones rfl) (by intro w; simp [Tryd.sizeOf3, Tryd.sizeOf31]) Parts.nil rfl) (Is.of (y := .agg (vxL topV)) (rfl))) rfl ?_
      refine ⟨⟨s1, q1, s2, q2⟩, Weaker.mk' ?_ (HSub.refl _)⟩
      refine env_back0 (envS_hit (sl := [(0, 6), (1, 7), (2, 8), (3, 9), (4, 10), (5, 11), (6, 12), (7, 13), (8, 14), (9, 15), (10, 16), (11, 17), (12, 18), (13, 19), (15, 20), (16, 21)]) (j := 4) (d := 10) rfl (fun _ _ h => h))  (envS_next ?_)
      · intro p hp hne; simp only [List.mem_cons, List.not_mem_nil, or_false] at hp; rcases hp with rfl | rfl | rfl | rfl | rfl | rfl | rfl | rfl | rfl | rfl | rfl | rfl | rfl | rfl | rfl | rfl <;> first | exact absurd rfl hne | exact ⟨rfl, rfl⟩
    · refine ⟨_, rfl, ?_⟩
      refine A.u (LU.moveR Is.rfl') rfl ?_
      refine ⟨⟨s1, q1, s2, q2⟩, Weaker.mk' ?_ (HSub.refl _)⟩
      refine env_back0 (envS_hit (sl := [(0, 6), (1, 7), (2, 8), (3, 9), (4, 10), (5, 11), (6, 12), (7, 13), (8, 14), (9, 15), (10, 16), (11, 17), (12, 18), (13, 19), (15, 20), (16, 21)]) (j := 5) (d := 11) rfl (fun _ _ h => h))  (envS_next ?_)
      · intro p hp hne; simp only [List.mem_cons, List.not_mem_nil, or_false] at hp; rcases hp with rfl | rfl | rfl | rfl | rfl | rfl | rfl | rfl | rfl | rfl | rfl | rfl | rfl | rfl | rfl | rfl <;> first | exact absurd rfl hne | exact ⟨rfl, rfl⟩
    · have d5 := hdir 5 (List.mem_of_elem_eq_true (by kernel_rfl))
      refine ⟨_, rfl, ?_⟩
      refine LP.weak (t := 11) (v := pt b5) (envS_is (j := 5) rfl d5) ?_
      refine A.u (LU.nilCheck Is.rfl') rfl ?_
      refine ⟨⟨s1, q1, s2, q2⟩, Weaker.mk' ?_ (HSub.refl _)⟩
      refine env_back1 (envS_hit (sl := [(0, 6), (1, 7), (2, 8), (3, 9), (4, 10), (5, 11), (6, 12), (7, 13), (8, 14), (9, 15), (10, 16), (11, 17), (12, 18), (13, 19), (15, 20), (16, 21)]) (j := 6) (d := 12) rfl (fun _ _ h => h)) (envS_hit (sl := [(0, 6), (1, 7), (2, 8), (3, 9), (4, 10), (5, 11), (6, 12), (7, 13), (8, 14), (9, 15), (10, 16), (11, 17), (12, 18), (13, 19), (15, 20), (16, 21)]) (j := 5) (d := 11) rfl (fun _ _ h => h)) (envS_next ?_)
      · intro p hp hne; simp only [List.mem_cons, List.not_mem_nil, or_false] at hp; rcases hp with rfl | rfl | rfl | rfl | rfl | rfl | rfl | rfl | rfl | rfl | rfl | rfl | rfl | rfl | rfl | rfl <;> first | exact absurd rfl hne | exact ⟨rfl, rfl⟩
    · have d6 := hdir 6 (List.mem_of_elem_eq_true (by kernel_rfl))
      refine ⟨_, rfl, ?_⟩
      refine LP.weak (t := 12) (v := pt b5) (envS_is (j := 6) rfl d6) ?_
      refine A.u (LU.fieldO Tryd.underlying68 rfl Tryd.sizeOf65 (by decide) Is.rfl') rfl ?_
      refine ⟨⟨s1, q1, s2, q2⟩, Weaker.mk' ?_ (HSub.refl _)⟩
      refine env_back1 (envS_hit (sl := [(0, 6), (1, 7), (2, 8), (3, 9), (4, 10), (5, 11), (6, 12), (7, 13), (8, 14), (9, 15), (10, 16), (11, 17), (12, 18), (13, 19), (15, 20), (16, 21)]) (j := 7) (d := 13) rfl (fun _ _ h => h)) (envS_hit (sl := [(0, 6), (1, 7), (2, 8), (3, 9), (4, 10), (5, 11), (6, 12), (7, 13), (8, 14), (9, 15), (10, 16), (11, 17), (12, 18), (13, 19), (15, 20), (16, 21)]) (j := 6) (d := 12) rfl (fun _ _ h => h)) (envS_next ?_)
      · intro p hp hne; simp only [List.mem_cons, List.not_mem_nil, or_false] at hp; rcases hp with rfl | rfl | rfl | rfl | rfl | rfl | rfl | rfl | rfl | rfl | rfl | rfl | rfl | rfl | rfl | rfl <;> first | exact absurd rfl hne | exact ⟨rfl, rfl⟩
    · have d7 := hdir 7 (List.mem_of_elem_eq_true (by kernel_rfl))
      refine ⟨_, rfl, ?_⟩
      refine LP.weak (t := 13) (v := pt b5) (envS_is (j := 7) rfl d7) ?_
      refine A.u (LU.loadO 1 rfl ⟨Tryd.sizeOf65, Tryd.isAgg65⟩ Is.rfl' (Part.one rfl)) rfl ?_
      refine ⟨⟨s1, q1, s2, q2⟩, Weaker.mk' ?_ (HSub.refl _)⟩
      refine env_back1 (envS_hit (sl := [(0, 6), (1, 7), (2, 8), (3, 9), (4, 10), (5, 11), (6, 12), (7, 13), (8, 14), (9, 15), (10, 16), (11, 17), (12, 18), (13, 19), (15, 20), (16, 21)]) (j := 8) (d := 14) rfl (fun _ _ h => h)) (envS_hit (sl := [(0, 6), (1, 7), (2, 8), (3, 9), (4, 10), (5, 11), (6, 12), (7, 13), (8, 14), (9, 15), (10, 16), (11, 17), (12, 18), (13, 19), (15, 20), (16, 21)]) (j := 7) (d := 13) rfl (fun _ _ h => h)) (envS_next ?_)
      · intro p hp hne; simp only [List.mem_cons, List.not_mem_nil, or_false] at hp; rcases hp with rfl | rfl | rfl | rfl | rfl | rfl | rfl | rfl | rfl | rfl | rfl | rfl | rfl | rfl | rfl | rfl <;> first | exact absurd rfl hne | exact ⟨rfl, rfl⟩
    · refine ⟨_, rfl, ?_⟩
      refine A.u (LU.loadK 3 rfl ⟨Tryd.sizeOf35, Tryd.isAgg35⟩ Is.rfl' (by decide) (by decide) (Part.whole (by (simp; done)))) rfl ?_
      refine ⟨⟨s1, q1, s2, q2⟩, Weaker.mk' ?_ (HSub.refl _)⟩
      refine env_back0 (envS_hit (sl := [(0, 6), (1, 7), (2, 8), (3, 9), (4, 10), (5, 11), (6, 12), (7, 13), (8, 14), (9, 15), (10, 16), (11, 17), (12, 18), (13, 19), (15, 20), (16, 21)]) (j := 9) (d := 15) rfl (fun _ _ h => h))  (envS_next ?_)
      · intro p hp hne; simp only [List.mem_cons, List.not_mem_nil, or_false] at hp; rcases hp with rfl | rfl | rfl | rfl | rfl | rfl | rfl | rfl | rfl | rfl | rfl | rfl | rfl | rfl | rfl | rfl <;> first | exact absurd rfl hne | exact ⟨rfl, rfl⟩
    · refine ⟨_, rfl, ?_⟩
      refine A.u (LU.weak (LU.build (places := #[(0, 1), (1, 1), (2, 1), (3, 1), (4, 1)]) Tryd.underlying73 Tryd.zeroValue73 (ones rfl) (by intro w; simp [Tryd.sizeOf26, Tryd.sizeOf3, Tryd.sizeOf71, Tryd.sizeOf9]) Parts.nil rfl) (ln0_agg)) rfl ?_
      refine ⟨⟨s1, q1, s2, q2⟩, Weaker.mk' ?_ (HSub.refl _)⟩
      refine env_back0 (envS_hit (sl := [(0, 6), (1, 7), (2, 8), (3, 9), (4, 10), (5, 11), (6, 12), (7, 13), (8, 14), (9, 15), (10, 16), (11, 17), (12, 18), (13, 19), (15, 20), (16, 21)]) (j := 10) (d := 16) rfl (fun _ _ h => h))  (envS_next ?_)
      · intro p hp hne; simp only [List.mem_cons, List.not_mem_nil, or_false] at hp; rcases hp with rfl | rfl | rfl | rfl | rfl | rfl | rfl | rfl | rfl | rfl | rfl | rfl | rfl | rfl | rfl | rfl <;> first | exact absurd rfl hne | exact ⟨rfl, rfl⟩
    · refine ⟨_, rfl, ?_⟩
      refine A.u (LU.weak (LU.build (places := #[(0, 1), (1, 1), (2, 1), (3, 1), (4, 1)]) Tryd.underlying73 Tryd.zeroValue73 (ones rfl) (by intro w; simp [Tryd.sizeOf26, Tryd.sizeOf3, Tryd.sizeOf71, Tryd.sizeOf9]) Parts.nil rfl) (ln0_agg)) rfl ?_
      refine ⟨⟨s1, q1, s2, q2⟩, Weaker.mk' ?_ (HSub.refl _)⟩
      refine env_back0 (envS_hit (sl := [(0, 6), (1, 7), (2, 8), (3, 9), (4, 10), (5, 11), (6, 12), (7, 13), (8, 14), (9, 15), (10, 16), (11, 17), (12, 18), (13, 19), (15, 20), (16, 21)]) (j := 11) (d := 17) rfl (fun _ _ h => h))  (envS_next ?_)
      · intro p hp hne; simp only [List.mem_cons, List.not_mem_nil, or_false] at hp; rcases hp with rfl | rfl | rfl | rfl | rfl | rfl | rfl | rfl | rfl | rfl | rfl | rfl | rfl | rfl | rfl | rfl <;> first | exact absurd rfl hne | exact ⟨rfl, rfl⟩
    · have d3 := hdir 3 (List.mem_of_elem_eq_true (by kernel_rfl))
      have d4 := hdir 4 (List.mem_of_elem_eq_true (by kernel_rfl))
      have d8 := hdir 8 (List.mem_of_elem_eq_true (by kernel_rfl))
      have d9 := hdir 9 (List.mem_of_elem_eq_true (by kernel_rfl))
      refine ⟨_, rfl, ?_⟩
      have h13 : f 13 = false := Bool.eq_false_iff.2 (fun h => by rw [hdown 13 (by omega) h 12 (List.mem_of_elem_eq_true (by kernel_rfl))] at hfi; cases hfi)
      have h14 : f 14 = false := Bool.eq_false_iff.2 (fun h => by rw [hdown 14 (by omega) h 12 (List.mem_of_elem_eq_true (by kernel_rfl))] at hfi; cases hfi)
      have h15 : f 15 = false := Bool.eq_false_iff.2 (fun h => by rw [hdown 15 (by omega) h 14 (List.mem_of_elem_eq_true (by kernel_rfl))] at h14; cases h14)
      have h17 : f 17 = false := Bool.eq_false_iff.2 (fun h => by rw [hdown 17 (by omega) h 15 (List.mem_of_elem_eq_true (by kernel_rfl))] at h15; cases h15)
      refine LP.ghost (H' := gA b2 [] :: gC b5 b2 b3 0 :: gP b3 [] :: kb :: Rf) (by rw [h17, h15, h14, hfi]; exact HSub.refl _) ?_
      refine LP.weak (t := 9) (v := .raw (.map (some b2))) (envS_is (j := 3) rfl d3) ?_
      refine LP.weak (t := 10) (v := .agg (vxL topV)) (envS_is (j := 4) rfl d4) ?_
      refine A.act (LO.mapEntry (st := ⟨_, _, _⟩) 0 rfl (KeyOk.vx vxty) rfl Tryd.underlying65 Tryd.zeroValue73 Is.rfl' (by exact Is.vx _) (fun s18 => ?_))
      refine ⟨(s18, q1, s2, q2), Weaker.mk' ?_ (by show L.HSub _ (cond (f 17) (.map b2 (mp vxV (setM (encM lnE [(topV, ln0)]) botV (lnE ln0)))) (cond (f 15) (.mape b2 (mp vxV (entM (encM lnE [(topV, ln0)]) botV (.raw z73))) (entI (encM lnE [(topV, ln0)]) botV) (cond (f 16) q2 s2)) (cond (f 14) (gA b2 [(topV, ln0)]) (cond true (.mape b2 (mp vxV (entM (encM lnE []) topV (.raw z73))) (entI (encM lnE []) topV) (cond (f 13) q1 s18)) (gA b2 [])))) :: gC b5 b2 b3 0 :: gP b3 [] :: kb :: Rf); rw [h17, h15, h14, h13]; exact HSub.refl _)⟩
      refine env_back2 (envS_hit (sl := [(0, 6), (1, 7), (2, 8), (3, 9), (4, 10), (5, 11), (6, 12), (7, 13), (8, 14), (9, 15), (10, 16), (11, 17), (12, 18), (13, 19), (15, 20), (16, 21)]) (j := 12) (d := 18) rfl (is_tup2 (at_is [] topV) Is.rfl')) (envS_hit (sl := [(0, 6), (1, 7), (2, 8), (3, 9), (4, 10), (5, 11), (6, 12), (7, 13), (8, 14), (9, 15), (10, 16), (11, 17), (12, 18), (13, 19), (15, 20), (16, 21)]) (j := 4) (d := 10) rfl (fun _ _ h => h)) (envS_hit (sl := [(0, 6), (1, 7), (2, 8), (3, 9), (4, 10), (5, 11), (6, 12), (7, 13), (8, 14), (9, 15), (10, 16), (11, 17), (12, 18), (13, 19), (15, 20), (16, 21)]) (j := 3) (d := 9) rfl (fun _ _ h => h)) (envS_next ?_)
      · intro p hp hne; simp only [List.mem_cons, List.not_mem_nil, or_false] at hp; rcases hp with rfl | rfl | rfl | rfl | rfl | rfl | rfl | rfl | rfl | rfl | rfl | rfl | rfl | rfl | rfl | rfl <;> first | exact absurd rfl hne | exact ⟨rfl, rfl⟩
    · have d12 := hdir 12 (List.mem_of_elem_eq_true (by kernel_rfl))
      refine ⟨_, rfl, ?_⟩
      refine LP.weak (t := 18) (v := .tup [lnE ln0, i64 (s1 : Nat)]) (envS_is (j := 12) rfl d12) ?_
      refine A.u (LU.extract Is.rfl' rfl) rfl ?_
      refine ⟨(s1, s1, s2, q2), Weaker.mk' ?_ (by show L.HSub (cond (f 17) (.map b2 (mp vxV (setM (encM lnE [(topV, ln0)]) botV (lnE ln0)))) (cond (f 15) (.mape b2 (mp vxV (entM (encM lnE [(topV, ln0)]) botV (.raw z73))) (entI (encM lnE [(topV, ln0)]) botV) (cond (f 16) q2 s2)) (cond (f 14) (gA b2 [(topV, ln0)]) (cond (f 12) (.mape b2 (mp vxV (entM (encM lnE []) topV (.raw z73))) (entI (encM lnE []) topV) (cond (f 13) q1 s1)) (gA b2 [])))) :: gC b5 b2 b3 0 :: gP b3 [] :: kb :: Rf) (cond (f 17) (.map b2 (mp vxV (setM (encM lnE [(topV, ln0)]) botV (lnE ln0)))) (cond (f 15) (.mape b2 (mp vxV (entM (encM lnE [(topV, ln0)]) botV (.raw z73))) (entI (encM lnE [(topV, ln0)]) botV) (cond (f 16) q2 s2)) (cond (f 14) (gA b2 [(topV, ln0)]) (cond (f 12) (.mape b2 (mp vxV (entM (encM lnE []) topV (.raw z73))) (entI (encM lnE []) topV) (s1)) (gA b2 [])))) :: gC b5 b2 b3 0 :: gP b3 [] :: kb :: Rf); rw [hfi]; exact HSub.refl _)⟩
      refine env_back1 (envS_hit (sl := [(0, 6), (1, 7), (2, 8), (3, 9), (4, 10), (5, 11), (6, 12), (7, 13), (8, 14), (9, 15), (10, 16), (11, 17), (12, 18), (13, 19), (15, 20), (16, 21)]) (j := 13) (d := 19) rfl (fun _ _ h => h)) (envS_hit (sl := [(0, 6), (1, 7), (2, 8), (3, 9), (4, 10), (5, 11), (6, 12), (7, 13), (8, 14), (9, 15), (10, 16), (11, 17), (12, 18), (13, 19), (15, 20), (16, 21)]) (j := 12) (d := 18) rfl (fun _ _ h => h)) (envS_next ?_)
      · intro p hp hne; simp only [List.mem_cons, List.not_mem_nil, or_false] at hp; rcases hp with rfl | rfl | rfl | rfl | rfl | rfl | rfl | rfl | rfl | rfl | rfl | rfl | rfl | rfl | rfl | rfl <;> first | exact absurd rfl hne | exact ⟨rfl, rfl⟩
    · have d0 := hdir 0 (List.mem_of_elem_eq_true (by kernel_rfl))
      have d1 := hdir 1 (List.mem_of_elem_eq_true (by kernel_rfl))
      have d2 := hdir 2 (List.mem_of_elem_eq_true (by kernel_rfl))
      have d3 := hdir 3 (List.mem_of_elem_eq_true (by kernel_rfl))
      have d4 := hdir 4 (List.mem_of_elem_eq_true (by kernel_rfl))
      have d8 := hdir 8 (List.mem_of_elem_eq_true (by kernel_rfl))
      have d9 := hdir 9 (List.mem_of_elem_eq_true (by kernel_rfl))
      have d10 := hdir 10 (List.mem_of_elem_eq_true (by kernel_rfl))
      have d12 := hdir 12 (List.mem_of_elem_eq_true (by kernel_rfl))
      have d13 := hdir 13 (List.mem_of_elem_eq_true (by kernel_rfl))
      refine ⟨_, rfl, ?_⟩
      have h12 : f 12 = true := hdir 12 (List.mem_of_elem_eq_true (by kernel_rfl))
      have h13 : f 13 = true := hdir 13 (List.mem_of_elem_eq_true (by kernel_rfl))
      have h15 : f 15 = false := Bool.eq_false_iff.2 (fun h => by rw [hdown 15 (by omega) h 14 (List.mem_of_elem_eq_true (by kernel_rfl))] at hfi; cases hfi)
      have h17 : f 17 = false := Bool.eq_false_iff.2 (fun h => by rw [hdown 17 (by omega) h 15 (List.mem_of_elem_eq_true (by kernel_rfl))] at h15; cases h15)
      refine LP.ghost (H' := .mape b2 (mp vxV (entM (encM lnE []) topV (.raw z73))) (entI (encM lnE []) topV) (q1) :: gC b5 b2 b3 0 :: gP b3 [] :: kb :: Rf) (by rw [h17, h15, hfi, h12, h13]; exact HSub.refl _) ?_
      refine LP.weak (t := 9) (v := .raw (.map (some b2))) (envS_is (j := 3) rfl d3) ?_
      refine LP.weak (t := 16) (v := lnE ln0) (envS_is (j := 10) rfl d10) ?_
      refine LP.weak (t := 19) (v := i64 (q1 : Nat)) (envS_is (j := 13) rfl d13) ?_
      refine A.act (X.entryStore 0 rfl Is.rfl' Is.rfl' Is.rfl' ?_)
      refine ⟨(s1, q1, s2, q2), Weaker.mk' ?_ (by show L.HSub _ (cond (f 17) (.map b2 (mp vxV (setM (encM lnE [(topV, ln0)]) botV (lnE ln0)))) (cond (f 15) (.mape b2 (mp vxV (entM (encM lnE [(topV, ln0)]) botV (.raw z73))) (entI (encM lnE [(topV, ln0)]) botV) (cond (f 16) q2 s2)) (cond true (gA b2 [(topV, ln0)]) (cond (f 12) (.mape b2 (mp vxV (entM (encM lnE []) topV (.raw z73))) (entI (encM lnE []) topV) (cond (f 13) q1 s1)) (gA b2 [])))) :: gC b5 b2 b3 0 :: gP b3 [] :: kb :: Rf); rw [h17, h15]; exact HSub.refl _)⟩
      refine env_back2 (envS_hit (sl := [(0, 6), (1, 7), (2, 8), (3, 9), (4, 10), (5, 11), (6, 12), (7, 13), (8, 14), (9, 15), (10, 16), (11, 17), (12, 18), (13, 19), (15, 20), (16, 21)]) (j := 13) (d := 19) rfl (fun _ _ h => h)) (envS_hit (sl := [(0, 6), (1, 7), (2, 8), (3, 9), (4, 10), (5, 11), (6, 12), (7, 13), (8, 14), (9, 15), (10, 16), (11, 17), (12, 18), (13, 19), (15, 20), (16, 21)]) (j := 10) (d := 16) rfl (fun _ _ h => h)) (envS_hit (sl := [(0, 6), (1, 7), (2, 8), (3, 9), (4, 10), (5, 11), (6, 12), (7, 13), (8, 14), (9, 15), (10, 16), (11, 17), (12, 18), (13, 19), (15, 20), (16, 21)]) (j := 3) (d := 9) rfl (fun _ _ h => h)) (envS_next ?_)
      · intro p hp hne; simp only [List.mem_cons, List.not_mem_nil, or_false] at hp; rcases hp with rfl | rfl | rfl | rfl | rfl | rfl | rfl | rfl | rfl | rfl | rfl | rfl | rfl | rfl | rfl | rfl <;> first | exact absurd rfl hne | exact ⟨rfl, rfl⟩
    · have d0 := hdir 0 (List.mem_of_elem_eq_true (by kernel_rfl))
      have d1 := hdir 1 (List.mem_of_elem_eq_true (by kernel_rfl))
      have d2 := hdir 2 (List.mem_of_elem_eq_true (by kernel_rfl))
      have d3 := hdir 3 (List.mem_of_elem_eq_true (by kernel_rfl))
      have d4 := hdir 4 (List.mem_of_elem_eq_true (by kernel_rfl))
      have d8 := hdir 8 (List.mem_of_elem_eq_true (by kernel_rfl))
      have d9 := hdir 9 (List.mem_of_elem_eq_true (by kernel_rfl))
      have d10 := hdir 10 (List.mem_of_elem_eq_true (by kernel_rfl))
      have d12 := hdir 12 (List.mem_of_elem_eq_true (by kernel_rfl))
      have d13 := hdir 13 (List.mem_of_elem_eq_true (by kernel_rfl))
      have d14 := hdir 14 (List.mem_of_elem_eq_true (by kernel_rfl))
      refine ⟨_, rfl, ?_⟩
      have h14 : f 14 = true := hdir 14 (List.mem_of_elem_eq_true (by kernel_rfl))
      have h16 : f 16 = false := Bool.eq_false_iff.2 (fun h => by rw [hdown 16 (by omega) h 15 (List.mem_of_elem_eq_true (by kernel_rfl))] at hfi; cases hfi)
      have h17 : f 17 = false := Bool.eq_false_iff.2 (fun h => by rw [hdown 17 (by omega) h 15 (List.mem_of_elem_eq_true (by kernel_rfl))] at hfi; cases hfi)
      refine LP.ghost (H' := gA b2 [(topV, ln0)] :: gC b5 b2 b3 0 :: gP b3 [] :: kb :: Rf) (by rw [h17, hfi, h14]; exact HSub.refl _) ?_
      refine LP.weak (t := 14) (v := .raw (.map (some b2))) (envS_is (j := 8) rfl d8) ?_
      refine LP.weak (t := 15) (v := .agg (vxL botV)) (envS_is (j := 9) rfl d9) ?_
      refine A.act (LO.mapEntry (st := ⟨_, _, _⟩) 0 rfl (KeyOk.vx vxty) rfl Tryd.underlying65 Tryd.zeroValue73 Is.rfl' (by exact Is.vx _) (fun s20 => ?_))
      refine ⟨(s1, q1, s20, q2), Weaker.mk' ?_ (by show L.HSub _ (cond (f 17) (.map b2 (mp vxV (setM (encM lnE [(topV, ln0)]) botV (lnE ln0)))) (cond true (.mape b2 (mp vxV (entM (encM lnE [(topV, ln0)]) botV (.raw z73))) (entI (encM lnE [(topV, ln0)]) botV) (cond (f 16) q2 s20)) (cond (f 14) (gA b2 [(topV, ln0)]) (cond (f 12) (.mape b2 (mp vxV (entM (encM lnE []) topV (.raw z73))) (entI (encM lnE []) topV) (cond (f 13) q1 s1)) (gA b2 [])))) :: gC b5 b2 b3 0 :: gP b3 [] :: kb :: Rf); rw [h17, h16]; exact HSub.refl _)⟩
      refine env_back2 (envS_hit (sl := [(0, 6), (1, 7), (2, 8), (3, 9), (4, 10), (5, 11), (6, 12), (7, 13), (8, 14), (9, 15), (10, 16), (11, 17), (12, 18), (13, 19), (15, 20), (16, 21)]) (j := 15) (d := 20) rfl (is_tup2 at1_bot Is.rfl')) (envS_hit (sl := [(0, 6), (1, 7), (2, 8), (3, 9), (4, 10), (5, 11), (6, 12), (7, 13), (8, 14), (9, 15), (10, 16), (11, 17), (12, 18), (13, 19), (15, 20), (16, 21)]) (j := 9) (d := 15) rfl (fun _ _ h => h)) (envS_hit (sl := [(0, 6), (1, 7), (2, 8), (3, 9), (4, 10), (5, 11), (6, 12), (7, 13), (8, 14), (9, 15), (10, 16), (11, 17), (12, 18), (13, 19), (15, 20), (16, 21)]) (j := 8) (d := 14) rfl (fun _ _ h => h)) (envS_next ?_)
      · intro p hp hne; simp only [List.mem_cons, List.not_mem_nil, or_false] at hp; rcases hp with rfl | rfl | rfl | rfl | rfl | rfl | rfl | rfl | rfl | rfl | rfl | rfl | rfl | rfl | rfl | rfl <;> first | exact absurd rfl hne | exact ⟨rfl, rfl⟩
    · have d15 := hdir 15 (List.mem_of_elem_eq_true (by kernel_rfl))
      refine ⟨_, rfl, ?_⟩
      refine LP.weak (t := 20) (v := .tup [lnE ln0, i64 (s2 : Nat)]) (envS_is (j := 15) rfl d15) ?_
      refine A.u (LU.extract Is.rfl' rfl) rfl ?_
      refine ⟨(s1, q1, s2, s2), Weaker.mk' ?_ (by show L.HSub (cond (f 17) (.map b2 (mp vxV (setM (encM lnE [(topV, ln0)]) botV (lnE ln0)))) (cond (f 15) (.mape b2 (mp vxV (entM (encM lnE [(topV, ln0)]) botV (.raw z73))) (entI (encM lnE [(topV, ln0)]) botV) (cond (f 16) q2 s2)) (cond (f 14) (gA b2 [(topV, ln0)]) (cond (f 12) (.mape b2 (mp vxV (entM (encM lnE []) topV (.raw z73))) (entI (encM lnE []) topV) (cond (f 13) q1 s1)) (gA b2 [])))) :: gC b5 b2 b3 0 :: gP b3 [] :: kb :: Rf) (cond (f 17) (.map b2 (mp vxV (setM (encM lnE [(topV, ln0)]) botV (lnE ln0)))) (cond (f 15) (.mape b2 (mp vxV (entM (encM lnE [(topV, ln0)]) botV (.raw z73))) (entI (encM lnE [(topV, ln0)]) botV) (s2)) (cond (f 14) (gA b2 [(topV, ln0)]) (cond (f 12) (.mape b2 (mp vxV (entM (encM lnE []) topV (.raw z73))) (entI (encM lnE []) topV) (cond (f 13) q1 s1)) (gA b2 [])))) :: gC b5 b2 b3 0 :: gP b3 [] :: kb :: Rf); rw [hfi]; exact HSub.refl _)⟩
      refine env_back1 (envS_hit (sl := [(0, 6), (1, 7), (2, 8), (3, 9), (4, 10), (5, 11), (6, 12), (7, 13), (8, 14), (9, 15), (10, 16), (11, 17), (12, 18), (13, 19), (15, 20), (16, 21)]) (j := 16) (d := 21) rfl (fun _ _ h => h)) (envS_hit (sl := [(0, 6), (1, 7), (2, 8), (3, 9), (4, 10), (5, 11), (6, 12), (7, 13), (8, 14), (9, 15), (10, 16), (11, 17), (12, 18), (13, 19), (15, 20), (16, 21)]) (j := 15) (d := 20) rfl (fun _ _ h => h)) (envS_next ?_)
      · intro p hp hne; simp only [List.mem_cons, List.not_mem_nil, or_false] at hp; rcases hp with rfl | rfl | rfl | rfl | rfl | rfl | rfl | rfl | rfl | rfl | rfl | rfl | rfl | rfl | rfl | rfl <;> first | exact absurd rfl hne | exact ⟨rfl, rfl⟩
    · have d0 := hdir 0 (List.mem_of_elem_eq_true (by kernel_rfl))
      have d1 := hdir 1 (List.mem_of_elem_eq_true (by kernel_rfl))
      have d2 := hdir 2 (List.mem_of_elem_eq_true (by kernel_rfl))
      have d3 := hdir 3 (List.mem_of_elem_eq_true (by kernel_rfl))
      have d4 := hdir 4 (List.mem_of_elem_eq_true (by kernel_rfl))
      have d5 := hdir 5 (List.mem_of_elem_eq_true (by kernel_rfl))
      have d6 := hdir 6 (List.mem_of_elem_eq_true (by kernel_rfl))
      have d7 := hdir 7 (List.mem_of_elem_eq_true (by kernel_rfl))
      have d8 := hdir 8 (List.mem_of_elem_eq_true (by kernel_rfl))
      have d9 := hdir 9 (List.mem_of_elem_eq_true (by kernel_rfl))
      have d10 := hdir 10 (List.mem_of_elem_eq_true (by kernel_rfl))
      have d11 := hdir 11 (List.mem_of_elem_eq_true (by kernel_rfl))
      have d12 := hdir 12 (List.mem_of_elem_eq_true (by kernel_rfl))
      have d13 := hdir 13 (List.mem_of_elem_eq_true (by kernel_rfl))
      have d14 := hdir 14 (List.mem_of_elem_eq_true (by kernel_rfl))
      have d15 := hdir 15 (List.mem_of_elem_eq_true (by kernel_rfl))
      have d16 := hdir 16 (List.mem_of_elem_eq_true (by kernel_rfl))
      refine ⟨_, rfl, ?_⟩
      have h15 : f 15 = true := hdir 15 (List.mem_of_elem_eq_true (by kernel_rfl))
      have h16 : f 16 = true := hdir 16 (List.mem_of_elem_eq_true (by kernel_rfl))
      refine LP.ghost (H' := .mape b2 (mp vxV (entM (encM lnE [(topV, ln0)]) botV (.raw z73))) (entI (encM lnE [(topV, ln0)]) botV) (q2) :: gC b5 b2 b3 0 :: gP b3 [] :: kb :: Rf) (by rw [hfi, h15, h16]; exact HSub.refl _) ?_
      refine LP.weak (t := 14) (v := .raw (.map (some b2))) (envS_is (j := 8) rfl d8) ?_
      refine LP.weak (t := 17) (v := lnE ln0) (envS_is (j := 11) rfl d11) ?_
      refine LP.weak (t := 21) (v := i64 (q2 : Nat)) (envS_is (j := 16) rfl d16) ?_
      refine A.act (X.entryStore 0 rfl Is.rfl' Is.rfl' Is.rfl' ?_)
      refine ⟨(s1, q1, s2, q2), Weaker.mk' ?_ (HSub.refl _)⟩
      refine env_back2 (envS_hit (sl := [(0, 6), (1, 7), (2, 8), (3, 9), (4, 10), (5, 11), (6, 12), (7, 13), (8, 14), (9, 15), (10, 16), (11, 17), (12, 18), (13, 19), (15, 20), (16, 21)]) (j := 16) (d := 21) rfl (fun _ _ h => h)) (envS_hit (sl := [(0, 6), (1, 7), (2, 8), (3, 9), (4, 10), (5, 11), (6, 12), (7, 13), (8, 14), (9, 15), (10, 16), (11, 17), (12, 18), (13, 19), (15, 20), (16, 21)]) (j := 11) (d := 17) rfl (fun _ _ h => h)) (envS_hit (sl := [(0, 6), (1, 7), (2, 8), (3, 9), (4, 10), (5, 11), (6, 12), (7, 13), (8, 14), (9, 15), (10, 16), (11, 17), (12, 18), (13, 19), (15, 20), (16, 21)]) (j := 8) (d := 14) rfl (fun _ _ h => h)) (envS_next ?_)
      · intro p hp hne; simp only [List.mem_cons, List.not_mem_nil, or_false] at hp; rcases hp with rfl | rfl | rfl | rfl | rfl | rfl | rfl | rfl | rfl | rfl | rfl | rfl | rfl | rfl | rfl | rfl <;> first | exact absurd rfl hne | exact ⟨rfl, rfl⟩
  · intro g_ f hf_
    obtain ⟨s1, q1, s2, q2⟩ := g_
    refine X.ghost (H' := .map b2 (mp vxV (setM (encM lnE [(topV, ln0)]) botV (lnE ln0))) :: gC b5 b2 b3 0 :: gP b3 [] :: kb :: Rf) (by show L.HSub (cond (f 17) _ _ :: _) _; rw [hf_ 17 (by omega)]; exact HSub.refl _) ?_
    refine LL.nil (after_code ?_)
    refine LW.seq ?_
    refine X.wghost (H' := kb :: gC b5 b2 b3 0 :: gA b2 at0 :: gP b3 [] :: Rf) (by rw [← at0_set, ← gA_set]; exact (by repeat (first | exact HSub.refl _ | refine HSub.pick 1 rfl ?_ | refine HSub.pick 3 rfl ?_))) ?_
    refine LW.region ?_
    refine X.u (LU.moveR Is.rfl') rfl ?_
    refine X.u (LU.weak (LU.build (places := #[(0, 32), (32, 1)]) Tryd.underlying35 Tryd.zeroValue35 (ones rfl) (by intro w; simp [Tryd.sizeOf3, Tryd.sizeOf31]) Parts.nil rfl) (Is.of (y := .agg (vxL topV)) (rfl))) rfl ?_
    refine X.u (LU.loadK 0 rfl ⟨Tryd.sizeOf35, Tryd.isAgg35⟩ Is.rfl' (by decide) (by decide) (Part.whole (by (simp; done)))) rfl ?_
    refine X.act (X.call (step_calls b5 b2 b3 0 at0 topV botV (fun v => ⟨Nat.lt_of_le_of_lt (at0_sz v).1 (by decide), Nat.lt_of_le_of_lt (at0_sz v).2 (by decide)⟩)) Tryd.func29 rfl rfl rfl (HSub.pick 1 rfl (HSub.pick 1 rfl (HSub.refl _))) (Opds.cons Is.rfl' (Opds.cons Is.rfl' (Opds.cons Is.rfl' Opds.nil))) ?_)
    rintro r H' ⟨rfl, rfl⟩
    refine LL.nil (after_code ?_)
    refine LW.seq ?_
    refine LW.region ?_
    refine X.u (LU.moveR Is.rfl') rfl ?_
    refine X.u (LU.assignR Is.rfl') rfl ?_
    refine LL.nil (after_code ?_)
    refine LW.ret (after_end ?_)
    refine X.ret (H' := [gC b5 b2 b3 0, gA b2 (stepA at0 topV botV), gP b3 [], kb]) (Res.one (by exact IsR rfl)) (by repeat (first | exact HSub.refl _ | refine HSub.pick 0 rfl ?_ | refine HSub.pick 1 rfl ?_)) ?_
    exact ⟨b5, b2, b3, rfl, rfl⟩
end Go.Proofs.YtolpkeajokjbjaaDoor
