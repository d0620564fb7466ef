/- What LinesUndo needs, part 6. -/
import Derived.Below
import Derived.WalkKit
import Derived.OwnWalk
import Derived.Deep.LoopGhost
import Derived.RangeFuncIn
import Derived.RangeFuncLeaves
import Derived.TacticsIn
import Derived.OrdersIn
import Derived.LoopIn
import Derived.LoopNIn
import Derived.Laws.Entries
import Derived.Laws.Slices
import Derived.Laws.Cells
import Derived.Deep.AppendSrc
import Derived.Deep.MidRow
import Derived.Laws.AppendOwn
import Derived.Laws.MakeOwn
import Derived.Laws.IdiomCopy
import Derived.Lib.ConvBytes
import Derived.Lib.SlBytesConst
import Derived.Laws.BytesArg
import Derived.Deep.Upon
import Derived.Laws.StructEq
import Derived.Laws.Small
import Derived.SizedLaws
import Derived.ChangeSlices
import Derived.Lib.SmallJoins
import Derived.MakeChecks
import Derived.ChangeBears2
import Derived.Laws.CopyRow
import Derived.RangeFuncRecord
import Derived.Laws.Externs
import Derived.Lib.Bytealg
import Derived.Lib.IndexLaws
import Derived.DefersIn
import Derived.Lib.SliceRun
import Derived.OpenShut
import Derived.WideShapes
import Derived.Maps.RangeRun
import Derived.Sort.Row
import Derived.Lib.BytesEntry
import Derived.Lib.SlFresh
import Derived.Test.YtolpkeajokjbjaaDoorProg
import Derived.Test.YtolpkeajokjbjaaDoorRows
import Derived.LaidMore
import Derived.LaidHandle
import Derived.ChangeSame
import Derived.Test.YtolpkeajokjbjaaDoorBLinesUndo5
set_option linter.unusedVariables false
set_option linter.unusedSimpArgs false
namespace Go.Proofs.YtolpkeajokjbjaaDoor
open Go.RowKit Go.L Go.Lib
attribute [local irreducible] LL LW LO LP LA
theorem shown_cnt {r : Rg} (ho : Ok r) : (shownG r).length = (idsG r.L).length := by
  unfold shownG; rw [List.length_map]; exact ((orderG_ord r).perm ho).length_eq
theorem radd_cnt {r : Rg} {up down : Vx} {ids : List Vx} {ts : List (List UInt8)} (he : raddE r up down ids ts = 0) : (idsG (raddG r up down ids ts).L).length = (idsG r.L).length + ids.length := by
  unfold raddG
  rw [if_pos he]
  show (idsG (r.L ++ [_])).length = _
  rw [ids_snoc, List.length_append]
section
variable {s : St} {r : Rg} {c : Nat}
theorem kill_r2 (g : Nat) (hs : StR s r c) (hc : c < 90000) (v : Vx) (b : Hs) :
    LCalls Tryd.prog 10 [pt g, .agg (vxL v), .agg (hsL b)] (H4 g s) (fun x H' => (x = i64 0 ∧ rkE r v b = 0 ∧ ∃ s', H' = H4 g s' ∧ StR s' (rkG r v b) (c + 1)) ∨ (x = i64 (rkE r v b : Nat) ∧ rkE r v b ≠ 0 ∧ ∃ s', H' = H4 g s' ∧ StR s' r (c + 1))) :=
  (kill_r g hs hc v b).mono fun x H' ⟨h1, s', h2, h3⟩ => by
    by_cases e : rkE r v b = 0
    · exact .inl ⟨by rw [h1, e]; rfl, e, s', h2, h3⟩
    · have hG : rkG r v b = r := by unfold rkG; rw [if_neg e]
      exact .inr ⟨h1, e, s', h2, by rw [← hG]; exact h3⟩
end
section
variable {s : St} {r : Rg} {c : Nat}
theorem add_ok (g : Nat) (hs : StR s r c) (hc : c < 90000) (up down : Vx) (ids : List Vx) (ts : List (List UInt8)) (k1 k2 : Cap) (hi : ids.length < 100000) (hts : ts.length < 100000) (e : raddE r up down ids ts = 0) :
    ∃ s1, LCalls Tryd.prog 11 [pt g, .agg (vxL up), .agg (vxL down), Vxs ids k1, .sl 1 (strsL ts) k2] (H4 g s) (fun x H' => x = i64 0 ∧ H' = H4 g s1) ∧ StR s1 (raddG r up down ids ts) (c + 1) := by
  have hml := hs.mlen
  have hn := hs.nc
  have hG : raddG r up down ids ts = ⟨r.L ++ [⟨up, down, ids, ts⟩], r.D⟩ := by unfold raddG; rw [if_pos e]
  refine ⟨⟨s.ma, s.mb, s.n + 1, addM s.m (s.n + 1) up down ids ts, setA s.q (s.n + 1) ⟨up, down, ids⟩⟩, (add_calls g s.ma s.mb s.n s.m s.q up down ids ts k1 k2 (aheadG r up down) 1025 (hs.rel.alln hs.ok) (hs.rel.sz hs.ok) (by decide) (by omega) hs.n0 (by omega) hi hts (fun _ _ => by rw [hs.rel.nx]; exact hs.ok.ahead up down)).mono fun x H' ⟨h1, h2⟩ => ?_, hs.rel.add hs.ok hs.n0 e, hs.ok.radd up down ids ts, ?_, ?_, ?_⟩
  · rw [hs.rel.addE, e] at h1 h2
    exact ⟨h1, h2⟩
  · show 0 ≤ s.n + 1; have := hs.n0; omega
  · show s.n + 1 ≤ ((c + 1 : Nat) : Int); omega
  · rw [hG]; have := hs.dc; show r.D.length ≤ c + 1; omega
theorem add_no (g : Nat) (hs : StR s r c) (hc : c < 90000) (up down : Vx) (ids : List Vx) (ts : List (List UInt8)) (k1 k2 : Cap) (hi : ids.length < 100000) (hts : ts.length < 100000) (e : raddE r up down ids ts ≠ 0) :
    LCalls Tryd.prog 11 [pt g, .agg (vxL up), .agg (vxL down), Vxs ids k1, .sl 1 (strsL ts) k2] (H4 g s) (fun x H' => x = i64 (raddE r up down ids ts : Nat) ∧ H' = H4 g s) := by
  have hml := hs.mlen
  have hn := hs.nc
  refine (add_calls g s.ma s.mb s.n s.m s.q up down ids ts k1 k2 (aheadG r up down) 1025 (hs.rel.alln hs.ok) (hs.rel.sz hs.ok) (by decide) (by omega) hs.n0 (by omega) hi hts (fun _ _ => by rw [hs.rel.nx]; exact hs.ok.ahead up down)).mono fun x H' ⟨h1, h2⟩ => ?_
  rw [hs.rel.addE] at h1 h2
  rw [if_neg e] at h2
  exact ⟨h1, h2⟩
end
set_option maxHeartbeats 8000000 in
set_option maxRecDepth 100000 in
theorem undo_a (l : List Ac) (a : Ac) (k : Cap) (hl : l.length < 140737488355328) (hf : Fit l) (hfa : a.ids.length < 140737488355328 ∧ a.texts.length < 140737488355328) (he : raddE (bld rg0 l) a.up a.down a.ids a.texts = 0) : LCalls Tryd.prog 5 [Acs l k, .agg (acL a)] [kb] (fun r H' => r = .raw (.bool true) ∧ H' = [kb]) := by
  have hal := ac_len a
  have hau := a.up.p.2
  have had := a.down.p.2
  have hab := a.by_.2
  refine LCalls.of Tryd.func5 rfl Tryd.ntmps5 Tryd.results5 rfl (fun Rf => ?_)
  refine LW.seq ?_
  refine LW.region ?_
  refine X.act (X.box rfl Is.rfl' (by exact Cells.agg) (fun b3 => ?_))
  refine X.u (LU.assignR Is.rfl') rfl ?_
  refine LL.nil (after_code ?_)
  refine LW.seq ?_
  refine LW.seq ?_
  refine LW.region ?_
  refine X.u (LU.moveS Is.rfl') rfl ?_
  refine X.u (LU.call (few_calls l k hl hf) Tryd.func16 rfl rfl (Opds.cons Is.rfl' Opds.nil)) rfl ?_
  refine X.u (LU.not Is.rfl') rfl ?_
  refine X.u (LU.moveR Is.rfl') rfl ?_
  refine X.gF rfl rfl (fun hg => LU.loadO 0 rfl ⟨Tryd.sizeOf52, Tryd.isAgg52⟩ (by exact Is.rfl') (Part.whole (by assumption))) rfl ?_
  refine X.gF rfl rfl (fun hg => LU.weak (LU.lits Tryd.underlying42 Tryd.sizeOf52 Tryd.zeroValue52 (ones rfl) rfl (by decide) (by decide) (Elems.cons (by exact Is.whenN hg) Cells.agg Elems.nil) (by intro e he; rw [List.mem_singleton.1 he]; exact hal) rfl) (Is.of (y := Acs [a] .full) (rfl))) rfl ?_
  refine X.gF rfl rfl (fun hg => LU.call (few_calls [a] .full (show 1 < 140737488355328 by decide) (by intro b hb; rw [List.mem_singleton.1 hb]; exact hfa)) Tryd.func16 rfl rfl (Opds.cons (by exact Is.whenN hg) Opds.nil)) rfl ?_
  refine X.gF rfl rfl (fun hg => LU.not (by exact Is.whenN hg)) rfl ?_
  refine X.u (LU.pickOr Is.rfl' Is.rfl' (fun hq => (by exact Is.whenN hq))) rfl ?_
  refine LL.nil (after_code ?_)
  refine X.cond rfl (fun h1 => ?_) (fun h1 => ?_)
  · try have h1 := of_decide_eq_true h1
    have hz0 : (0 : Nat) = 0 := rfl
    refine LW.seq ?_
    refine LW.region ?_
    refine X.u (LU.call1 1 rfl (lives_calls) Tryd.func15 rfl rfl Opds.nil) rfl ?_
    refine X.u (LU.assignR Is.rfl') rfl ?_
    refine LL.nil (after_code ?_)
    refine LW.ret (ret_code (after_end ?_))
    refine X.ret (H' := [kb]) (Res.one (by exact IsR rfl)) (by repeat (first | exact HSub.refl _ | refine HSub.pick 1 rfl ?_ | refine HSub.drop ?_)) ?_
    exact ⟨rfl, rfl⟩
  · have h1 : fewB l = true ∧ fewB [a] = true := by simpa using h1
    have hw : sumW l ≤ 120 := by have := h1.1; unfold fewB at this; simpa using this
    have hw2 : acW a ≤ 120 := by have := h1.2; unfold fewB sumW at this; simpa using this
    have hw3 : acW a = 1 + a.ids.length + a.texts.length := rfl
    refine LW.skip (after_code ?_)
    refine LW.seq ?_
    refine LW.region ?_
    refine X.u (LU.moveS Is.rfl') rfl ?_
    refine X.act (X.call (built_calls l k hw) Tryd.func17 rfl rfl rfl (by (refine HSub.pick 1 rfl ?_); exact HSub.refl _) (Opds.cons Is.rfl' Opds.nil) ?_)
    rintro r H' ⟨g, s, rfl, rfl, hs⟩
    refine X.u (LU.assignR Is.rfl') rfl ?_
    refine LL.nil (after_code ?_)
    refine LW.seq ?_
    refine X.wghost (H' := gC g s.ma s.mb s.n :: gA s.ma s.m :: kb :: gP s.mb s.q :: .cells b3 52 (acL a) :: Rf) (by repeat (first | exact HSub.refl _ | refine HSub.pick 0 rfl ?_ | refine HSub.pick 1 rfl ?_)) ?_
    obtain ⟨R, hR⟩ : ∃ R, R = bld rg0 l := ⟨_, rfl⟩
    rw [← hR] at hs he
    have ho := hs.ok
    have hD : R.D.length < 900000 := by have := hs.dc; omega
    have hsc := shown_calls g s.ma s.mb s.n s.m s.q _ hs.rel ho hD
    have hcc := conflicts_calls g s.ma s.mb s.n s.m s.q _ hs.rel ho hD
    have hcnt := shown_cnt ho
    have hol := shown_len ho
    obtain ⟨S, hS⟩ : ∃ S, S = shownG R := ⟨_, rfl⟩
    rw [← hS] at hsc hcnt hol
    obtain ⟨s1, hadd, hs1⟩ := add_ok g hs (by decide) a.up a.down a.ids a.texts .unk .unk (by omega) (by omega) he
    have hdrop := drop_r g hs1 a.ids .unk (by omega)
    rw [(undo_add ho he).1, (undo_add ho he).2] at hdrop
    refine LW.region ?_
    refine X.u (LU.moveR Is.rfl') rfl ?_
    refine X.u (LU.callP (List.Perm.refl _) (hsc) Tryd.func18 rfl rfl (Opds.cons Is.rfl' Opds.nil)) rfl ?_
    refine X.u (LU.moveR Is.rfl') rfl ?_
    refine X.u (LU.callP (List.Perm.refl _) (hcc) Tryd.func14 rfl rfl (Opds.cons Is.rfl' Opds.nil)) rfl ?_
    refine X.u (LU.assignS Is.rfl') rfl ?_
    refine X.u (LU.assignR Is.rfl') rfl ?_
    refine LL.nil (after_code ?_)
    refine X.meetK (α := St) (fun s2 => []) [3, 5, 6, 7] (fun s2 => gC g s2.ma s2.mb s2.n :: gA s2.ma s2.m :: gP s2.mb s2.q :: kb :: .cells b3 52 (acL a) :: Rf) (fun s2 => StR s2 R 121) ?_ ?_
    · refine LW.seq ?_
      refine X.wghost (H' := gC g s.ma s.mb s.n :: gA s.ma s.m :: gP s.mb s.q :: kb :: .cells b3 52 (acL a) :: Rf) (by repeat (first | exact HSub.refl _ | refine HSub.pick 0 rfl ?_ | refine HSub.pick 1 rfl ?_)) ?_
      refine LW.invM (m := 29) (γ := {t : St // StR t R 121} × Nat) [(0, 24), (1, 25), (2, 26), (3, 27), (4, 28), (5, 29), (6, 30), (7, 31), (8, 32), (9, 33), (10, 34), (11, 35), (12, 36), (13, 37), (14, 38), (15, 39), (16, 40), (17, 41), (18, 42), (19, 43), (20, 44), (21, 45), (22, 46), (23, 47), (24, 48), (25, 49), (26, 50), (27, 51), (28, 52)] (fun g_ d => match g_ with | ⟨z, z0⟩ => match d with | 24 => pt g | 25 => .raw (.pointer (some ⟨b3, 1, none⟩)) | 26 => .agg (vxL a.up) | 27 => .raw (.pointer (some ⟨b3, 34, none⟩)) | 28 => .agg (vxL a.down) | 29 => .raw (.pointer (some ⟨b3, 67, none⟩)) | 30 => Vxs a.ids .unk | 31 => .raw (.pointer (some ⟨b3, 68, none⟩)) | 32 => .sl 1 (strsL a.texts) .unk | 33 => i64 0 | 34 => bl true | 35 => bl true | 36 => pt g | 37 => i64 ((idsG (raddG R a.up a.down a.ids a.texts).L).length : Nat) | 38 => Shs S .unk | 39 => i64 (S.length : Nat) | 40 => .raw (.pointer (some ⟨b3, 67, none⟩)) | 41 => Vxs a.ids .unk | 42 => i64 (a.ids.length : Nat) | 43 => i64 ((S.length + a.ids.length : Nat) : Int) | 44 => bl false | 45 => bl false | 46 => pt g | 47 => .raw (.pointer (some ⟨b3, 67, none⟩)) | 48 => Vxs a.ids .unk | 49 => i64 0 | 50 => bl false | 51 => bl false | 52 => bl false | _ => .any) (fun g_ f => match g_ with | ⟨z, z0⟩ => .cells b3 52 (acL a) :: (cond (f 25) (H4 g z.1) (cond (f 9) (H4 g s1) (H4 g s)) ++ Rf)) (⟨s, hs.mono (by omega)⟩, 0) rfl (by kernel_rfl) rfl rfl ((by repeat (first | exact HSub.refl _ | refine HSub.pick 4 rfl ?_))) ?_ ?_
      · intro i hi f g_ hfi hdir hdown
        obtain ⟨z, z0⟩ := g_
        have hc : i = 0 ∨ i = 1 ∨ i = 2 ∨ i = 3 ∨ i = 4 ∨ i = 5 ∨ i = 6 ∨ i = 7 ∨ i = 8 ∨ i = 9 ∨ i = 10 ∨ i = 11 ∨ i = 12 ∨ i = 13 ∨ i = 14 ∨ i = 15 ∨ i = 16 ∨ i = 17 ∨ i = 18 ∨ i = 19 ∨ i = 20 ∨ i = 21 ∨ i = 22 ∨ i = 23 ∨ i = 24 ∨ i = 25 ∨ i = 26 ∨ i = 27 ∨ i = 28 := by omega
        rcases hc with rfl | rfl | rfl | rfl | rfl | rfl | rfl | rfl | rfl | rfl | rfl | rfl | rfl | rfl | rfl | rfl | rfl | rfl | rfl | rfl | rfl | rfl | rfl | rfl | rfl | rfl | rfl | rfl | rfl
        · refine ⟨_, rfl, ?_⟩
          refine A.u (LU.moveR Is.rfl') rfl ?_
          refine ⟨⟨z, z0⟩, Weaker.mk' ?_ (HSub.refl _)⟩
          refine env_back0 (envS_hit (sl := [(0, 24), (1, 25), (2, 26), (3, 27), (4, 28), (5, 29), (6, 30), (7, 31), (8, 32), (9, 33), (10, 34), (11, 35), (12, 36), (13, 37), (14, 38), (15, 39), (16, 40), (17, 41), (18, 42), (19, 43), (20, 44), (21, 45), (22, 46), (23, 47), (24, 48), (25, 49), (26, 50), (27, 51), (28, 52)]) (j := 0) (d := 24) rfl (fun _ _ h => h))  (envS_next ?_)
          · intro p hp hne; simp only [List.mem_cons, List.not_mem_nil, or_false] at hp; rcases hp with rfl | rfl | rfl | rfl | rfl | rfl | rfl | rfl | rfl | rfl | rfl | rfl | rfl | rfl | rfl | rfl | rfl | rfl | rfl | rfl | rfl | rfl | rfl | rfl | rfl | rfl | rfl | rfl | rfl <;> first | exact absurd rfl hne | exact ⟨rfl, rfl⟩
        · refine ⟨_, rfl, ?_⟩
          refine A.u (LU.fieldO Tryd.underlying52 rfl Tryd.sizeOf35 (by decide) Is.rfl') rfl ?_
          refine ⟨⟨z, z0⟩, Weaker.mk' ?_ (HSub.refl _)⟩
          refine env_back0 (envS_hit (sl := [(0, 24), (1, 25), (2, 26), (3, 27), (4, 28), (5, 29), (6, 30), (7, 31), (8, 32), (9, 33), (10, 34), (11, 35), (12, 36), (13, 37), (14, 38), (15, 39), (16, 40), (17, 41), (18, 42), (19, 43), (20, 44), (21, 45), (22, 46), (23, 47), (24, 48), (25, 49), (26, 50), (27, 51), (28, 52)]) (j := 1) (d := 25) rfl (fun _ _ h => h))  (envS_next ?_)
          · intro p hp hne; simp only [List.mem_cons, List.not_mem_nil, or_false] at hp; rcases hp with rfl | rfl | rfl | rfl | rfl | rfl | rfl | rfl | rfl | rfl | rfl | rfl | rfl | rfl | rfl | rfl | rfl | rfl | rfl | rfl | rfl | rfl | rfl | rfl | rfl | rfl | rfl | rfl | rfl <;> first | exact absurd rfl hne | exact ⟨rfl, rfl⟩
        · have d1 := hdir 1 (List.mem_of_elem_eq_true (by kernel_rfl))
          refine ⟨_, rfl, ?_⟩
          refine LP.weak (t := 25) (v := .raw (.pointer (some ⟨b3, 1, none⟩))) (envS_is (j := 1) rfl d1) ?_
          refine A.u (LU.weak (LU.loadO 0 rfl ⟨Tryd.sizeOf35, Tryd.isAgg35⟩ Is.rfl' (Part.sub (by (simp; omega)))) (Is.of (y := .agg (vxL a.up)) (congrArg LV.agg (ac_up a)))) rfl ?_
          refine ⟨⟨z, z0⟩, Weaker.mk' ?_ (HSub.refl _)⟩
          refine env_back1 (envS_hit (sl := [(0, 24), (1, 25), (2, 26), (3, 27), (4, 28), (5, 29), (6, 30), (7, 31), (8, 32), (9, 33), (10, 34), (11, 35), (12, 36), (13, 37), (14, 38), (15, 39), (16, 40), (17, 41), (18, 42), (19, 43), (20, 44), (21, 45), (22, 46), (23, 47), (24, 48), (25, 49), (26, 50), (27, 51), (28, 52)]) (j := 2) (d := 26) rfl (fun _ _ h => h)) (envS_hit (sl := [(0, 24), (1, 25), (2, 26), (3, 27), (4, 28), (5, 29), (6, 30), (7, 31), (8, 32), (9, 33), (10, 34), (11, 35), (12, 36), (13, 37), (14, 38), (15, 39), (16, 40), (17, 41), (18, 42), (19, 43), (20, 44), (21, 45), (22, 46), (23, 47), (24, 48), (25, 49), (26, 50), (27, 51), (28, 52)]) (j := 1) (d := 25) rfl (fun _ _ h => h)) (envS_next ?_)
          · intro p hp hne; simp only [List.mem_cons, List.not_mem_nil, or_false] at hp; rcases hp with rfl | rfl | rfl | rfl | rfl | rfl | rfl | rfl | rfl | rfl | rfl | rfl | rfl | rfl | rfl | rfl | rfl | rfl | rfl | rfl | rfl | rfl | rfl | rfl | rfl | rfl | rfl | rfl | rfl <;> first | exact absurd rfl hne | exact ⟨rfl, rfl⟩
        · refine ⟨_, rfl, ?_⟩
          refine A.u (LU.fieldO Tryd.underlying52 rfl Tryd.sizeOf35 (by decide) Is.rfl') rfl ?_
          refine ⟨⟨z, z0⟩, Weaker.mk' ?_ (HSub.refl _)⟩
          refine env_back0 (envS_hit (sl := [(0, 24), (1, 25), (2, 26), (3, 27), (4, 28), (5, 29), (6, 30), (7, 31), (8, 32), (9, 33), (10, 34), (11, 35), (12, 36), (13, 37), (14, 38), (15, 39), (16, 40), (17, 41), (18, 42), (19, 43), (20, 44), (21, 45), (22, 46), (23, 47), (24, 48), (25, 49), (26, 50), (27, 51), (28, 52)]) (j := 3) (d := 27) rfl (fun _ _ h => h))  (envS_next ?_)
          · intro p hp hne; simp only [List.mem_cons, List.not_mem_nil, or_false] at hp; rcases hp with rfl | rfl | rfl | rfl | rfl | rfl | rfl | rfl | rfl | rfl | rfl | rfl | rfl | rfl | rfl | rfl | rfl | rfl | rfl | rfl | rfl | rfl | rfl | rfl | rfl | rfl | rfl | rfl | rfl <;> first | exact absurd rfl hne | exact ⟨rfl, rfl⟩
        · have d3 := hdir 3 (List.mem_of_elem_eq_true (by kernel_rfl))
          refine ⟨_, rfl, ?_⟩
          refine LP.weak (t := 27) (v := .raw (.pointer (some ⟨b3, 34, none⟩))) (envS_is (j := 3) rfl d3) ?_
          refine A.u (LU.weak (LU.loadO 0 rfl ⟨Tryd.sizeOf35, Tryd.isAgg35⟩ Is.rfl' (Part.sub (by (simp; omega)))) (Is.of (y := .agg (vxL a.down)) (congrArg LV.agg (ac_down a)))) rfl ?_
          refine ⟨⟨z, z0⟩, Weaker.mk' ?_ (HSub.refl _)⟩
          refine env_back1 (envS_hit (sl := [(0, 24), (1, 25), (2, 26), (3, 27), (4, 28), (5, 29), (6, 30), (7, 31), (8, 32), (9, 33), (10, 34), (11, 35), (12, 36), (13, 37), (14, 38), (15, 39), (16, 40), (17, 41), (18, 42), (19, 43), (20, 44), (21, 45), (22, 46), (23, 47), (24, 48), (25, 49), (26, 50), (27, 51), (28, 52)]) (j := 4) (d := 28) rfl (fun _ _ h => h)) (envS_hit (sl := [(0, 24), (1, 25), (2, 26), (3, 27), (4, 28), (5, 29), (6, 30), (7, 31), (8, 32), (9, 33), (10, 34), (11, 35), (12, 36), (13, 37), (14, 38), (15, 39), (16, 40), (17, 41), (18, 42), (19, 43), (20, 44), (21, 45), (22, 46), (23, 47), (24, 48), (25, 49), (26, 50), (27, 51), (28, 52)]) (j := 3) (d := 27) rfl (fun _ _ h => h)) (envS_next ?_)
          · intro p hp hne; simp only [List.mem_cons, List.not_mem_nil, or_false] at hp; rcases hp with rfl | rfl | rfl | rfl | rfl | rfl | rfl | rfl | rfl | rfl | rfl | rfl | rfl | rfl | rfl | rfl | rfl | rfl | rfl | rfl | rfl | rfl | rfl | rfl | rfl | rfl | rfl | rfl | rfl <;> first | exact absurd rfl hne | exact ⟨rfl, rfl⟩
        · refine ⟨_, rfl, ?_⟩
          refine A.u (LU.fieldO Tryd.underlying52 rfl Tryd.sizeOf26 (by decide) Is.rfl') rfl ?_
          refine ⟨⟨z, z0⟩, Weaker.mk' ?_ (HSub.refl _)⟩
          refine env_back0 (envS_hit (sl := [(0, 24), (1, 25), (2, 26), (3, 27), (4, 28), (5, 29), (6, 30), (7, 31), (8, 32), (9, 33), (10, 34), (11, 35), (12, 36), (13, 37), (14, 38), (15, 39), (16, 40), (17, 41), (18, 42), (19, 43), (20, 44), (21, 45), (22, 46), (23, 47), (24, 48), (25, 49), (26, 50), (27, 51), (28, 52)]) (j := 5) (d := 29) rfl (fun _ _ h => h))  (envS_next ?_)
          · intro p hp hne; simp only [List.mem_cons, List.not_mem_nil, or_false] at hp; rcases hp with rfl | rfl | rfl | rfl | rfl | rfl | rfl | rfl | rfl | rfl | rfl | rfl | rfl | rfl | rfl | rfl | rfl | rfl | rfl | rfl | rfl | rfl | rfl | rfl | rfl | rfl | rfl | rfl | rfl <;> first | exact absurd rfl hne | exact ⟨rfl, rfl⟩
        · have d5 := hdir 5 (List.mem_of_elem_eq_true (by kernel_rfl))
          refine ⟨_, rfl, ?_⟩
          refine LP.weak (t := 29) (v := .raw (.pointer (some ⟨b3, 67, none⟩))) (envS_is (j := 5) rfl d5) ?_
          refine A.u (LU.loadO 0 rfl ⟨Tryd.sizeOf26, Tryd.isAgg26⟩ Is.rfl' (Part.one (ac_ids a))) rfl ?_
          refine ⟨⟨z, z0⟩, Weaker.mk' ?_ (HSub.refl _)⟩
          refine env_back1 (envS_hit (sl := [(0, 24), (1, 25), (2, 26), (3, 27), (4, 28), (5, 29), (6, 30), (7, 31), (8, 32), (9, 33), (10, 34), (11, 35), (12, 36), (13, 37), (14, 38), (15, 39), (16, 40), (17, 41), (18, 42), (19, 43), (20, 44), (21, 45), (22, 46), (23, 47), (24, 48), (25, 49), (26, 50), (27, 51), (28, 52)]) (j := 6) (d := 30) rfl (fun _ _ h => h)) (envS_hit (sl := [(0, 24), (1, 25), (2, 26), (3, 27), (4, 28), (5, 29), (6, 30), (7, 31), (8, 32), (9, 33), (10, 34), (11, 35), (12, 36), (13, 37), (14, 38), (15, 39), (16, 40), (17, 41), (18, 42), (19, 43), (20, 44), (21, 45), (22, 46), (23, 47), (24, 48), (25, 49), (26, 50), (27, 51), (28, 52)]) (j := 5) (d := 29) rfl (fun _ _ h => h)) (envS_next ?_)
          · intro p hp hne; simp only [List.mem_cons, List.not_mem_nil, or_false] at hp; rcases hp with rfl | rfl | rfl | rfl | rfl | rfl | rfl | rfl | rfl | rfl | rfl | rfl | rfl | rfl | rfl | rfl | rfl | rfl | rfl | rfl | rfl | rfl | rfl | rfl | rfl | rfl | rfl | rfl | rfl <;> first | exact absurd rfl hne | exact ⟨rfl, rfl⟩
        · refine ⟨_, rfl, ?_⟩
          refine A.u (LU.fieldO Tryd.underlying52 rfl Tryd.sizeOf25 (by decide) Is.rfl') rfl ?_
          refine ⟨⟨z, z0⟩, Weaker.mk' ?_ (HSub.refl _)⟩
          refine env_back0 (envS_hit (sl := [(0, 24), (1, 25), (2, 26), (3, 27), (4, 28), (5, 29), (6, 30), (7, 31), (8, 32), (9, 33), (10, 34), (11, 35), (12, 36), (13, 37), (14, 38), (15, 39), (16, 40), (17, 41), (18, 42), (19, 43), (20, 44), (21, 45), (22, 46), (23, 47), (24, 48), (25, 49), (26, 50), (27, 51), (28, 52)]) (j := 7) (d := 31) rfl (fun _ _ h => h))  (envS_next ?_)
          · intro p hp hne; simp only [List.mem_cons, List.not_mem_nil, or_false] at hp; rcases hp with rfl | rfl | rfl | rfl | rfl | rfl | rfl | rfl | rfl | rfl | rfl | rfl | rfl | rfl | rfl | rfl | rfl | rfl | rfl | rfl | rfl | rfl | rfl | rfl | rfl | rfl | rfl | rfl | rfl <;> first | exact absurd rfl hne | exact ⟨rfl, rfl⟩
        · have d7 := hdir 7 (List.mem_of_elem_eq_true (by kernel_rfl))
          refine ⟨_, rfl, ?_⟩
          refine LP.weak (t := 31) (v := .raw (.pointer (some ⟨b3, 68, none⟩))) (envS_is (j := 7) rfl d7) ?_
          refine A.u (LU.loadO 0 rfl ⟨Tryd.sizeOf25, Tryd.isAgg25⟩ Is.rfl' (Part.one (ac_texts a))) rfl ?_
          refine ⟨⟨z, z0⟩, Weaker.mk' ?_ (HSub.refl _)⟩
          refine env_back1 (envS_hit (sl := [(0, 24), (1, 25), (2, 26), (3, 27), (4, 28), (5, 29), (6, 30), (7, 31), (8, 32), (9, 33), (10, 34), (11, 35), (12, 36), (13, 37), (14, 38), (15, 39), (16, 40), (17, 41), (18, 42), (19, 43), (20, 44), (21, 45), (22, 46), (23, 47), (24, 48), (25, 49), (26, 50), (27, 51), (28, 52)]) (j := 8) (d := 32) rfl (fun _ _ h => h)) (envS_hit (sl := [(0, 24), (1, 25), (2, 26), (3, 27), (4, 28), (5, 29), (6, 30), (7, 31), (8, 32), (9, 33), (10, 34), (11, 35), (12, 36), (13, 37), (14, 38), (15, 39), (16, 40), (17, 41), (18, 42), (19, 43), (20, 44), (21, 45), (22, 46), (23, 47), (24, 48), (25, 49), (26, 50), (27, 51), (28, 52)]) (j := 7) (d := 31) rfl (fun _ _ h => h)) (envS_next ?_)
          · intro p hp hne; simp only [List.mem_cons, List.not_mem_nil, or_false] at hp; rcases hp with rfl | rfl | rfl | rfl | rfl | rfl | rfl | rfl | rfl | rfl | rfl | rfl | rfl | rfl | rfl | rfl | rfl | rfl | rfl | rfl | rfl | rfl | rfl | rfl | rfl | rfl | rfl | rfl | rfl <;> first | exact absurd rfl hne | exact ⟨rfl, rfl⟩
        · have d0 := hdir 0 (List.mem_of_elem_eq_true (by kernel_rfl))
          have d2 := hdir 2 (List.mem_of_elem_eq_true (by kernel_rfl))
          have d4 := hdir 4 (List.mem_of_elem_eq_true (by kernel_rfl))
          have d6 := hdir 6 (List.mem_of_elem_eq_true (by kernel_rfl))
          have d8 := hdir 8 (List.mem_of_elem_eq_true (by kernel_rfl))
          refine ⟨_, rfl, ?_⟩
          have k25 : f 25 = false := Bool.eq_false_iff.2 (fun h => by have a := hdown 25 (by omega) h 21 (List.mem_of_elem_eq_true (by kernel_rfl)); have a := hdown 21 (by omega) a 20 (List.mem_of_elem_eq_true (by kernel_rfl)); have a := hdown 20 (by omega) a 13 (List.mem_of_elem_eq_true (by kernel_rfl)); have a := hdown 13 (by omega) a 11 (List.mem_of_elem_eq_true (by kernel_rfl)); have a := hdown 11 (by omega) a 10 (List.mem_of_elem_eq_true (by kernel_rfl)); have a := hdown 10 (by omega) a 9 (List.mem_of_elem_eq_true (by kernel_rfl)); rw [a] at hfi; cases hfi)
          refine LP.ghost (H' := H4 g s ++ (.cells b3 52 (acL a) :: Rf)) (by show L.HSub (_ :: (cond (f 25) _ (cond (f 9) _ _) ++ Rf)) _; rw [k25, hfi]; exact (by repeat (first | exact HSub.refl _ | refine HSub.pick 1 rfl ?_))) ?_
          refine LP.weak (t := 24) (v := pt g) (envS_is (j := 0) rfl d0) ?_
          refine LP.weak (t := 26) (v := .agg (vxL a.up)) (envS_is (j := 2) rfl d2) ?_
          refine LP.weak (t := 28) (v := .agg (vxL a.down)) (envS_is (j := 4) rfl d4) ?_
          refine LP.weak (t := 30) (v := Vxs a.ids .unk) (envS_is (j := 6) rfl d6) ?_
          refine LP.weak (t := 32) (v := .sl 1 (strsL a.texts) .unk) (envS_is (j := 8) rfl d8) ?_
          refine A.act (X.call (hadd) Tryd.func11 rfl rfl rfl (HSub.refl _) (Opds.cons Is.rfl' (Opds.cons Is.rfl' (Opds.cons Is.rfl' (Opds.cons Is.rfl' (Opds.cons Is.rfl' Opds.nil))))) ?_)
          rintro r H' ⟨rfl, rfl⟩
          refine ⟨⟨z, z0⟩, Weaker.mk' ?_ (by show L.HSub _ (_ :: (cond (f 25) _ (cond true (H4 g s1) _) ++ Rf)); rw [k25]; exact (by repeat (first | exact HSub.refl _ | refine HSub.pick 4 rfl ?_)))⟩
          refine env_back5 (envS_hit (sl := [(0, 24), (1, 25), (2, 26), (3, 27), (4, 28), (5, 29), (6, 30), (7, 31), (8, 32), (9, 33), (10, 34), (11, 35), (12, 36), (13, 37), (14, 38), (15, 39), (16, 40), (17, 41), (18, 42), (19, 43), (20, 44), (21, 45), (22, 46), (23, 47), (24, 48), (25, 49), (26, 50), (27, 51), (28, 52)]) (j := 9) (d := 33) rfl (fun _ _ h => h)) (envS_hit (sl := [(0, 24), (1, 25), (2, 26), (3, 27), (4, 28), (5, 29), (6, 30), (7, 31), (8, 32), (9, 33), (10, 34), (11, 35), (12, 36), (13, 37), (14, 38), (15, 39), (16, 40), (17, 41), (18, 42), (19, 43), (20, 44), (21, 45), (22, 46), (23, 47), (24, 48), (25, 49), (26, 50), (27, 51), (28, 52)]) (j := 8) (d := 32) rfl (fun _ _ h => h)) (envS_hit (sl := [(0, 24), (1, 25), (2, 26), (3, 27), (4, 28), (5, 29), (6, 30), (7, 31), (8, 32), (9, 33), (10, 34), (11, 35), (12, 36), (13, 37), (14, 38), (15, 39), (16, 40), (17, 41), (18, 42), (19, 43), (20, 44), (21, 45), (22, 46), (23, 47), (24, 48), (25, 49), (26, 50), (27, 51), (28, 52)]) (j := 6) (d := 30) rfl (fun _ _ h => h)) (envS_hit (sl := [(0, 24), (1, 25), (2, 26), (3, 27), (4, 28), (5, 29), (6, 30), (7, 31), (8, 32), (9, 33), (10, 34), (11, 35), (12, 36), (13, 37), (14, 38), (15, 39), (16, 40), (17, 41), (18, 42), (19, 43), (20, 44), (21, 45), (22, 46), (23, 47), (24, 48), (25, 49), (26, 50), (27, 51), (28, 52)]) (j := 4) (d := 28) rfl (fun _ _ h => h)) (envS_hit (sl := [(0, 24), (1, 25), (2, 26), (3, 27), (4, 28), (5, 29), (6, 30), (7, 31), (8, 32), (9, 33), (10, 34), (11, 35), (12, 36), (13, 37), (14, 38), (15, 39), (16, 40), (17, 41), (18, 42), (19, 43), (20, 44), (21, 45), (22, 46), (23, 47), (24, 48), (25, 49), (26, 50), (27, 51), (28, 52)]) (j := 2) (d := 26) rfl (fun _ _ h => h)) (envS_hit (sl := [(0, 24), (1, 25), (2, 26), (3, 27), (4, 28), (5, 29), (6, 30), (7, 31), (8, 32), (9, 33), (10, 34), (11, 35), (12, 36), (13, 37), (14, 38), (15, 39), (16, 40), (17, 41), (18, 42), (19, 43), (20, 44), (21, 45), (22, 46), (23, 47), (24, 48), (25, 49), (26, 50), (27, 51), (28, 52)]) (j := 0) (d := 24) rfl (fun _ _ h => h)) (envS_next ?_)
          · intro p hp hne; simp only [List.mem_cons, List.not_mem_nil, or_false] at hp; rcases hp with rfl | rfl | rfl | rfl | rfl | rfl | rfl | rfl | rfl | rfl | rfl | rfl | rfl | rfl | rfl | rfl | rfl | rfl | rfl | rfl | rfl | rfl | rfl | rfl | rfl | rfl | rfl | rfl | rfl <;> first | exact absurd rfl hne | exact ⟨rfl, rfl⟩
        · have d9 := hdir 9 (List.mem_of_elem_eq_true (by kernel_rfl))
          refine ⟨_, rfl, ?_⟩
          refine LP.weak (t := 33) (v := i64 0) (envS_is (j := 9) rfl d9) ?_
          refine A.u (LU.weak (LU.eql Is.rfl' Is.rfl') (Is.of (y := bl true) (rfl))) rfl ?_
          refine ⟨⟨z, z0⟩, Weaker.mk' ?_ (HSub.refl _)⟩
          refine env_back1 (envS_hit (sl := [(0, 24), (1, 25), (2, 26), (3, 27), (4, 28), (5, 29), (6, 30), (7, 31), (8, 32), (9, 33), (10, 34), (11, 35), (12, 36), (13, 37), (14, 38), (15, 39), (16, 40), (17, 41), (18, 42), (19, 43), (20, 44), (21, 45), (22, 46), (23, 47), (24, 48), (25, 49), (26, 50), (27, 51), (28, 52)]) (j := 10) (d := 34) rfl (fun _ _ h => h)) (envS_hit (sl := [(0, 24), (1, 25), (2, 26), (3, 27), (4, 28), (5, 29), (6, 30), (7, 31), (8, 32), (9, 33), (10, 34), (11, 35), (12, 36), (13, 37), (14, 38), (15, 39), (16, 40), (17, 41), (18, 42), (19, 43), (20, 44), (21, 45), (22, 46), (23, 47), (24, 48), (25, 49), (26, 50), (27, 51), (28, 52)]) (j := 9) (d := 33) rfl (fun _ _ h => h)) (envS_next ?_)
          · intro p hp hne; simp only [List.mem_cons, List.not_mem_nil, or_false] at hp; rcases hp with rfl | rfl | rfl | rfl | rfl | rfl | rfl | rfl | rfl | rfl | rfl | rfl | rfl | rfl | rfl | rfl | rfl | rfl | rfl | rfl | rfl | rfl | rfl | rfl | rfl | rfl | rfl | rfl | rfl <;> first | exact absurd rfl hne | exact ⟨rfl, rfl⟩
        · have d9 := hdir 9 (List.mem_of_elem_eq_true (by kernel_rfl))
          have d10 := hdir 10 (List.mem_of_elem_eq_true (by kernel_rfl))
          refine ⟨_, rfl, ?_⟩
          refine LP.weak (t := 34) (v := bl true) (envS_is (j := 10) rfl d10) ?_
          refine A.u (LU.moveR Is.rfl') rfl ?_
          refine ⟨⟨z, z0⟩, Weaker.mk' ?_ (HSub.refl _)⟩
          refine env_back1 (envS_hit (sl := [(0, 24), (1, 25), (2, 26), (3, 27), (4, 28), (5, 29), (6, 30), (7, 31), (8, 32), (9, 33), (10, 34), (11, 35), (12, 36), (13, 37), (14, 38), (15, 39), (16, 40), (17, 41), (18, 42), (19, 43), (20, 44), (21, 45), (22, 46), (23, 47), (24, 48), (25, 49), (26, 50), (27, 51), (28, 52)]) (j := 11) (d := 35) rfl (fun _ _ h => h)) (envS_hit (sl := [(0, 24), (1, 25), (2, 26), (3, 27), (4, 28), (5, 29), (6, 30), (7, 31), (8, 32), (9, 33), (10, 34), (11, 35), (12, 36), (13, 37), (14, 38), (15, 39), (16, 40), (17, 41), (18, 42), (19, 43), (20, 44), (21, 45), (22, 46), (23, 47), (24, 48), (25, 49), (26, 50), (27, 51), (28, 52)]) (j := 10) (d := 34) rfl (fun _ _ h => h)) (envS_next ?_)
          · intro p hp hne; simp only [List.mem_cons, List.not_mem_nil, or_false] at hp; rcases hp with rfl | rfl | rfl | rfl | rfl | rfl | rfl | rfl | rfl | rfl | rfl | rfl | rfl | rfl | rfl | rfl | rfl | rfl | rfl | rfl | rfl | rfl | rfl | rfl | rfl | rfl | rfl | rfl | rfl <;> first | exact absurd rfl hne | exact ⟨rfl, rfl⟩
        · have d11 := hdir 11 (List.mem_of_elem_eq_true (by kernel_rfl))
          refine ⟨_, rfl, ?_⟩
          refine LP.weak (t := 35) (v := bl true) (envS_is (j := 11) rfl d11) ?_
          refine A.doT rfl rfl (LU.moveR (by exact Is.rfl')) rfl ?_
          refine ⟨⟨z, z0⟩, Weaker.mk' ?_ (HSub.refl _)⟩
          refine env_back1 (envS_hit (sl := [(0, 24), (1, 25), (2, 26), (3, 27), (4, 28), (5, 29), (6, 30), (7, 31), (8, 32), (9, 33), (10, 34), (11, 35), (12, 36), (13, 37), (14, 38), (15, 39), (16, 40), (17, 41), (18, 42), (19, 43), (20, 44), (21, 45), (22, 46), (23, 47), (24, 48), (25, 49), (26, 50), (27, 51), (28, 52)]) (j := 12) (d := 36) rfl (fun _ _ h => h)) (envS_hit (sl := [(0, 24), (1, 25), (2, 26), (3, 27), (4, 28), (5, 29), (6, 30), (7, 31), (8, 32), (9, 33), (10, 34), (11, 35), (12, 36), (13, 37), (14, 38), (15, 39), (16, 40), (17, 41), (18, 42), (19, 43), (20, 44), (21, 45), (22, 46), (23, 47), (24, 48), (25, 49), (26, 50), (27, 51), (28, 52)]) (j := 11) (d := 35) rfl (fun _ _ h => h)) (envS_next ?_)
          · intro p hp hne; simp only [List.mem_cons, List.not_mem_nil, or_false] at hp; rcases hp with rfl | rfl | rfl | rfl | rfl | rfl | rfl | rfl | rfl | rfl | rfl | rfl | rfl | rfl | rfl | rfl | rfl | rfl | rfl | rfl | rfl | rfl | rfl | rfl | rfl | rfl | rfl | rfl | rfl <;> first | exact absurd rfl hne | exact ⟨rfl, rfl⟩
        · have d11 := hdir 11 (List.mem_of_elem_eq_true (by kernel_rfl))
          have d12 := hdir 12 (List.mem_of_elem_eq_true (by kernel_rfl))
          refine ⟨_, rfl, ?_⟩
          have k25 : f 25 = false := Bool.eq_false_iff.2 (fun h => by have a := hdown 25 (by omega) h 21 (List.mem_of_elem_eq_true (by kernel_rfl)); have a := hdown 21 (by omega) a 13 (List.mem_of_elem_eq_true (by kernel_rfl)); rw [a] at hfi; cases hfi)
          have k9 : f 9 = true := by have h := hdir 11 (List.mem_of_elem_eq_true (by kernel_rfl)); have a := hdown 11 (by omega) h 10 (List.mem_of_elem_eq_true (by kernel_rfl)); have a := hdown 10 (by omega) a 9 (List.mem_of_elem_eq_true (by kernel_rfl)); exact a
          refine LP.ghost (H' := H4 g s1 ++ (.cells b3 52 (acL a) :: Rf)) (by show L.HSub (_ :: (cond (f 25) _ (cond (f 9) _ _) ++ Rf)) _; rw [k25, k9]; exact (by repeat (first | exact HSub.refl _ | refine HSub.pick 1 rfl ?_))) ?_
          refine LP.weak (t := 35) (v := bl true) (envS_is (j := 11) rfl d11) ?_
          refine LP.weak (t := 36) (v := pt g) (envS_is (j := 12) rfl d12) ?_
          refine A.doT rfl rfl (LU.callP (show List.Perm _ ([gC g s1.ma s1.mb s1.n, gA s1.ma s1.m] ++ (gP s1.mb s1.q :: kb :: .cells b3 52 (acL a) :: Rf)) from List.Perm.refl _) ((len_r g hs1)) Tryd.func19 rfl rfl (Opds.cons (by exact Is.rfl') Opds.nil)) rfl ?_
          refine ⟨⟨z, z0⟩, Weaker.mk' ?_ (by show L.HSub _ (_ :: (cond (f 25) _ (cond (f 9) _ _) ++ Rf)); rw [k25, k9]; exact (by repeat (first | exact HSub.refl _ | refine HSub.pick 4 rfl ?_)))⟩
          refine env_back2 (envS_hit (sl := [(0, 24), (1, 25), (2, 26), (3, 27), (4, 28), (5, 29), (6, 30), (7, 31), (8, 32), (9, 33), (10, 34), (11, 35), (12, 36), (13, 37), (14, 38), (15, 39), (16, 40), (17, 41), (18, 42), (19, 43), (20, 44), (21, 45), (22, 46), (23, 47), (24, 48), (25, 49), (26, 50), (27, 51), (28, 52)]) (j := 13) (d := 37) rfl (fun _ _ h => h)) (envS_hit (sl := [(0, 24), (1, 25), (2, 26), (3, 27), (4, 28), (5, 29), (6, 30), (7, 31), (8, 32), (9, 33), (10, 34), (11, 35), (12, 36), (13, 37), (14, 38), (15, 39), (16, 40), (17, 41), (18, 42), (19, 43), (20, 44), (21, 45), (22, 46), (23, 47), (24, 48), (25, 49), (26, 50), (27, 51), (28, 52)]) (j := 12) (d := 36) rfl (fun _ _ h => h)) (envS_hit (sl := [(0, 24), (1, 25), (2, 26), (3, 27), (4, 28), (5, 29), (6, 30), (7, 31), (8, 32), (9, 33), (10, 34), (11, 35), (12, 36), (13, 37), (14, 38), (15, 39), (16, 40), (17, 41), (18, 42), (19, 43), (20, 44), (21, 45), (22, 46), (23, 47), (24, 48), (25, 49), (26, 50), (27, 51), (28, 52)]) (j := 11) (d := 35) rfl (fun _ _ h => h)) (envS_next ?_)
          · intro p hp hne; simp only [List.mem_cons, List.not_mem_nil, or_false] at hp; rcases hp with rfl | rfl | rfl | rfl | rfl | rfl | rfl | rfl | rfl | rfl | rfl | rfl | rfl | rfl | rfl | rfl | rfl | rfl | rfl | rfl | rfl | rfl | rfl | rfl | rfl | rfl | rfl | rfl | rfl <;> first | exact absurd rfl hne | exact ⟨rfl, rfl⟩
        · have d11 := hdir 11 (List.mem_of_elem_eq_true (by kernel_rfl))
          refine ⟨_, rfl, ?_⟩
          refine LP.weak (t := 35) (v := bl true) (envS_is (j := 11) rfl d11) ?_
          refine A.doT rfl rfl (LU.moveS (by exact Is.rfl')) rfl ?_
          refine ⟨⟨z, z0⟩, Weaker.mk' ?_ (HSub.refl _)⟩
          refine env_back1 (envS_hit (sl := [(0, 24), (1, 25), (2, 26), (3, 27), (4, 28), (5, 29), (6, 30), (7, 31), (8, 32), (9, 33), (10, 34), (11, 35), (12, 36), (13, 37), (14, 38), (15, 39), (16, 40), (17, 41), (18, 42), (19, 43), (20, 44), (21, 45), (22, 46), (23, 47), (24, 48), (25, 49), (26, 50), (27, 51), (28, 52)]) (j := 14) (d := 38) rfl (fun _ _ h => h)) (envS_hit (sl := [(0, 24), (1, 25), (2, 26), (3, 27), (4, 28), (5, 29), (6, 30), (7, 31), (8, 32), (9, 33), (10, 34), (11, 35), (12, 36), (13, 37), (14, 38), (15, 39), (16, 40), (17, 41), (18, 42), (19, 43), (20, 44), (21, 45), (22, 46), (23, 47), (24, 48), (25, 49), (26, 50), (27, 51), (28, 52)]) (j := 11) (d := 35) rfl (fun _ _ h => h)) (envS_next ?_)
          · intro p hp hne; simp only [List.mem_cons, List.not_mem_nil, or_false] at hp; rcases hp with rfl | rfl | rfl | rfl | rfl | rfl | rfl | rfl | rfl | rfl | rfl | rfl | rfl | rfl | rfl | rfl | rfl | rfl | rfl | rfl | rfl | rfl | rfl | rfl | rfl | rfl | rfl | rfl | rfl <;> first | exact absurd rfl hne | exact ⟨rfl, rfl⟩
        · have d11 := hdir 11 (List.mem_of_elem_eq_true (by kernel_rfl))
          have d14 := hdir 14 (List.mem_of_elem_eq_true (by kernel_rfl))
          refine ⟨_, rfl, ?_⟩
          refine LP.weak (t := 35) (v := bl true) (envS_is (j := 11) rfl d11) ?_
          refine LP.weak (t := 38) (v := Shs S .unk) (envS_is (j := 14) rfl d14) ?_
          refine A.doT rfl rfl (LU.weak (LU.lenN Tryd.underlying45 (by exact Is.rfl') (by (simp only [Option.getD_some, Option.getD_none, byteEls_length, intEls_length, List.length_append, List.length_cons, List.length_nil, List.length_map, List.length_drop, List.length_take, Int.toNat_natCast]; rfl))) (Is.of (y := i64 (S.length : Nat)) (congrArg i64 (by rfl)))) rfl ?_
          refine ⟨⟨z, z0⟩, Weaker.mk' ?_ (HSub.refl _)⟩
          refine env_back2 (envS_hit (sl := [(0, 24), (1, 25), (2, 26), (3, 27), (4, 28), (5, 29), (6, 30), (7, 31), (8, 32), (9, 33), (10, 34), (11, 35), (12, 36), (13, 37), (14, 38), (15, 39), (16, 40), (17, 41), (18, 42), (19, 43), (20, 44), (21, 45), (22, 46), (23, 47), (24, 48), (25, 49), (26, 50), (27, 51), (28, 52)]) (j := 15) (d := 39) rfl (fun _ _ h => h)) (envS_hit (sl := [(0, 24), (1, 25), (2, 26), (3, 27), (4, 28), (5, 29), (6, 30), (7, 31), (8, 32), (9, 33), (10, 34), (11, 35), (12, 36), (13, 37), (14, 38), (15, 39), (16, 40), (17, 41), (18, 42), (19, 43), (20, 44), (21, 45), (22, 46), (23, 47), (24, 48), (25, 49), (26, 50), (27, 51), (28, 52)]) (j := 14) (d := 38) rfl (fun _ _ h => h)) (envS_hit (sl := [(0, 24), (1, 25), (2, 26), (3, 27), (4, 28), (5, 29), (6, 30), (7, 31), (8, 32), (9, 33), (10, 34), (11, 35), (12, 36), (13, 37), (14, 38), (15, 39), (16, 40), (17, 41), (18, 42), (19, 43), (20, 44), (21, 45), (22, 46), (23, 47), (24, 48), (25, 49), (26, 50), (27, 51), (28, 52)]) (j := 11) (d := 35) rfl (fun _ _ h => h)) (envS_next ?_)
          · intro p hp hne; simp only [List.mem_cons, List.not_mem_nil, or_false] at hp; rcases hp with rfl | rfl | rfl | rfl | rfl | rfl | rfl | rfl | rfl | rfl | rfl | rfl | rfl | rfl | rfl | rfl | rfl | rfl | rfl | rfl | rfl | rfl | rfl | rfl | rfl | rfl | rfl | rfl | rfl <;> first | exact absurd rfl hne | exact ⟨rfl, rfl⟩
        · have d11 := hdir 11 (List.mem_of_elem_eq_true (by kernel_rfl))
          refine ⟨_, rfl, ?_⟩
          refine LP.weak (t := 35) (v := bl true) (envS_is (j := 11) rfl d11) ?_
          refine A.doT rfl rfl (LU.fieldO Tryd.underlying52 rfl Tryd.sizeOf26 (by decide) (by exact Is.rfl')) rfl ?_
          refine ⟨⟨z, z0⟩, Weaker.mk' ?_ (HSub.refl _)⟩
          refine env_back1 (envS_hit (sl := [(0, 24), (1, 25), (2, 26), (3, 27), (4, 28), (5, 29), (6, 30), (7, 31), (8, 32), (9, 33), (10, 34), (11, 35), (12, 36), (13, 37), (14, 38), (15, 39), (16, 40), (17, 41), (18, 42), (19, 43), (20, 44), (21, 45), (22, 46), (23, 47), (24, 48), (25, 49), (26, 50), (27, 51), (28, 52)]) (j := 16) (d := 40) rfl (fun _ _ h => h)) (envS_hit (sl := [(0, 24), (1, 25), (2, 26), (3, 27), (4, 28), (5, 29), (6, 30), (7, 31), (8, 32), (9, 33), (10, 34), (11, 35), (12, 36), (13, 37), (14, 38), (15, 39), (16, 40), (17, 41), (18, 42), (19, 43), (20, 44), (21, 45), (22, 46), (23, 47), (24, 48), (25, 49), (26, 50), (27, 51), (28, 52)]) (j := 11) (d := 35) rfl (fun _ _ h => h)) (envS_next ?_)
          · intro p hp hne; simp only [List.mem_cons, List.not_mem_nil, or_false] at hp; rcases hp with rfl | rfl | rfl | rfl | rfl | rfl | rfl | rfl | rfl | rfl | rfl | rfl | rfl | rfl | rfl | rfl | rfl | rfl | rfl | rfl | rfl | rfl | rfl | rfl | rfl | rfl | rfl | rfl | rfl <;> first | exact absurd rfl hne | exact ⟨rfl, rfl⟩
        · have d11 := hdir 11 (List.mem_of_elem_eq_true (by kernel_rfl))
          have d16 := hdir 16 (List.mem_of_elem_eq_true (by kernel_rfl))
          refine ⟨_, rfl, ?_⟩
          refine LP.weak (t := 35) (v := bl true) (envS_is (j := 11) rfl d11) ?_
          refine LP.weak (t := 40) (v := .raw (.pointer (some ⟨b3, 67, none⟩))) (envS_is (j := 16) rfl d16) ?_
          refine A.doT rfl rfl (LU.loadO 0 rfl ⟨Tryd.sizeOf26, Tryd.isAgg26⟩ (by exact Is.rfl') (Part.one (ac_ids a))) rfl ?_
          refine ⟨⟨z, z0⟩, Weaker.mk' ?_ (HSub.refl _)⟩
          refine env_back2 (envS_hit (sl := [(0, 24), (1, 25), (2, 26), (3, 27), (4, 28), (5, 29), (6, 30), (7, 31), (8, 32), (9, 33), (10, 34), (11, 35), (12, 36), (13, 37), (14, 38), (15, 39), (16, 40), (17, 41), (18, 42), (19, 43), (20, 44), (21, 45), (22, 46), (23, 47), (24, 48), (25, 49), (26, 50), (27, 51), (28, 52)]) (j := 17) (d := 41) rfl (fun _ _ h => h)) (envS_hit (sl := [(0, 24), (1, 25), (2, 26), (3, 27), (4, 28), (5, 29), (6, 30), (7, 31), (8, 32), (9, 33), (10, 34), (11, 35), (12, 36), (13, 37), (14, 38), (15, 39), (16, 40), (17, 41), (18, 42), (19, 43), (20, 44), (21, 45), (22, 46), (23, 47), (24, 48), (25, 49), (26, 50), (27, 51), (28, 52)]) (j := 16) (d := 40) rfl (fun _ _ h => h)) (envS_hit (sl := [(0, 24), (1, 25), (2, 26), (3, 27), (4, 28), (5, 29), (6, 30), (7, 31), (8, 32), (9, 33), (10, 34), (11, 35), (12, 36), (13, 37), (14, 38), (15, 39), (16, 40), (17, 41), (18, 42), (19, 43), (20, 44), (21, 45), (22, 46), (23, 47), (24, 48), (25, 49), (26, 50), (27, 51), (28, 52)]) (j := 11) (d := 35) rfl (fun _ _ h => h)) (envS_next ?_)
          · intro p hp hne; simp only [List.mem_cons, List.not_mem_nil, or_false] at hp; rcases hp with rfl | rfl | rfl | rfl | rfl | rfl | rfl | rfl | rfl | rfl | rfl | rfl | rfl | rfl | rfl | rfl | rfl | rfl | rfl | rfl | rfl | rfl | rfl | rfl | rfl | rfl | rfl | rfl | rfl <;> first | exact absurd rfl hne | exact ⟨rfl, rfl⟩
        · have d11 := hdir 11 (List.mem_of_elem_eq_true (by kernel_rfl))
          have d17 := hdir 17 (List.mem_of_elem_eq_true (by kernel_rfl))
          refine ⟨_, rfl, ?_⟩
          refine LP.weak (t := 35) (v := bl true) (envS_is (j := 11) rfl d11) ?_
          refine LP.weak (t := 41) (v := Vxs a.ids .unk) (envS_is (j := 17) rfl d17) ?_
          refine A.doT rfl rfl (LU.weak (LU.lenN Tryd.underlying26 (by exact Is.rfl') (by (simp only [Option.getD_some, Option.getD_none, byteEls_length, intEls_length, List.length_append, List.length_cons, List.length_nil, List.length_map, List.length_drop, List.length_take, Int.toNat_natCast]; rfl))) (Is.of (y := i64 (a.ids.length : Nat)) (congrArg i64 (by rfl)))) rfl ?_
          refine ⟨⟨z, z0⟩, Weaker.mk' ?_ (HSub.refl _)⟩
          refine env_back2 (envS_hit (sl := [(0, 24), (1, 25), (2, 26), (3, 27), (4, 28), (5, 29), (6, 30), (7, 31), (8, 32), (9, 33), (10, 34), (11, 35), (12, 36), (13, 37), (14, 38), (15, 39), (16, 40), (17, 41), (18, 42), (19, 43), (20, 44), (21, 45), (22, 46), (23, 47), (24, 48), (25, 49), (26, 50), (27, 51), (28, 52)]) (j := 18) (d := 42) rfl (fun _ _ h => h)) (envS_hit (sl := [(0, 24), (1, 25), (2, 26), (3, 27), (4, 28), (5, 29), (6, 30), (7, 31), (8, 32), (9, 33), (10, 34), (11, 35), (12, 36), (13, 37), (14, 38), (15, 39), (16, 40), (17, 41), (18, 42), (19, 43), (20, 44), (21, 45), (22, 46), (23, 47), (24, 48), (25, 49), (26, 50), (27, 51), (28, 52)]) (j := 17) (d := 41) rfl (fun _ _ h => h)) (envS_hit (sl := [(0, 24), (1, 25), (2, 26), (3, 27), (4, 28), (5, 29), (6, 30), (7, 31), (8, 32), (9, 33), (10, 34), (11, 35), (12, 36), (13, 37), (14, 38), (15, 39), (16, 40), (17, 41), (18, 42), (19, 43), (20, 44), (21, 45), (22, 46), (23, 47), (24, 48), (25, 49), (26, 50), (27, 51), (28, 52)]) (j := 11) (d := 35) rfl (fun _ _ h => h)) (envS_next ?_)
          · intro p hp hne; simp only [List.mem_cons, List.not_mem_nil, or_false] at hp; rcases hp with rfl | rfl | rfl | rfl | rfl | rfl | rfl | rfl | rfl | rfl | rfl | rfl | rfl | rfl | rfl | rfl | rfl | rfl | rfl | rfl | rfl | rfl | rfl | rfl | rfl | rfl | rfl | rfl | rfl <;> first | exact absurd rfl hne | exact ⟨rfl, rfl⟩
        · have d11 := hdir 11 (List.mem_of_elem_eq_true (by kernel_rfl))
          have d15 := hdir 15 (List.mem_of_elem_eq_true (by kernel_rfl))
          have d18 := hdir 18 (List.mem_of_elem_eq_true (by kernel_rfl))
          refine ⟨_, rfl, ?_⟩
          refine LP.weak (t := 35) (v := bl true) (envS_is (j := 11) rfl d11) ?_
          refine LP.weak (t := 39) (v := i64 (S.length : Nat)) (envS_is (j := 15) rfl d15) ?_
          refine LP.weak (t := 42) (v := i64 (a.ids.length : Nat)) (envS_is (j := 18) rfl d18) ?_
          refine A.doT rfl rfl (LU.weak (LU.addN (by exact Is.rfl') (by exact Is.rfl') (wrap_i64 (by omega) (by omega))) (Is.of (y := i64 ((S.length + a.ids.length : Nat) : Int)) (congrArg i64 (by rfl)))) rfl ?_
          refine ⟨⟨z, z0⟩, Weaker.mk' ?_ (HSub.refl _)⟩
          refine env_back3 (envS_hit (sl := [(0, 24), (1, 25), (2, 26), (3, 27), (4, 28), (5, 29), (6, 30), (7, 31), (8, 32), (9, 33), (10, 34), (11, 35), (12, 36), (13, 37), (14, 38), (15, 39), (16, 40), (17, 41), (18, 42), (19, 43), (20, 44), (21, 45), (22, 46), (23, 47), (24, 48), (25, 49), (26, 50), (27, 51), (28, 52)]) (j := 19) (d := 43) rfl (fun _ _ h => h)) (envS_hit (sl := [(0, 24), (1, 25), (2, 26), (3, 27), (4, 28), (5, 29), (6, 30), (7, 31), (8, 32), (9, 33), (10, 34), (11, 35), (12, 36), (13, 37), (14, 38), (15, 39), (16, 40), (17, 41), (18, 42), (19, 43), (20, 44), (21, 45), (22, 46), (23, 47), (24, 48), (25, 49), (26, 50), (27, 51), (28, 52)]) (j := 18) (d := 42) rfl (fun _ _ h => h)) (envS_hit (sl := [(0, 24), (1, 25), (2, 26), (3, 27), (4, 28), (5, 29), (6, 30), (7, 31), (8, 32), (9, 33), (10, 34), (11, 35), (12, 36), (13, 37), (14, 38), (15, 39), (16, 40), (17, 41), (18, 42), (19, 43), (20, 44), (21, 45), (22, 46), (23, 47), (24, 48), (25, 49), (26, 50), (27, 51), (28, 52)]) (j := 15) (d := 39) rfl (fun _ _ h => h)) (envS_hit (sl := [(0, 24), (1, 25), (2, 26), (3, 27), (4, 28), (5, 29), (6, 30), (7, 31), (8, 32), (9, 33), (10, 34), (11, 35), (12, 36), (13, 37), (14, 38), (15, 39), (16, 40), (17, 41), (18, 42), (19, 43), (20, 44), (21, 45), (22, 46), (23, 47), (24, 48), (25, 49), (26, 50), (27, 51), (28, 52)]) (j := 11) (d := 35) rfl (fun _ _ h => h)) (envS_next ?_)
          · intro p hp hne; simp only [List.mem_cons, List.not_mem_nil, or_false] at hp; rcases hp with rfl | rfl | rfl | rfl | rfl | rfl | rfl | rfl | rfl | rfl | rfl | rfl | rfl | rfl | rfl | rfl | rfl | rfl | rfl | rfl | rfl | rfl | rfl | rfl | rfl | rfl | rfl | rfl | rfl <;> first | exact absurd rfl hne | exact ⟨rfl, rfl⟩
        · have d11 := hdir 11 (List.mem_of_elem_eq_true (by kernel_rfl))
          have d13 := hdir 13 (List.mem_of_elem_eq_true (by kernel_rfl))
          have d19 := hdir 19 (List.mem_of_elem_eq_true (by kernel_rfl))
          refine ⟨_, rfl, ?_⟩
          refine LP.weak (t := 35) (v := bl true) (envS_is (j := 11) rfl d11) ?_
          refine LP.weak (t := 37) (v := i64 ((idsG (raddG R a.up a.down a.ids a.texts).L).length : Nat)) (envS_is (j := 13) rfl d13) ?_
          refine LP.weak (t := 43) (v := i64 ((S.length + a.ids.length : Nat) : Int)) (envS_is (j := 19) rfl d19) ?_
          refine A.doT rfl rfl (LU.weak (LU.neq (by exact Is.rfl') (by exact Is.rfl')) (asB (c := false) rfl (by rw [radd_cnt he, ← hcnt]; simp))) rfl ?_
          refine ⟨⟨z, z0⟩, Weaker.mk' ?_ (HSub.refl _)⟩
          refine env_back3 (envS_hit (sl := [(0, 24), (1, 25), (2, 26), (3, 27), (4, 28), (5, 29), (6, 30), (7, 31), (8, 32), (9, 33), (10, 34), (11, 35), (12, 36), (13, 37), (14, 38), (15, 39), (16, 40), (17, 41), (18, 42), (19, 43), (20, 44), (21, 45), (22, 46), (23, 47), (24, 48), (25, 49), (26, 50), (27, 51), (28, 52)]) (j := 20) (d := 44) rfl (fun _ _ h => h)) (envS_hit (sl := [(0, 24), (1, 25), (2, 26), (3, 27), (4, 28), (5, 29), (6, 30), (7, 31), (8, 32), (9, 33), (10, 34), (11, 35), (12, 36), (13, 37), (14, 38), (15, 39), (16, 40), (17, 41), (18, 42), (19, 43), (20, 44), (21, 45), (22, 46), (23, 47), (24, 48), (25, 49), (26, 50), (27, 51), (28, 52)]) (j := 19) (d := 43) rfl (fun _ _ h => h)) (envS_hit (sl := [(0, 24), (1, 25), (2, 26), (3, 27), (4, 28), (5, 29), (6, 30), (7, 31), (8, 32), (9, 33), (10, 34), (11, 35), (12, 36), (13, 37), (14, 38), (15, 39), (16, 40), (17, 41), (18, 42), (19, 43), (20, 44), (21, 45), (22, 46), (23, 47), (24, 48), (25, 49), (26, 50), (27, 51), (28, 52)]) (j := 13) (d := 37) rfl (fun _ _ h => h)) (envS_hit (sl := [(0, 24), (1, 25), (2, 26), (3, 27), (4, 28), (5, 29), (6, 30), (7, 31), (8, 32), (9, 33), (10, 34), (11, 35), (12, 36), (13, 37), (14, 38), (15, 39), (16, 40), (17, 41), (18, 42), (19, 43), (20, 44), (21, 45), (22, 46), (23, 47), (24, 48), (25, 49), (26, 50), (27, 51), (28, 52)]) (j := 11) (d := 35) rfl (fun _ _ h => h)) (envS_next ?_)
          · intro p hp hne; simp only [List.mem_cons, List.not_mem_nil, or_false] at hp; rcases hp with rfl | rfl | rfl | rfl | rfl | rfl | rfl | rfl | rfl | rfl | rfl | rfl | rfl | rfl | rfl | rfl | rfl | rfl | rfl | rfl | rfl | rfl | rfl | rfl | rfl | rfl | rfl | rfl | rfl <;> first | exact absurd rfl hne | exact ⟨rfl, rfl⟩
        · have d11 := hdir 11 (List.mem_of_elem_eq_true (by kernel_rfl))
          have d13 := hdir 13 (List.mem_of_elem_eq_true (by kernel_rfl))
          have d20 := hdir 20 (List.mem_of_elem_eq_true (by kernel_rfl))
          refine ⟨_, rfl, ?_⟩
          refine LP.weak (t := 35) (v := bl true) (envS_is (j := 11) rfl d11) ?_
          refine LP.weak (t := 44) (v := bl false) (envS_is (j := 20) rfl d20) ?_
          refine A.doT rfl rfl (LU.moveR (by exact Is.rfl')) rfl ?_
          refine ⟨⟨z, z0⟩, Weaker.mk' ?_ (HSub.refl _)⟩
          refine env_back2 (envS_hit (sl := [(0, 24), (1, 25), (2, 26), (3, 27), (4, 28), (5, 29), (6, 30), (7, 31), (8, 32), (9, 33), (10, 34), (11, 35), (12, 36), (13, 37), (14, 38), (15, 39), (16, 40), (17, 41), (18, 42), (19, 43), (20, 44), (21, 45), (22, 46), (23, 47), (24, 48), (25, 49), (26, 50), (27, 51), (28, 52)]) (j := 21) (d := 45) rfl (fun _ _ h => h)) (envS_hit (sl := [(0, 24), (1, 25), (2, 26), (3, 27), (4, 28), (5, 29), (6, 30), (7, 31), (8, 32), (9, 33), (10, 34), (11, 35), (12, 36), (13, 37), (14, 38), (15, 39), (16, 40), (17, 41), (18, 42), (19, 43), (20, 44), (21, 45), (22, 46), (23, 47), (24, 48), (25, 49), (26, 50), (27, 51), (28, 52)]) (j := 20) (d := 44) rfl (fun _ _ h => h)) (envS_hit (sl := [(0, 24), (1, 25), (2, 26), (3, 27), (4, 28), (5, 29), (6, 30), (7, 31), (8, 32), (9, 33), (10, 34), (11, 35), (12, 36), (13, 37), (14, 38), (15, 39), (16, 40), (17, 41), (18, 42), (19, 43), (20, 44), (21, 45), (22, 46), (23, 47), (24, 48), (25, 49), (26, 50), (27, 51), (28, 52)]) (j := 11) (d := 35) rfl (fun _ _ h => h)) (envS_next ?_)
          · intro p hp hne; simp only [List.mem_cons, List.not_mem_nil, or_false] at hp; rcases hp with rfl | rfl | rfl | rfl | rfl | rfl | rfl | rfl | rfl | rfl | rfl | rfl | rfl | rfl | rfl | rfl | rfl | rfl | rfl | rfl | rfl | rfl | rfl | rfl | rfl | rfl | rfl | rfl | rfl <;> first | exact absurd rfl hne | exact ⟨rfl, rfl⟩
        · have d21 := hdir 21 (List.mem_of_elem_eq_true (by kernel_rfl))
          refine ⟨_, rfl, ?_⟩
          refine LP.weak (t := 45) (v := bl false) (envS_is (j := 21) rfl d21) ?_
          refine A.doF rfl rfl (LU.moveR (by exact Is.rfl')) rfl ?_
          refine ⟨⟨z, z0⟩, Weaker.mk' ?_ (HSub.refl _)⟩
          refine env_back1 (envS_hit (sl := [(0, 24), (1, 25), (2, 26), (3, 27), (4, 28), (5, 29), (6, 30), (7, 31), (8, 32), (9, 33), (10, 34), (11, 35), (12, 36), (13, 37), (14, 38), (15, 39), (16, 40), (17, 41), (18, 42), (19, 43), (20, 44), (21, 45), (22, 46), (23, 47), (24, 48), (25, 49), (26, 50), (27, 51), (28, 52)]) (j := 22) (d := 46) rfl (fun _ _ h => h)) (envS_hit (sl := [(0, 24), (1, 25), (2, 26), (3, 27), (4, 28), (5, 29), (6, 30), (7, 31), (8, 32), (9, 33), (10, 34), (11, 35), (12, 36), (13, 37), (14, 38), (15, 39), (16, 40), (17, 41), (18, 42), (19, 43), (20, 44), (21, 45), (22, 46), (23, 47), (24, 48), (25, 49), (26, 50), (27, 51), (28, 52)]) (j := 21) (d := 45) rfl (fun _ _ h => h)) (envS_next ?_)
          · intro p hp hne; simp only [List.mem_cons, List.not_mem_nil, or_false] at hp; rcases hp with rfl | rfl | rfl | rfl | rfl | rfl | rfl | rfl | rfl | rfl | rfl | rfl | rfl | rfl | rfl | rfl | rfl | rfl | rfl | rfl | rfl | rfl | rfl | rfl | rfl | rfl | rfl | rfl | rfl <;> first | exact absurd rfl hne | exact ⟨rfl, rfl⟩
        · have d21 := hdir 21 (List.mem_of_elem_eq_true (by kernel_rfl))
          refine ⟨_, rfl, ?_⟩
          refine LP.weak (t := 45) (v := bl false) (envS_is (j := 21) rfl d21) ?_
          refine A.doF rfl rfl (LU.fieldO Tryd.underlying52 rfl Tryd.sizeOf26 (by decide) (by exact Is.rfl')) rfl ?_
          refine ⟨⟨z, z0⟩, Weaker.mk' ?_ (HSub.refl _)⟩
          refine env_back1 (envS_hit (sl := [(0, 24), (1, 25), (2, 26), (3, 27), (4, 28), (5, 29), (6, 30), (7, 31), (8, 32), (9, 33), (10, 34), (11, 35), (12, 36), (13, 37), (14, 38), (15, 39), (16, 40), (17, 41), (18, 42), (19, 43), (20, 44), (21, 45), (22, 46), (23, 47), (24, 48), (25, 49), (26, 50), (27, 51), (28, 52)]) (j := 23) (d := 47) rfl (fun _ _ h => h)) (envS_hit (sl := [(0, 24), (1, 25), (2, 26), (3, 27), (4, 28), (5, 29), (6, 30), (7, 31), (8, 32), (9, 33), (10, 34), (11, 35), (12, 36), (13, 37), (14, 38), (15, 39), (16, 40), (17, 41), (18, 42), (19, 43), (20, 44), (21, 45), (22, 46), (23, 47), (24, 48), (25, 49), (26, 50), (27, 51), (28, 52)]) (j := 21) (d := 45) rfl (fun _ _ h => h)) (envS_next ?_)
          · intro p hp hne; simp only [List.mem_cons, List.not_mem_nil, or_false] at hp; rcases hp with rfl | rfl | rfl | rfl | rfl | rfl | rfl | rfl | rfl | rfl | rfl | rfl | rfl | rfl | rfl | rfl | rfl | rfl | rfl | rfl | rfl | rfl | rfl | rfl | rfl | rfl | rfl | rfl | rfl <;> first | exact absurd rfl hne | exact ⟨rfl, rfl⟩
        · have d21 := hdir 21 (List.mem_of_elem_eq_true (by kernel_rfl))
          have d23 := hdir 23 (List.mem_of_elem_eq_true (by kernel_rfl))
          refine ⟨_, rfl, ?_⟩
          refine LP.weak (t := 45) (v := bl false) (envS_is (j := 21) rfl d21) ?_
          refine LP.weak (t := 47) (v := .raw (.pointer (some ⟨b3, 67, none⟩))) (envS_is (j := 23) rfl d23) ?_
          refine A.doF rfl rfl (LU.loadO 0 rfl ⟨Tryd.sizeOf26, Tryd.isAgg26⟩ (by exact Is.rfl') (Part.one (ac_ids a))) rfl ?_
          refine ⟨⟨z, z0⟩, Weaker.mk' ?_ (HSub.refl _)⟩
          refine env_back2 (envS_hit (sl := [(0, 24), (1, 25), (2, 26), (3, 27), (4, 28), (5, 29), (6, 30), (7, 31), (8, 32), (9, 33), (10, 34), (11, 35), (12, 36), (13, 37), (14, 38), (15, 39), (16, 40), (17, 41), (18, 42), (19, 43), (20, 44), (21, 45), (22, 46), (23, 47), (24, 48), (25, 49), (26, 50), (27, 51), (28, 52)]) (j := 24) (d := 48) rfl (fun _ _ h => h)) (envS_hit (sl := [(0, 24), (1, 25), (2, 26), (3, 27), (4, 28), (5, 29), (6, 30), (7, 31), (8, 32), (9, 33), (10, 34), (11, 35), (12, 36), (13, 37), (14, 38), (15, 39), (16, 40), (17, 41), (18, 42), (19, 43), (20, 44), (21, 45), (22, 46), (23, 47), (24, 48), (25, 49), (26, 50), (27, 51), (28, 52)]) (j := 23) (d := 47) rfl (fun _ _ h => h)) (envS_hit (sl := [(0, 24), (1, 25), (2, 26), (3, 27), (4, 28), (5, 29), (6, 30), (7, 31), (8, 32), (9, 33), (10, 34), (11, 35), (12, 36), (13, 37), (14, 38), (15, 39), (16, 40), (17, 41), (18, 42), (19, 43), (20, 44), (21, 45), (22, 46), (23, 47), (24, 48), (25, 49), (26, 50), (27, 51), (28, 52)]) (j := 21) (d := 45) rfl (fun _ _ h => h)) (envS_next ?_)
          · intro p hp hne; simp only [List.mem_cons, List.not_mem_nil, or_false] at hp; rcases hp with rfl | rfl | rfl | rfl | rfl | rfl | rfl | rfl | rfl | rfl | rfl | rfl | rfl | rfl | rfl | rfl | rfl | rfl | rfl | rfl | rfl | rfl | rfl | rfl | rfl | rfl | rfl | rfl | rfl <;> first | exact absurd rfl hne | exact ⟨rfl, rfl⟩
        · have d21 := hdir 21 (List.mem_of_elem_eq_true (by kernel_rfl))
          have d22 := hdir 22 (List.mem_of_elem_eq_true (by kernel_rfl))
          have d24 := hdir 24 (List.mem_of_elem_eq_true (by kernel_rfl))
          refine ⟨_, rfl, ?_⟩
          have k9 : f 9 = true := by have h := hdir 21 (List.mem_of_elem_eq_true (by kernel_rfl)); have a := hdown 21 (by omega) h 20 (List.mem_of_elem_eq_true (by kernel_rfl)); have a := hdown 20 (by omega) a 13 (List.mem_of_elem_eq_true (by kernel_rfl)); have a := hdown 13 (by omega) a 11 (List.mem_of_elem_eq_true (by kernel_rfl)); have a := hdown 11 (by omega) a 10 (List.mem_of_elem_eq_true (by kernel_rfl)); have a := hdown 10 (by omega) a 9 (List.mem_of_elem_eq_true (by kernel_rfl)); exact a
          refine LP.ghost (H' := H4 g s1 ++ (.cells b3 52 (acL a) :: Rf)) (by show L.HSub (_ :: (cond (f 25) _ (cond (f 9) _ _) ++ Rf)) _; rw [hfi, k9]; exact (by repeat (first | exact HSub.refl _ | refine HSub.pick 1 rfl ?_))) ?_
          refine LP.weak (t := 45) (v := bl false) (envS_is (j := 21) rfl d21) ?_
          refine LP.weak (t := 46) (v := pt g) (envS_is (j := 22) rfl d22) ?_
          refine LP.weak (t := 48) (v := Vxs a.ids .unk) (envS_is (j := 24) rfl d24) ?_
          refine A.actG rfl rfl (X.call (hdrop) Tryd.func22 rfl rfl rfl (HSub.refl _) (Opds.cons (by exact Is.rfl') (Opds.cons (by exact Is.rfl') Opds.nil)) ?_)
          rintro r H' ⟨rfl, s2, rfl, hs2⟩
          refine ⟨(⟨s2, hs2⟩, 0), Weaker.mk' ?_ (by show L.HSub _ (_ :: (cond true (H4 g s2) _ ++ Rf)); exact (by repeat (first | exact HSub.refl _ | refine HSub.pick 4 rfl ?_)))⟩
          refine env_back3 (envS_hit (sl := [(0, 24), (1, 25), (2, 26), (3, 27), (4, 28), (5, 29), (6, 30), (7, 31), (8, 32), (9, 33), (10, 34), (11, 35), (12, 36), (13, 37), (14, 38), (15, 39), (16, 40), (17, 41), (18, 42), (19, 43), (20, 44), (21, 45), (22, 46), (23, 47), (24, 48), (25, 49), (26, 50), (27, 51), (28, 52)]) (j := 25) (d := 49) rfl (fun _ _ h => h)) (envS_hit (sl := [(0, 24), (1, 25), (2, 26), (3, 27), (4, 28), (5, 29), (6, 30), (7, 31), (8, 32), (9, 33), (10, 34), (11, 35), (12, 36), (13, 37), (14, 38), (15, 39), (16, 40), (17, 41), (18, 42), (19, 43), (20, 44), (21, 45), (22, 46), (23, 47), (24, 48), (25, 49), (26, 50), (27, 51), (28, 52)]) (j := 24) (d := 48) rfl (fun _ _ h => h)) (envS_hit (sl := [(0, 24), (1, 25), (2, 26), (3, 27), (4, 28), (5, 29), (6, 30), (7, 31), (8, 32), (9, 33), (10, 34), (11, 35), (12, 36), (13, 37), (14, 38), (15, 39), (16, 40), (17, 41), (18, 42), (19, 43), (20, 44), (21, 45), (22, 46), (23, 47), (24, 48), (25, 49), (26, 50), (27, 51), (28, 52)]) (j := 22) (d := 46) rfl (fun _ _ h => h)) (envS_hit (sl := [(0, 24), (1, 25), (2, 26), (3, 27), (4, 28), (5, 29), (6, 30), (7, 31), (8, 32), (9, 33), (10, 34), (11, 35), (12, 36), (13, 37), (14, 38), (15, 39), (16, 40), (17, 41), (18, 42), (19, 43), (20, 44), (21, 45), (22, 46), (23, 47), (24, 48), (25, 49), (26, 50), (27, 51), (28, 52)]) (j := 21) (d := 45) rfl (fun _ _ h => h)) (envS_next ?_)
          · intro p hp hne; simp only [List.mem_cons, List.not_mem_nil, or_false] at hp; rcases hp with rfl | rfl | rfl | rfl | rfl | rfl | rfl | rfl | rfl | rfl | rfl | rfl | rfl | rfl | rfl | rfl | rfl | rfl | rfl | rfl | rfl | rfl | rfl | rfl | rfl | rfl | rfl | rfl | rfl <;> first | exact absurd rfl hne | exact ⟨rfl, rfl⟩
        · have d21 := hdir 21 (List.mem_of_elem_eq_true (by kernel_rfl))
          have d25 := hdir 25 (List.mem_of_elem_eq_true (by kernel_rfl))
          refine ⟨_, rfl, ?_⟩
          refine LP.weak (t := 45) (v := bl false) (envS_is (j := 21) rfl d21) ?_
          refine LP.weak (t := 49) (v := i64 0) (envS_is (j := 25) rfl d25) ?_
          refine A.doF rfl rfl (LU.weak (LU.neq (by exact Is.rfl') (by exact Is.rfl')) (asB (c := false) rfl (by rfl))) rfl ?_
          refine ⟨⟨z, z0⟩, Weaker.mk' ?_ (HSub.refl _)⟩
          refine env_back2 (envS_hit (sl := [(0, 24), (1, 25), (2, 26), (3, 27), (4, 28), (5, 29), (6, 30), (7, 31), (8, 32), (9, 33), (10, 34), (11, 35), (12, 36), (13, 37), (14, 38), (15, 39), (16, 40), (17, 41), (18, 42), (19, 43), (20, 44), (21, 45), (22, 46), (23, 47), (24, 48), (25, 49), (26, 50), (27, 51), (28, 52)]) (j := 26) (d := 50) rfl (fun _ _ h => h)) (envS_hit (sl := [(0, 24), (1, 25), (2, 26), (3, 27), (4, 28), (5, 29), (6, 30), (7, 31), (8, 32), (9, 33), (10, 34), (11, 35), (12, 36), (13, 37), (14, 38), (15, 39), (16, 40), (17, 41), (18, 42), (19, 43), (20, 44), (21, 45), (22, 46), (23, 47), (24, 48), (25, 49), (26, 50), (27, 51), (28, 52)]) (j := 25) (d := 49) rfl (fun _ _ h => h)) (envS_hit (sl := [(0, 24), (1, 25), (2, 26), (3, 27), (4, 28), (5, 29), (6, 30), (7, 31), (8, 32), (9, 33), (10, 34), (11, 35), (12, 36), (13, 37), (14, 38), (15, 39), (16, 40), (17, 41), (18, 42), (19, 43), (20, 44), (21, 45), (22, 46), (23, 47), (24, 48), (25, 49), (26, 50), (27, 51), (28, 52)]) (j := 21) (d := 45) rfl (fun _ _ h => h)) (envS_next ?_)
          · intro p hp hne; simp only [List.mem_cons, List.not_mem_nil, or_false] at hp; rcases hp with rfl | rfl | rfl | rfl | rfl | rfl | rfl | rfl | rfl | rfl | rfl | rfl | rfl | rfl | rfl | rfl | rfl | rfl | rfl | rfl | rfl | rfl | rfl | rfl | rfl | rfl | rfl | rfl | rfl <;> first | exact absurd rfl hne | exact ⟨rfl, rfl⟩
        · have d11 := hdir 11 (List.mem_of_elem_eq_true (by kernel_rfl))
          have d21 := hdir 21 (List.mem_of_elem_eq_true (by kernel_rfl))
          have d26 := hdir 26 (List.mem_of_elem_eq_true (by kernel_rfl))
          refine ⟨_, rfl, ?_⟩
          refine LP.weak (t := 35) (v := bl true) (envS_is (j := 11) rfl d11) ?_
          refine LP.weak (t := 45) (v := bl false) (envS_is (j := 21) rfl d21) ?_
          refine LP.weak (t := 50) (v := bl false) (envS_is (j := 26) rfl d26) ?_
          refine A.doT rfl rfl (LU.pickF (by exact Is.rfl') (by exact Is.rfl')) rfl ?_
          refine ⟨⟨z, z0⟩, Weaker.mk' ?_ (HSub.refl _)⟩
          refine env_back3 (envS_hit (sl := [(0, 24), (1, 25), (2, 26), (3, 27), (4, 28), (5, 29), (6, 30), (7, 31), (8, 32), (9, 33), (10, 34), (11, 35), (12, 36), (13, 37), (14, 38), (15, 39), (16, 40), (17, 41), (18, 42), (19, 43), (20, 44), (21, 45), (22, 46), (23, 47), (24, 48), (25, 49), (26, 50), (27, 51), (28, 52)]) (j := 27) (d := 51) rfl (fun _ _ h => h)) (envS_hit (sl := [(0, 24), (1, 25), (2, 26), (3, 27), (4, 28), (5, 29), (6, 30), (7, 31), (8, 32), (9, 33), (10, 34), (11, 35), (12, 36), (13, 37), (14, 38), (15, 39), (16, 40), (17, 41), (18, 42), (19, 43), (20, 44), (21, 45), (22, 46), (23, 47), (24, 48), (25, 49), (26, 50), (27, 51), (28, 52)]) (j := 26) (d := 50) rfl (fun _ _ h => h)) (envS_hit (sl := [(0, 24), (1, 25), (2, 26), (3, 27), (4, 28), (5, 29), (6, 30), (7, 31), (8, 32), (9, 33), (10, 34), (11, 35), (12, 36), (13, 37), (14, 38), (15, 39), (16, 40), (17, 41), (18, 42), (19, 43), (20, 44), (21, 45), (22, 46), (23, 47), (24, 48), (25, 49), (26, 50), (27, 51), (28, 52)]) (j := 21) (d := 45) rfl (fun _ _ h => h)) (envS_hit (sl := [(0, 24), (1, 25), (2, 26), (3, 27), (4, 28), (5, 29), (6, 30), (7, 31), (8, 32), (9, 33), (10, 34), (11, 35), (12, 36), (13, 37), (14, 38), (15, 39), (16, 40), (17, 41), (18, 42), (19, 43), (20, 44), (21, 45), (22, 46), (23, 47), (24, 48), (25, 49), (26, 50), (27, 51), (28, 52)]) (j := 11) (d := 35) rfl (fun _ _ h => h)) (envS_next ?_)
          · intro p hp hne; simp only [List.mem_cons, List.not_mem_nil, or_false] at hp; rcases hp with rfl | rfl | rfl | rfl | rfl | rfl | rfl | rfl | rfl | rfl | rfl | rfl | rfl | rfl | rfl | rfl | rfl | rfl | rfl | rfl | rfl | rfl | rfl | rfl | rfl | rfl | rfl | rfl | rfl <;> first | exact absurd rfl hne | exact ⟨rfl, rfl⟩
        · have d11 := hdir 11 (List.mem_of_elem_eq_true (by kernel_rfl))
          have d27 := hdir 27 (List.mem_of_elem_eq_true (by kernel_rfl))
          refine ⟨_, rfl, ?_⟩
          refine LP.weak (t := 35) (v := bl true) (envS_is (j := 11) rfl d11) ?_
          refine LP.weak (t := 51) (v := bl false) (envS_is (j := 27) rfl d27) ?_
          refine A.u (LU.pickT Is.rfl' (by exact Is.rfl')) rfl ?_
          refine ⟨⟨z, z0⟩, Weaker.mk' ?_ (HSub.refl _)⟩
          refine env_back2 (envS_hit (sl := [(0, 24), (1, 25), (2, 26), (3, 27), (4, 28), (5, 29), (6, 30), (7, 31), (8, 32), (9, 33), (10, 34), (11, 35), (12, 36), (13, 37), (14, 38), (15, 39), (16, 40), (17, 41), (18, 42), (19, 43), (20, 44), (21, 45), (22, 46), (23, 47), (24, 48), (25, 49), (26, 50), (27, 51), (28, 52)]) (j := 28) (d := 52) rfl (fun _ _ h => h)) (envS_hit (sl := [(0, 24), (1, 25), (2, 26), (3, 27), (4, 28), (5, 29), (6, 30), (7, 31), (8, 32), (9, 33), (10, 34), (11, 35), (12, 36), (13, 37), (14, 38), (15, 39), (16, 40), (17, 41), (18, 42), (19, 43), (20, 44), (21, 45), (22, 46), (23, 47), (24, 48), (25, 49), (26, 50), (27, 51), (28, 52)]) (j := 27) (d := 51) rfl (fun _ _ h => h)) (envS_hit (sl := [(0, 24), (1, 25), (2, 26), (3, 27), (4, 28), (5, 29), (6, 30), (7, 31), (8, 32), (9, 33), (10, 34), (11, 35), (12, 36), (13, 37), (14, 38), (15, 39), (16, 40), (17, 41), (18, 42), (19, 43), (20, 44), (21, 45), (22, 46), (23, 47), (24, 48), (25, 49), (26, 50), (27, 51), (28, 52)]) (j := 11) (d := 35) rfl (fun _ _ h => h)) (envS_next ?_)
          · intro p hp hne; simp only [List.mem_cons, List.not_mem_nil, or_false] at hp; rcases hp with rfl | rfl | rfl | rfl | rfl | rfl | rfl | rfl | rfl | rfl | rfl | rfl | rfl | rfl | rfl | rfl | rfl | rfl | rfl | rfl | rfl | rfl | rfl | rfl | rfl | rfl | rfl | rfl | rfl <;> first | exact absurd rfl hne | exact ⟨rfl, rfl⟩
      · intro g_ f hf_
        obtain ⟨z, z0⟩ := g_
        refine X.ghost (H' := H4 g z.1 ++ (.cells b3 52 (acL a) :: Rf)) (by show L.HSub (_ :: (cond (f 25) _ _ ++ Rf)) _; rw [hf_ 25 (by omega)]; exact (by repeat (first | exact HSub.refl _ | refine HSub.pick 1 rfl ?_))) ?_
        refine LL.nil (after_code ?_)
        refine X.condF rfl ?_ ?_
        · rfl
        refine LW.skip (after_rnd ?_)
        refine X.meets (z.1) rfl (EnvLe.nil) (Keeps.cons (by exact Eq.trans (b := .raw _) rfl rfl) (Keeps.cons (by exact Eq.trans (b := .raw _) rfl rfl) (Keeps.cons (by exact Eq.trans (b := .sl _ _ _) rfl rfl) (Keeps.cons (by exact Eq.trans (b := .raw _) rfl rfl) (Keeps.nil))))) (by repeat (exact HSub.refl _)) ?_
        exact z.2
    · rintro s2 hI
      have hs2 := hI
      refine LW.seq ?_
      refine LW.seq ?_
      refine X.wghost (H' := gC g s2.ma s2.mb s2.n :: gA s2.ma s2.m :: kb :: gP s2.mb s2.q :: .cells b3 52 (acL a) :: Rf) (by repeat (first | exact HSub.refl _ | refine HSub.pick 0 rfl ?_ | refine HSub.pick 1 rfl ?_)) ?_
      have hsc2 := shown_calls g s2.ma s2.mb s2.n s2.m s2.q _ hs2.rel ho hD
      have hcc2 := conflicts_calls g s2.ma s2.mb s2.n s2.m s2.q _ hs2.rel ho hD
      rw [← hS] at hsc2
      have hkill := kill_r2 g hs2 (by decide) a.up a.by_
      refine LW.region ?_
      refine X.u (LU.moveR Is.rfl') rfl ?_
      refine X.u (LU.callP (List.Perm.refl _) (hsc2) Tryd.func18 rfl rfl (Opds.cons Is.rfl' Opds.nil)) rfl ?_
      refine X.u (LU.moveS Is.rfl') rfl ?_
      refine X.u (LU.weak (LU.call (same_calls S S .unk .unk (by omega) (by omega)) Tryd.func23 rfl rfl (Opds.cons Is.rfl' (Opds.cons Is.rfl' Opds.nil))) (Is.of (y := bl true) (congrArg bl (decide_eq_true rfl)))) rfl ?_
      refine X.u (LU.not Is.rfl') rfl ?_
      refine X.u (LU.moveR Is.rfl') rfl ?_
      refine X.doF rfl rfl (LU.moveR (by exact Is.rfl')) rfl ?_
      refine X.doF rfl rfl (LU.callP (List.Perm.refl _) (hcc2) Tryd.func14 rfl rfl (Opds.cons (by exact Is.rfl') Opds.nil)) rfl ?_
      refine X.doF rfl rfl (LU.moveR (by exact Is.rfl')) rfl ?_
      refine X.doF rfl rfl (LU.weak (LU.neq (by exact Is.rfl') (by exact Is.rfl')) (asB (c := false) rfl (by simp))) rfl ?_
      refine X.u (LU.pickF Is.rfl' (by exact Is.rfl')) rfl ?_
      refine LL.nil (after_code ?_)
      refine X.condF rfl ?_ ?_
      · rfl
      refine LW.skip (after_code ?_)
      refine X.meetK (α := St) (fun s4 => []) [5, 6, 7] (fun s4 => gC g s4.ma s4.mb s4.n :: gA s4.ma s4.m :: gP s4.mb s4.q :: kb :: .cells b3 52 (acL a) :: Rf) (fun s4 => StR s4 R 122) ?_ ?_
      · refine LW.seq ?_
        refine X.wghost (H' := gC g s2.ma s2.mb s2.n :: gA s2.ma s2.m :: gP s2.mb s2.q :: kb :: .cells b3 52 (acL a) :: Rf) (by repeat (first | exact HSub.refl _ | refine HSub.pick 0 rfl ?_ | refine HSub.pick 1 rfl ?_)) ?_
        refine LW.region ?_
        refine X.u (LU.moveR Is.rfl') rfl ?_
        refine X.u (LU.fieldO Tryd.underlying52 rfl Tryd.sizeOf35 (by decide) Is.rfl') rfl ?_
        refine X.u (LU.weak (LU.loadO 4 rfl ⟨Tryd.sizeOf35, Tryd.isAgg35⟩ Is.rfl' (Part.sub (by (simp; omega)))) (Is.of (y := .agg (vxL a.up)) (congrArg LV.agg (ac_up a)))) rfl ?_
        refine X.u (LU.fieldO Tryd.underlying52 rfl Tryd.sizeOf31 (by decide) Is.rfl') rfl ?_
        refine X.u (LU.weak (LU.loadO 4 rfl ⟨Tryd.sizeOf31, Tryd.isAgg31⟩ Is.rfl' (Part.sub (by (simp; omega)))) (Is.of (y := .agg (hsL a.by_)) (congrArg LV.agg (ac_by a)))) rfl ?_
        refine X.act (X.call (hkill) Tryd.func10 rfl rfl rfl (HSub.refl _) (Opds.cons Is.rfl' (Opds.cons Is.rfl' (Opds.cons Is.rfl' Opds.nil))) ?_)
        rintro r H' (⟨rfl, hke, s3, rfl, hs3⟩ | ⟨rfl, hke, s3, rfl, hs3⟩)
        · refine X.u (LU.weak (LU.eql Is.rfl' Is.rfl') (Is.of (y := bl true) (rfl))) rfl ?_
          refine X.u (LU.moveR Is.rfl') rfl ?_
          refine X.doT rfl rfl (LU.moveR (by exact Is.rfl')) rfl ?_
          refine X.doT rfl rfl (LU.fieldO Tryd.underlying52 rfl Tryd.sizeOf35 (by decide) (by exact Is.rfl')) rfl ?_
          refine X.doT rfl rfl (LU.weak (LU.loadO 4 rfl ⟨Tryd.sizeOf35, Tryd.isAgg35⟩ (by exact Is.rfl') (Part.sub (by (simp; omega)))) (Is.of (y := .agg (vxL a.up)) (congrArg LV.agg (ac_up a)))) rfl ?_
          refine X.doT rfl rfl (LU.fieldO Tryd.underlying52 rfl Tryd.sizeOf31 (by decide) (by exact Is.rfl')) rfl ?_
          refine X.doT rfl rfl (LU.weak (LU.loadO 4 rfl ⟨Tryd.sizeOf31, Tryd.isAgg31⟩ (by exact Is.rfl') (Part.sub (by (simp; omega)))) (Is.of (y := .agg (hsL a.by_)) (congrArg LV.agg (ac_by a)))) rfl ?_
          refine X.actG rfl rfl (X.call ((unkill_r g hs3 (by decide) a.up a.by_)) Tryd.func24 rfl rfl rfl (HSub.refl _) (Opds.cons (by exact Is.rfl') (Opds.cons (by exact Is.rfl') (Opds.cons (by exact Is.rfl') Opds.nil))) ?_)
          rintro r H' ⟨rfl, s4, rfl, hs4⟩
          refine X.doT rfl rfl (LU.weak (LU.neq (by exact Is.rfl') (by exact Is.rfl')) (asB (c := false) rfl (by rw [(undo_kill hke).1]; rfl))) rfl ?_
          refine X.u (LU.pickT Is.rfl' (by exact Is.rfl')) rfl ?_
          refine LL.nil (after_code ?_)
          refine X.condF rfl ?_ ?_
          · rfl
          refine LW.skip (after_rnd ?_)
          refine X.meets (s4) rfl (EnvLe.nil) (Keeps.cons (by exact Eq.trans (b := .raw _) rfl rfl) (Keeps.cons (by exact Eq.trans (b := .sl _ _ _) rfl rfl) (Keeps.cons (by exact Eq.trans (b := .raw _) rfl rfl) (Keeps.nil)))) (by repeat (exact HSub.refl _)) ?_
          rw [← (undo_kill hke).2]; exact hs4
        · refine X.u (LU.weak (LU.eql Is.rfl' Is.rfl') (Is.of (y := bl false) (congrArg bl (decide_eq_false (fun c => hke (by omega)))))) rfl ?_
          refine X.u (LU.moveR Is.rfl') rfl ?_
          refine X.skipT rfl rfl rfl ?_
          refine X.skipT rfl rfl rfl ?_
          refine X.skipT rfl rfl rfl ?_
          refine X.skipT rfl rfl rfl ?_
          refine X.skipT rfl rfl rfl ?_
          refine X.skipT rfl rfl rfl ?_
          refine X.skipT rfl rfl rfl ?_
          refine X.u (LU.pickF Is.rfl' (by exact Is.rfl')) rfl ?_
          refine LL.nil (after_code ?_)
          refine X.condF rfl ?_ ?_
          · rfl
          refine LW.skip (after_rnd ?_)
          refine X.meets (s3) rfl (EnvLe.nil) (Keeps.cons (by exact Eq.trans (b := .raw _) rfl rfl) (Keeps.cons (by exact Eq.trans (b := .sl _ _ _) rfl rfl) (Keeps.cons (by exact Eq.trans (b := .raw _) rfl rfl) (Keeps.nil)))) (by repeat (exact HSub.refl _)) ?_
          exact hs3
      · rintro s4 hI
        have hs4 := hI
        refine LW.seq ?_
        refine X.wghost (H' := gC g s4.ma s4.mb s4.n :: gA s4.ma s4.m :: kb :: gP s4.mb s4.q :: .cells b3 52 (acL a) :: Rf) (by repeat (first | exact HSub.refl _ | refine HSub.pick 0 rfl ?_ | refine HSub.pick 1 rfl ?_)) ?_
        have hsc4 := shown_calls g s4.ma s4.mb s4.n s4.m s4.q _ hs4.rel ho hD
        have hcc4 := conflicts_calls g s4.ma s4.mb s4.n s4.m s4.q _ hs4.rel ho hD
        rw [← hS] at hsc4
        refine LW.region ?_
        refine X.u (LU.moveR Is.rfl') rfl ?_
        refine X.u (LU.callP (List.Perm.refl _) (hsc4) Tryd.func18 rfl rfl (Opds.cons Is.rfl' Opds.nil)) rfl ?_
        refine X.u (LU.moveS Is.rfl') rfl ?_
        refine X.u (LU.weak (LU.call (same_calls S S .unk .unk (by omega) (by omega)) Tryd.func23 rfl rfl (Opds.cons Is.rfl' (Opds.cons Is.rfl' Opds.nil))) (Is.of (y := bl true) (congrArg bl (decide_eq_true rfl)))) rfl ?_
        refine X.u (LU.moveR Is.rfl') rfl ?_
        refine X.doT rfl rfl (LU.moveR (by exact Is.rfl')) rfl ?_
        refine X.doT rfl rfl (LU.callP (List.Perm.refl _) (hcc4) Tryd.func14 rfl rfl (Opds.cons (by exact Is.rfl') Opds.nil)) rfl ?_
        refine X.doT rfl rfl (LU.moveR (by exact Is.rfl')) rfl ?_
        refine X.doT rfl rfl (LU.weak (LU.eql (by exact Is.rfl') (by exact Is.rfl')) (asB (c := true) rfl (by simp))) rfl ?_
        refine X.u (LU.pickT Is.rfl' (by exact Is.rfl')) rfl ?_
        refine X.u (LU.moveR Is.rfl') rfl ?_
        refine X.doT rfl rfl (LU.call1 2 rfl (lives_calls) Tryd.func15 rfl rfl Opds.nil) rfl ?_
        refine X.u (LU.pickT Is.rfl' (by exact Is.rfl')) rfl ?_
        refine X.u (LU.assignR Is.rfl') rfl ?_
        refine LL.nil (after_code ?_)
        refine LW.ret (after_end ?_)
        refine X.ret (H' := [kb]) (Res.one (by exact IsR rfl)) (by repeat (first | exact HSub.refl _ | refine HSub.pick 2 rfl ?_ | refine HSub.drop ?_)) ?_
        exact ⟨rfl, rfl⟩
set_option maxHeartbeats 8000000 in
set_option maxRecDepth 100000 in
theorem undo_b (l : List Ac) (a : Ac) (k : Cap) (hl : l.length < 140737488355328) (hf : Fit l) (hfa : a.ids.length < 140737488355328 ∧ a.texts.length < 140737488355328) (he : raddE (bld rg0 l) a.up a.down a.ids a.texts ≠ 0) : LCalls Tryd.prog 5 [Acs l k, .agg (acL a)] [kb] (fun r H' => r = .raw (.bool true) ∧ H' = [kb]) := by
  have hal := ac_len a
  have hau := a.up.p.2
  have had := a.down.p.2
  have hab := a.by_.2
  refine LCalls.of Tryd.func5 rfl Tryd.ntmps5 Tryd.results5 rfl (fun Rf => ?_)
  refine LW.seq ?_
  refine LW.region ?_
  refine X.act (X.box rfl Is.rfl' (by exact Cells.agg) (fun b3 => ?_))
  refine X.u (LU.assignR Is.rfl') rfl ?_
  refine LL.nil (after_code ?_)
  refine LW.seq ?_
  refine LW.seq ?_
  refine LW.region ?_
  refine X.u (LU.moveS Is.rfl') rfl ?_
  refine X.u (LU.call (few_calls l k hl hf) Tryd.func16 rfl rfl (Opds.cons Is.rfl' Opds.nil)) rfl ?_
  refine X.u (LU.not Is.rfl') rfl ?_
  refine X.u (LU.moveR Is.rfl') rfl ?_
  refine X.gF rfl rfl (fun hg => LU.loadO 0 rfl ⟨Tryd.sizeOf52, Tryd.isAgg52⟩ (by exact Is.rfl') (Part.whole (by assumption))) rfl ?_
  refine X.gF rfl rfl (fun hg => LU.weak (LU.lits Tryd.underlying42 Tryd.sizeOf52 Tryd.zeroValue52 (ones rfl) rfl (by decide) (by decide) (Elems.cons (by exact Is.whenN hg) Cells.agg Elems.nil) (by intro e he; rw [List.mem_singleton.1 he]; exact hal) rfl) (Is.of (y := Acs [a] .full) (rfl))) rfl ?_
  refine X.gF rfl rfl (fun hg => LU.call (few_calls [a] .full (show 1 < 140737488355328 by decide) (by intro b hb; rw [List.mem_singleton.1 hb]; exact hfa)) Tryd.func16 rfl rfl (Opds.cons (by exact Is.whenN hg) Opds.nil)) rfl ?_
  refine X.gF rfl rfl (fun hg => LU.not (by exact Is.whenN hg)) rfl ?_
  refine X.u (LU.pickOr Is.rfl' Is.rfl' (fun hq => (by exact Is.whenN hq))) rfl ?_
  refine LL.nil (after_code ?_)
  refine X.cond rfl (fun h1 => ?_) (fun h1 => ?_)
  · try have h1 := of_decide_eq_true h1
    have hz0 : (0 : Nat) = 0 := rfl
    refine LW.seq ?_
    refine LW.region ?_
    refine X.u (LU.call1 1 rfl (lives_calls) Tryd.func15 rfl rfl Opds.nil) rfl ?_
    refine X.u (LU.assignR Is.rfl') rfl ?_
    refine LL.nil (after_code ?_)
    refine LW.ret (ret_code (after_end ?_))
    refine X.ret (H' := [kb]) (Res.one (by exact IsR rfl)) (by repeat (first | exact HSub.refl _ | refine HSub.pick 1 rfl ?_ | refine HSub.drop ?_)) ?_
    exact ⟨rfl, rfl⟩
  · have h1 : fewB l = true ∧ fewB [a] = true := by simpa using h1
    have hw : sumW l ≤ 120 := by have := h1.1; unfold fewB at this; simpa using this
    have hw2 : acW a ≤ 120 := by have := h1.2; unfold fewB sumW at this; simpa using this
    have hw3 : acW a = 1 + a.ids.length + a.texts.length := rfl
    refine LW.skip (after_code ?_)
    refine LW.seq ?_
    refine LW.region ?_
    refine X.u (LU.moveS Is.rfl') rfl ?_
    refine X.act (X.call (built_calls l k hw) Tryd.func17 rfl rfl rfl (by (refine HSub.pick 1 rfl ?_); exact HSub.refl _) (Opds.cons Is.rfl' Opds.nil) ?_)
    rintro r H' ⟨g, s, rfl, rfl, hs⟩
    refine X.u (LU.assignR Is.rfl') rfl ?_
    refine LL.nil (after_code ?_)
    refine LW.seq ?_
    refine X.wghost (H' := gC g s.ma s.mb s.n :: gA s.ma s.m :: kb :: gP s.mb s.q :: .cells b3 52 (acL a) :: Rf) (by repeat (first | exact HSub.refl _ | refine HSub.pick 0 rfl ?_ | refine HSub.pick 1 rfl ?_)) ?_
    obtain ⟨R, hR⟩ : ∃ R, R = bld rg0 l := ⟨_, rfl⟩
    rw [← hR] at hs he
    have ho := hs.ok
    have hD : R.D.length < 900000 := by have := hs.dc; omega
    have hsc := shown_calls g s.ma s.mb s.n s.m s.q _ hs.rel ho hD
    have hcc := conflicts_calls g s.ma s.mb s.n s.m s.q _ hs.rel ho hD
    have hcnt := shown_cnt ho
    have hol := shown_len ho
    obtain ⟨S, hS⟩ : ∃ S, S = shownG R := ⟨_, rfl⟩
    rw [← hS] at hsc hcnt hol
    have hadd := add_no g hs (by decide) a.up a.down a.ids a.texts .unk .unk (by omega) (by omega) he
    refine LW.region ?_
    refine X.u (LU.moveR Is.rfl') rfl ?_
    refine X.u (LU.callP (List.Perm.refl _) (hsc) Tryd.func18 rfl rfl (Opds.cons Is.rfl' Opds.nil)) rfl ?_
    refine X.u (LU.moveR Is.rfl') rfl ?_
    refine X.u (LU.callP (List.Perm.refl _) (hcc) Tryd.func14 rfl rfl (Opds.cons Is.rfl' Opds.nil)) rfl ?_
    refine X.u (LU.assignS Is.rfl') rfl ?_
    refine X.u (LU.assignR Is.rfl') rfl ?_
    refine LL.nil (after_code ?_)
    refine X.meetK (α := St) (fun s2 => []) [3, 5, 6, 7] (fun s2 => gC g s2.ma s2.mb s2.n :: gA s2.ma s2.m :: gP s2.mb s2.q :: kb :: .cells b3 52 (acL a) :: Rf) (fun s2 => StR s2 R 121) ?_ ?_
    · refine LW.seq ?_
      refine X.wghost (H' := gC g s.ma s.mb s.n :: gA s.ma s.m :: gP s.mb s.q :: kb :: .cells b3 52 (acL a) :: Rf) (by repeat (first | exact HSub.refl _ | refine HSub.pick 0 rfl ?_ | refine HSub.pick 1 rfl ?_)) ?_
      refine LW.invM (m := 29) (γ := Nat × Nat) [(0, 24), (1, 25), (2, 26), (3, 27), (4, 28), (5, 29), (6, 30), (7, 31), (8, 32), (9, 33), (10, 34), (11, 35), (12, 36), (13, 37), (14, 38), (15, 39), (16, 40), (17, 41), (18, 42), (19, 43), (20, 44), (21, 45), (22, 46), (23, 47), (24, 48), (25, 49), (26, 50), (27, 51), (28, 52)] (fun g_ d => match g_ with | ⟨z, z0⟩ => match d with | 24 => pt g | 25 => .raw (.pointer (some ⟨b3, 1, none⟩)) | 26 => .agg (vxL a.up) | 27 => .raw (.pointer (some ⟨b3, 34, none⟩)) | 28 => .agg (vxL a.down) | 29 => .raw (.pointer (some ⟨b3, 67, none⟩)) | 30 => Vxs a.ids .unk | 31 => .raw (.pointer (some ⟨b3, 68, none⟩)) | 32 => .sl 1 (strsL a.texts) .unk | 33 => i64 (raddE R a.up a.down a.ids a.texts : Nat) | 34 => bl false | 35 => bl false | 36 => .raw undef | 37 => .raw undef | 38 => .raw undef | 39 => .raw undef | 40 => .raw undef | 41 => .raw undef | 42 => .raw undef | 43 => .raw undef | 44 => .raw undef | 45 => .raw undef | 46 => .raw undef | 47 => .raw undef | 48 => .raw undef | 49 => .raw undef | 50 => .raw undef | 51 => .raw undef | 52 => bl false | _ => .any) (fun g_ f => match g_ with | ⟨z, z0⟩ => gC g s.ma s.mb s.n :: gA s.ma s.m :: gP s.mb s.q :: kb :: .cells b3 52 (acL a) :: Rf) (0, 0) rfl (by kernel_rfl) rfl rfl ((HSub.refl _)) ?_ ?_
      · intro i hi f g_ hfi hdir hdown
        obtain ⟨z, z0⟩ := g_
        have hc : i = 0 ∨ i = 1 ∨ i = 2 ∨ i = 3 ∨ i = 4 ∨ i = 5 ∨ i = 6 ∨ i = 7 ∨ i = 8 ∨ i = 9 ∨ i = 10 ∨ i = 11 ∨ i = 12 ∨ i = 13 ∨ i = 14 ∨ i = 15 ∨ i = 16 ∨ i = 17 ∨ i = 18 ∨ i = 19 ∨ i = 20 ∨ i = 21 ∨ i = 22 ∨ i = 23 ∨ i = 24 ∨ i = 25 ∨ i = 26 ∨ i = 27 ∨ i = 28 := by omega
        rcases hc with rfl | rfl | rfl | rfl | rfl | rfl | rfl | rfl | rfl | rfl | rfl | rfl | rfl | rfl | rfl | rfl | rfl | rfl | rfl | rfl | rfl | rfl | rfl | rfl | rfl | rfl | rfl | rfl | rfl
        · refine ⟨_, rfl, ?_⟩
          refine A.u (LU.moveR Is.rfl') rfl ?_
          refine ⟨⟨z, z0⟩, Weaker.mk' ?_ (HSub.refl _)⟩
          refine env_back0 (envS_hit (sl := [(0, 24), (1, 25), (2, 26), (3, 27), (4, 28), (5, 29), (6, 30), (7, 31), (8, 32), (9, 33), (10, 34), (11, 35), (12, 36), (13, 37), (14, 38), (15, 39), (16, 40), (17, 41), (18, 42), (19, 43), (20, 44), (21, 45), (22, 46), (23, 47), (24, 48), (25, 49), (26, 50), (27, 51), (28, 52)]) (j := 0) (d := 24) rfl (fun _ _ h => h))  (envS_next ?_)
          · intro p hp hne; simp only [List.mem_cons, List.not_mem_nil, or_false] at hp; rcases hp with rfl | rfl | rfl | rfl | rfl | rfl | rfl | rfl | rfl | rfl | rfl | rfl | rfl | rfl | rfl | rfl | rfl | rfl | rfl | rfl | rfl | rfl | rfl | rfl | rfl | rfl | rfl | rfl | rfl <;> first | exact absurd rfl hne | exact ⟨rfl, rfl⟩
        · refine ⟨_, rfl, ?_⟩
          refine A.u (LU.fieldO Tryd.underlying52 rfl Tryd.sizeOf35 (by decide) Is.rfl') rfl ?_
          refine ⟨⟨z, z0⟩, Weaker.mk' ?_ (HSub.refl _)⟩
          refine env_back0 (envS_hit (sl := [(0, 24), (1, 25), (2, 26), (3, 27), (4, 28), (5, 29), (6, 30), (7, 31), (8, 32), (9, 33), (10, 34), (11, 35), (12, 36), (13, 37), (14, 38), (15, 39), (16, 40), (17, 41), (18, 42), (19, 43), (20, 44), (21, 45), (22, 46), (23, 47), (24, 48), (25, 49), (26, 50), (27, 51), (28, 52)]) (j := 1) (d := 25) rfl (fun _ _ h => h))  (envS_next ?_)
          · intro p hp hne; simp only [List.mem_cons, List.not_mem_nil, or_false] at hp; rcases hp with rfl | rfl | rfl | rfl | rfl | rfl | rfl | rfl | rfl | rfl | rfl | rfl | rfl | rfl | rfl | rfl | rfl | rfl | rfl | rfl | rfl | rfl | rfl | rfl | rfl | rfl | rfl | rfl | rfl <;> first | exact absurd rfl hne | exact ⟨rfl, rfl⟩
        · have d1 := hdir 1 (List.mem_of_elem_eq_true (by kernel_rfl))
          refine ⟨_, rfl, ?_⟩
          refine LP.weak (t := 25) (v := .raw (.pointer (some ⟨b3, 1, none⟩))) (envS_is (j := 1) rfl d1) ?_
          refine A.u (LU.weak (LU.loadO 4 rfl ⟨Tryd.sizeOf35, Tryd.isAgg35⟩ Is.rfl' (Part.sub (by (simp; omega)))) (Is.of (y := .agg (vxL a.up)) (congrArg LV.agg (ac_up a)))) rfl ?_
          refine ⟨⟨z, z0⟩, Weaker.mk' ?_ (HSub.refl _)⟩
          refine env_back1 (envS_hit (sl := [(0, 24), (1, 25), (2, 26), (3, 27), (4, 28), (5, 29), (6, 30), (7, 31), (8, 32), (9, 33), (10, 34), (11, 35), (12, 36), (13, 37), (14, 38), (15, 39), (16, 40), (17, 41), (18, 42), (19, 43), (20, 44), (21, 45), (22, 46), (23, 47), (24, 48), (25, 49), (26, 50), (27, 51), (28, 52)]) (j := 2) (d := 26) rfl (fun _ _ h => h)) (envS_hit (sl := [(0, 24), (1, 25), (2, 26), (3, 27), (4, 28), (5, 29), (6, 30), (7, 31), (8, 32), (9, 33), (10, 34), (11, 35), (12, 36), (13, 37), (14, 38), (15, 39), (16, 40), (17, 41), (18, 42), (19, 43), (20, 44), (21, 45), (22, 46), (23, 47), (24, 48), (25, 49), (26, 50), (27, 51), (28, 52)]) (j := 1) (d := 25) rfl (fun _ _ h => h)) (envS_next ?_)
          · intro p hp hne; simp only [List.mem_cons, List.not_mem_nil, or_false] at hp; rcases hp with rfl | rfl | rfl | rfl | rfl | rfl | rfl | rfl | rfl | rfl | rfl | rfl | rfl | rfl | rfl | rfl | rfl | rfl | rfl | rfl | rfl | rfl | rfl | rfl | rfl | rfl | rfl | rfl | rfl <;> first | exact absurd rfl hne | exact ⟨rfl, rfl⟩
        · refine ⟨_, rfl, ?_⟩
          refine A.u (LU.fieldO Tryd.underlying52 rfl Tryd.sizeOf35 (by decide) Is.rfl') rfl ?_
          refine ⟨⟨z, z0⟩, Weaker.mk' ?_ (HSub.refl _)⟩
          refine env_back0 (envS_hit (sl := [(0, 24), (1, 25), (2, 26), (3, 27), (4, 28), (5, 29), (6, 30), (7, 31), (8, 32), (9, 33), (10, 34), (11, 35), (12, 36), (13, 37), (14, 38), (15, 39), (16, 40), (17, 41), (18, 42), (19, 43), (20, 44), (21, 45), (22, 46), (23, 47), (24, 48), (25, 49), (26, 50), (27, 51), (28, 52)]) (j := 3) (d := 27) rfl (fun _ _ h => h))  (envS_next ?_)
          · intro p hp hne; simp only [List.mem_cons, List.not_mem_nil, or_false] at hp; rcases hp with rfl | rfl | rfl | rfl | rfl | rfl | rfl | rfl | rfl | rfl | rfl | rfl | rfl | rfl | rfl | rfl | rfl | rfl | rfl | rfl | rfl | rfl | rfl | rfl | rfl | rfl | rfl | rfl | rfl <;> first | exact absurd rfl hne | exact ⟨rfl, rfl⟩
        · have d3 := hdir 3 (List.mem_of_elem_eq_true (by kernel_rfl))
          refine ⟨_, rfl, ?_⟩
          refine LP.weak (t := 27) (v := .raw (.pointer (some ⟨b3, 34, none⟩))) (envS_is (j := 3) rfl d3) ?_
          refine A.u (LU.weak (LU.loadO 4 rfl ⟨Tryd.sizeOf35, Tryd.isAgg35⟩ Is.rfl' (Part.sub (by (simp; omega)))) (Is.of (y := .agg (vxL a.down)) (congrArg LV.agg (ac_down a)))) rfl ?_
          refine ⟨⟨z, z0⟩, Weaker.mk' ?_ (HSub.refl _)⟩
          refine env_back1 (envS_hit (sl := [(0, 24), (1, 25), (2, 26), (3, 27), (4, 28), (5, 29), (6, 30), (7, 31), (8, 32), (9, 33), (10, 34), (11, 35), (12, 36), (13, 37), (14, 38), (15, 39), (16, 40), (17, 41), (18, 42), (19, 43), (20, 44), (21, 45), (22, 46), (23, 47), (24, 48), (25, 49), (26, 50), (27, 51), (28, 52)]) (j := 4) (d := 28) rfl (fun _ _ h => h)) (envS_hit (sl := [(0, 24), (1, 25), (2, 26), (3, 27), (4, 28), (5, 29), (6, 30), (7, 31), (8, 32), (9, 33), (10, 34), (11, 35), (12, 36), (13, 37), (14, 38), (15, 39), (16, 40), (17, 41), (18, 42), (19, 43), (20, 44), (21, 45), (22, 46), (23, 47), (24, 48), (25, 49), (26, 50), (27, 51), (28, 52)]) (j := 3) (d := 27) rfl (fun _ _ h => h)) (envS_next ?_)
          · intro p hp hne; simp only [List.mem_cons, List.not_mem_nil, or_false] at hp; rcases hp with rfl | rfl | rfl | rfl | rfl | rfl | rfl | rfl | rfl | rfl | rfl | rfl | rfl | rfl | rfl | rfl | rfl | rfl | rfl | rfl | rfl | rfl | rfl | rfl | rfl | rfl | rfl | rfl | rfl <;> first | exact absurd rfl hne | exact ⟨rfl, rfl⟩
        · refine ⟨_, rfl, ?_⟩
          refine A.u (LU.fieldO Tryd.underlying52 rfl Tryd.sizeOf26 (by decide) Is.rfl') rfl ?_
          refine ⟨⟨z, z0⟩, Weaker.mk' ?_ (HSub.refl _)⟩
          refine env_back0 (envS_hit (sl := [(0, 24), (1, 25), (2, 26), (3, 27), (4, 28), (5, 29), (6, 30), (7, 31), (8, 32), (9, 33), (10, 34), (11, 35), (12, 36), (13, 37), (14, 38), (15, 39), (16, 40), (17, 41), (18, 42), (19, 43), (20, 44), (21, 45), (22, 46), (23, 47), (24, 48), (25, 49), (26, 50), (27, 51), (28, 52)]) (j := 5) (d := 29) rfl (fun _ _ h => h))  (envS_next ?_)
          · intro p hp hne; simp only [List.mem_cons, List.not_mem_nil, or_false] at hp; rcases hp with rfl | rfl | rfl | rfl | rfl | rfl | rfl | rfl | rfl | rfl | rfl | rfl | rfl | rfl | rfl | rfl | rfl | rfl | rfl | rfl | rfl | rfl | rfl | rfl | rfl | rfl | rfl | rfl | rfl <;> first | exact absurd rfl hne | exact ⟨rfl, rfl⟩
        · have d5 := hdir 5 (List.mem_of_elem_eq_true (by kernel_rfl))
          refine ⟨_, rfl, ?_⟩
          refine LP.weak (t := 29) (v := .raw (.pointer (some ⟨b3, 67, none⟩))) (envS_is (j := 5) rfl d5) ?_
          refine A.u (LU.loadO 4 rfl ⟨Tryd.sizeOf26, Tryd.isAgg26⟩ Is.rfl' (Part.one (ac_ids a))) rfl ?_
          refine ⟨⟨z, z0⟩, Weaker.mk' ?_ (HSub.refl _)⟩
          refine env_back1 (envS_hit (sl := [(0, 24), (1, 25), (2, 26), (3, 27), (4, 28), (5, 29), (6, 30), (7, 31), (8, 32), (9, 33), (10, 34), (11, 35), (12, 36), (13, 37), (14, 38), (15, 39), (16, 40), (17, 41), (18, 42), (19, 43), (20, 44), (21, 45), (22, 46), (23, 47), (24, 48), (25, 49), (26, 50), (27, 51), (28, 52)]) (j := 6) (d := 30) rfl (fun _ _ h => h)) (envS_hit (sl := [(0, 24), (1, 25), (2, 26), (3, 27), (4, 28), (5, 29), (6, 30), (7, 31), (8, 32), (9, 33), (10, 34), (11, 35), (12, 36), (13, 37), (14, 38), (15, 39), (16, 40), (17, 41), (18, 42), (19, 43), (20, 44), (21, 45), (22, 46), (23, 47), (24, 48), (25, 49), (26, 50), (27, 51), (28, 52)]) (j := 5) (d := 29) rfl (fun _ _ h => h)) (envS_next ?_)
          · intro p hp hne; simp only [List.mem_cons, List.not_mem_nil, or_false] at hp; rcases hp with rfl | rfl | rfl | rfl | rfl | rfl | rfl | rfl | rfl | rfl | rfl | rfl | rfl | rfl | rfl | rfl | rfl | rfl | rfl | rfl | rfl | rfl | rfl | rfl | rfl | rfl | rfl | rfl | rfl <;> first | exact absurd rfl hne | exact ⟨rfl, rfl⟩
        · refine ⟨_, rfl, ?_⟩
          refine A.u (LU.fieldO Tryd.underlying52 rfl Tryd.sizeOf25 (by decide) Is.rfl') rfl ?_
          refine ⟨⟨z, z0⟩, Weaker.mk' ?_ (HSub.refl _)⟩
          refine env_back0 (envS_hit (sl := [(0, 24), (1, 25), (2, 26), (3, 27), (4, 28), (5, 29), (6, 30), (7, 31), (8, 32), (9, 33), (10, 34), (11, 35), (12, 36), (13, 37), (14, 38), (15, 39), (16, 40), (17, 41), (18, 42), (19, 43), (20, 44), (21, 45), (22, 46), (23, 47), (24, 48), (25, 49), (26, 50), (27, 51), (28, 52)]) (j := 7) (d := 31) rfl (fun _ _ h => h))  (envS_next ?_)
          · intro p hp hne; simp only [List.mem_cons, List.not_mem_nil, or_false] at hp; rcases hp with rfl | rfl | rfl | rfl | rfl | rfl | rfl | rfl | rfl | rfl | rfl | rfl | rfl | rfl | rfl | rfl | rfl | rfl | rfl | rfl | rfl | rfl | rfl | rfl | rfl | rfl | rfl | rfl | rfl <;> first | exact absurd rfl hne | exact ⟨rfl, rfl⟩
        · have d7 := hdir 7 (List.mem_of_elem_eq_true (by kernel_rfl))
          refine ⟨_, rfl, ?_⟩
          refine LP.weak (t := 31) (v := .raw (.pointer (some ⟨b3, 68, none⟩))) (envS_is (j := 7) rfl d7) ?_
          refine A.u (LU.loadO 4 rfl ⟨Tryd.sizeOf25, Tryd.isAgg25⟩ Is.rfl' (Part.one (ac_texts a))) rfl ?_
          refine ⟨⟨z, z0⟩, Weaker.mk' ?_ (HSub.refl _)⟩
          refine env_back1 (envS_hit (sl := [(0, 24), (1, 25), (2, 26), (3, 27), (4, 28), (5, 29), (6, 30), (7, 31), (8, 32), (9, 33), (10, 34), (11, 35), (12, 36), (13, 37), (14, 38), (15, 39), (16, 40), (17, 41), (18, 42), (19, 43), (20, 44), (21, 45), (22, 46), (23, 47), (24, 48), (25, 49), (26, 50), (27, 51), (28, 52)]) (j := 8) (d := 32) rfl (fun _ _ h => h)) (envS_hit (sl := [(0, 24), (1, 25), (2, 26), (3, 27), (4, 28), (5, 29), (6, 30), (7, 31), (8, 32), (9, 33), (10, 34), (11, 35), (12, 36), (13, 37), (14, 38), (15, 39), (16, 40), (17, 41), (18, 42), (19, 43), (20, 44), (21, 45), (22, 46), (23, 47), (24, 48), (25, 49), (26, 50), (27, 51), (28, 52)]) (j := 7) (d := 31) rfl (fun _ _ h => h)) (envS_next ?_)
          · intro p hp hne; simp only [List.mem_cons, List.not_mem_nil, or_false] at hp; rcases hp with rfl | rfl | rfl | rfl | rfl | rfl | rfl | rfl | rfl | rfl | rfl | rfl | rfl | rfl | rfl | rfl | rfl | rfl | rfl | rfl | rfl | rfl | rfl | rfl | rfl | rfl | rfl | rfl | rfl <;> first | exact absurd rfl hne | exact ⟨rfl, rfl⟩
        · have d0 := hdir 0 (List.mem_of_elem_eq_true (by kernel_rfl))
          have d2 := hdir 2 (List.mem_of_elem_eq_true (by kernel_rfl))
          have d4 := hdir 4 (List.mem_of_elem_eq_true (by kernel_rfl))
          have d6 := hdir 6 (List.mem_of_elem_eq_true (by kernel_rfl))
          have d8 := hdir 8 (List.mem_of_elem_eq_true (by kernel_rfl))
          refine ⟨_, rfl, ?_⟩
          refine LP.weak (t := 24) (v := pt g) (envS_is (j := 0) rfl d0) ?_
          refine LP.weak (t := 26) (v := .agg (vxL a.up)) (envS_is (j := 2) rfl d2) ?_
          refine LP.weak (t := 28) (v := .agg (vxL a.down)) (envS_is (j := 4) rfl d4) ?_
          refine LP.weak (t := 30) (v := Vxs a.ids .unk) (envS_is (j := 6) rfl d6) ?_
          refine LP.weak (t := 32) (v := .sl 1 (strsL a.texts) .unk) (envS_is (j := 8) rfl d8) ?_
          refine A.act (X.call (hadd) Tryd.func11 rfl rfl rfl (HSub.refl _) (Opds.cons Is.rfl' (Opds.cons Is.rfl' (Opds.cons Is.rfl' (Opds.cons Is.rfl' (Opds.cons Is.rfl' Opds.nil))))) ?_)
          rintro r H' ⟨rfl, rfl⟩
          refine ⟨⟨z, z0⟩, Weaker.mk' ?_ (HSub.refl _)⟩
          refine env_back5 (envS_hit (sl := [(0, 24), (1, 25), (2, 26), (3, 27), (4, 28), (5, 29), (6, 30), (7, 31), (8, 32), (9, 33), (10, 34), (11, 35), (12, 36), (13, 37), (14, 38), (15, 39), (16, 40), (17, 41), (18, 42), (19, 43), (20, 44), (21, 45), (22, 46), (23, 47), (24, 48), (25, 49), (26, 50), (27, 51), (28, 52)]) (j := 9) (d := 33) rfl (fun _ _ h => h)) (envS_hit (sl := [(0, 24), (1, 25), (2, 26), (3, 27), (4, 28), (5, 29), (6, 30), (7, 31), (8, 32), (9, 33), (10, 34), (11, 35), (12, 36), (13, 37), (14, 38), (15, 39), (16, 40), (17, 41), (18, 42), (19, 43), (20, 44), (21, 45), (22, 46), (23, 47), (24, 48), (25, 49), (26, 50), (27, 51), (28, 52)]) (j := 8) (d := 32) rfl (fun _ _ h => h)) (envS_hit (sl := [(0, 24), (1, 25), (2, 26), (3, 27), (4, 28), (5, 29), (6, 30), (7, 31), (8, 32), (9, 33), (10, 34), (11, 35), (12, 36), (13, 37), (14, 38), (15, 39), (16, 40), (17, 41), (18, 42), (19, 43), (20, 44), (21, 45), (22, 46), (23, 47), (24, 48), (25, 49), (26, 50), (27, 51), (28, 52)]) (j := 6) (d := 30) rfl (fun _ _ h => h)) (envS_hit (sl := [(0, 24), (1, 25), (2, 26), (3, 27), (4, 28), (5, 29), (6, 30), (7, 31), (8, 32), (9, 33), (10, 34), (11, 35), (12, 36), (13, 37), (14, 38), (15, 39), (16, 40), (17, 41), (18, 42), (19, 43), (20, 44), (21, 45), (22, 46), (23, 47), (24, 48), (25, 49), (26, 50), (27, 51), (28, 52)]) (j := 4) (d := 28) rfl (fun _ _ h => h)) (envS_hit (sl := [(0, 24), (1, 25), (2, 26), (3, 27), (4, 28), (5, 29), (6, 30), (7, 31), (8, 32), (9, 33), (10, 34), (11, 35), (12, 36), (13, 37), (14, 38), (15, 39), (16, 40), (17, 41), (18, 42), (19, 43), (20, 44), (21, 45), (22, 46), (23, 47), (24, 48), (25, 49), (26, 50), (27, 51), (28, 52)]) (j := 2) (d := 26) rfl (fun _ _ h => h)) (envS_hit (sl := [(0, 24), (1, 25), (2, 26), (3, 27), (4, 28), (5, 29), (6, 30), (7, 31), (8, 32), (9, 33), (10, 34), (11, 35), (12, 36), (13, 37), (14, 38), (15, 39), (16, 40), (17, 41), (18, 42), (19, 43), (20, 44), (21, 45), (22, 46), (23, 47), (24, 48), (25, 49), (26, 50), (27, 51), (28, 52)]) (j := 0) (d := 24) rfl (fun _ _ h => h)) (envS_next ?_)
          · intro p hp hne; simp only [List.mem_cons, List.not_mem_nil, or_false] at hp; rcases hp with rfl | rfl | rfl | rfl | rfl | rfl | rfl | rfl | rfl | rfl | rfl | rfl | rfl | rfl | rfl | rfl | rfl | rfl | rfl | rfl | rfl | rfl | rfl | rfl | rfl | rfl | rfl | rfl | rfl <;> first | exact absurd rfl hne | exact ⟨rfl, rfl⟩
        · have d9 := hdir 9 (List.mem_of_elem_eq_true (by kernel_rfl))
          refine ⟨_, rfl, ?_⟩
          refine LP.weak (t := 33) (v := i64 (raddE R a.up a.down a.ids a.texts : Nat)) (envS_is (j := 9) rfl d9) ?_
          refine A.u (LU.weak (LU.eql Is.rfl' Is.rfl') (Is.of (y := bl false) (congrArg bl (decide_eq_false (fun c => he (by omega)))))) rfl ?_
          refine ⟨⟨z, z0⟩, Weaker.mk' ?_ (HSub.refl _)⟩
          refine env_back1 (envS_hit (sl := [(0, 24), (1, 25), (2, 26), (3, 27), (4, 28), (5, 29), (6, 30), (7, 31), (8, 32), (9, 33), (10, 34), (11, 35), (12, 36), (13, 37), (14, 38), (15, 39), (16, 40), (17, 41), (18, 42), (19, 43), (20, 44), (21, 45), (22, 46), (23, 47), (24, 48), (25, 49), (26, 50), (27, 51), (28, 52)]) (j := 10) (d := 34) rfl (fun _ _ h => h)) (envS_hit (sl := [(0, 24), (1, 25), (2, 26), (3, 27), (4, 28), (5, 29), (6, 30), (7, 31), (8, 32), (9, 33), (10, 34), (11, 35), (12, 36), (13, 37), (14, 38), (15, 39), (16, 40), (17, 41), (18, 42), (19, 43), (20, 44), (21, 45), (22, 46), (23, 47), (24, 48), (25, 49), (26, 50), (27, 51), (28, 52)]) (j := 9) (d := 33) rfl (fun _ _ h => h)) (envS_next ?_)
          · intro p hp hne; simp only [List.mem_cons, List.not_mem_nil, or_false] at hp; rcases hp with rfl | rfl | rfl | rfl | rfl | rfl | rfl | rfl | rfl | rfl | rfl | rfl | rfl | rfl | rfl | rfl | rfl | rfl | rfl | rfl | rfl | rfl | rfl | rfl | rfl | rfl | rfl | rfl | rfl <;> first | exact absurd rfl hne | exact ⟨rfl, rfl⟩
        · have d9 := hdir 9 (List.mem_of_elem_eq_true (by kernel_rfl))
          have d10 := hdir 10 (List.mem_of_elem_eq_true (by kernel_rfl))
          refine ⟨_, rfl, ?_⟩
          refine LP.weak (t := 34) (v := bl false) (envS_is (j := 10) rfl d10) ?_
          refine A.u (LU.moveR Is.rfl') rfl ?_
          refine ⟨⟨z, z0⟩, Weaker.mk' ?_ (HSub.refl _)⟩
          refine env_back1 (envS_hit (sl := [(0, 24), (1, 25), (2, 26), (3, 27), (4, 28), (5, 29), (6, 30), (7, 31), (8, 32), (9, 33), (10, 34), (11, 35), (12, 36), (13, 37), (14, 38), (15, 39), (16, 40), (17, 41), (18, 42), (19, 43), (20, 44), (21, 45), (22, 46), (23, 47), (24, 48), (25, 49), (26, 50), (27, 51), (28, 52)]) (j := 11) (d := 35) rfl (fun _ _ h => h)) (envS_hit (sl := [(0, 24), (1, 25), (2, 26), (3, 27), (4, 28), (5, 29), (6, 30), (7, 31), (8, 32), (9, 33), (10, 34), (11, 35), (12, 36), (13, 37), (14, 38), (15, 39), (16, 40), (17, 41), (18, 42), (19, 43), (20, 44), (21, 45), (22, 46), (23, 47), (24, 48), (25, 49), (26, 50), (27, 51), (28, 52)]) (j := 10) (d := 34) rfl (fun _ _ h => h)) (envS_next ?_)
          · intro p hp hne; simp only [List.mem_cons, List.not_mem_nil, or_false] at hp; rcases hp with rfl | rfl | rfl | rfl | rfl | rfl | rfl | rfl | rfl | rfl | rfl | rfl | rfl | rfl | rfl | rfl | rfl | rfl | rfl | rfl | rfl | rfl | rfl | rfl | rfl | rfl | rfl | rfl | rfl <;> first | exact absurd rfl hne | exact ⟨rfl, rfl⟩
        · have d11 := hdir 11 (List.mem_of_elem_eq_true (by kernel_rfl))
          refine ⟨_, rfl, ?_⟩
          refine LP.weak (t := 35) (v := bl false) (envS_is (j := 11) rfl d11) ?_
          refine A.skipT rfl rfl rfl ?_
          refine ⟨⟨z, z0⟩, Weaker.mk' ?_ (HSub.refl _)⟩
          refine env_back1 (envS_hit (sl := [(0, 24), (1, 25), (2, 26), (3, 27), (4, 28), (5, 29), (6, 30), (7, 31), (8, 32), (9, 33), (10, 34), (11, 35), (12, 36), (13, 37), (14, 38), (15, 39), (16, 40), (17, 41), (18, 42), (19, 43), (20, 44), (21, 45), (22, 46), (23, 47), (24, 48), (25, 49), (26, 50), (27, 51), (28, 52)]) (j := 12) (d := 36) rfl (fun _ _ h => h)) (envS_hit (sl := [(0, 24), (1, 25), (2, 26), (3, 27), (4, 28), (5, 29), (6, 30), (7, 31), (8, 32), (9, 33), (10, 34), (11, 35), (12, 36), (13, 37), (14, 38), (15, 39), (16, 40), (17, 41), (18, 42), (19, 43), (20, 44), (21, 45), (22, 46), (23, 47), (24, 48), (25, 49), (26, 50), (27, 51), (28, 52)]) (j := 11) (d := 35) rfl (fun _ _ h => h)) (envS_next ?_)
          · intro p hp hne; simp only [List.mem_cons, List.not_mem_nil, or_false] at hp; rcases hp with rfl | rfl | rfl | rfl | rfl | rfl | rfl | rfl | rfl | rfl | rfl | rfl | rfl | rfl | rfl | rfl | rfl | rfl | rfl | rfl | rfl | rfl | rfl | rfl | rfl | rfl | rfl | rfl | rfl <;> first | exact absurd rfl hne | exact ⟨rfl, rfl⟩
        · have d11 := hdir 11 (List.mem_of_elem_eq_true (by kernel_rfl))
          have d12 := hdir 12 (List.mem_of_elem_eq_true (by kernel_rfl))
          refine ⟨_, rfl, ?_⟩
          refine LP.weak (t := 35) (v := bl false) (envS_is (j := 11) rfl d11) ?_
          refine LP.weak (t := 36) (v := .raw undef) (envS_is (j := 12) rfl d12) ?_
          refine A.skipT rfl rfl rfl ?_
          refine ⟨⟨z, z0⟩, Weaker.mk' ?_ (HSub.refl _)⟩
          refine env_back2 (envS_hit (sl := [(0, 24), (1, 25), (2, 26), (3, 27), (4, 28), (5, 29), (6, 30), (7, 31), (8, 32), (9, 33), (10, 34), (11, 35), (12, 36), (13, 37), (14, 38), (15, 39), (16, 40), (17, 41), (18, 42), (19, 43), (20, 44), (21, 45), (22, 46), (23, 47), (24, 48), (25, 49), (26, 50), (27, 51), (28, 52)]) (j := 13) (d := 37) rfl (fun _ _ h => h)) (envS_hit (sl := [(0, 24), (1, 25), (2, 26), (3, 27), (4, 28), (5, 29), (6, 30), (7, 31), (8, 32), (9, 33), (10, 34), (11, 35), (12, 36), (13, 37), (14, 38), (15, 39), (16, 40), (17, 41), (18, 42), (19, 43), (20, 44), (21, 45), (22, 46), (23, 47), (24, 48), (25, 49), (26, 50), (27, 51), (28, 52)]) (j := 12) (d := 36) rfl (fun _ _ h => h)) (envS_hit (sl := [(0, 24), (1, 25), (2, 26), (3, 27), (4, 28), (5, 29), (6, 30), (7, 31), (8, 32), (9, 33), (10, 34), (11, 35), (12, 36), (13, 37), (14, 38), (15, 39), (16, 40), (17, 41), (18, 42), (19, 43), (20, 44), (21, 45), (22, 46), (23, 47), (24, 48), (25, 49), (26, 50), (27, 51), (28, 52)]) (j := 11) (d := 35) rfl (fun _ _ h => h)) (envS_next ?_)
          · intro p hp hne; simp only [List.mem_cons, List.not_mem_nil, or_false] at hp; rcases hp with rfl | rfl | rfl | rfl | rfl | rfl | rfl | rfl | rfl | rfl | rfl | rfl | rfl | rfl | rfl | rfl | rfl | rfl | rfl | rfl | rfl | rfl | rfl | rfl | rfl | rfl | rfl | rfl | rfl <;> first | exact absurd rfl hne | exact ⟨rfl, rfl⟩
        · have d11 := hdir 11 (List.mem_of_elem_eq_true (by kernel_rfl))
          refine ⟨_, rfl, ?_⟩
          refine LP.weak (t := 35) (v := bl false) (envS_is (j := 11) rfl d11) ?_
          refine A.skipT rfl rfl rfl ?_
          refine ⟨⟨z, z0⟩, Weaker.mk' ?_ (HSub.refl _)⟩
          refine env_back1 (envS_hit (sl := [(0, 24), (1, 25), (2, 26), (3, 27), (4, 28), (5, 29), (6, 30), (7, 31), (8, 32), (9, 33), (10, 34), (11, 35), (12, 36), (13, 37), (14, 38), (15, 39), (16, 40), (17, 41), (18, 42), (19, 43), (20, 44), (21, 45), (22, 46), (23, 47), (24, 48), (25, 49), (26, 50), (27, 51), (28, 52)]) (j := 14) (d := 38) rfl (fun _ _ h => h)) (envS_hit (sl := [(0, 24), (1, 25), (2, 26), (3, 27), (4, 28), (5, 29), (6, 30), (7, 31), (8, 32), (9, 33), (10, 34), (11, 35), (12, 36), (13, 37), (14, 38), (15, 39), (16, 40), (17, 41), (18, 42), (19, 43), (20, 44), (21, 45), (22, 46), (23, 47), (24, 48), (25, 49), (26, 50), (27, 51), (28, 52)]) (j := 11) (d := 35) rfl (fun _ _ h => h)) (envS_next ?_)
          · intro p hp hne; simp only [List.mem_cons, List.not_mem_nil, or_false] at hp; rcases hp with rfl | rfl | rfl | rfl | rfl | rfl | rfl | rfl | rfl | rfl | rfl | rfl | rfl | rfl | rfl | rfl | rfl | rfl | rfl | rfl | rfl | rfl | rfl | rfl | rfl | rfl | rfl | rfl | rfl <;> first | exact absurd rfl hne | exact ⟨rfl, rfl⟩
        · have d11 := hdir 11 (List.mem_of_elem_eq_true (by kernel_rfl))
          have d14 := hdir 14 (List.mem_of_elem_eq_true (by kernel_rfl))
          refine ⟨_, rfl, ?_⟩
          refine LP.weak (t := 35) (v := bl false) (envS_is (j := 11) rfl d11) ?_
          refine LP.weak (t := 38) (v := .raw undef) (envS_is (j := 14) rfl d14) ?_
          refine A.skipT rfl rfl rfl ?_
          refine ⟨⟨z, z0⟩, Weaker.mk' ?_ (HSub.refl _)⟩
          refine env_back2 (envS_hit (sl := [(0, 24), (1, 25), (2, 26), (3, 27), (4, 28), (5, 29), (6, 30), (7, 31), (8, 32), (9, 33), (10, 34), (11, 35), (12, 36), (13, 37), (14, 38), (15, 39), (16, 40), (17, 41), (18, 42), (19, 43), (20, 44), (21, 45), (22, 46), (23, 47), (24, 48), (25, 49), (26, 50), (27, 51), (28, 52)]) (j := 15) (d := 39) rfl (fun _ _ h => h)) (envS_hit (sl := [(0, 24), (1, 25), (2, 26), (3, 27), (4, 28), (5, 29), (6, 30), (7, 31), (8, 32), (9, 33), (10, 34), (11, 35), (12, 36), (13, 37), (14, 38), (15, 39), (16, 40), (17, 41), (18, 42), (19, 43), (20, 44), (21, 45), (22, 46), (23, 47), (24, 48), (25, 49), (26, 50), (27, 51), (28, 52)]) (j := 14) (d := 38) rfl (fun _ _ h => h)) (envS_hit (sl := [(0, 24), (1, 25), (2, 26), (3, 27), (4, 28), (5, 29), (6, 30), (7, 31), (8, 32), (9, 33), (10, 34), (11, 35), (12, 36), (13, 37), (14, 38), (15, 39), (16, 40), (17, 41), (18, 42), (19, 43), (20, 44), (21, 45), (22, 46), (23, 47), (24, 48), (25, 49), (26, 50), (27, 51), (28, 52)]) (j := 11) (d := 35) rfl (fun _ _ h => h)) (envS_next ?_)
          · intro p hp hne; simp only [List.mem_cons, List.not_mem_nil, or_false] at hp; rcases hp with rfl | rfl | rfl | rfl | rfl | rfl | rfl | rfl | rfl | rfl | rfl | rfl | rfl | rfl | rfl | rfl | rfl | rfl | rfl | rfl | rfl | rfl | rfl | rfl | rfl | rfl | rfl | rfl | rfl <;> first | exact absurd rfl hne | exact ⟨rfl, rfl⟩
        · have d11 := hdir 11 (List.mem_of_elem_eq_true (by kernel_rfl))
          refine ⟨_, rfl, ?_⟩
          refine LP.weak (t := 35) (v := bl false) (envS_is (j := 11) rfl d11) ?_
          refine A.skipT rfl rfl rfl ?_
          refine ⟨⟨z, z0⟩, Weaker.mk' ?_ (HSub.refl _)⟩
          refine env_back1 (envS_hit (sl := [(0, 24), (1, 25), (2, 26), (3, 27), (4, 28), (5, 29), (6, 30), (7, 31), (8, 32), (9, 33), (10, 34), (11, 35), (12, 36), (13, 37), (14, 38), (15, 39), (16, 40), (17, 41), (18, 42), (19, 43), (20, 44), (21, 45), (22, 46), (23, 47), (24, 48), (25, 49), (26, 50), (27, 51), (28, 52)]) (j := 16) (d := 40) rfl (fun _ _ h => h)) (envS_hit (sl := [(0, 24), (1, 25), (2, 26), (3, 27), (4, 28), (5, 29), (6, 30), (7, 31), (8, 32), (9, 33), (10, 34), (11, 35), (12, 36), (13, 37), (14, 38), (15, 39), (16, 40), (17, 41), (18, 42), (19, 43), (20, 44), (21, 45), (22, 46), (23, 47), (24, 48), (25, 49), (26, 50), (27, 51), (28, 52)]) (j := 11) (d := 35) rfl (fun _ _ h => h)) (envS_next ?_)
          · intro p hp hne; simp only [List.mem_cons, List.not_mem_nil, or_false] at hp; rcases hp with rfl | rfl | rfl | rfl | rfl | rfl | rfl | rfl | rfl | rfl | rfl | rfl | rfl | rfl | rfl | rfl | rfl | rfl | rfl | rfl | rfl | rfl | rfl | rfl | rfl | rfl | rfl | rfl | rfl <;> first | exact absurd rfl hne | exact ⟨rfl, rfl⟩
        · have d11 := hdir 11 (List.mem_of_elem_eq_true (by kernel_rfl))
          have d16 := hdir 16 (List.mem_of_elem_eq_true (by kernel_rfl))
          refine ⟨_, rfl, ?_⟩
          refine LP.weak (t := 35) (v := bl false) (envS_is (j := 11) rfl d11) ?_
          refine LP.weak (t := 40) (v := .raw undef) (envS_is (j := 16) rfl d16) ?_
          refine A.skipT rfl rfl rfl ?_
          refine ⟨⟨z, z0⟩, Weaker.mk' ?_ (HSub.refl _)⟩
          refine env_back2 (envS_hit (sl := [(0, 24), (1, 25), (2, 26), (3, 27), (4, 28), (5, 29), (6, 30), (7, 31), (8, 32), (9, 33), (10, 34), (11, 35), (12, 36), (13, 37), (14, 38), (15, 39), (16, 40), (17, 41), (18, 42), (19, 43), (20, 44), (21, 45), (22, 46), (23, 47), (24, 48), (25, 49), (26, 50), (27, 51), (28, 52)]) (j := 17) (d := 41) rfl (fun _ _ h => h)) (envS_hit (sl := [(0, 24), (1, 25), (2, 26), (3, 27), (4, 28), (5, 29), (6, 30), (7, 31), (8, 32), (9, 33), (10, 34), (11, 35), (12, 36), (13, 37), (14, 38), (15, 39), (16, 40), (17, 41), (18, 42), (19, 43), (20, 44), (21, 45), (22, 46), (23, 47), (24, 48), (25, 49), (26, 50), (27, 51), (28, 52)]) (j := 16) (d := 40) rfl (fun _ _ h => h)) (envS_hit (sl := [(0, 24), (1, 25), (2, 26), (3, 27), (4, 28), (5, 29), (6, 30), (7, 31), (8, 32), (9, 33), (10, 34), (11, 35), (12, 36), (13, 37), (14, 38), (15, 39), (16, 40), (17, 41), (18, 42), (19, 43), (20, 44), (21, 45), (22, 46), (23, 47), (24, 48), (25, 49), (26, 50), (27, 51), (28, 52)]) (j := 11) (d := 35) rfl (fun _ _ h => h)) (envS_next ?_)
          · intro p hp hne; simp only [List.mem_cons, List.not_mem_nil, or_false] at hp; rcases hp with rfl | rfl | rfl | rfl | rfl | rfl | rfl | rfl | rfl | rfl | rfl | rfl | rfl | rfl | rfl | rfl | rfl | rfl | rfl | rfl | rfl | rfl | rfl | rfl | rfl | rfl | rfl | rfl | rfl <;> first | exact absurd rfl hne | exact ⟨rfl, rfl⟩
        · have d11 := hdir 11 (List.mem_of_elem_eq_true (by kernel_rfl))
          have d17 := hdir 17 (List.mem_of_elem_eq_true (by kernel_rfl))
          refine ⟨_, rfl, ?_⟩
          refine LP.weak (t := 35) (v := bl false) (envS_is (j := 11) rfl d11) ?_
          refine LP.weak (t := 41) (v := .raw undef) (envS_is (j := 17) rfl d17) ?_
          refine A.skipT rfl rfl rfl ?_
          refine ⟨⟨z, z0⟩, Weaker.mk' ?_ (HSub.refl _)⟩
          refine env_back2 (envS_hit (sl := [(0, 24), (1, 25), (2, 26), (3, 27), (4, 28), (5, 29), (6, 30), (7, 31), (8, 32), (9, 33), (10, 34), (11, 35), (12, 36), (13, 37), (14, 38), (15, 39), (16, 40), (17, 41), (18, 42), (19, 43), (20, 44), (21, 45), (22, 46), (23, 47), (24, 48), (25, 49), (26, 50), (27, 51), (28, 52)]) (j := 18) (d := 42) rfl (fun _ _ h => h)) (envS_hit (sl := [(0, 24), (1, 25), (2, 26), (3, 27), (4, 28), (5, 29), (6, 30), (7, 31), (8, 32), (9, 33), (10, 34), (11, 35), (12, 36), (13, 37), (14, 38), (15, 39), (16, 40), (17, 41), (18, 42), (19, 43), (20, 44), (21, 45), (22, 46), (23, 47), (24, 48), (25, 49), (26, 50), (27, 51), (28, 52)]) (j := 17) (d := 41) rfl (fun _ _ h => h)) (envS_hit (sl := [(0, 24), (1, 25), (2, 26), (3, 27), (4, 28), (5, 29), (6, 30), (7, 31), (8, 32), (9, 33), (10, 34), (11, 35), (12, 36), (13, 37), (14, 38), (15, 39), (16, 40), (17, 41), (18, 42), (19, 43), (20, 44), (21, 45), (22, 46), (23, 47), (24, 48), (25, 49), (26, 50), (27, 51), (28, 52)]) (j := 11) (d := 35) rfl (fun _ _ h => h)) (envS_next ?_)
          · intro p hp hne; simp only [List.mem_cons, List.not_mem_nil, or_false] at hp; rcases hp with rfl | rfl | rfl | rfl | rfl | rfl | rfl | rfl | rfl | rfl | rfl | rfl | rfl | rfl | rfl | rfl | rfl | rfl | rfl | rfl | rfl | rfl | rfl | rfl | rfl | rfl | rfl | rfl | rfl <;> first | exact absurd rfl hne | exact ⟨rfl, rfl⟩
        · have d11 := hdir 11 (List.mem_of_elem_eq_true (by kernel_rfl))
          have d15 := hdir 15 (List.mem_of_elem_eq_true (by kernel_rfl))
          have d18 := hdir 18 (List.mem_of_elem_eq_true (by kernel_rfl))
          refine ⟨_, rfl, ?_⟩
          refine LP.weak (t := 35) (v := bl false) (envS_is (j := 11) rfl d11) ?_
          refine LP.weak (t := 39) (v := .raw undef) (envS_is (j := 15) rfl d15) ?_
          refine LP.weak (t := 42) (v := .raw undef) (envS_is (j := 18) rfl d18) ?_
          refine A.skipT rfl rfl rfl ?_
          refine ⟨⟨z, z0⟩, Weaker.mk' ?_ (HSub.refl _)⟩
          refine env_back3 (envS_hit (sl := [(0, 24), (1, 25), (2, 26), (3, 27), (4, 28), (5, 29), (6, 30), (7, 31), (8, 32), (9, 33), (10, 34), (11, 35), (12, 36), (13, 37), (14, 38), (15, 39), (16, 40), (17, 41), (18, 42), (19, 43), (20, 44), (21, 45), (22, 46), (23, 47), (24, 48), (25, 49), (26, 50), (27, 51), (28, 52)]) (j := 19) (d := 43) rfl (fun _ _ h => h)) (envS_hit (sl := [(0, 24), (1, 25), (2, 26), (3, 27), (4, 28), (5, 29), (6, 30), (7, 31), (8, 32), (9, 33), (10, 34), (11, 35), (12, 36), (13, 37), (14, 38), (15, 39), (16, 40), (17, 41), (18, 42), (19, 43), (20, 44), (21, 45), (22, 46), (23, 47), (24, 48), (25, 49), (26, 50), (27, 51), (28, 52)]) (j := 18) (d := 42) rfl (fun _ _ h => h)) (envS_hit (sl := [(0, 24), (1, 25), (2, 26), (3, 27), (4, 28), (5, 29), (6, 30), (7, 31), (8, 32), (9, 33), (10, 34), (11, 35), (12, 36), (13, 37), (14, 38), (15, 39), (16, 40), (17, 41), (18, 42), (19, 43), (20, 44), (21, 45), (22, 46), (23, 47), (24, 48), (25, 49), (26, 50), (27, 51), (28, 52)]) (j := 15) (d := 39) rfl (fun _ _ h => h)) (envS_hit (sl := [(0, 24), (1, 25), (2, 26), (3, 27), (4, 28), (5, 29), (6, 30), (7, 31), (8, 32), (9, 33), (10, 34), (11, 35), (12, 36), (13, 37), (14, 38), (15, 39), (16, 40), (17, 41), (18, 42), (19, 43), (20, 44), (21, 45), (22, 46), (23, 47), (24, 48), (25, 49), (26, 50), (27, 51), (28, 52)]) (j := 11) (d := 35) rfl (fun _ _ h => h)) (envS_next ?_)
          · intro p hp hne; simp only [List.mem_cons, List.not_mem_nil, or_false] at hp; rcases hp with rfl | rfl | rfl | rfl | rfl | rfl | rfl | rfl | rfl | rfl | rfl | rfl | rfl | rfl | rfl | rfl | rfl | rfl | rfl | rfl | rfl | rfl | rfl | rfl | rfl | rfl | rfl | rfl | rfl <;> first | exact absurd rfl hne | exact ⟨rfl, rfl⟩
        · have d11 := hdir 11 (List.mem_of_elem_eq_true (by kernel_rfl))
          have d13 := hdir 13 (List.mem_of_elem_eq_true (by kernel_rfl))
          have d19 := hdir 19 (List.mem_of_elem_eq_true (by kernel_rfl))
          refine ⟨_, rfl, ?_⟩
          refine LP.weak (t := 35) (v := bl false) (envS_is (j := 11) rfl d11) ?_
          refine LP.weak (t := 37) (v := .raw undef) (envS_is (j := 13) rfl d13) ?_
          refine LP.weak (t := 43) (v := .raw undef) (envS_is (j := 19) rfl d19) ?_
          refine A.skipT rfl rfl rfl ?_
          refine ⟨⟨z, z0⟩, Weaker.mk' ?_ (HSub.refl _)⟩
          refine env_back3 (envS_hit (sl := [(0, 24), (1, 25), (2, 26), (3, 27), (4, 28), (5, 29), (6, 30), (7, 31), (8, 32), (9, 33), (10, 34), (11, 35), (12, 36), (13, 37), (14, 38), (15, 39), (16, 40), (17, 41), (18, 42), (19, 43), (20, 44), (21, 45), (22, 46), (23, 47), (24, 48), (25, 49), (26, 50), (27, 51), (28, 52)]) (j := 20) (d := 44) rfl (fun _ _ h => h)) (envS_hit (sl := [(0, 24), (1, 25), (2, 26), (3, 27), (4, 28), (5, 29), (6, 30), (7, 31), (8, 32), (9, 33), (10, 34), (11, 35), (12, 36), (13, 37), (14, 38), (15, 39), (16, 40), (17, 41), (18, 42), (19, 43), (20, 44), (21, 45), (22, 46), (23, 47), (24, 48), (25, 49), (26, 50), (27, 51), (28, 52)]) (j := 19) (d := 43) rfl (fun _ _ h => h)) (envS_hit (sl := [(0, 24), (1, 25), (2, 26), (3, 27), (4, 28), (5, 29), (6, 30), (7, 31), (8, 32), (9, 33), (10, 34), (11, 35), (12, 36), (13, 37), (14, 38), (15, 39), (16, 40), (17, 41), (18, 42), (19, 43), (20, 44), (21, 45), (22, 46), (23, 47), (24, 48), (25, 49), (26, 50), (27, 51), (28, 52)]) (j := 13) (d := 37) rfl (fun _ _ h => h)) (envS_hit (sl := [(0, 24), (1, 25), (2, 26), (3, 27), (4, 28), (5, 29), (6, 30), (7, 31), (8, 32), (9, 33), (10, 34), (11, 35), (12, 36), (13, 37), (14, 38), (15, 39), (16, 40), (17, 41), (18, 42), (19, 43), (20, 44), (21, 45), (22, 46), (23, 47), (24, 48), (25, 49), (26, 50), (27, 51), (28, 52)]) (j := 11) (d := 35) rfl (fun _ _ h => h)) (envS_next ?_)
          · intro p hp hne; simp only [List.mem_cons, List.not_mem_nil, or_false] at hp; rcases hp with rfl | rfl | rfl | rfl | rfl | rfl | rfl | rfl | rfl | rfl | rfl | rfl | rfl | rfl | rfl | rfl | rfl | rfl | rfl | rfl | rfl | rfl | rfl | rfl | rfl | rfl | rfl | rfl | rfl <;> first | exact absurd rfl hne | exact ⟨rfl, rfl⟩
        · have d11 := hdir 11 (List.mem_of_elem_eq_true (by kernel_rfl))
          have d13 := hdir 13 (List.mem_of_elem_eq_true (by kernel_rfl))
          have d20 := hdir 20 (List.mem_of_elem_eq_true (by kernel_rfl))
          refine ⟨_, rfl, ?_⟩
          refine LP.weak (t := 35) (v := bl false) (envS_is (j := 11) rfl d11) ?_
          refine LP.weak (t := 44) (v := .raw undef) (envS_is (j := 20) rfl d20) ?_
          refine A.skipT rfl rfl rfl ?_
          refine ⟨⟨z, z0⟩, Weaker.mk' ?_ (HSub.refl _)⟩
          refine env_back2 (envS_hit (sl := [(0, 24), (1, 25), (2, 26), (3, 27), (4, 28), (5, 29), (6, 30), (7, 31), (8, 32), (9, 33), (10, 34), (11, 35), (12, 36), (13, 37), (14, 38), (15, 39), (16, 40), (17, 41), (18, 42), (19, 43), (20, 44), (21, 45), (22, 46), (23, 47), (24, 48), (25, 49), (26, 50), (27, 51), (28, 52)]) (j := 21) (d := 45) rfl (fun _ _ h => h)) (envS_hit (sl := [(0, 24), (1, 25), (2, 26), (3, 27), (4, 28), (5, 29), (6, 30), (7, 31), (8, 32), (9, 33), (10, 34), (11, 35), (12, 36), (13, 37), (14, 38), (15, 39), (16, 40), (17, 41), (18, 42), (19, 43), (20, 44), (21, 45), (22, 46), (23, 47), (24, 48), (25, 49), (26, 50), (27, 51), (28, 52)]) (j := 20) (d := 44) rfl (fun _ _ h => h)) (envS_hit (sl := [(0, 24), (1, 25), (2, 26), (3, 27), (4, 28), (5, 29), (6, 30), (7, 31), (8, 32), (9, 33), (10, 34), (11, 35), (12, 36), (13, 37), (14, 38), (15, 39), (16, 40), (17, 41), (18, 42), (19, 43), (20, 44), (21, 45), (22, 46), (23, 47), (24, 48), (25, 49), (26, 50), (27, 51), (28, 52)]) (j := 11) (d := 35) rfl (fun _ _ h => h)) (envS_next ?_)
          · intro p hp hne; simp only [List.mem_cons, List.not_mem_nil, or_false] at hp; rcases hp with rfl | rfl | rfl | rfl | rfl | rfl | rfl | rfl | rfl | rfl | rfl | rfl | rfl | rfl | rfl | rfl | rfl | rfl | rfl | rfl | rfl | rfl | rfl | rfl | rfl | rfl | rfl | rfl | rfl <;> first | exact absurd rfl hne | exact ⟨rfl, rfl⟩
        · have d21 := hdir 21 (List.mem_of_elem_eq_true (by kernel_rfl))
          refine ⟨_, rfl, ?_⟩
          refine LP.weak (t := 45) (v := .raw undef) (envS_is (j := 21) rfl d21) ?_
          refine A.skipU rfl rfl rfl ?_
          refine ⟨⟨z, z0⟩, Weaker.mk' ?_ (HSub.refl _)⟩
          refine env_back1 (envS_hit (sl := [(0, 24), (1, 25), (2, 26), (3, 27), (4, 28), (5, 29), (6, 30), (7, 31), (8, 32), (9, 33), (10, 34), (11, 35), (12, 36), (13, 37), (14, 38), (15, 39), (16, 40), (17, 41), (18, 42), (19, 43), (20, 44), (21, 45), (22, 46), (23, 47), (24, 48), (25, 49), (26, 50), (27, 51), (28, 52)]) (j := 22) (d := 46) rfl (fun _ _ h => h)) (envS_hit (sl := [(0, 24), (1, 25), (2, 26), (3, 27), (4, 28), (5, 29), (6, 30), (7, 31), (8, 32), (9, 33), (10, 34), (11, 35), (12, 36), (13, 37), (14, 38), (15, 39), (16, 40), (17, 41), (18, 42), (19, 43), (20, 44), (21, 45), (22, 46), (23, 47), (24, 48), (25, 49), (26, 50), (27, 51), (28, 52)]) (j := 21) (d := 45) rfl (fun _ _ h => h)) (envS_next ?_)
          · intro p hp hne; simp only [List.mem_cons, List.not_mem_nil, or_false] at hp; rcases hp with rfl | rfl | rfl | rfl | rfl | rfl | rfl | rfl | rfl | rfl | rfl | rfl | rfl | rfl | rfl | rfl | rfl | rfl | rfl | rfl | rfl | rfl | rfl | rfl | rfl | rfl | rfl | rfl | rfl <;> first | exact absurd rfl hne | exact ⟨rfl, rfl⟩
        · have d21 := hdir 21 (List.mem_of_elem_eq_true (by kernel_rfl))
          refine ⟨_, rfl, ?_⟩
          refine LP.weak (t := 45) (v := .raw undef) (envS_is (j := 21) rfl d21) ?_
          refine A.skipU rfl rfl rfl ?_
          refine ⟨⟨z, z0⟩, Weaker.mk' ?_ (HSub.refl _)⟩
          refine env_back1 (envS_hit (sl := [(0, 24), (1, 25), (2, 26), (3, 27), (4, 28), (5, 29), (6, 30), (7, 31), (8, 32), (9, 33), (10, 34), (11, 35), (12, 36), (13, 37), (14, 38), (15, 39), (16, 40), (17, 41), (18, 42), (19, 43), (20, 44), (21, 45), (22, 46), (23, 47), (24, 48), (25, 49), (26, 50), (27, 51), (28, 52)]) (j := 23) (d := 47) rfl (fun _ _ h => h)) (envS_hit (sl := [(0, 24), (1, 25), (2, 26), (3, 27), (4, 28), (5, 29), (6, 30), (7, 31), (8, 32), (9, 33), (10, 34), (11, 35), (12, 36), (13, 37), (14, 38), (15, 39), (16, 40), (17, 41), (18, 42), (19, 43), (20, 44), (21, 45), (22, 46), (23, 47), (24, 48), (25, 49), (26, 50), (27, 51), (28, 52)]) (j := 21) (d := 45) rfl (fun _ _ h => h)) (envS_next ?_)
          · intro p hp hne; simp only [List.mem_cons, List.not_mem_nil, or_false] at hp; rcases hp with rfl | rfl | rfl | rfl | rfl | rfl | rfl | rfl | rfl | rfl | rfl | rfl | rfl | rfl | rfl | rfl | rfl | rfl | rfl | rfl | rfl | rfl | rfl | rfl | rfl | rfl | rfl | rfl | rfl <;> first | exact absurd rfl hne | exact ⟨rfl, rfl⟩
        · have d21 := hdir 21 (List.mem_of_elem_eq_true (by kernel_rfl))
          have d23 := hdir 23 (List.mem_of_elem_eq_true (by kernel_rfl))
          refine ⟨_, rfl, ?_⟩
          refine LP.weak (t := 45) (v := .raw undef) (envS_is (j := 21) rfl d21) ?_
          refine LP.weak (t := 47) (v := .raw undef) (envS_is (j := 23) rfl d23) ?_
          refine A.skipU rfl rfl rfl ?_
          refine ⟨⟨z, z0⟩, Weaker.mk' ?_ (HSub.refl _)⟩
          refine env_back2 (envS_hit (sl := [(0, 24), (1, 25), (2, 26), (3, 27), (4, 28), (5, 29), (6, 30), (7, 31), (8, 32), (9, 33), (10, 34), (11, 35), (12, 36), (13, 37), (14, 38), (15, 39), (16, 40), (17, 41), (18, 42), (19, 43), (20, 44), (21, 45), (22, 46), (23, 47), (24, 48), (25, 49), (26, 50), (27, 51), (28, 52)]) (j := 24) (d := 48) rfl (fun _ _ h => h)) (envS_hit (sl := [(0, 24), (1, 25), (2, 26), (3, 27), (4, 28), (5, 29), (6, 30), (7, 31), (8, 32), (9, 33), (10, 34), (11, 35), (12, 36), (13, 37), (14, 38), (15, 39), (16, 40), (17, 41), (18, 42), (19, 43), (20, 44), (21, 45), (22, 46), (23, 47), (24, 48), (25, 49), (26, 50), (27, 51), (28, 52)]) (j := 23) (d := 47) rfl (fun _ _ h => h)) (envS_hit (sl := [(0, 24), (1, 25), (2, 26), (3, 27), (4, 28), (5, 29), (6, 30), (7, 31), (8, 32), (9, 33), (10, 34), (11, 35), (12, 36), (13, 37), (14, 38), (15, 39), (16, 40), (17, 41), (18, 42), (19, 43), (20, 44), (21, 45), (22, 46), (23, 47), (24, 48), (25, 49), (26, 50), (27, 51), (28, 52)]) (j := 21) (d := 45) rfl (fun _ _ h => h)) (envS_next ?_)
          · intro p hp hne; simp only [List.mem_cons, List.not_mem_nil, or_false] at hp; rcases hp with rfl | rfl | rfl | rfl | rfl | rfl | rfl | rfl | rfl | rfl | rfl | rfl | rfl | rfl | rfl | rfl | rfl | rfl | rfl | rfl | rfl | rfl | rfl | rfl | rfl | rfl | rfl | rfl | rfl <;> first | exact absurd rfl hne | exact ⟨rfl, rfl⟩
        · have d21 := hdir 21 (List.mem_of_elem_eq_true (by kernel_rfl))
          have d22 := hdir 22 (List.mem_of_elem_eq_true (by kernel_rfl))
          have d24 := hdir 24 (List.mem_of_elem_eq_true (by kernel_rfl))
          refine ⟨_, rfl, ?_⟩
          refine LP.weak (t := 45) (v := .raw undef) (envS_is (j := 21) rfl d21) ?_
          refine LP.weak (t := 46) (v := .raw undef) (envS_is (j := 22) rfl d22) ?_
          refine LP.weak (t := 48) (v := .raw undef) (envS_is (j := 24) rfl d24) ?_
          refine A.skipU rfl rfl rfl ?_
          refine ⟨⟨z, z0⟩, Weaker.mk' ?_ (HSub.refl _)⟩
          refine env_back3 (envS_hit (sl := [(0, 24), (1, 25), (2, 26), (3, 27), (4, 28), (5, 29), (6, 30), (7, 31), (8, 32), (9, 33), (10, 34), (11, 35), (12, 36), (13, 37), (14, 38), (15, 39), (16, 40), (17, 41), (18, 42), (19, 43), (20, 44), (21, 45), (22, 46), (23, 47), (24, 48), (25, 49), (26, 50), (27, 51), (28, 52)]) (j := 25) (d := 49) rfl (fun _ _ h => h)) (envS_hit (sl := [(0, 24), (1, 25), (2, 26), (3, 27), (4, 28), (5, 29), (6, 30), (7, 31), (8, 32), (9, 33), (10, 34), (11, 35), (12, 36), (13, 37), (14, 38), (15, 39), (16, 40), (17, 41), (18, 42), (19, 43), (20, 44), (21, 45), (22, 46), (23, 47), (24, 48), (25, 49), (26, 50), (27, 51), (28, 52)]) (j := 24) (d := 48) rfl (fun _ _ h => h)) (envS_hit (sl := [(0, 24), (1, 25), (2, 26), (3, 27), (4, 28), (5, 29), (6, 30), (7, 31), (8, 32), (9, 33), (10, 34), (11, 35), (12, 36), (13, 37), (14, 38), (15, 39), (16, 40), (17, 41), (18, 42), (19, 43), (20, 44), (21, 45), (22, 46), (23, 47), (24, 48), (25, 49), (26, 50), (27, 51), (28, 52)]) (j := 22) (d := 46) rfl (fun _ _ h => h)) (envS_hit (sl := [(0, 24), (1, 25), (2, 26), (3, 27), (4, 28), (5, 29), (6, 30), (7, 31), (8, 32), (9, 33), (10, 34), (11, 35), (12, 36), (13, 37), (14, 38), (15, 39), (16, 40), (17, 41), (18, 42), (19, 43), (20, 44), (21, 45), (22, 46), (23, 47), (24, 48), (25, 49), (26, 50), (27, 51), (28, 52)]) (j := 21) (d := 45) rfl (fun _ _ h => h)) (envS_next ?_)
          · intro p hp hne; simp only [List.mem_cons, List.not_mem_nil, or_false] at hp; rcases hp with rfl | rfl | rfl | rfl | rfl | rfl | rfl | rfl | rfl | rfl | rfl | rfl | rfl | rfl | rfl | rfl | rfl | rfl | rfl | rfl | rfl | rfl | rfl | rfl | rfl | rfl | rfl | rfl | rfl <;> first | exact absurd rfl hne | exact ⟨rfl, rfl⟩
        · have d21 := hdir 21 (List.mem_of_elem_eq_true (by kernel_rfl))
          have d25 := hdir 25 (List.mem_of_elem_eq_true (by kernel_rfl))
          refine ⟨_, rfl, ?_⟩
          refine LP.weak (t := 45) (v := .raw undef) (envS_is (j := 21) rfl d21) ?_
          refine LP.weak (t := 49) (v := .raw undef) (envS_is (j := 25) rfl d25) ?_
          refine A.skipU rfl rfl rfl ?_
          refine ⟨⟨z, z0⟩, Weaker.mk' ?_ (HSub.refl _)⟩
          refine env_back2 (envS_hit (sl := [(0, 24), (1, 25), (2, 26), (3, 27), (4, 28), (5, 29), (6, 30), (7, 31), (8, 32), (9, 33), (10, 34), (11, 35), (12, 36), (13, 37), (14, 38), (15, 39), (16, 40), (17, 41), (18, 42), (19, 43), (20, 44), (21, 45), (22, 46), (23, 47), (24, 48), (25, 49), (26, 50), (27, 51), (28, 52)]) (j := 26) (d := 50) rfl (fun _ _ h => h)) (envS_hit (sl := [(0, 24), (1, 25), (2, 26), (3, 27), (4, 28), (5, 29), (6, 30), (7, 31), (8, 32), (9, 33), (10, 34), (11, 35), (12, 36), (13, 37), (14, 38), (15, 39), (16, 40), (17, 41), (18, 42), (19, 43), (20, 44), (21, 45), (22, 46), (23, 47), (24, 48), (25, 49), (26, 50), (27, 51), (28, 52)]) (j := 25) (d := 49) rfl (fun _ _ h => h)) (envS_hit (sl := [(0, 24), (1, 25), (2, 26), (3, 27), (4, 28), (5, 29), (6, 30), (7, 31), (8, 32), (9, 33), (10, 34), (11, 35), (12, 36), (13, 37), (14, 38), (15, 39), (16, 40), (17, 41), (18, 42), (19, 43), (20, 44), (21, 45), (22, 46), (23, 47), (24, 48), (25, 49), (26, 50), (27, 51), (28, 52)]) (j := 21) (d := 45) rfl (fun _ _ h => h)) (envS_next ?_)
          · intro p hp hne; simp only [List.mem_cons, List.not_mem_nil, or_false] at hp; rcases hp with rfl | rfl | rfl | rfl | rfl | rfl | rfl | rfl | rfl | rfl | rfl | rfl | rfl | rfl | rfl | rfl | rfl | rfl | rfl | rfl | rfl | rfl | rfl | rfl | rfl | rfl | rfl | rfl | rfl <;> first | exact absurd rfl hne | exact ⟨rfl, rfl⟩
        · have d11 := hdir 11 (List.mem_of_elem_eq_true (by kernel_rfl))
          have d21 := hdir 21 (List.mem_of_elem_eq_true (by kernel_rfl))
          have d26 := hdir 26 (List.mem_of_elem_eq_true (by kernel_rfl))
          refine ⟨_, rfl, ?_⟩
          refine LP.weak (t := 35) (v := bl false) (envS_is (j := 11) rfl d11) ?_
          refine LP.weak (t := 45) (v := .raw undef) (envS_is (j := 21) rfl d21) ?_
          refine LP.weak (t := 50) (v := .raw undef) (envS_is (j := 26) rfl d26) ?_
          refine A.skipT rfl rfl rfl ?_
          refine ⟨⟨z, z0⟩, Weaker.mk' ?_ (HSub.refl _)⟩
          refine env_back3 (envS_hit (sl := [(0, 24), (1, 25), (2, 26), (3, 27), (4, 28), (5, 29), (6, 30), (7, 31), (8, 32), (9, 33), (10, 34), (11, 35), (12, 36), (13, 37), (14, 38), (15, 39), (16, 40), (17, 41), (18, 42), (19, 43), (20, 44), (21, 45), (22, 46), (23, 47), (24, 48), (25, 49), (26, 50), (27, 51), (28, 52)]) (j := 27) (d := 51) rfl (fun _ _ h => h)) (envS_hit (sl := [(0, 24), (1, 25), (2, 26), (3, 27), (4, 28), (5, 29), (6, 30), (7, 31), (8, 32), (9, 33), (10, 34), (11, 35), (12, 36), (13, 37), (14, 38), (15, 39), (16, 40), (17, 41), (18, 42), (19, 43), (20, 44), (21, 45), (22, 46), (23, 47), (24, 48), (25, 49), (26, 50), (27, 51), (28, 52)]) (j := 26) (d := 50) rfl (fun _ _ h => h)) (envS_hit (sl := [(0, 24), (1, 25), (2, 26), (3, 27), (4, 28), (5, 29), (6, 30), (7, 31), (8, 32), (9, 33), (10, 34), (11, 35), (12, 36), (13, 37), (14, 38), (15, 39), (16, 40), (17, 41), (18, 42), (19, 43), (20, 44), (21, 45), (22, 46), (23, 47), (24, 48), (25, 49), (26, 50), (27, 51), (28, 52)]) (j := 21) (d := 45) rfl (fun _ _ h => h)) (envS_hit (sl := [(0, 24), (1, 25), (2, 26), (3, 27), (4, 28), (5, 29), (6, 30), (7, 31), (8, 32), (9, 33), (10, 34), (11, 35), (12, 36), (13, 37), (14, 38), (15, 39), (16, 40), (17, 41), (18, 42), (19, 43), (20, 44), (21, 45), (22, 46), (23, 47), (24, 48), (25, 49), (26, 50), (27, 51), (28, 52)]) (j := 11) (d := 35) rfl (fun _ _ h => h)) (envS_next ?_)
          · intro p hp hne; simp only [List.mem_cons, List.not_mem_nil, or_false] at hp; rcases hp with rfl | rfl | rfl | rfl | rfl | rfl | rfl | rfl | rfl | rfl | rfl | rfl | rfl | rfl | rfl | rfl | rfl | rfl | rfl | rfl | rfl | rfl | rfl | rfl | rfl | rfl | rfl | rfl | rfl <;> first | exact absurd rfl hne | exact ⟨rfl, rfl⟩
        · have d11 := hdir 11 (List.mem_of_elem_eq_true (by kernel_rfl))
          have d27 := hdir 27 (List.mem_of_elem_eq_true (by kernel_rfl))
          refine ⟨_, rfl, ?_⟩
          refine LP.weak (t := 35) (v := bl false) (envS_is (j := 11) rfl d11) ?_
          refine LP.weak (t := 51) (v := .raw undef) (envS_is (j := 27) rfl d27) ?_
          refine A.u (LU.pickF Is.rfl' (by exact Is.rfl')) rfl ?_
          refine ⟨⟨z, z0⟩, Weaker.mk' ?_ (HSub.refl _)⟩
          refine env_back2 (envS_hit (sl := [(0, 24), (1, 25), (2, 26), (3, 27), (4, 28), (5, 29), (6, 30), (7, 31), (8, 32), (9, 33), (10, 34), (11, 35), (12, 36), (13, 37), (14, 38), (15, 39), (16, 40), (17, 41), (18, 42), (19, 43), (20, 44), (21, 45), (22, 46), (23, 47), (24, 48), (25, 49), (26, 50), (27, 51), (28, 52)]) (j := 28) (d := 52) rfl (fun _ _ h => h)) (envS_hit (sl := [(0, 24), (1, 25), (2, 26), (3, 27), (4, 28), (5, 29), (6, 30), (7, 31), (8, 32), (9, 33), (10, 34), (11, 35), (12, 36), (13, 37), (14, 38), (15, 39), (16, 40), (17, 41), (18, 42), (19, 43), (20, 44), (21, 45), (22, 46), (23, 47), (24, 48), (25, 49), (26, 50), (27, 51), (28, 52)]) (j := 27) (d := 51) rfl (fun _ _ h => h)) (envS_hit (sl := [(0, 24), (1, 25), (2, 26), (3, 27), (4, 28), (5, 29), (6, 30), (7, 31), (8, 32), (9, 33), (10, 34), (11, 35), (12, 36), (13, 37), (14, 38), (15, 39), (16, 40), (17, 41), (18, 42), (19, 43), (20, 44), (21, 45), (22, 46), (23, 47), (24, 48), (25, 49), (26, 50), (27, 51), (28, 52)]) (j := 11) (d := 35) rfl (fun _ _ h => h)) (envS_next ?_)
          · intro p hp hne; simp only [List.mem_cons, List.not_mem_nil, or_false] at hp; rcases hp with rfl | rfl | rfl | rfl | rfl | rfl | rfl | rfl | rfl | rfl | rfl | rfl | rfl | rfl | rfl | rfl | rfl | rfl | rfl | rfl | rfl | rfl | rfl | rfl | rfl | rfl | rfl | rfl | rfl <;> first | exact absurd rfl hne | exact ⟨rfl, rfl⟩
      · intro g_ f hf_
        obtain ⟨z, z0⟩ := g_
        skip
        refine LL.nil (after_code ?_)
        refine X.condF rfl ?_ ?_
        · rfl
        refine LW.skip (after_rnd ?_)
        refine X.meets (s) rfl (EnvLe.nil) (Keeps.cons (by exact Eq.trans (b := .raw _) rfl rfl) (Keeps.cons (by exact Eq.trans (b := .raw _) rfl rfl) (Keeps.cons (by exact Eq.trans (b := .sl _ _ _) rfl rfl) (Keeps.cons (by exact Eq.trans (b := .raw _) rfl rfl) (Keeps.nil))))) (by repeat (exact HSub.refl _)) ?_
        exact hs.mono (by omega)
    · rintro s2 hI
      have hs2 := hI
      refine LW.seq ?_
      refine LW.seq ?_
      refine X.wghost (H' := gC g s2.ma s2.mb s2.n :: gA s2.ma s2.m :: kb :: gP s2.mb s2.q :: .cells b3 52 (acL a) :: Rf) (by repeat (first | exact HSub.refl _ | refine HSub.pick 0 rfl ?_ | refine HSub.pick 1 rfl ?_)) ?_
      have hsc2 := shown_calls g s2.ma s2.mb s2.n s2.m s2.q _ hs2.rel ho hD
      have hcc2 := conflicts_calls g s2.ma s2.mb s2.n s2.m s2.q _ hs2.rel ho hD
      rw [← hS] at hsc2
      have hkill := kill_r2 g hs2 (by decide) a.up a.by_
      refine LW.region ?_
      refine X.u (LU.moveR Is.rfl') rfl ?_
      refine X.u (LU.callP (List.Perm.refl _) (hsc2) Tryd.func18 rfl rfl (Opds.cons Is.rfl' Opds.nil)) rfl ?_
      refine X.u (LU.moveS Is.rfl') rfl ?_
      refine X.u (LU.weak (LU.call (same_calls S S .unk .unk (by omega) (by omega)) Tryd.func23 rfl rfl (Opds.cons Is.rfl' (Opds.cons Is.rfl' Opds.nil))) (Is.of (y := bl true) (congrArg bl (decide_eq_true rfl)))) rfl ?_
      refine X.u (LU.not Is.rfl') rfl ?_
      refine X.u (LU.moveR Is.rfl') rfl ?_
      refine X.doF rfl rfl (LU.moveR (by exact Is.rfl')) rfl ?_
      refine X.doF rfl rfl (LU.callP (List.Perm.refl _) (hcc2) Tryd.func14 rfl rfl (Opds.cons (by exact Is.rfl') Opds.nil)) rfl ?_
      refine X.doF rfl rfl (LU.moveR (by exact Is.rfl')) rfl ?_
      refine X.doF rfl rfl (LU.weak (LU.neq (by exact Is.rfl') (by exact Is.rfl')) (asB (c := false) rfl (by simp))) rfl ?_
      refine X.u (LU.pickF Is.rfl' (by exact Is.rfl')) rfl ?_
      refine LL.nil (after_code ?_)
      refine X.condF rfl ?_ ?_
      · rfl
      refine LW.skip (after_code ?_)
      refine X.meetK (α := St) (fun s4 => []) [5, 6, 7] (fun s4 => gC g s4.ma s4.mb s4.n :: gA s4.ma s4.m :: gP s4.mb s4.q :: kb :: .cells b3 52 (acL a) :: Rf) (fun s4 => StR s4 R 122) ?_ ?_
      · refine LW.seq ?_
        refine X.wghost (H' := gC g s2.ma s2.mb s2.n :: gA s2.ma s2.m :: gP s2.mb s2.q :: kb :: .cells b3 52 (acL a) :: Rf) (by repeat (first | exact HSub.refl _ | refine HSub.pick 0 rfl ?_ | refine HSub.pick 1 rfl ?_)) ?_
        refine LW.region ?_
        refine X.u (LU.moveR Is.rfl') rfl ?_
        refine X.u (LU.fieldO Tryd.underlying52 rfl Tryd.sizeOf35 (by decide) Is.rfl') rfl ?_
        refine X.u (LU.weak (LU.loadO 4 rfl ⟨Tryd.sizeOf35, Tryd.isAgg35⟩ Is.rfl' (Part.sub (by (simp; omega)))) (Is.of (y := .agg (vxL a.up)) (congrArg LV.agg (ac_up a)))) rfl ?_
        refine X.u (LU.fieldO Tryd.underlying52 rfl Tryd.sizeOf31 (by decide) Is.rfl') rfl ?_
        refine X.u (LU.weak (LU.loadO 4 rfl ⟨Tryd.sizeOf31, Tryd.isAgg31⟩ Is.rfl' (Part.sub (by (simp; omega)))) (Is.of (y := .agg (hsL a.by_)) (congrArg LV.agg (ac_by a)))) rfl ?_
        refine X.act (X.call (hkill) Tryd.func10 rfl rfl rfl (HSub.refl _) (Opds.cons Is.rfl' (Opds.cons Is.rfl' (Opds.cons Is.rfl' Opds.nil))) ?_)
        rintro r H' (⟨rfl, hke, s3, rfl, hs3⟩ | ⟨rfl, hke, s3, rfl, hs3⟩)
        · refine X.u (LU.weak (LU.eql Is.rfl' Is.rfl') (Is.of (y := bl true) (rfl))) rfl ?_
          refine X.u (LU.moveR Is.rfl') rfl ?_
          refine X.doT rfl rfl (LU.moveR (by exact Is.rfl')) rfl ?_
          refine X.doT rfl rfl (LU.fieldO Tryd.underlying52 rfl Tryd.sizeOf35 (by decide) (by exact Is.rfl')) rfl ?_
          refine X.doT rfl rfl (LU.weak (LU.loadO 4 rfl ⟨Tryd.sizeOf35, Tryd.isAgg35⟩ (by exact Is.rfl') (Part.sub (by (simp; omega)))) (Is.of (y := .agg (vxL a.up)) (congrArg LV.agg (ac_up a)))) rfl ?_
          refine X.doT rfl rfl (LU.fieldO Tryd.underlying52 rfl Tryd.sizeOf31 (by decide) (by exact Is.rfl')) rfl ?_
          refine X.doT rfl rfl (LU.weak (LU.loadO 4 rfl ⟨Tryd.sizeOf31, Tryd.isAgg31⟩ (by exact Is.rfl') (Part.sub (by (simp; omega)))) (Is.of (y := .agg (hsL a.by_)) (congrArg LV.agg (ac_by a)))) rfl ?_
          refine X.actG rfl rfl (X.call ((unkill_r g hs3 (by decide) a.up a.by_)) Tryd.func24 rfl rfl rfl (HSub.refl _) (Opds.cons (by exact Is.rfl') (Opds.cons (by exact Is.rfl') (Opds.cons (by exact Is.rfl') Opds.nil))) ?_)
          rintro r H' ⟨rfl, s4, rfl, hs4⟩
          refine X.doT rfl rfl (LU.weak (LU.neq (by exact Is.rfl') (by exact Is.rfl')) (asB (c := false) rfl (by rw [(undo_kill hke).1]; rfl))) rfl ?_
          refine X.u (LU.pickT Is.rfl' (by exact Is.rfl')) rfl ?_
          refine LL.nil (after_code ?_)
          refine X.condF rfl ?_ ?_
          · rfl
          refine LW.skip (after_rnd ?_)
          refine X.meets (s4) rfl (EnvLe.nil) (Keeps.cons (by exact Eq.trans (b := .raw _) rfl rfl) (Keeps.cons (by exact Eq.trans (b := .sl _ _ _) rfl rfl) (Keeps.cons (by exact Eq.trans (b := .raw _) rfl rfl) (Keeps.nil)))) (by repeat (exact HSub.refl _)) ?_
          rw [← (undo_kill hke).2]; exact hs4
        · refine X.u (LU.weak (LU.eql Is.rfl' Is.rfl') (Is.of (y := bl false) (congrArg bl (decide_eq_false (fun c => hke (by omega)))))) rfl ?_
          refine X.u (LU.moveR Is.rfl') rfl ?_
          refine X.skipT rfl rfl rfl ?_
          refine X.skipT rfl rfl rfl ?_
          refine X.skipT rfl rfl rfl ?_
          refine X.skipT rfl rfl rfl ?_
          refine X.skipT rfl rfl rfl ?_
          refine X.skipT rfl rfl rfl ?_
          refine X.skipT rfl rfl rfl ?_
          refine X.u (LU.pickF Is.rfl' (by exact Is.rfl')) rfl ?_
          refine LL.nil (after_code ?_)
          refine X.condF rfl ?_ ?_
          · rfl
          refine LW.skip (after_rnd ?_)
          refine X.meets (s3) rfl (EnvLe.nil) (Keeps.cons (by exact Eq.trans (b := .raw _) rfl rfl) (Keeps.cons (by exact Eq.trans (b := .sl _ _ _) rfl rfl) (Keeps.cons (by exact Eq.trans (b := .raw _) rfl rfl) (Keeps.nil)))) (by repeat (exact HSub.refl _)) ?_
          exact hs3
      · rintro s4 hI
        have hs4 := hI
        refine LW.seq ?_
        refine X.wghost (H' := gC g s4.ma s4.mb s4.n :: gA s4.ma s4.m :: kb :: gP s4.mb s4.q :: .cells b3 52 (acL a) :: Rf) (by repeat (first | exact HSub.refl _ | refine HSub.pick 0 rfl ?_ | refine HSub.pick 1 rfl ?_)) ?_
        have hsc4 := shown_calls g s4.ma s4.mb s4.n s4.m s4.q _ hs4.rel ho hD
        have hcc4 := conflicts_calls g s4.ma s4.mb s4.n s4.m s4.q _ hs4.rel ho hD
        rw [← hS] at hsc4
        refine LW.region ?_
        refine X.u (LU.moveR Is.rfl') rfl ?_
        refine X.u (LU.callP (List.Perm.refl _) (hsc4) Tryd.func18 rfl rfl (Opds.cons Is.rfl' Opds.nil)) rfl ?_
        refine X.u (LU.moveS Is.rfl') rfl ?_
        refine X.u (LU.weak (LU.call (same_calls S S .unk .unk (by omega) (by omega)) Tryd.func23 rfl rfl (Opds.cons Is.rfl' (Opds.cons Is.rfl' Opds.nil))) (Is.of (y := bl true) (congrArg bl (decide_eq_true rfl)))) rfl ?_
        refine X.u (LU.moveR Is.rfl') rfl ?_
        refine X.doT rfl rfl (LU.moveR (by exact Is.rfl')) rfl ?_
        refine X.doT rfl rfl (LU.callP (List.Perm.refl _) (hcc4) Tryd.func14 rfl rfl (Opds.cons (by exact Is.rfl') Opds.nil)) rfl ?_
        refine X.doT rfl rfl (LU.moveR (by exact Is.rfl')) rfl ?_
        refine X.doT rfl rfl (LU.weak (LU.eql (by exact Is.rfl') (by exact Is.rfl')) (asB (c := true) rfl (by simp))) rfl ?_
        refine X.u (LU.pickT Is.rfl' (by exact Is.rfl')) rfl ?_
        refine X.u (LU.moveR Is.rfl') rfl ?_
        refine X.doT rfl rfl (LU.call1 2 rfl (lives_calls) Tryd.func15 rfl rfl Opds.nil) rfl ?_
        refine X.u (LU.pickT Is.rfl' (by exact Is.rfl')) rfl ?_
        refine X.u (LU.assignR Is.rfl') rfl ?_
        refine LL.nil (after_code ?_)
        refine LW.ret (after_end ?_)
        refine X.ret (H' := [kb]) (Res.one (by exact IsR rfl)) (by repeat (first | exact HSub.refl _ | refine HSub.pick 2 rfl ?_ | refine HSub.drop ?_)) ?_
        exact ⟨rfl, rfl⟩
theorem undo_law (l : List Ac) (a : Ac) (k : Cap) (hl : l.length < 140737488355328) (hf : Fit l) (hfa : a.ids.length < 140737488355328 ∧ a.texts.length < 140737488355328) : LCalls Tryd.prog 5 [Acs l k, .agg (acL a)] [kb] (fun r H' => r = .raw (.bool true) ∧ H' = [kb]) := by
  by_cases he : raddE (bld rg0 l) a.up a.down a.ids a.texts = 0
  · exact undo_a l a k hl hf hfa he
  · exact undo_b l a k hl hf hfa he
theorem LinesUndo_row (x0 : List (List LV)) (x1 : List LV) (h0 : ∀ c ∈ x0, QAct c) (h1 : x0.length * 168 ≤ reachBytes) (h2 : QAct x1) : LCalls Tryd.prog 5 [.sl 101 x0 .unk, .agg x1] [kb] (fun r H' => r = .raw (.bool true) ∧ H' = [kb]) := by
  obtain ⟨l, rfl, hl⟩ := acs_of h0
  obtain ⟨a, rfl, ha⟩ := ac_of h2
  have := reach_lt
  rw [List.length_map] at h1
  exact undo_law l a .unk (by omega) hl ha
end Go.Proofs.YtolpkeajokjbjaaDoor
