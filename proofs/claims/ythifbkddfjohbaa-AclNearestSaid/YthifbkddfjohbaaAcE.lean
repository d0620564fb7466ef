/- Acl: what is looked at; the chapter's example; what is picked is what may be; what is decided is what the document says. -/
import Derived.Test.YthifbkddfjohbaaAcD
import Derived.Test.YthifbkddfjohbaaLogR
set_option linter.unusedVariables false
set_option linter.unusedSimpArgs false
namespace Go.Proofs.Ythifbkddfjohbaa
open Go.RowKit Go.L
structure Ak where
  s : Sb
  ch : List UInt8
  p : List UInt8
  right : Int
abbrev aL (a : Ak) : List LV := [Str a.s.user, Strs a.s.teams a.s.k, i64 a.s.role, Str a.ch, Str a.p, i64 a.right]
abbrev wr (n : Int) : Int := IntKind.i64.wrap n
def teamW (n : Int) (ts : List (List UInt8)) : Nat → Int
  | 0 => n
  | i + 1 => match ts[i]? with
    | some t => wr (teamW n ts i + wr (20 + (t.length : Int)))
    | none => teamW n ts i
def ruleW (n : Int) (l : List Rl) : Nat → Int
  | 0 => n
  | i + 1 => match l[i]? with
    | some x => wr (ruleW n l i + wr (wr (wr (60 + (x.who.length : Int)) + x.chan.length) + x.pre.length))
    | none => ruleW n l i
theorem team_step {n : Int} {ts : List (List UInt8)} {i : Nat} {t : List UInt8} (h : ts[i]? = some t) : wr (teamW n ts i + wr (20 + (t.length : Int))) = teamW n ts (i + 1) := by rw [teamW, h]
theorem rule_step {n : Int} {l : List Rl} {i : Nat} {x : Rl} (h : l[i]? = some x) : wr (ruleW n l i + wr (wr (wr (60 + (x.who.length : Int)) + x.chan.length) + x.pre.length)) = ruleW n l (i + 1) := by rw [ruleW, h]
def baseW (a : Ak) : Int := teamW (wr (wr ((a.ch.length : Int) + a.p.length) + a.s.user.length)) a.s.teams a.s.teams.length
def lightB (l : List Rl) (a : Ak) : Bool := (List.range l.length).all (fun i => decide (ruleW (baseW a) l (i + 1) ≤ 6000)) && decide (ruleW (baseW a) l l.length ≤ 6000)
theorem light_bad {l : List Rl} {a : Ak} {i : Nat} (h : i < l.length) (hg : 6000 < ruleW (baseW a) l (i + 1)) : lightB l a = false := by
  have : (List.range l.length).all (fun i => decide (ruleW (baseW a) l (i + 1) ≤ 6000)) = false := List.all_eq_false.2 ⟨i, List.mem_range.2 h, by simp; omega⟩
  unfold lightB; rw [this]; rfl
theorem light_good {l : List Rl} {a : Ak} (h : ∀ j, j < l.length → ruleW (baseW a) l (j + 1) ≤ 6000) : lightB l a = decide (ruleW (baseW a) l l.length ≤ 6000) := by
  have : (List.range l.length).all (fun i => decide (ruleW (baseW a) l (i + 1) ≤ 6000)) = true := List.all_eq_true.2 fun j hj => decide_eq_true (h j (List.mem_range.1 hj))
  unfold lightB; rw [this]; rfl
set_option maxRecDepth 100000 in
theorem light_calls (l : List Rl) (k : Cap) (a : Ak) (hl : LOk l) (hs : SbOk a.s) : LCalls Try.prog 14 [Rls l k, .agg (aL a)] [] (fun x H' => x = bl (lightB l a) ∧ H' = []) := by
  have hrl := reach_lt
  obtain ⟨hl1, hl2⟩ := hl
  obtain ⟨hs1, hs2, hs3⟩ := hs
  refine LCalls.of Try.func14 rfl Try.ntmps14 Try.results14 rfl (fun Rf => ?_)
  refine LW.seq ?_
  refine LW.region ?_
  refine X.act (X.box rfl Is.rfl' (by exact Cells.agg) (fun b3 => ?_))
  refine X.u (LU.assignR Is.rfl') rfl ?_
  refine LL.nil (after_code ?_)
  refine LW.seq ?_
  refine LW.region ?_
  refine X.u (LU.fieldO Try.underlying27 rfl Try.sizeOf9 (by decide) Is.rfl') rfl ?_
  refine X.u (LU.loadO 0 rfl ⟨Try.sizeOf9, Try.isAgg9⟩ Is.rfl' (Part.one rfl)) rfl ?_
  refine X.u (LU.strlenN Try.underlying9 Is.rfl') rfl ?_
  refine X.u (LU.fieldO Try.underlying27 rfl Try.sizeOf9 (by decide) Is.rfl') rfl ?_
  refine X.u (LU.loadO 0 rfl ⟨Try.sizeOf9, Try.isAgg9⟩ Is.rfl' (Part.one rfl)) rfl ?_
  refine X.u (LU.strlenN Try.underlying9 Is.rfl') rfl ?_
  refine X.u (LU.add Is.rfl' Is.rfl') rfl ?_
  refine X.u (LU.fieldO Try.underlying27 rfl Try.sizeOf25 (by decide) Is.rfl') rfl ?_
  refine X.u (LU.fieldO Try.underlying25 rfl Try.sizeOf9 (by decide) Is.rfl') rfl ?_
  refine X.u (LU.loadO 0 rfl ⟨Try.sizeOf9, Try.isAgg9⟩ Is.rfl' (Part.one rfl)) rfl ?_
  refine X.u (LU.strlenN Try.underlying9 Is.rfl') rfl ?_
  refine X.u (LU.add Is.rfl' Is.rfl') rfl ?_
  refine X.u (LU.assignR Is.rfl') rfl ?_
  refine LL.nil (after_code ?_)
  refine LW.seq ?_
  refine LW.seq ?_
  refine LW.region ?_
  refine X.u (LU.fieldO Try.underlying27 rfl Try.sizeOf25 (by decide) Is.rfl') rfl ?_
  refine X.u (LU.fieldO Try.underlying25 rfl Try.sizeOf23 (by decide) Is.rfl') rfl ?_
  refine X.u (LU.loadO 0 rfl ⟨Try.sizeOf23, Try.isAgg23⟩ Is.rfl' (Part.one rfl)) rfl ?_
  refine X.u (LU.lenN Try.underlying23 Is.rfl' (by (simp only [Option.getD_some, Option.getD_none, byteEls_length, intEls_length, List.length_append, List.length_cons, List.length_nil, List.length_map, List.length_drop, List.length_take, Int.toNat_natCast]; rfl))) rfl ?_
  refine X.u (LU.moveR Is.rfl') rfl ?_
  refine LL.nil (after_code ?_)
  refine LW.block ?_
  refine X.loopK (α := Nat) (fun i => [(26, i64 i), (5, i64 (teamW (wr (wr ((a.ch.length : Int) + a.p.length) + a.s.user.length)) a.s.teams i))]) [0, 4, 24, 25] (fun _ => _) (fun i => i ≤ a.s.teams.length) (fun i => a.s.teams.length - i) (0) (EnvLe.cons (by rfl) (EnvLe.cons (by rfl) (EnvLe.nil))) (HSub.refl _) ?_ ?_
  · exact Nat.zero_le _
  · rintro i hI
    refine LW.seq ?_
    refine LW.region ?_
    refine X.u (LU.lss Is.rfl' Is.rfl') rfl ?_
    refine LL.nil (after_code ?_)
    refine LW.seq ?_
    refine X.cond rfl (fun h3 => ?_) (fun h3 => ?_)
    · try have h3 := of_decide_eq_true h3
      refine LW.skip (after_code ?_)
      refine LW.seq ?_
      refine LW.block ?_
      refine LW.seq ?_
      obtain ⟨t, ht⟩ := at_lt (show i < a.s.teams.length by omega)
      refine LW.region ?_
      refine X.u (LU.at Try.underlying23 ⟨Try.sizeOf9, Try.isAgg9⟩ Is.rfl' Is.rfl' (by omega) ((show (strEls a.s.teams)[(i : Int).toNat]? = some [Str t] by rw [Int.toNat_natCast, strEls, List.getElem?_map, ht]; rfl)) (by simp)) rfl ?_
      refine X.u (LU.load ⟨Try.sizeOf9, Try.isAgg9⟩ Is.rfl' (by (simp; done)) (Part.one rfl)) rfl ?_
      refine X.u (LU.assignR Is.rfl') rfl ?_
      refine LL.nil (after_code ?_)
      refine LW.region ?_
      refine X.u (LU.moveR Is.rfl') rfl ?_
      refine X.u (LU.moveR Is.rfl') rfl ?_
      refine X.u (LU.strlenN Try.underlying9 Is.rfl') rfl ?_
      refine X.u (LU.add Is.rfl' Is.rfl') rfl ?_
      refine X.u (LU.weak (LU.add Is.rfl' Is.rfl') (Is.of (y := i64 (teamW (wr (wr ((a.ch.length : Int) + a.p.length) + a.s.user.length)) a.s.teams (i + 1))) (congrArg i64 (team_step ht)))) rfl ?_
      refine X.u (LU.assignR Is.rfl') rfl ?_
      refine LL.nil (after_blk (after_code ?_))
      refine LW.region ?_
      refine X.u (LU.addN Is.rfl' Is.rfl' (wrap_i64 (by omega) (by omega))) rfl ?_
      refine X.u (LU.moveR Is.rfl') rfl ?_
      refine LL.nil (after_rnd ?_)
      refine X.next (i + 1) rfl (EnvLe.cons (by rfl) (EnvLe.cons (by rfl) (EnvLe.nil))) (Keeps.cons (by exact Eq.trans (b := .sl _ _ _) rfl rfl) (Keeps.cons (by exact Eq.trans (b := .raw _) rfl rfl) (Keeps.cons (by exact Eq.trans (b := .sl _ _ _) rfl rfl) (Keeps.cons (by exact Eq.trans (b := .raw _) rfl rfl) (Keeps.nil))))) (HSub.refl _) ?_ ?_
      · omega
      · omega
    · try have h3 := of_decide_eq_false h3
      obtain rfl : i = a.s.teams.length := by omega
      refine LW.exit (exit_code (exit_rnd (exit_blk (after_code ?_))))
      refine LW.seq ?_
      refine LW.seq ?_
      refine LW.region ?_
      refine X.u (LU.moveS Is.rfl') rfl ?_
      refine X.u (LU.lenN Try.underlying22 Is.rfl' (by (simp only [Option.getD_some, Option.getD_none, byteEls_length, intEls_length, List.length_append, List.length_cons, List.length_nil, List.length_map, List.length_drop, List.length_take, Int.toNat_natCast]; rfl))) rfl ?_
      refine X.u (LU.moveR Is.rfl') rfl ?_
      refine LL.nil (after_code ?_)
      refine LW.block ?_
      refine X.loopK (α := Nat) (fun j => [(38, i64 j), (5, i64 (ruleW (baseW a) l j))]) [36, 37] (fun j => Rf) (fun j => j ≤ l.length ∧ ∀ q, q < j → ruleW (baseW a) l (q + 1) ≤ 6000) (fun j => l.length - j) (0) (EnvLe.cons (by rfl) (EnvLe.cons (by rfl) (EnvLe.nil))) (by repeat (first | exact HSub.refl _ | refine HSub.pick 0 rfl ?_ | refine HSub.pick 1 rfl ?_ | refine HSub.pick 2 rfl ?_ | refine HSub.pick 3 rfl ?_ | refine HSub.pick 4 rfl ?_ | refine HSub.drop ?_)) ?_ ?_
      · exact ⟨Nat.zero_le _, fun q hq => absurd hq (Nat.not_lt_zero _)⟩
      · rintro j hI
        obtain ⟨hk, hall⟩ := hI
        refine LW.seq ?_
        refine LW.region ?_
        refine X.u (LU.lss Is.rfl' Is.rfl') rfl ?_
        refine LL.nil (after_code ?_)
        refine LW.seq ?_
        refine X.cond rfl (fun h8 => ?_) (fun h8 => ?_)
        · try have h8 := of_decide_eq_true h8
          refine LW.skip (after_code ?_)
          refine LW.seq ?_
          refine LW.block ?_
          refine LW.seq ?_
          obtain ⟨x, hx⟩ := at_lt (show j < l.length by omega)
          refine LW.region ?_
          refine X.u (LU.at Try.underlying22 ⟨Try.sizeOf31, Try.isAgg31⟩ Is.rfl' Is.rfl' (by omega) (rEls_at hx) (by simp)) rfl ?_
          refine X.u (LU.load ⟨Try.sizeOf31, Try.isAgg31⟩ Is.rfl' (by (simp; done)) (Part.whole (by (simp; done)))) rfl ?_
          refine X.act (X.alloc rfl Try.zeroValue31 (by exact Cells.rawagg (by decide)) (fun b9 => ?_))
          refine X.act (X.store 0 rfl Try.sizeOf31 Is.rfl' Is.rfl' (by exact Cells.agg) (by (simp; done)) (by exact Nat.le_of_ble_eq_true rfl) ?_)
          refine LL.nil (after_code ?_)
          refine LW.seq ?_
          refine LW.region ?_
          refine X.u (LU.moveR Is.rfl') rfl ?_
          refine X.u (LU.fieldO Try.underlying31 rfl Try.sizeOf9 (by decide) Is.rfl') rfl ?_
          refine X.u (LU.loadO 0 rfl ⟨Try.sizeOf9, Try.isAgg9⟩ Is.rfl' (Part.one rfl)) rfl ?_
          refine X.u (LU.strlenN Try.underlying9 Is.rfl') rfl ?_
          refine X.u (LU.add Is.rfl' Is.rfl') rfl ?_
          refine X.u (LU.fieldO Try.underlying31 rfl Try.sizeOf9 (by decide) Is.rfl') rfl ?_
          refine X.u (LU.loadO 0 rfl ⟨Try.sizeOf9, Try.isAgg9⟩ Is.rfl' (Part.one rfl)) rfl ?_
          refine X.u (LU.strlenN Try.underlying9 Is.rfl') rfl ?_
          refine X.u (LU.add Is.rfl' Is.rfl') rfl ?_
          refine X.u (LU.fieldO Try.underlying31 rfl Try.sizeOf9 (by decide) Is.rfl') rfl ?_
          refine X.u (LU.loadO 0 rfl ⟨Try.sizeOf9, Try.isAgg9⟩ Is.rfl' (Part.one rfl)) rfl ?_
          refine X.u (LU.strlenN Try.underlying9 Is.rfl') rfl ?_
          refine X.u (LU.add Is.rfl' Is.rfl') rfl ?_
          refine X.u (LU.weak (LU.add Is.rfl' Is.rfl') (Is.of (y := i64 (ruleW (baseW a) l (j + 1))) (congrArg i64 (rule_step hx)))) rfl ?_
          refine X.u (LU.assignR Is.rfl') rfl ?_
          refine LL.nil (after_code ?_)
          refine LW.seq ?_
          refine LW.region ?_
          refine X.u (LU.moveR Is.rfl') rfl ?_
          refine X.u (LU.gtr Is.rfl' Is.rfl') rfl ?_
          refine LL.nil (after_code ?_)
          refine X.cond rfl (fun h11 => ?_) (fun h11 => ?_)
          · try have h11 := of_decide_eq_true h11
            refine LW.seq ?_
            refine LW.region ?_
            refine X.u (LU.assignR Is.rfl') rfl ?_
            refine LL.nil (after_code ?_)
            refine LW.ret (ret_blk (ret_code (ret_rnd (ret_blk (ret_code (after_end ?_))))))
            refine X.ret (H' := []) (Res.one (by exact IsR rfl)) (by repeat (first | exact HSub.refl _ | refine HSub.pick 0 rfl ?_ | refine HSub.pick 1 rfl ?_ | refine HSub.pick 2 rfl ?_ | refine HSub.pick 3 rfl ?_ | refine HSub.pick 4 rfl ?_ | refine HSub.drop ?_)) ?_
            exact ⟨by rw [light_bad (by omega) h11], rfl⟩
          · try have h11 := of_decide_eq_false h11
            refine LW.skip (after_blk (after_code ?_))
            refine LW.region ?_
            refine X.u (LU.addN Is.rfl' Is.rfl' (wrap_i64 (by omega) (by omega))) rfl ?_
            refine X.u (LU.moveR Is.rfl') rfl ?_
            refine LL.nil (after_rnd ?_)
            refine X.next (j + 1) rfl (EnvLe.cons (by rfl) (EnvLe.cons (by rfl) (EnvLe.nil))) (Keeps.cons (by exact Eq.trans (b := .sl _ _ _) rfl rfl) (Keeps.cons (by exact Eq.trans (b := .raw _) rfl rfl) (Keeps.nil))) (by repeat (first | exact HSub.refl _ | refine HSub.pick 0 rfl ?_ | refine HSub.pick 1 rfl ?_ | refine HSub.pick 2 rfl ?_ | refine HSub.pick 3 rfl ?_ | refine HSub.pick 4 rfl ?_ | refine HSub.drop ?_)) ?_ ?_
            · refine ⟨by omega, fun q hq => ?_⟩
              by_cases hqj : q = j
              · subst hqj; omega
              · exact hall q (by omega)
            · omega
        · try have h8 := of_decide_eq_false h8
          obtain rfl : j = l.length := by omega
          refine LW.exit (exit_code (exit_rnd (exit_blk (after_code ?_))))
          refine LW.seq ?_
          refine LW.region ?_
          refine X.u (LU.moveR Is.rfl') rfl ?_
          refine X.u (LU.leq Is.rfl' Is.rfl') rfl ?_
          refine X.u (LU.assignR Is.rfl') rfl ?_
          refine LL.nil (after_code ?_)
          refine LW.ret (after_end ?_)
          refine X.ret (H' := []) (Res.one (by exact IsR rfl)) (by exact HSub.refl _) ?_
          exact ⟨by rw [light_good hall], rfl⟩
abbrev live3 : List Rl := [⟨[42], [], [], 1, false⟩, ⟨[117, 58, 97, 110, 110], [], [97], 1, true⟩, ⟨[116, 58, 111, 112, 115], [], [97, 47, 98], 1, false⟩]
theorem live_ok : LOk live3 := ⟨fun r hr => by
  rcases List.mem_cons.1 hr with rfl | hr
  · exact ⟨by decide, by decide, by decide⟩
  · rcases List.mem_cons.1 hr with rfl | hr
    · exact ⟨by decide, by decide, by decide⟩
    · rw [List.mem_singleton.1 hr]; exact ⟨by decide, by decide, by decide⟩, by decide⟩
set_option maxRecDepth 100000 in
theorem lives_calls : LCalls Try.prog 15 [] [] (fun r H' => r = bl true ∧ H' = []) := by
  refine LCalls.of Try.func15 rfl Try.ntmps15 Try.results15 rfl (fun Rf => ?_)
  refine LW.seq ?_
  refine LW.region ?_
  refine X.u (LU.assignR Is.rfl') rfl ?_
  refine LL.nil (after_code ?_)
  refine LW.seq ?_
  refine LW.region ?_
  refine X.u (LU.weak (LU.build (places := #[(0, 1), (1, 1), (2, 1), (3, 1), (4, 1)]) Try.underlying31 Try.zeroValue31 (ones rfl) (by intro w; simp [Try.sizeOf3, Try.sizeOf4, Try.sizeOf9]) (Parts.cons Is.rfl' (by exact Cells.raw rfl) (Parts.cons Is.rfl' (by exact Cells.raw rfl) Parts.nil)) rfl) (Is.of (y := .agg (rL ⟨[42], [], [], 1, false⟩)) (rfl))) rfl ?_
  refine X.u (LU.weak (LU.build (places := #[(0, 1), (1, 1), (2, 1), (3, 1), (4, 1)]) Try.underlying31 Try.zeroValue31 (ones rfl) (by intro w; simp [Try.sizeOf3, Try.sizeOf4, Try.sizeOf9]) (Parts.cons Is.rfl' (by exact Cells.raw rfl) (Parts.cons Is.rfl' (by exact Cells.raw rfl) (Parts.cons Is.rfl' (by exact Cells.raw rfl) (Parts.cons Is.rfl' (by exact Cells.raw rfl) Parts.nil)))) rfl) (Is.of (y := .agg (rL ⟨[117, 58, 97, 110, 110], [], [97], 1, true⟩)) (rfl))) rfl ?_
  refine X.u (LU.weak (LU.build (places := #[(0, 1), (1, 1), (2, 1), (3, 1), (4, 1)]) Try.underlying31 Try.zeroValue31 (ones rfl) (by intro w; simp [Try.sizeOf3, Try.sizeOf4, Try.sizeOf9]) (Parts.cons Is.rfl' (by exact Cells.raw rfl) (Parts.cons Is.rfl' (by exact Cells.raw rfl) (Parts.cons Is.rfl' (by exact Cells.raw rfl) Parts.nil))) rfl) (Is.of (y := .agg (rL ⟨[116, 58, 111, 112, 115], [], [97, 47, 98], 1, false⟩)) (rfl))) rfl ?_
  refine X.u (LU.lits Try.underlying22 Try.sizeOf31 Try.zeroValue31 (ones rfl) rfl (by decide) (by decide) (Elems.cons Is.rfl' (by exact Cells.agg) (Elems.cons Is.rfl' (by exact Cells.agg) (Elems.cons Is.rfl' (by exact Cells.agg) Elems.nil))) (by simp) rfl) rfl ?_
  refine X.u (LU.assignS Is.rfl') rfl ?_
  refine LL.nil (after_code ?_)
  refine LW.seq ?_
  refine LW.region ?_
  refine X.u (LU.lits Try.underlying23 Try.sizeOf9 Try.zeroValue9 (ones rfl) rfl (by decide) (by decide) (Elems.cons Is.rfl' (by exact Cells.raw rfl) Elems.nil) (by simp) rfl) rfl ?_
  refine X.u (LU.build (places := #[(0, 1), (1, 1), (2, 1)]) Try.underlying25 Try.zeroValue25 (ones rfl) (by intro w; simp [Try.sizeOf23, Try.sizeOf3, Try.sizeOf9]) (Parts.cons Is.rfl' (by exact Cells.raw rfl) (Parts.cons Is.rfl' (by exact Cells.sl) (Parts.cons Is.rfl' (by exact Cells.raw rfl) Parts.nil))) rfl) rfl ?_
  refine X.act (X.alloc rfl Try.zeroValue25 (by exact Cells.rawagg (by decide)) (fun b2 => ?_))
  refine X.act (X.store 0 rfl Try.sizeOf25 Is.rfl' Is.rfl' (by exact Cells.agg) (by rfl) (by exact Nat.le_of_ble_eq_true rfl) ?_)
  refine LL.nil (after_code ?_)
  refine LW.seq ?_
  refine LW.region ?_
  refine X.u (LU.moveS Is.rfl') rfl ?_
  refine X.u (LU.loadO 0 rfl ⟨Try.sizeOf25, Try.isAgg25⟩ Is.rfl' (Part.whole (by rfl))) rfl ?_
  refine X.u (LU.lits Try.underlying23 Try.sizeOf9 Try.zeroValue9 (ones rfl) rfl (by decide) (by decide) (Elems.cons Is.rfl' (by exact Cells.raw rfl) (Elems.cons Is.rfl' (by exact Cells.raw rfl) (Elems.cons Is.rfl' (by exact Cells.raw rfl) Elems.nil))) (by simp) rfl) rfl ?_
  refine X.u (LU.call (filter_calls live3 .full ⟨[97, 110, 110], [[111, 112, 115]], .full, 1⟩ [109, 97, 105, 110] [[99], [97, 47, 120], [97, 47, 98, 47, 99]] .full 1 live_ok ⟨by decide, by decide, by decide⟩ (by decide)) Try.func24 rfl rfl (Opds.cons Is.rfl' (Opds.cons Is.rfl' (Opds.cons Is.rfl' (Opds.cons Is.rfl' (Opds.cons Is.rfl' Opds.nil)))))) rfl ?_
  refine X.u (LU.lits Try.underlying23 Try.sizeOf9 Try.zeroValue9 (ones rfl) rfl (by decide) (by decide) (Elems.cons Is.rfl' (by exact Cells.raw rfl) (Elems.cons Is.rfl' (by exact Cells.raw rfl) Elems.nil)) (by simp) rfl) rfl ?_
  refine X.u (LU.weak (LU.call (texts_calls (filterB live3 ⟨[97, 110, 110], [[111, 112, 115]], .full, 1⟩ [109, 97, 105, 110] [[99], [97, 47, 120], [97, 47, 98, 47, 99]] 1) [[99], [97, 47, 98, 47, 99]] .unk .full (by decide +kernel)) Try.func25 rfl rfl (Opds.cons Is.rfl' (Opds.cons Is.rfl' Opds.nil))) (asB (c := true) rfl (by decide +kernel))) rfl ?_
  refine X.u (LU.moveR Is.rfl') rfl ?_
  refine X.doT rfl rfl (LU.moveS (by exact Is.rfl')) rfl ?_
  refine X.doT rfl rfl (LU.at Try.underlying22 ⟨Try.sizeOf31, Try.isAgg31⟩ (by exact Is.rfl') (by exact Is.rfl') (by omega) (rfl) (by simp)) rfl ?_
  refine X.doT rfl rfl (LU.load ⟨Try.sizeOf31, Try.isAgg31⟩ (by exact Is.rfl') (by (simp; done)) (Part.whole (by (simp; done)))) rfl ?_
  refine X.doT rfl rfl (LU.weak (LU.call (right_calls ⟨[117, 58, 97, 110, 110], [], [97], 1, true⟩ ⟨by decide, by decide, by decide⟩) Try.func16 rfl rfl (Opds.cons (by exact Is.rfl') Opds.nil)) (asB (c := true) rfl (by decide +kernel))) rfl ?_
  refine X.u (LU.pickT Is.rfl' (by exact Is.rfl')) rfl ?_
  refine X.u (LU.moveR Is.rfl') rfl ?_
  refine X.u (LU.pickT Is.rfl' (by exact Is.rfl')) rfl ?_
  refine X.u (LU.moveR Is.rfl') rfl ?_
  refine X.u (LU.pickT Is.rfl' (by exact Is.rfl')) rfl ?_
  refine X.u (LU.assignR Is.rfl') rfl ?_
  refine LL.nil (after_code ?_)
  refine LW.ret (after_end ?_)
  refine X.ret (H' := []) (Res.one (by exact IsR rfl)) (by repeat (first | exact HSub.refl _ | refine HSub.pick 0 rfl ?_ | refine HSub.pick 1 rfl ?_ | refine HSub.pick 2 rfl ?_ | refine HSub.pick 3 rfl ?_ | refine HSub.pick 4 rfl ?_ | refine HSub.drop ?_)) ?_
  exact ⟨rfl, rfl⟩
set_option maxRecDepth 100000 in
theorem dec_calls (l : List Rl) (k : Cap) (a : Ak) (hl : LOk l) (hs : SbOk a.s) : LCalls Try.prog 20 [Rls l k, .agg (aL a)] [] (fun x H' => x = bl (decideB l a.s a.ch a.p a.right) ∧ H' = []) := by
  refine LCalls.of Try.func20 rfl Try.ntmps20 Try.results20 rfl (fun Rf => ?_)
  refine LW.seq ?_
  refine LW.region ?_
  refine X.act (X.box rfl Is.rfl' (by exact Cells.agg) (fun b3 => ?_))
  refine X.u (LU.assignR Is.rfl') rfl ?_
  refine LL.nil (after_code ?_)
  refine LW.seq ?_
  refine LW.region ?_
  refine X.u (LU.moveS Is.rfl') rfl ?_
  refine X.u (LU.fieldO Try.underlying27 rfl Try.sizeOf25 (by decide) Is.rfl') rfl ?_
  refine X.u (LU.weak (LU.loadO 0 rfl ⟨Try.sizeOf25, Try.isAgg25⟩ Is.rfl' (Part.sub (by (simp; done)))) (Is.of (y := .agg (sL a.s)) (rfl))) rfl ?_
  refine X.u (LU.fieldO Try.underlying27 rfl Try.sizeOf9 (by decide) Is.rfl') rfl ?_
  refine X.u (LU.loadO 0 rfl ⟨Try.sizeOf9, Try.isAgg9⟩ Is.rfl' (Part.one rfl)) rfl ?_
  refine X.u (LU.fieldO Try.underlying27 rfl Try.sizeOf9 (by decide) Is.rfl') rfl ?_
  refine X.u (LU.loadO 0 rfl ⟨Try.sizeOf9, Try.isAgg9⟩ Is.rfl' (Part.one rfl)) rfl ?_
  refine X.u (LU.fieldO Try.underlying27 rfl Try.sizeOf3 (by decide) Is.rfl') rfl ?_
  refine X.u (LU.loadO 0 rfl ⟨Try.sizeOf3, Try.isAgg3⟩ Is.rfl' (Part.one rfl)) rfl ?_
  refine X.u (LU.call (decide_calls l k a.s a.ch a.p a.right hl hs) Try.func49 rfl rfl (Opds.cons Is.rfl' (Opds.cons Is.rfl' (Opds.cons Is.rfl' (Opds.cons Is.rfl' (Opds.cons Is.rfl' Opds.nil)))))) rfl ?_
  refine X.u (LU.assignR Is.rfl') rfl ?_
  refine LL.nil (after_code ?_)
  refine LW.ret (after_end ?_)
  refine X.ret (H' := []) (Res.one (by exact IsR rfl)) (by repeat (first | exact HSub.refl _ | refine HSub.pick 0 rfl ?_ | refine HSub.pick 1 rfl ?_ | refine HSub.pick 2 rfl ?_ | refine HSub.pick 3 rfl ?_ | refine HSub.pick 4 rfl ?_ | refine HSub.drop ?_)) ?_
  exact ⟨rfl, rfl⟩
abbrev QRule : List LV → Prop := QCons 1 QStr (QCons 1 QStr (QCons 1 QStr (QCons 1 (QInt .i64) (QCons 1 QBool QNil))))
abbrev QAsk : List LV → Prop := QCons 3 (QCons 1 QStr (QCons 1 (QSl 1 16 QStr) (QCons 1 (QInt .i64) QNil))) (QCons 1 QStr (QCons 1 QStr (QCons 1 (QInt .i64) QNil)))
theorem rule_of {c : List LV} (h : QRule c) : ∃ r : Rl, c = rL r ∧ RlOk r := by
  obtain ⟨_, _, rfl, _, ⟨w, rfl, hw⟩, _, _, rfl, _, ⟨ch, rfl, hch⟩, _, _, rfl, _, ⟨p, rfl, hp⟩, _, _, rfl, _, ⟨n, rfl, _⟩, _, _, rfl, _, ⟨b, rfl⟩, rfl⟩ := h
  exact ⟨⟨w, ch, p, n, b⟩, rfl, hw, hch, hp⟩
theorem rules_of : ∀ (es : List (List LV)), (∀ c ∈ es, QRule c) → ∃ l : List Rl, es = rEls l ∧ ∀ r ∈ l, RlOk r
  | [], _ => ⟨[], rfl, by simp⟩
  | e :: es, h => by
    obtain ⟨r, h1, h2⟩ := rule_of (h e (by simp))
    obtain ⟨l, h3, h4⟩ := rules_of es (fun c hc => h c (by simp [hc]))
    exact ⟨r :: l, by rw [h1, h3]; rfl, by simpa using ⟨h2, h4⟩⟩
theorem strs_of : ∀ (es : List (List LV)), (∀ c ∈ es, QStr c) → ∃ ps : List (List UInt8), es = strEls ps ∧ ∀ p ∈ ps, p.length ≤ reachBytes
  | [], _ => ⟨[], rfl, by simp⟩
  | e :: es, h => by
    obtain ⟨l, h1, h2⟩ := h e (by simp)
    obtain ⟨ps, h3, h4⟩ := strs_of es (fun c hc => h c (by simp [hc]))
    exact ⟨l :: ps, by rw [h1, h3]; rfl, by simpa using ⟨h2, h4⟩⟩
theorem ask_of {c : List LV} (h : QAsk c) : ∃ a : Ak, c = aL a ∧ SbOk a.s ∧ a.s.k = .unk := by
  obtain ⟨_, _, rfl, _, ⟨_, _, rfl, _, ⟨u, rfl, hu⟩, _, _, rfl, _, ⟨es, rfl, hes, hb⟩, _, _, rfl, _, ⟨ro, rfl, _⟩, rfl⟩, _, _, rfl, _, ⟨ch, rfl, hch⟩, _, _, rfl, _, ⟨p, rfl, hp⟩, _, _, rfl, _, ⟨n, rfl, _⟩, rfl⟩ := h
  obtain ⟨ts, rfl, hts⟩ := strs_of es hes
  exact ⟨⟨⟨u, ts, .unk, ro⟩, ch, p, n⟩, rfl, ⟨hu, hts, by simpa using hb⟩, rfl⟩
end Go.Proofs.Ythifbkddfjohbaa
