/- Tokens: a book, and what it gives out. -/
import Derived.Test.YtnfeepmgdahmgaaDoorTkA
set_option linter.unusedVariables false
set_option linter.unusedSimpArgs false
namespace Go.Proofs.YtnfeepmgdahmgaaDoor
open Go.RowKit Go.L
attribute [local irreducible] LL LW LO
structure En where
  user : List UInt8
  till : Int
  gone : Int
abbrev enL (e : En) : List LV := [Str e.user, i64 e.till, i64 e.gone]
abbrev zE : En := ⟨[], 0, 0⟩
/-- What was given out, in order. -/
abbrev Bk := List (List UInt8 × En)
abbrev enM (l : Bk) : List (List UInt8 × LV) := l.map fun p => (p.1, .agg (enL p.2))
abbrev skey (s : List UInt8) : Value := .string ⟨s.toArray⟩
abbrev bkC (g m : Nat) (sec : List UInt8) : Atom := .cells g 57 [Bytes sec .unk, .raw (.map (some m))]
abbrev bkM (m : Nat) (l : Bk) : Atom := .map m (mp skey (enM l))
def idxB (l : Bk) (t : List UInt8) : Option Nat := idxM (enM l) t
theorem idxB_some {l : Bk} {t : List UInt8} {i : Nat} (h : idxB l t = some i) : ∃ e, l[i]? = some (t, e) := by
  obtain ⟨v, hv⟩ := idxM_some h
  rw [List.getElem?_map] at hv
  cases hl : l[i]? with
  | none => rw [hl] at hv; cases hv
  | some p =>
    rw [hl] at hv
    simp only [Option.map_some, Option.some.injEq, Prod.mk.injEq] at hv
    exact ⟨p.2, by rw [← hv.1]⟩
theorem idxB_none {l : Bk} {t : List UInt8} (h : idxB l t = none) {i : Nat} {p : List UInt8 × En} (hi : l[i]? = some p) : p.1 ≠ t :=
  idxM_none h (p.1, .agg (enL p.2)) (List.mem_map.2 ⟨p, List.mem_of_getElem? hi, rfl⟩)
/-- No token twice. -/
def KeysU (l : Bk) : Prop := ∀ (i j : Nat) (p q : List UInt8 × En), l[i]? = some p → l[j]? = some q → p.1 = q.1 → i = j
theorem idxB_of {l : Bk} (hu : KeysU l) {t : List UInt8} {i : Nat} {e : En} (h : l[i]? = some (t, e)) : idxB l t = some i := by
  cases hx : idxB l t with
  | none => exact (idxB_none hx h rfl).elim
  | some j =>
    obtain ⟨e', he'⟩ := idxB_some hx
    rw [hu i j _ _ h he' rfl]
def fE (l : Bk) (t : List UInt8) : En := match idxB l t with
  | some i => (l.getD i ([], zE)).2
  | none => zE
def fP (l : Bk) (t : List UInt8) : Nat := if (idxB l t).isSome then 0 else 160
def hit (l : Bk) (t : List UInt8) (seen : List Nat) : Bool := match idxB l t with
  | some j => seen.contains j
  | none => false
theorem hit_eq {l : Bk} (hu : KeysU l) {t : List UInt8} {i : Nat} {e : En} (h : l[i]? = some (t, e)) (seen : List Nat) : hit l t (seen ++ [i]) = true ∧ fE l t = e := by
  unfold hit fE
  rw [idxB_of hu h]
  exact ⟨by simp, by show (l.getD i ([], zE)).2 = e; rw [List.getD_eq_getElem?_getD, h]; rfl⟩
theorem hit_ne {l : Bk} {t s : List UInt8} {i : Nat} {e : En} (h : l[i]? = some (s, e)) (hne : s ≠ t) (seen : List Nat) : hit l t (seen ++ [i]) = hit l t seen := by
  unfold hit
  cases hx : idxB l t with
  | none => rfl
  | some j =>
    obtain ⟨e', he'⟩ := idxB_some hx
    have : j ≠ i := fun c => by rw [c, h] at he'; exact hne (congrArg Prod.fst (Option.some.inj he'))
    simp [this]
theorem hit_all {l : Bk} {t : List UInt8} {seen : List Nat} (h : ∀ i, i < l.length → i ∈ seen) : hit l t seen = (idxB l t).isSome := by
  unfold hit
  cases hx : idxB l t with
  | none => rfl
  | some j =>
    obtain ⟨e', he'⟩ := idxB_some hx
    simpa using h j (List.getElem?_eq_some_iff.1 he').1
set_option maxRecDepth 100000 in
theorem none16_calls (g m : Nat) (sec : List UInt8) : LCalls Tryd.prog 42 [pt g] [bkC g m sec] (fun r H' => r = bl false ∧ H' = [bkC g m sec]) := by
  refine LCalls.of Tryd.func42 rfl Tryd.ntmps42 Tryd.results42 rfl (fun Rf => ?_)
  refine LW.seq ?_
  refine LW.region ?_
  refine X.u (LU.assignR Is.rfl') rfl ?_
  refine LL.nil (after_code ?_)
  refine LW.seq ?_
  refine LW.region ?_
  refine X.u (LU.moveR Is.rfl') rfl ?_
  refine X.u (LU.nilEqS Tryd.underlying25 Is.rfl' Is.rfl') rfl ?_
  refine X.u (LU.moveR Is.rfl') rfl ?_
  refine X.doF rfl rfl (LU.moveR (by exact Is.rfl')) rfl ?_
  refine X.doF rfl rfl (LU.nilCheck (by exact Is.rfl')) rfl ?_
  refine X.doF rfl rfl (LU.fieldO Tryd.underlying57 rfl Tryd.sizeOf55 (by decide) (by exact Is.rfl')) rfl ?_
  refine X.doF rfl rfl (LU.loadO 0 rfl ⟨Tryd.sizeOf55, Tryd.isAgg55⟩ (by exact Is.rfl') (Part.one rfl)) rfl ?_
  refine X.doF rfl rfl (LU.nilMEqS Tryd.underlying55 (by exact Is.rfl') (by exact Is.rfl')) rfl ?_
  refine X.u (LU.pickF Is.rfl' (by exact Is.rfl')) rfl ?_
  refine X.u (LU.assignR Is.rfl') rfl ?_
  refine LL.nil (after_code ?_)
  refine LW.ret (after_end ?_)
  refine X.ret (H' := [bkC g m sec]) (Res.one (by exact IsR rfl)) (by repeat (exact HSub.refl _)) ?_
  exact ⟨rfl, rfl⟩
set_option maxRecDepth 100000 in
theorem newb_calls (sec : List UInt8) (k : Cap) (hs : sec.length ≤ 100000) : LCalls Tryd.prog 15 [Bytes sec k] [] (fun r H' => ∃ g m, r = pt g ∧ H' = [bkC g m sec, bkM m []]) := by
  refine LCalls.of Tryd.func15 rfl Tryd.ntmps15 Tryd.results15 rfl (fun Rf => ?_)
  refine LW.seq ?_
  refine LW.region ?_
  refine X.u (LU.assignR Is.rfl') rfl ?_
  refine LL.nil (after_code ?_)
  refine LW.seq ?_
  refine LW.region ?_
  refine X.u (LU.lits Tryd.underlying22 Tryd.sizeOf5 Tryd.zeroValue5 (ones rfl) rfl (by decide) (by decide) Elems.nil (by intro e he; cases he) rfl) rfl ?_
  refine X.u (LU.moveS Is.rfl') rfl ?_
  refine X.u (LU.weak (LU.append Tryd.underlying22 (El.of (P := Tryd.prog) (z := (.int .u8 0)) (size := 1) (bytes := 1) rfl rfl rfl) Is.rfl' Is.rfl' (SrcL.slice Tryd.underlying22 (by decide) (by exact byteEls_size _)) (by simp only [Option.getD_some, Option.getD_none, byteEls_length, intEls_length, List.length_append, List.length_cons, List.length_nil, List.length_map, List.length_drop, List.length_take, Int.toNat_natCast]; omega) (by simp only [Option.getD_some, Option.getD_none, byteEls_length, intEls_length, List.length_append, List.length_cons, List.length_nil, List.length_map, List.length_drop, List.length_take, Int.toNat_natCast]; omega)) (Is.of (y := Bytes sec .unk) (rfl))) rfl ?_
  refine X.act (LO.makeMap (st := ⟨_, _, _⟩) rfl (fun b6 => ?_))
  refine X.u (LU.build (places := #[(0, 1), (1, 1)]) Tryd.underlying57 Tryd.zeroValue57 (ones rfl) (by intro w; simp [Tryd.sizeOf22, Tryd.sizeOf55]) (Parts.cons Is.rfl' (by exact Cells.sl) (Parts.cons Is.rfl' (by exact Cells.raw rfl) Parts.nil)) rfl) rfl ?_
  refine X.act (X.box rfl Is.rfl' (by exact Cells.agg) (fun b8 => ?_))
  refine X.u (LU.assignR Is.rfl') rfl ?_
  refine LL.nil (after_code ?_)
  refine LW.ret (after_end ?_)
  refine X.ret (H' := [bkC b8 b6 sec, bkM b6 []]) (Res.one (by exact IsR rfl)) (by repeat (exact HSub.refl _)) ?_
  exact ⟨b8, b6, rfl, rfl⟩
set_option maxRecDepth 100000 in
theorem len16_calls (g m : Nat) (sec : List UInt8) (l : Bk) : LCalls Tryd.prog 17 [pt g] [bkC g m sec, bkM m l] (fun r H' => r = i64 l.length ∧ H' = [bkC g m sec, bkM m l]) := by
  refine LCalls.of Tryd.func17 rfl Tryd.ntmps17 Tryd.results17 rfl (fun Rf => ?_)
  refine LW.seq ?_
  refine LW.region ?_
  refine X.u (LU.assignR Is.rfl') rfl ?_
  refine LL.nil (after_code ?_)
  refine LW.seq ?_
  refine LW.seq ?_
  refine LW.region ?_
  refine X.u (LU.moveR Is.rfl') rfl ?_
  refine X.u (LU.call1 0 rfl (none16_calls g m sec) Tryd.func42 rfl rfl (Opds.cons Is.rfl' Opds.nil)) rfl ?_
  refine LL.nil (after_code ?_)
  refine X.condF rfl ?_ ?_
  · rfl
  refine LW.skip (after_code ?_)
  refine LW.seq ?_
  refine LW.region ?_
  refine X.u (LU.moveR Is.rfl') rfl ?_
  refine X.u (LU.nilCheck Is.rfl') rfl ?_
  refine X.u (LU.fieldO Tryd.underlying57 rfl Tryd.sizeOf55 (by decide) Is.rfl') rfl ?_
  refine X.u (LU.loadO 0 rfl ⟨Tryd.sizeOf55, Tryd.isAgg55⟩ Is.rfl' (Part.one rfl)) rfl ?_
  refine X.u (LU.lenMap 1 rfl Tryd.underlying55 Is.rfl') rfl ?_
  refine X.u (LU.assignR Is.rfl') rfl ?_
  refine LL.nil (after_code ?_)
  refine LW.ret (after_end ?_)
  refine X.ret (H' := [bkC g m sec, bkM m l]) (Res.one (by exact IsR rfl)) (by repeat (exact HSub.refl _)) ?_
  exact ⟨by simp, rfl⟩
set_option maxHeartbeats 1000000 in
set_option maxRecDepth 100000 in
theorem find_calls (g m : Nat) (sec tok : List UInt8) (l : Bk) (hu : KeysU l) (ht : tok.length < 140737488355328) (hl : ∀ p ∈ l, p.1.length < 140737488355328) : LCalls Tryd.prog 45 [pt g, Str tok] [bkC g m sec, bkM m l] (fun r H' => r = .tup [.agg (enL (fE l tok)), i64 (fP l tok)] ∧ H' = [bkC g m sec, bkM m l]) := by
  refine LCalls.of Tryd.func45 rfl Tryd.ntmps45 Tryd.results45 rfl (fun Rf => ?_)
  refine LW.seq ?_
  refine LW.region ?_
  refine X.act (X.alloc rfl Tryd.zeroValue88 (by exact Cells.rawagg (by decide)) (fun b4 => ?_))
  refine X.u (LU.assignR Is.rfl') rfl ?_
  refine LL.nil (after_code ?_)
  refine LW.seq ?_
  refine LW.seq ?_
  refine LW.region ?_
  refine X.u (LU.moveR Is.rfl') rfl ?_
  refine X.u (LU.call1 1 rfl (none16_calls g m sec) Tryd.func42 rfl rfl (Opds.cons Is.rfl' Opds.nil)) rfl ?_
  refine LL.nil (after_code ?_)
  refine X.condF rfl ?_ ?_
  · rfl
  refine LW.skip (after_code ?_)
  refine LW.seq ?_
  refine LW.region ?_
  refine X.u (LU.build (places := #[(0, 1), (1, 1), (2, 1)]) Tryd.underlying88 Tryd.zeroValue88 (ones rfl) (by intro w; simp [Tryd.sizeOf3, Tryd.sizeOf9]) Parts.nil rfl) rfl ?_
  refine X.act (X.alloc rfl Tryd.zeroValue88 (by exact Cells.rawagg (by decide)) (fun b6 => ?_))
  refine X.act (X.store 0 rfl Tryd.sizeOf88 Is.rfl' Is.rfl' (by exact Cells.agg) (by rfl) (by exact Nat.le_of_ble_eq_true rfl) ?_)
  refine X.u (LU.assignR Is.rfl') rfl ?_
  refine LL.nil (after_code ?_)
  refine LW.seq ?_
  refine LW.seq ?_
  refine LW.region ?_
  refine X.u (LU.moveR Is.rfl') rfl ?_
  refine X.u (LU.nilCheck Is.rfl') rfl ?_
  refine X.u (LU.fieldO Tryd.underlying57 rfl Tryd.sizeOf55 (by decide) Is.rfl') rfl ?_
  refine X.u (LU.loadO 2 rfl ⟨Tryd.sizeOf55, Tryd.isAgg55⟩ Is.rfl' (Part.one rfl)) rfl ?_
  refine X.act (LO.rangeMap (st := ⟨_, _, _⟩) 3 rfl rfl Tryd.underlying55 Is.rfl' (fun b18 => ?_))
  refine LL.nil (after_code ?_)
  refine LW.block ?_
  refine X.loopK (α := List Nat × Bool) (fun ⟨seen, f⟩ => [(7, i64 (cond f 0 160))]) [1, 4, 5, 6, 18] (fun ⟨seen, f⟩ => .mapr m b18 (mp skey (enM l)) seen :: .cells b6 88 (enL (cond f (fE l tok) zE)) :: .cells b4 88 (enL zE) :: bkC g m sec :: Rf) (fun ⟨seen, f⟩ => f = hit l tok seen) (fun ⟨seen, f⟩ => unseen l.length seen) (([], false)) (EnvLe.cons (by rfl) (EnvLe.nil)) (by repeat (exact HSub.refl _)) ?_ ?_
  · unfold hit; cases idxB l tok <;> rfl
  · rintro ⟨seen, f⟩ hI
    refine LW.seq ?_
    refine LW.region ?_
    refine X.act (LO.nextMap (st := ⟨_, _, _⟩) 0 rfl rfl Is.rfl' (fun i19 kv19 hi19 hn19 => ?_) (fun hall19 => ?_))
    · refine X.u (LU.extract Is.rfl' rfl) rfl ?_
      refine LL.nil (after_code ?_)
      refine LW.seq ?_
      refine X.condT rfl ?_ ?_
      · rfl
      refine LW.skip (after_code ?_)
      refine LW.block ?_
      refine LW.seq ?_
      have hex : ∃ p, l[i19]? = some p ∧ kv19 = (.raw (skey p.1), .agg (enL p.2)) := by
        rw [List.getElem?_map, List.getElem?_map] at hi19
        cases hq : l[i19]? with
        | none => rw [hq] at hi19; cases hi19
        | some p => rw [hq] at hi19; exact ⟨p, rfl, (Option.some.inj hi19).symm⟩
      obtain ⟨⟨s, e⟩, hp, rfl⟩ := hex
      have hil := (List.getElem?_eq_some_iff.1 hp).1
      have hsl : s.length < 140737488355328 := hl _ (List.mem_of_getElem? hp)
      have hmu := unseen_lt hil hn19
      refine LW.region ?_
      refine X.u (LU.entryMap 0 rfl (by assumption) Is.rfl') rfl ?_
      refine X.u (LU.extract Is.rfl' rfl) rfl ?_
      refine X.u (LU.extract Is.rfl' rfl) rfl ?_
      refine X.act (X.alloc rfl Tryd.zeroValue88 (by exact Cells.rawagg (by decide)) (fun b9 => ?_))
      refine X.u (LU.assignR Is.rfl') rfl ?_
      refine X.act (X.store 0 rfl Tryd.sizeOf88 Is.rfl' Is.rfl' (by exact Cells.agg) (by (simp; done)) (by exact Nat.le_of_ble_eq_true rfl) ?_)
      refine LL.nil (after_code ?_)
      refine LW.seq ?_
      refine LW.region ?_
      refine X.u (LU.moveR Is.rfl') rfl ?_
      refine X.u (LU.tobytes Tryd.underlying9 Tryd.underlying22 Tryd.underlying5 Is.rfl') rfl ?_
      refine X.u (LU.moveR Is.rfl') rfl ?_
      refine X.u (LU.tobytes Tryd.underlying9 Tryd.underlying22 Tryd.underlying5 Is.rfl') rfl ?_
      refine X.u (LU.call (equal_calls s tok .unk .unk (by omega) (by omega)) Tryd.func71 rfl rfl (Opds.cons Is.rfl' (Opds.cons Is.rfl' Opds.nil))) rfl ?_
      refine LL.nil (after_code ?_)
      refine X.cond rfl (fun h7 => ?_) (fun h7 => ?_)
      · have hs : s = tok := of_decide_eq_true h7
        have hp2 : l[i19]? = some (tok, e) := by rw [← hs]; exact hp
        obtain ⟨hh1, hh2⟩ := hit_eq hu hp2 seen
        refine LW.region ?_
        refine X.u (LU.loadO 0 rfl ⟨Tryd.sizeOf88, Tryd.isAgg88⟩ Is.rfl' (Part.whole (by rfl))) rfl ?_
        refine X.act (X.store 2 rfl Tryd.sizeOf88 Is.rfl' Is.rfl' (by exact Cells.agg) (by rfl) (by (simp; done)) ?_)
        refine X.u (LU.assignR Is.rfl') rfl ?_
        refine LL.nil (after_blk (after_rnd ?_))
        rw [hh2]
        refine X.next ((seen ++ [i19], true)) rfl (EnvLe.cons (by rfl) (EnvLe.nil)) (Keeps.cons (by exact Eq.trans (b := .raw _) rfl rfl) (Keeps.cons (by exact Eq.trans (b := .raw _) rfl rfl) (Keeps.cons (by exact Eq.trans (b := .raw _) rfl rfl) (Keeps.cons (by exact Eq.trans (b := .raw _) rfl rfl) (Keeps.cons (by exact Eq.trans (b := .raw _) rfl rfl) (Keeps.nil)))))) (by repeat (first | exact HSub.refl _ | refine HSub.pick 0 rfl ?_ | refine HSub.pick 1 rfl ?_ | refine HSub.pick 2 rfl ?_ | refine HSub.drop ?_)) ?_ ?_
        · exact hh1.symm
        · omega
      · have hs : s ≠ tok := of_decide_eq_false h7
        refine LW.skip (after_blk (after_rnd ?_))
        refine X.next ((seen ++ [i19], f)) rfl (EnvLe.cons (by rfl) (EnvLe.nil)) (Keeps.cons (by exact Eq.trans (b := .raw _) rfl rfl) (Keeps.cons (by exact Eq.trans (b := .raw _) rfl rfl) (Keeps.cons (by exact Eq.trans (b := .raw _) rfl rfl) (Keeps.cons (by exact Eq.trans (b := .raw _) rfl rfl) (Keeps.cons (by exact Eq.trans (b := .raw _) rfl rfl) (Keeps.nil)))))) (by repeat (first | exact HSub.refl _ | refine HSub.pick 1 rfl ?_ | refine HSub.drop ?_)) ?_ ?_
        · rw [hI]; exact (hit_ne hp hs seen).symm
        · omega
    · refine X.u (LU.extract Is.rfl' rfl) rfl ?_
      refine LL.nil (after_code ?_)
      refine LW.seq ?_
      refine X.condF rfl ?_ ?_
      · rfl
      refine LW.exit (exit_code (exit_rnd (exit_blk (after_code ?_))))
      refine LW.seq ?_
      refine X.wghost (HSub.trans (B := .mapr m b18 (mp skey (enM l)) seen :: .cells b6 88 (enL (cond f (fE l tok) zE)) :: .cells b4 88 (enL zE) :: bkC g m sec :: Rf) (by repeat (exact HSub.refl _)) (HSub.ranged _ _ _ _ _)) ?_
      have hf : f = (idxB l tok).isSome := by rw [hI]; exact hit_all (fun i hi => hall19 i (by simpa using hi))
      refine LW.region ?_
      refine X.u (LU.loadO 1 rfl ⟨Tryd.sizeOf88, Tryd.isAgg88⟩ Is.rfl' (Part.whole (by (simp; done)))) rfl ?_
      refine X.u (LU.moveR Is.rfl') rfl ?_
      refine X.act (X.store 2 rfl Tryd.sizeOf88 Is.rfl' Is.rfl' (by exact Cells.agg) (by (simp; done)) (by (simp; done)) ?_)
      refine X.u (LU.assignR Is.rfl') rfl ?_
      refine LL.nil (after_code ?_)
      refine LW.ret (after_end ?_)
      refine X.ret (H' := [bkC g m sec, bkM m l]) (by exact Res.cell2 0 rfl rfl ⟨Tryd.sizeOf88, Tryd.isAgg88⟩ (Part.whole (by rfl)) (by exact IsA rfl) (by exact IsR rfl)) (by repeat (first | exact HSub.refl _ | refine HSub.pick 1 rfl ?_ | refine HSub.pick 3 rfl ?_ | refine HSub.drop ?_)) ?_
      refine ⟨?_, rfl⟩
      rw [hf]
      unfold fP
      cases hx : idxB l tok with
      | none => rw [show fE l tok = zE from by unfold fE; rw [hx]]; rfl
      | some j => rfl
end Go.Proofs.YtnfeepmgdahmgaaDoor
