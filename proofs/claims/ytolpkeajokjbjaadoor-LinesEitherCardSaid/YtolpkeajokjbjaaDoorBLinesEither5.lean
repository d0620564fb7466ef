/- What LinesEither needs, part 5. -/
import Derived.Below
import Derived.WalkKit
import Derived.OwnWalk
import Derived.Deep.LoopGhost
import Derived.RangeFuncIn
import Derived.RangeFuncLeaves
import Derived.TacticsIn
import Derived.OrdersIn
import Derived.LoopIn
import Derived.LoopNIn
import Derived.Laws.Entries
import Derived.Laws.Slices
import Derived.Laws.Cells
import Derived.Deep.AppendSrc
import Derived.Deep.MidRow
import Derived.Laws.AppendOwn
import Derived.Laws.MakeOwn
import Derived.Laws.IdiomCopy
import Derived.Lib.ConvBytes
import Derived.Lib.SlBytesConst
import Derived.Laws.BytesArg
import Derived.Deep.Upon
import Derived.Laws.StructEq
import Derived.Laws.Small
import Derived.SizedLaws
import Derived.ChangeSlices
import Derived.Lib.SmallJoins
import Derived.MakeChecks
import Derived.ChangeBears2
import Derived.Laws.CopyRow
import Derived.RangeFuncRecord
import Derived.Laws.Externs
import Derived.Lib.Bytealg
import Derived.Lib.IndexLaws
import Derived.DefersIn
import Derived.Lib.SliceRun
import Derived.OpenShut
import Derived.WideShapes
import Derived.Maps.RangeRun
import Derived.Sort.Row
import Derived.Lib.BytesEntry
import Derived.Lib.SlFresh
import Derived.Test.YtolpkeajokjbjaaDoorProg
import Derived.Test.YtolpkeajokjbjaaDoorRows
import Derived.LaidMore
import Derived.LaidHandle
import Derived.ChangeSame
import Derived.Test.YtolpkeajokjbjaaDoorBLinesEither4
set_option linter.unusedVariables false
set_option linter.unusedSimpArgs false
namespace Go.Proofs.YtolpkeajokjbjaaDoor
open Go.RowKit Go.L Go.Lib
attribute [local irreducible] LL LW LO
abbrev shV (x : Sh) : List Value := vxs1 x.v ++ [.string ⟨x.text.toArray⟩, .int .i64 (x.kills : Nat)]
theorem sh_raw (x : Sh) : RawL (shL x) (shV x) := by
  have h : shL x = raws (shV x) := by
    have h0 : vxL x.v = raws (vxs1 x.v) := by
      unfold raws vxs1
      rw [List.map_append, List.map_map]; rfl
    show vxL x.v ++ _ = raws (vxs1 x.v ++ [.string ⟨x.text.toArray⟩, .int .i64 (x.kills : Nat)])
    rw [h0]
    unfold raws
    rw [List.map_append (l₁ := vxs1 x.v)]; rfl
  rw [h]
  exact RawL.raws _
theorem vxs1_len (a : Vx) : (vxs1 a).length = 33 := by simp [a.p.2]
theorem sh_part0 (x : Sh) : (shV x).toArray.extract 0 (0 + 33) = (vxs1 x.v).toArray := by
  rw [List.extract_toArray, List.extract_eq_take_drop]
  simp only [List.drop_zero, Nat.zero_add, Nat.sub_zero]
  rw [List.take_left' (vxs1_len x.v)]
theorem sh_part1 (x : Sh) : (shV x).toArray[33]? = some (.string ⟨x.text.toArray⟩) := by
  rw [List.getElem?_toArray, List.getElem?_append_right (by rw [vxs1_len]; exact Nat.le_refl _), vxs1_len]; rfl
theorem sh_part2 (x : Sh) : (shV x).toArray[34]? = some (.int .i64 (x.kills : Nat)) := by
  rw [List.getElem?_toArray, List.getElem?_append_right (by rw [vxs1_len]; decide), vxs1_len]; rfl
set_option maxRecDepth 100000 in
theorem sh_eqr (a b : Sh) : EqR Tryd.prog 4 49 (.agg (shV a).toArray) (.agg (shV b).toArray) (decide (a = b)) := by
  have h1 : EqR Tryd.prog 3 9 (.string ⟨a.text.toArray⟩) (.string ⟨b.text.toArray⟩) (decide (a.text = b.text)) := by
    have := EqR.up 2 (EqR.string (a := ⟨a.text.toArray⟩) (b := ⟨b.text.toArray⟩) Tryd.underlying9)
    rwa [bytes_toList, bytes_toList, show (a.text == b.text) = decide (a.text = b.text) from by rw [Bool.eq_iff_iff]; simp] at this
  have h2 : EqR Tryd.prog 3 3 (.int .i64 (a.kills : Nat)) (.int .i64 (b.kills : Nat)) (decide ((a.kills : Int) = b.kills)) := EqR.up 2 (EqR.int Tryd.underlying3)
  have := EqR.struct (xs := (shV a).toArray) (ys := (shV b).toArray) Tryd.underlying49 Tryd.stoodInHeld49 (EqFs.cons rfl (part_agg Tryd.sizeOf35 Tryd.isAgg35 (sh_part0 a)) (part_agg Tryd.sizeOf35 Tryd.isAgg35 (sh_part0 b)) (EqR.vx vxty a.v b.v)
    (EqFs.cons rfl (part_one Tryd.isAgg9 (sh_part1 a)) (part_one Tryd.isAgg9 (sh_part1 b)) h1 (EqFs.one rfl (part_one Tryd.isAgg3 (sh_part2 a)) (part_one Tryd.isAgg3 (sh_part2 b)) h2)))
  have hd : (decide (a.v = b.v) && (decide (a.text = b.text) && decide ((a.kills : Int) = b.kills))) = decide (a = b) := by
    rw [Bool.eq_iff_iff]
    simp only [Bool.and_eq_true, decide_eq_true_eq]
    constructor
    · rintro ⟨x, y, z⟩
      cases a; cases b
      simp only [Sh.mk.injEq]
      exact ⟨x, y, by simp only at z; omega⟩
    · intro x; rw [x]; exact ⟨rfl, rfl, rfl⟩
  rw [hd] at this
  exact this
theorem neqSh {H : List Atom} {env : List (Nat × LV)} {d : Option Tmp} {ty t' : TypeId} {pos : String} {af : Array Edge} {g : Option (Nat × Bool)} {x y : Operand} {a b : Sh} (hx : Is (ev env x) (.agg (shL a))) (hy : Is (ev env y) (.agg (shL b))) : LU Tryd.prog env H ⟨d, .binOp .neq 49 x y t', ty, pos, af, g⟩ (.raw (.bool (!decide (a = b)))) :=
  LU.neqA hx hy (sh_raw a) (sh_raw b) (by kernel_rfl) (by decide) (sh_eqr a b)
set_option maxRecDepth 100000 in
theorem same_calls (a b : List Sh) (k1 k2 : Cap) (ha : a.length < 140737488355328) (hb : b.length < 140737488355328) : LCalls Tryd.prog 23 [Shs a k1, Shs b k2] [] (fun r H' => r = bl (decide (a = b)) ∧ H' = []) := by
  refine LCalls.of Tryd.func23 rfl Tryd.ntmps23 Tryd.results23 rfl (fun Rf => ?_)
  refine LW.seq ?_
  refine LW.region ?_
  refine X.u (LU.assignR Is.rfl') rfl ?_
  refine LL.nil (after_code ?_)
  refine LW.seq ?_
  refine LW.seq ?_
  refine LW.region ?_
  refine X.u (LU.moveS Is.rfl') rfl ?_
  refine X.u (LU.lenN Tryd.underlying45 Is.rfl' (by (simp only [Option.getD_some, Option.getD_none, byteEls_length, intEls_length, List.length_append, List.length_cons, List.length_nil, List.length_map, List.length_drop, List.length_take, Int.toNat_natCast]; rfl))) rfl ?_
  refine X.u (LU.moveS Is.rfl') rfl ?_
  refine X.u (LU.lenN Tryd.underlying45 Is.rfl' (by (simp only [Option.getD_some, Option.getD_none, byteEls_length, intEls_length, List.length_append, List.length_cons, List.length_nil, List.length_map, List.length_drop, List.length_take, Int.toNat_natCast]; rfl))) rfl ?_
  refine X.u (LU.neq Is.rfl' Is.rfl') rfl ?_
  refine LL.nil (after_code ?_)
  refine X.cond rfl (fun h1 => ?_) (fun h1 => ?_)
  · have h1 : a.length ≠ b.length := by have := h1; simp at this; omega
    have hz0 : (0 : Nat) = 0 := rfl
    refine LW.seq ?_
    refine LW.region ?_
    refine X.u (LU.assignR Is.rfl') rfl ?_
    refine LL.nil (after_code ?_)
    refine LW.ret (ret_code (after_end ?_))
    refine X.ret (H' := []) (Res.one (by exact IsR rfl)) (by repeat (exact HSub.refl _)) ?_
    exact ⟨by rw [decide_eq_false fun e => h1 (congrArg List.length e)], rfl⟩
  · have h1 : a.length = b.length := by have := h1; simp at this; omega
    have hz0 : (0 : Nat) = 0 := rfl
    refine LW.skip (after_code ?_)
    refine LW.seq ?_
    refine LW.seq ?_
    refine LW.region ?_
    refine X.u (LU.assignR Is.rfl') rfl ?_
    refine LL.nil (after_code ?_)
    refine LW.block ?_
    refine X.loopK (α := Nat) (fun i => [(5, i64 i)]) [0, 1] (fun i => Rf) (fun i => i ≤ a.length ∧ a.take i = b.take i) (fun i => a.length - i) (0) (EnvLe.cons (by rfl) (EnvLe.nil)) (by repeat (exact HSub.refl _)) ?_ ?_
    · exact ⟨Nat.zero_le _, by simp⟩
    · rintro i hI
      obtain ⟨hi, he⟩ := hI
      refine LW.seq ?_
      refine LW.seq ?_
      refine LW.region ?_
      refine X.u (LU.moveR Is.rfl') rfl ?_
      refine X.u (LU.moveS Is.rfl') rfl ?_
      refine X.u (LU.lenN Tryd.underlying45 Is.rfl' (by (simp only [Option.getD_some, Option.getD_none, byteEls_length, intEls_length, List.length_append, List.length_cons, List.length_nil, List.length_map, List.length_drop, List.length_take, Int.toNat_natCast]; rfl))) rfl ?_
      refine X.u (LU.lss Is.rfl' Is.rfl') rfl ?_
      refine LL.nil (after_code ?_)
      refine X.cond rfl (fun h4 => ?_) (fun h4 => ?_)
      · try have h4 := of_decide_eq_true h4
        refine LW.skip (after_code ?_)
        refine LW.seq ?_
        refine LW.block ?_
        refine LW.seq ?_
        obtain ⟨x, hx⟩ := at_lt (show i < a.length by omega)
        obtain ⟨y, hy⟩ := at_lt (show i < b.length by omega)
        have hxl := sh_len x
        have hyl := sh_len y
        have hxv := x.v.p.2
        have hyv := y.v.p.2
        refine X.drawM 9 rfl (by kernel_rfl) rfl ?_
        refine QD.u (LU.moveS Is.rfl') rfl ?_
        refine QD.u (LU.moveR Is.rfl') rfl ?_
        refine QD.u (LU.at Tryd.underlying45 ⟨Tryd.sizeOf49, Tryd.isAgg49⟩ Is.rfl' Is.rfl' (by omega) (shs_at hx) (sh_ne x)) rfl ?_
        refine QD.u (LU.weak (LU.load ⟨Tryd.sizeOf49, Tryd.isAgg49⟩ Is.rfl' (by assumption) (Part.whole (by assumption))) (Is.of (y := .agg (shL x)) (rfl))) rfl ?_
        refine QD.u (LU.moveS Is.rfl') rfl ?_
        refine QD.u (LU.moveR Is.rfl') rfl ?_
        refine QD.u (LU.at Tryd.underlying45 ⟨Tryd.sizeOf49, Tryd.isAgg49⟩ Is.rfl' Is.rfl' (by omega) (shs_at hy) (sh_ne y)) rfl ?_
        refine QD.u (LU.weak (LU.load ⟨Tryd.sizeOf49, Tryd.isAgg49⟩ Is.rfl' (by assumption) (Part.whole (by assumption))) (Is.of (y := .agg (shL y)) (rfl))) rfl ?_
        refine QD.u (neqSh Is.rfl' Is.rfl') rfl ?_
        refine QD.nil ?_
        refine LL.nil (after_code ?_)
        refine X.cond rfl (fun h6 => ?_) (fun h6 => ?_)
        · have h6 : x ≠ y := by simpa using h6
          have hz0 : (0 : Nat) = 0 := rfl
          refine LW.seq ?_
          refine LW.region ?_
          refine X.u (LU.assignR Is.rfl') rfl ?_
          refine LL.nil (after_code ?_)
          refine LW.ret (ret_blk (ret_code (ret_rnd (ret_blk (ret_code (after_end ?_))))))
          refine X.ret (H' := []) (Res.one (by exact IsR rfl)) (by repeat (exact HSub.refl _)) ?_
          exact ⟨by rw [decide_eq_false fun e => h6 (by rw [e, hy] at hx; exact (Option.some.inj hx).symm)], rfl⟩
        · have h6 : x = y := by simpa using h6
          have hz0 : (0 : Nat) = 0 := rfl
          refine LW.skip (after_blk (after_code ?_))
          refine LW.region ?_
          refine X.u (LU.moveR Is.rfl') rfl ?_
          refine X.u (LU.addN Is.rfl' Is.rfl' (wrap_i64 (by omega) (by omega))) rfl ?_
          refine X.u (LU.assignR Is.rfl') rfl ?_
          refine LL.nil (after_rnd ?_)
          refine X.next (i + 1) rfl (EnvLe.cons (by rfl) (EnvLe.nil)) (Keeps.cons (by exact Eq.trans (b := .sl _ _ _) rfl rfl) (Keeps.cons (by exact Eq.trans (b := .sl _ _ _) rfl rfl) (Keeps.nil))) (by repeat (exact HSub.refl _)) ?_ ?_
          · exact ⟨by omega, by rw [take_snoc hx, take_snoc hy, he, h6]⟩
          · omega
      · try have h4 := of_decide_eq_false h4
        refine LW.exit (exit_code (exit_rnd (exit_blk (after_code ?_))))
        refine LW.seq ?_
        refine LW.region ?_
        refine X.u (LU.assignR Is.rfl') rfl ?_
        refine LL.nil (after_code ?_)
        refine LW.ret (after_end ?_)
        refine X.ret (H' := []) (Res.one (by exact IsR rfl)) (by repeat (exact HSub.refl _)) ?_
        rw [List.take_of_length_le (by omega), List.take_of_length_le (by omega)] at he
        exact ⟨by rw [decide_eq_true he], rfl⟩
end Go.Proofs.YtolpkeajokjbjaaDoor
namespace Go.Proofs.YtolpkeajokjbjaaDoor
open Go.RowKit Go.L Go.Lib
attribute [local irreducible] LL LW LO
section
variable {α : Type}
def pickM (l : List α) (seen : List Nat) : List α := seen.flatMap fun i => (l[i]?).toList
theorem pickM_snoc {l : List α} {seen : List Nat} {i : Nat} {x : α} (h : l[i]? = some x) : pickM l (seen ++ [i]) = pickM l seen ++ [x] := by
  unfold pickM
  rw [List.flatMap_append]
  simp [h]
theorem pickM_mem {l : List α} {seen : List Nat} {x : α} : x ∈ pickM l seen ↔ ∃ i ∈ seen, l[i]? = some x := by
  unfold pickM
  rw [List.mem_flatMap]
  refine exists_congr fun i => and_congr_right fun _ => ?_
  rw [Option.mem_toList]
theorem pickM_range : ∀ (l : List α), pickM l (List.range l.length) = l := fun l => by
  have key : ∀ n, n ≤ l.length → pickM l (List.range n) = l.take n := fun n => by
    induction n with
    | zero => intro _; rfl
    | succ n ih =>
      intro hn
      obtain ⟨x, hx⟩ := at_lt (show n < l.length by omega)
      rw [List.range_succ, pickM_snoc hx, ih (by omega), take_snoc hx]
  rw [key _ (Nat.le_refl _), List.take_length]
theorem pickM_perm {l : List α} {seen : List Nat} (hn : seen.Nodup) (hs : ∀ i ∈ seen, i < l.length) (hall : ∀ i, i < l.length → i ∈ seen) : (pickM l seen).Perm l := by
  have hp : seen.Perm (List.range l.length) := perm_same hn List.nodup_range fun i => ⟨fun h => List.mem_range.2 (hs i h), fun h => hall i (List.mem_range.1 h)⟩
  have := List.Perm.flatMap_right (fun i => (l[i]?).toList) hp
  rw [show (List.range l.length).flatMap (fun i => (l[i]?).toList) = l from pickM_range l] at this
  exact this
end
section
variable {κ β : Type} [DecidableEq κ]
theorem pickM_new {l : List (κ × β)} {seen : List Nat} {i : Nat} {p : κ × β} (hk : (l.map (·.1)).Nodup) (hp : l[i]? = some p) (hi : i ∉ seen) : setA (pickM l seen) p.1 p.2 = pickM l (seen ++ [i]) := by
  rw [pickM_snoc hp, set_new]
  intro c
  obtain ⟨y, hy, e⟩ := List.mem_map.1 c
  obtain ⟨j, hj, hy⟩ := pickM_mem.1 hy
  have h1 : (l.map (·.1))[i]? = some p.1 := by rw [List.getElem?_map, hp]; rfl
  have h2 : (l.map (·.1))[j]? = some p.1 := by rw [List.getElem?_map, hy]; exact congrArg some e
  obtain ⟨a1, a2⟩ := List.getElem?_eq_some_iff.1 h1
  obtain ⟨b1, b2⟩ := List.getElem?_eq_some_iff.1 h2
  have := (List.getElem_inj hk).1 (a2.trans b2.symm)
  exact hi (this ▸ hj)
theorem look_perm {l k : List (κ × β)} (h : l.Perm k) (hn : (k.map (·.1)).Nodup) (a : κ) : lookA l a = lookA k a := by
  have hl : (l.map (·.1)).Nodup := (h.map (·.1)).nodup_iff.2 hn
  have key : ∀ {l k : List (κ × β)}, l.Perm k → (l.map (·.1)).Nodup → (k.map (·.1)).Nodup → ∀ x, lookA l a = some x → lookA k a = some x := fun {l k} h h1 h2 x hx => by
    have hm : (a, x) ∈ l := by
      have : ∀ {l : List (κ × β)}, lookA l a = some x → (a, x) ∈ l := fun {l} => by
        induction l with
        | nil => intro h; cases h
        | cons z l ih =>
          intro h
          rw [lookA] at h
          split at h
          · rename_i e
            rw [← Option.some.inj h, ← e]; simp
          · exact List.mem_cons_of_mem _ (ih h)
      exact this hx
    exact mem_look h2 (h.mem_iff.1 hm)
  cases hq : lookA l a with
  | some x => exact (key h hl hn x hq).symm
  | none =>
    cases hk : lookA k a with
    | none => rfl
    | some x => rw [key h.symm hn hl x hk] at hq; cases hq
end
theorem Rel.perm {m m2 : At} {q q2 : Ps} {n : Int} {r : Rg} (h : Rel m q n r) (ho : Ok r) (hm : m2.Perm m) (hq : q2.Perm q) : Rel m2 q2 n r := by
  have hat : ∀ v, atG m2 v = atG m v := fun v => by unfold atG; rw [look_perm hm (h.knd ho)]
  obtain ⟨z, z1, z2, z3, z4, z5⟩ := h.parts
  exact ⟨(hm.map _).trans h.keys, fun v => by rw [hat]; exact h.next v, fun v => by rw [hat]; exact h.prev v, fun v => by rw [hat]; exact h.text v, fun v => by rw [hat]; exact h.kills v, z, z1, hq.trans z2, z3, z4, fun p hp v hv => by rw [hat]; exact z5 p hp v hv⟩
set_option maxHeartbeats 2000000 in
set_option maxRecDepth 100000 in
theorem gclone_calls (g ma mb : Nat) (n : Int) (m : At) (q : Ps) (hkm : (m.map (·.1)).Nodup) (hkq : (q.map (·.1)).Nodup) : LCalls Tryd.prog 25 [pt g] [gC g ma mb n, gA ma m, gP mb q] (fun r H' => ∃ g2 ma2 mb2 m2 q2, r = pt g2 ∧ H' = [gC g ma mb n, gA ma m, gP mb q, gC g2 ma2 mb2 n, gA ma2 m2, gP mb2 q2] ∧ m2.Perm m ∧ q2.Perm q) := by
  refine LCalls.of Tryd.func25 rfl Tryd.ntmps25 Tryd.results25 rfl (fun Rf => ?_)
  refine LW.seq ?_
  refine LW.region ?_
  refine X.u (LU.assignR Is.rfl') rfl ?_
  refine LL.nil (after_code ?_)
  refine LW.seq ?_
  refine LW.seq ?_
  refine LW.region ?_
  refine X.u (LU.moveR Is.rfl') rfl ?_
  refine X.u (LU.call1 0 rfl (none_calls g ma mb n) Tryd.func33 rfl rfl (Opds.cons Is.rfl' Opds.nil)) rfl ?_
  refine LL.nil (after_code ?_)
  refine X.condF rfl ?_ ?_
  · rfl
  refine LW.skip (after_code ?_)
  refine LW.seq ?_
  refine LW.region ?_
  refine X.act (LO.makeMap (st := ⟨_, _, _⟩) rfl (fun b10 => ?_))
  refine X.act (LO.makeMap (st := ⟨_, _, _⟩) rfl (fun b11 => ?_))
  refine X.u (LU.moveR Is.rfl') rfl ?_
  refine X.u (LU.nilCheck Is.rfl') rfl ?_
  refine X.u (LU.fieldO Tryd.underlying68 rfl Tryd.sizeOf3 (by decide) Is.rfl') rfl ?_
  refine X.u (LU.loadO 2 rfl ⟨Tryd.sizeOf3, Tryd.isAgg3⟩ Is.rfl' (Part.one rfl)) rfl ?_
  refine X.u (LU.weak (LU.build (places := #[(0, 1), (1, 1), (2, 1)]) Tryd.underlying68 Tryd.zeroValue68 (ones rfl) (by intro w; simp [Tryd.sizeOf3, Tryd.sizeOf65, Tryd.sizeOf66]) (Parts.cons Is.rfl' (by exact Cells.raw rfl) (Parts.cons Is.rfl' (by exact Cells.raw rfl) (Parts.cons Is.rfl' (by exact Cells.raw rfl) Parts.nil))) rfl) (Is.of (y := .agg [.raw (.map (some b10)), .raw (.map (some b11)), i64 n]) (rfl))) rfl ?_
  refine X.act (X.box rfl Is.rfl' (by exact Cells.agg) (fun b17 => ?_))
  refine X.u (LU.assignR Is.rfl') rfl ?_
  refine LL.nil (after_code ?_)
  refine LW.seq ?_
  refine LW.seq ?_
  refine X.wghost (H' := gA ma m :: gC g ma mb n :: gP mb q :: gC b17 b10 b11 n :: gA b10 [] :: gP b11 [] :: Rf) (by repeat (first | exact HSub.refl _ | refine HSub.pick 0 rfl ?_ | refine HSub.pick 1 rfl ?_ | refine HSub.pick 3 rfl ?_ | refine HSub.pick 4 rfl ?_)) ?_
  refine LW.region ?_
  refine X.u (LU.moveR Is.rfl') rfl ?_
  refine X.u (LU.nilCheck Is.rfl') rfl ?_
  refine X.u (LU.fieldO Tryd.underlying68 rfl Tryd.sizeOf65 (by decide) Is.rfl') rfl ?_
  refine X.u (LU.loadO 1 rfl ⟨Tryd.sizeOf65, Tryd.isAgg65⟩ Is.rfl' (Part.one rfl)) rfl ?_
  refine X.act (LO.rangeMap (st := ⟨_, _, _⟩) 0 rfl rfl Tryd.underlying65 Is.rfl' (fun b22 => ?_))
  refine LL.nil (after_code ?_)
  refine LW.block ?_
  refine X.loopK (α := List Nat) (fun seen => []) [0, 2, 3, 22] (fun seen => .mapr ma b22 (mp vxV (encM lnE m)) seen :: gA b10 (pickM m seen) :: gC g ma mb n :: gP mb q :: gC b17 b10 b11 n :: gP b11 [] :: Rf) (fun seen => (∀ i ∈ seen, i < m.length) ∧ seen.Nodup) (fun seen => unseen m.length seen) ([]) (EnvLe.nil) (by repeat (first | exact HSub.refl _ | refine HSub.pick 0 rfl ?_ | refine HSub.pick 3 rfl ?_)) ?_ ?_
  · exact ⟨(fun i hi => by cases hi), List.nodup_nil⟩
  · rintro seen hI
    obtain ⟨hsl, hsn⟩ := hI
    refine LW.seq ?_
    refine LW.region ?_
    refine X.act (LO.nextMap (st := ⟨_, _, _⟩) 0 rfl rfl Is.rfl' (fun i23 kv23 hi23 hn23 => ?_) (fun hall23 => ?_))
    · refine X.u (LU.extract Is.rfl' rfl) rfl ?_
      refine LL.nil (after_code ?_)
      refine LW.seq ?_
      refine X.condT rfl ?_ ?_
      · rfl
      refine LW.skip (after_code ?_)
      refine LW.block ?_
      refine LW.seq ?_
      obtain ⟨p, hp, rfl⟩ := ent_at hi23
      have hil2 := (List.getElem?_eq_some_iff.1 hp).1
      have hmu := unseen_lt hil2 hn23
      have hpl := vxL_len p.1
      have hp32 : p.1.p.1.length = 32 := p.1.p.2
      have hset : Atom.map b10 (mp vxV (setM (encM lnE (pickM m seen)) p.1 (lnE p.2))) = gA b10 (pickM m (seen ++ [i23])) := by rw [← pickM_new hkm hp hn23]; exact gA_set _ _ _ _
      refine LW.region ?_
      refine X.u (LU.entryMap 0 rfl (by assumption) Is.rfl') rfl ?_
      refine X.u (LU.weak (LU.extract Is.rfl' rfl) (Is.rawvx p.1)) rfl ?_
      refine X.u (LU.extract Is.rfl' rfl) rfl ?_
      refine X.act (X.alloc rfl Tryd.zeroValue35 (by exact Cells.rawagg (by decide)) (fun b4 => ?_))
      refine X.act (X.alloc rfl Tryd.zeroValue73 (by exact Cells.rawagg (by decide)) (fun b5 => ?_))
      refine X.act (X.store 1 rfl Tryd.sizeOf35 Is.rfl' Is.rfl' (by exact Cells.agg) (by assumption) (by exact Nat.le_of_ble_eq_true rfl) ?_)
      refine X.act (X.store 1 rfl Tryd.sizeOf73 Is.rfl' Is.rfl' (by exact Cells.agg) (by (simp; done)) (by exact Nat.le_of_ble_eq_true rfl) ?_)
      refine LL.nil (after_code ?_)
      refine X.wcells (ys := lnL p.2) rfl ?_
      refine X.wghost (H' := .cells b4 35 (putAt (raws z35.cells.toList) 0 (vxL p.1)) :: .cells b5 73 (lnL p.2) :: .mapr ma b22 (mp vxV (encM lnE m)) (seen ++ [i23]) :: gA b10 (pickM m seen) :: gC g ma mb n :: gP mb q :: gC b17 b10 b11 n :: gP b11 [] :: Rf) (by repeat (first | exact HSub.refl _ | refine HSub.pick 1 rfl ?_)) ?_
      rw [putAt_all (by rw [hpl]; rfl)]
      refine X.drawM 6 rfl (by kernel_rfl) rfl ?_
      refine QD.u (LU.moveR Is.rfl') rfl ?_
      refine QD.u (LU.nilCheck Is.rfl') rfl ?_
      refine QD.u (LU.fieldO Tryd.underlying68 rfl Tryd.sizeOf65 (by decide) Is.rfl') rfl ?_
      refine QD.u (LU.loadO 6 rfl ⟨Tryd.sizeOf65, Tryd.isAgg65⟩ Is.rfl' (Part.one rfl)) rfl ?_
      refine QD.u (LU.loadO 0 rfl ⟨Tryd.sizeOf35, Tryd.isAgg35⟩ Is.rfl' (Part.whole (by assumption))) rfl ?_
      refine QD.u (LU.loadO 1 rfl ⟨Tryd.sizeOf73, Tryd.isAgg73⟩ Is.rfl' (Part.whole (by (simp; done)))) rfl ?_
      refine QD.nil ?_
      refine X.act (LO.mapUpdate (st := ⟨_, _, _⟩) 3 (KeyOk.vx vxty) rfl Tryd.underlying65 Is.rfl' (by exact Is.vx _) Is.rfl' ?_)
      refine LL.nil (after_blk (after_rnd ?_))
      refine X.next (seen ++ [i23]) rfl (EnvLe.nil) (Keeps.cons (by exact Eq.trans (b := .raw _) rfl rfl) (Keeps.cons (by exact Eq.trans (b := .raw _) rfl rfl) (Keeps.cons (by exact Eq.trans (b := .raw _) rfl rfl) (Keeps.cons (by exact Eq.trans (b := .raw _) rfl rfl) (Keeps.nil))))) (by show L.HSub _ (.mapr ma b22 (mp vxV (encM lnE m)) (seen ++ [i23]) :: gA b10 (pickM m (seen ++ [i23])) :: gC g ma mb n :: gP mb q :: gC b17 b10 b11 n :: gP b11 [] :: Rf); rw [← hset]; exact (by repeat (first | exact HSub.refl _ | refine HSub.pick 0 rfl ?_ | refine HSub.pick 2 rfl ?_ | refine HSub.pick 3 rfl ?_ | refine HSub.drop ?_))) ?_ ?_
      · refine ⟨fun i hi => ?_, ?_⟩
        · rcases List.mem_append.1 hi with h | h
          · exact hsl i h
          · rw [List.mem_singleton.1 h]; exact hil2
        · exact nodup_snoc.2 ⟨hsn, hn23⟩
      · omega
    · refine X.u (LU.extract Is.rfl' rfl) rfl ?_
      refine LL.nil (after_code ?_)
      refine LW.seq ?_
      refine X.condF rfl ?_ ?_
      · rfl
      refine LW.exit (exit_code (exit_rnd (exit_blk (after_code ?_))))
      refine LW.seq ?_
      refine LW.seq ?_
      have hM1 := pickM_perm hsn hsl fun i hi => hall23 i (by rw [mp_len]; exact hi)
      obtain ⟨M1, hM1d⟩ : ∃ M1, M1 = pickM m seen := ⟨_, rfl⟩
      rw [← hM1d] at hM1
      refine X.wghost (H' := gP mb q :: gA ma m :: gA b10 M1 :: gC g ma mb n :: gC b17 b10 b11 n :: gP b11 [] :: Rf) (by rw [hM1d]; exact HSub.trans (HSub.ranged _ _ _ _ _) (by repeat (first | exact HSub.refl _ | refine HSub.pick 3 rfl ?_))) ?_
      refine LW.region ?_
      refine X.u (LU.moveR Is.rfl') rfl ?_
      refine X.u (LU.nilCheck Is.rfl') rfl ?_
      refine X.u (LU.fieldO Tryd.underlying68 rfl Tryd.sizeOf66 (by decide) Is.rfl') rfl ?_
      refine X.u (LU.loadO 3 rfl ⟨Tryd.sizeOf66, Tryd.isAgg66⟩ Is.rfl' (Part.one rfl)) rfl ?_
      refine X.act (LO.rangeMap (st := ⟨_, _, _⟩) 0 rfl rfl Tryd.underlying66 Is.rfl' (fun b38 => ?_))
      refine LL.nil (after_code ?_)
      refine LW.block ?_
      refine X.loopK (α := List Nat) (fun seen2 => []) [2, 3, 38] (fun seen2 => .mapr mb b38 (mp intK (encM ptE q)) seen2 :: gP b11 (pickM q seen2) :: gA ma m :: gA b10 M1 :: gC g ma mb n :: gC b17 b10 b11 n :: Rf) (fun seen2 => (∀ i ∈ seen2, i < q.length) ∧ seen2.Nodup) (fun seen2 => unseen q.length seen2) ([]) (EnvLe.nil) (by repeat (first | exact HSub.refl _ | refine HSub.pick 0 rfl ?_ | refine HSub.pick 4 rfl ?_)) ?_ ?_
      · exact ⟨(fun i hi => by cases hi), List.nodup_nil⟩
      · rintro seen2 hI
        obtain ⟨hsl2, hsn2⟩ := hI
        refine LW.seq ?_
        refine LW.region ?_
        refine X.act (LO.nextMap (st := ⟨_, _, _⟩) 0 rfl rfl Is.rfl' (fun i39 kv39 hi39 hn39 => ?_) (fun hall39 => ?_))
        · refine X.u (LU.extract Is.rfl' rfl) rfl ?_
          refine LL.nil (after_code ?_)
          refine LW.seq ?_
          refine X.condT rfl ?_ ?_
          · rfl
          refine LW.skip (after_code ?_)
          refine LW.block ?_
          refine LW.seq ?_
          obtain ⟨p, hp, rfl⟩ := ent_at hi39
          have hil3 := (List.getElem?_eq_some_iff.1 hp).1
          have hmu := unseen_lt hil3 hn39
          have hpl := pt_len p.2
          have hset2 : Atom.map b11 (mp intK (setM (encM ptE (pickM q seen2)) p.1 (ptE p.2))) = gP b11 (pickM q (seen2 ++ [i39])) := by rw [← pickM_new hkq hp hn39]; exact gP_set _ _ _ _
          refine LW.region ?_
          refine X.u (LU.entryMap 0 rfl (by assumption) Is.rfl') rfl ?_
          refine X.u (LU.extract Is.rfl' rfl) rfl ?_
          refine X.u (LU.extract Is.rfl' rfl) rfl ?_
          refine X.act (X.alloc rfl Tryd.zeroValue82 (by exact Cells.rawagg (by decide)) (fun b7 => ?_))
          refine X.u (LU.assignR Is.rfl') rfl ?_
          refine X.act (X.store 0 rfl Tryd.sizeOf82 Is.rfl' Is.rfl' (by exact Cells.agg) (by assumption) (by exact Nat.le_of_ble_eq_true rfl) ?_)
          refine LL.nil (after_code ?_)
          refine X.wcells (ys := ptL p.2) (putAt_all (by rw [hpl]; rfl)) ?_
          refine X.drawM 6 rfl (by kernel_rfl) rfl ?_
          refine QD.u (LU.moveR Is.rfl') rfl ?_
          refine QD.u (LU.nilCheck Is.rfl') rfl ?_
          refine QD.u (LU.fieldO Tryd.underlying68 rfl Tryd.sizeOf66 (by decide) Is.rfl') rfl ?_
          refine QD.u (LU.loadO 6 rfl ⟨Tryd.sizeOf66, Tryd.isAgg66⟩ Is.rfl' (Part.one rfl)) rfl ?_
          refine QD.u (LU.moveR Is.rfl') rfl ?_
          refine QD.u (LU.loadO 0 rfl ⟨Tryd.sizeOf82, Tryd.isAgg82⟩ Is.rfl' (Part.whole (by assumption))) rfl ?_
          refine QD.nil ?_
          refine X.act (LO.mapUpdate (st := ⟨_, _, _⟩) 2 (KeyOk.int Tryd.underlying3) rfl Tryd.underlying66 Is.rfl' Is.rfl' Is.rfl' ?_)
          refine LL.nil (after_blk (after_rnd ?_))
          refine X.next (seen2 ++ [i39]) rfl (EnvLe.nil) (Keeps.cons (by exact Eq.trans (b := .raw _) rfl rfl) (Keeps.cons (by exact Eq.trans (b := .raw _) rfl rfl) (Keeps.cons (by exact Eq.trans (b := .raw _) rfl rfl) (Keeps.nil)))) (by show L.HSub _ (.mapr mb b38 (mp intK (encM ptE q)) (seen2 ++ [i39]) :: gP b11 (pickM q (seen2 ++ [i39])) :: gA ma m :: gA b10 M1 :: gC g ma mb n :: gC b17 b10 b11 n :: Rf); rw [← hset2]; exact (by repeat (first | exact HSub.refl _ | refine HSub.pick 0 rfl ?_ | refine HSub.pick 1 rfl ?_ | refine HSub.pick 2 rfl ?_ | refine HSub.drop ?_))) ?_ ?_
          · refine ⟨fun i hi => ?_, ?_⟩
            · rcases List.mem_append.1 hi with h | h
              · exact hsl2 i h
              · rw [List.mem_singleton.1 h]; exact hil3
            · exact nodup_snoc.2 ⟨hsn2, hn39⟩
          · omega
        · refine X.u (LU.extract Is.rfl' rfl) rfl ?_
          refine LL.nil (after_code ?_)
          refine LW.seq ?_
          refine X.condF rfl ?_ ?_
          · rfl
          refine LW.exit (exit_code (exit_rnd (exit_blk (after_code ?_))))
          refine LW.seq ?_
          have hM2 := pickM_perm hsn2 hsl2 fun i hi => hall39 i (by rw [mp_len]; exact hi)
          obtain ⟨Q1, hQ1d⟩ : ∃ Q1, Q1 = pickM q seen2 := ⟨_, rfl⟩
          rw [← hQ1d] at hM2
          refine X.wghost (H' := gP mb q :: gP b11 Q1 :: gA ma m :: gA b10 M1 :: gC g ma mb n :: gC b17 b10 b11 n :: Rf) (by rw [hQ1d]; exact HSub.trans (HSub.ranged _ _ _ _ _) (by repeat (exact HSub.refl _))) ?_
          refine LW.region ?_
          refine X.u (LU.moveR Is.rfl') rfl ?_
          refine X.u (LU.assignR Is.rfl') rfl ?_
          refine LL.nil (after_code ?_)
          refine LW.ret (after_end ?_)
          refine X.ret (H' := [gC g ma mb n, gA ma m, gP mb q, gC b17 b10 b11 n, gA b10 M1, gP b11 Q1]) (Res.one (by exact IsR rfl)) (by repeat (first | exact HSub.refl _ | refine HSub.pick 0 rfl ?_ | refine HSub.pick 1 rfl ?_ | refine HSub.pick 2 rfl ?_ | refine HSub.pick 4 rfl ?_)) ?_
          exact ⟨b17, b10, b11, M1, Q1, rfl, rfl, hM1, hM2⟩
end Go.Proofs.YtolpkeajokjbjaaDoor
namespace Go.Proofs.YtolpkeajokjbjaaDoor
open Go.RowKit Go.L Go.Lib
attribute [local irreducible] LL LW LO LP LA
section
variable {s : St} {r : Rg} {c : Nat}
theorem clone_r (g : Nat) (hs : StR s r c) : LCalls Tryd.prog 25 [pt g] [gC g s.ma s.mb s.n, gA s.ma s.m, gP s.mb s.q] (fun x H' => ∃ g2 s2, x = pt g2 ∧ H' = [gC g s.ma s.mb s.n, gA s.ma s.m, gP s.mb s.q, gC g2 s2.ma s2.mb s2.n, gA s2.ma s2.m, gP s2.mb s2.q] ∧ StR s2 r c) := by
  have hkq : (s.q.map (·.1)).Nodup := by
    obtain ⟨z, z1, z2, z3, z4, z5⟩ := hs.rel.parts
    refine (z2.map (·.1)).nodup_iff.2 ?_
    rw [List.map_map]; exact z3
  exact (gclone_calls g s.ma s.mb s.n s.m s.q (hs.rel.knd hs.ok) hkq).mono fun x H' ⟨g2, ma2, mb2, m2, q2, h1, h2, h3, h4⟩ => ⟨g2, ⟨ma2, mb2, s.n, m2, q2⟩, h1, h2, hs.rel.perm hs.ok h3 h4, hs.ok, hs.n0, hs.nc, hs.dc⟩
end
def stAdd (s : St) (r : Rg) (up down : Vx) (ids : List Vx) (ts : List (List UInt8)) : St := if raddE r up down ids ts = 0 then ⟨s.ma, s.mb, s.n + 1, addM s.m (s.n + 1) up down ids ts, setA s.q (s.n + 1) ⟨up, down, ids⟩⟩ else s
theorem add_d {s : St} {r : Rg} {c : Nat} (g : Nat) (hs : StR s r c) (hc : c < 90000) (up down : Vx) (ids : List Vx) (ts : List (List UInt8)) (k1 k2 : Cap) (hi : ids.length < 100000) (hts : ts.length < 100000) :
    LCalls Tryd.prog 11 [pt g, .agg (vxL up), .agg (vxL down), Vxs ids k1, .sl 1 (strsL ts) k2] (H4 g s) (fun x H' => x = i64 (raddE r up down ids ts : Nat) ∧ H' = H4 g (stAdd s r up down ids ts)) ∧ StR (stAdd s r up down ids ts) (raddG r up down ids ts) (c + 1) := by
  have hml := hs.mlen
  have hn := hs.nc
  constructor
  · refine (add_calls g s.ma s.mb s.n s.m s.q up down ids ts k1 k2 (aheadG r up down) 1025 (hs.rel.alln hs.ok) (hs.rel.sz hs.ok) (by decide) (by omega) hs.n0 (by omega) hi hts (fun _ _ => by rw [hs.rel.nx]; exact hs.ok.ahead up down)).mono fun x H' ⟨h1, h2⟩ => ?_
    rw [hs.rel.addE] at h1 h2
    refine ⟨h1, ?_⟩
    unfold stAdd
    split
    · rename_i e; rw [if_pos e] at h2; exact h2
    · rename_i e; rw [if_neg e] at h2; exact h2
  · unfold stAdd raddG
    split
    · rename_i e
      have hk := hs.ok.radd up down ids ts
      have hr := hs.rel.add hs.ok hs.n0 e
      unfold raddG at hk hr
      rw [if_pos e] at hk hr
      refine ⟨hr, hk, ?_, ?_, ?_⟩
      · show 0 ≤ s.n + 1; have := hs.n0; omega
      · show s.n + 1 ≤ ((c + 1 : Nat) : Int); omega
      · have := hs.dc; show r.D.length ≤ c + 1; omega
    · exact hs.mono (by omega)
theorem radd_eq {r : Rg} {up down : Vx} {ids : List Vx} {ts : List (List UInt8)} (he : raddE r up down ids ts = 0) : raddG r up down ids ts = ⟨r.L ++ [⟨up, down, ids, ts⟩], r.D⟩ := by unfold raddG; rw [if_pos he]
theorem ids_two (l : List Ad) (a b : Ad) (v : Vx) : v ∈ idsG (l ++ [a] ++ [b]) ↔ v ∈ idsG (l ++ [b] ++ [a]) := by
  rw [ids_snoc, ids_snoc, ids_snoc, ids_snoc]
  simp only [List.mem_append]
  constructor
  · rintro ((h | h) | h)
    · exact .inl (.inl h)
    · exact .inr h
    · exact .inl (.inr h)
  · rintro ((h | h) | h)
    · exact .inl (.inl h)
    · exact .inr h
    · exact .inl (.inr h)
theorem er_two (l : List Ad) (D : List De) (a b : Ad) (e : Vx × Vx) : e ∈ Er ⟨l ++ [a] ++ [b], D⟩ ↔ e ∈ Er ⟨l ++ [b] ++ [a], D⟩ := by
  rw [er_snoc (l ++ [a]) D D b, er_snoc (l ++ [b]) D D a]
  unfold E2
  rw [List.mem_append, List.mem_append, er_snoc l D D a, er_snoc l D D b]
  unfold E2
  rw [List.mem_append, List.mem_append]
  constructor
  · rintro ((h | h) | h)
    · exact .inl (.inl h)
    · exact .inr h
    · exact .inl (.inr h)
  · rintro ((h | h) | h)
    · exact .inl (.inl h)
    · exact .inr h
    · exact .inl (.inr h)
theorem either_same {r : Rg} {a b : Ad} (h1 : Ok ⟨r.L ++ [a] ++ [b], r.D⟩) (h2 : Ok ⟨r.L ++ [b] ++ [a], r.D⟩) : shownG ⟨r.L ++ [a] ++ [b], r.D⟩ = shownG ⟨r.L ++ [b] ++ [a], r.D⟩ ∧ conflG ⟨r.L ++ [a] ++ [b], r.D⟩ = conflG ⟨r.L ++ [b] ++ [a], r.D⟩ := by
  have hE := er_two r.L r.D a b
  have hnx : ∀ u v, v ∈ nxE (Er ⟨r.L ++ [a] ++ [b], r.D⟩) u ↔ v ∈ nxE (Er ⟨r.L ++ [b] ++ [a], r.D⟩) u := fun u v => by rw [nxE_mem, nxE_mem]; exact hE _
  have hord : orderG ⟨r.L ++ [a] ++ [b], r.D⟩ = orderG ⟨r.L ++ [b] ++ [a], r.D⟩ :=
    OrdR.eq (r := ⟨r.L ++ [b] ++ [a], r.D⟩) (Ord.congr (E' := fun u v => v ∈ nxE (Er ⟨r.L ++ [b] ++ [a], r.D⟩) u) (S' := fun v => v ∈ idsG (r.L ++ [b] ++ [a])) hnx (fun v => ids_two r.L a b v) (orderG_ord ⟨r.L ++ [a] ++ [b], r.D⟩))
  have hn := h1.nd
  have htx : ∀ v, v ∈ idsG (r.L ++ [a] ++ [b]) → textG (r.L ++ [a] ++ [b]) v = textG (r.L ++ [b] ++ [a]) v := fun v hv => by
    rw [show idsG _ = _ from ids_snoc (r.L ++ [a]) b, ids_snoc] at hn
    rw [ids_snoc, ids_snoc] at hv
    obtain ⟨n1, n2, n3⟩ := List.nodup_append.1 hn
    obtain ⟨n4, n5, n6⟩ := List.nodup_append.1 n1
    rw [text_snoc, text_snoc, text_snoc (r.L ++ [b]), text_snoc r.L b, ids_snoc, ids_snoc]
    by_cases c1 : v ∈ idsG r.L
    · rw [if_pos (List.mem_append_left _ c1), if_pos c1, if_pos (List.mem_append_left _ c1), if_pos c1]
    · by_cases c2 : v ∈ a.ids
      · have c3 : v ∉ b.ids := fun c => n3 v (List.mem_append_right _ c2) v c rfl
        rw [if_pos (List.mem_append_right _ c2), if_neg c1, if_neg (fun c => (List.mem_append.1 c).elim c1 c3)]
      · have c3 : v ∈ b.ids := by
          rcases List.mem_append.1 hv with e | e
          · exact ((List.mem_append.1 e).elim (fun f => absurd f c1) (fun f => absurd f c2))
          · exact e
        rw [if_neg (fun c => (List.mem_append.1 c).elim c1 c2), if_pos (List.mem_append_right _ c3), if_neg c1]
  have hsh : shownG ⟨r.L ++ [a] ++ [b], r.D⟩ = shownG ⟨r.L ++ [b] ++ [a], r.D⟩ := by
    unfold shownG
    rw [hord]
    refine List.map_congr_left fun v hv => ?_
    have hvm : v ∈ idsG (r.L ++ [a] ++ [b]) := (ids_two r.L a b v).2 ((orderG_ord ⟨r.L ++ [b] ++ [a], r.D⟩).1.mem v hv)
    unfold shG
    rw [htx v hvm]
  refine ⟨hsh, ?_⟩
  have hah : aheadG ⟨r.L ++ [a] ++ [b], r.D⟩ = aheadG ⟨r.L ++ [b] ++ [a], r.D⟩ := funext fun x => funext fun y => by
    rw [Bool.eq_iff_iff, h1.ahead, h2.ahead]
    exact Rch.congr hnx
  unfold conflG liveG
  rw [hsh, hah]
set_option maxHeartbeats 8000000 in
set_option maxRecDepth 100000 in
theorem either_law (l : List Ac) (a b : Ac) (k : Cap) (hl : l.length < 140737488355328) (hf : Fit l) (hfa : a.ids.length < 140737488355328 ∧ a.texts.length < 140737488355328) (hfb : b.ids.length < 140737488355328 ∧ b.texts.length < 140737488355328) : LCalls Tryd.prog 7 [Acs l k, .agg (acL a), .agg (acL b)] [kb] (fun r H' => r = .raw (.bool true) ∧ H' = [kb]) := by
  have hal := ac_len a
  have hau := a.up.p.2
  have had := a.down.p.2
  have hab := a.by_.2
  have hbl := ac_len b
  have hbu := b.up.p.2
  have hbd := b.down.p.2
  have hbb := b.by_.2
  refine LCalls.of Tryd.func7 rfl Tryd.ntmps7 Tryd.results7 rfl (fun Rf => ?_)
  refine LW.seq ?_
  refine LW.region ?_
  refine X.act (X.box rfl Is.rfl' (by exact Cells.agg) (fun b4 => ?_))
  refine X.act (X.box rfl Is.rfl' (by exact Cells.agg) (fun b5 => ?_))
  refine X.u (LU.assignR Is.rfl') rfl ?_
  refine LL.nil (after_code ?_)
  refine LW.seq ?_
  refine LW.seq ?_
  refine LW.region ?_
  refine X.u (LU.moveS Is.rfl') rfl ?_
  refine X.u (LU.call (few_calls l k hl hf) Tryd.func16 rfl rfl (Opds.cons Is.rfl' Opds.nil)) rfl ?_
  refine X.u (LU.not Is.rfl') rfl ?_
  refine X.u (LU.moveR Is.rfl') rfl ?_
  refine X.gF rfl rfl (fun hg => LU.loadO 1 rfl ⟨Tryd.sizeOf52, Tryd.isAgg52⟩ (by exact Is.rfl') (Part.whole (by assumption))) rfl ?_
  refine X.gF rfl rfl (fun hg => LU.loadO 0 rfl ⟨Tryd.sizeOf52, Tryd.isAgg52⟩ (by exact Is.rfl') (Part.whole (by assumption))) rfl ?_
  refine X.gF rfl rfl (fun hg => LU.weak (LU.lits Tryd.underlying42 Tryd.sizeOf52 Tryd.zeroValue52 (ones rfl) rfl (by decide) (by decide) (Elems.cons (by exact Is.whenN hg) Cells.agg (Elems.cons (by exact Is.whenN hg) Cells.agg Elems.nil)) (by intro e he; rcases List.mem_cons.1 he with e | e; rw [e]; exact hal; rw [List.mem_singleton.1 e]; exact hbl) rfl) (Is.of (y := Acs [a, b] .full) (rfl))) rfl ?_
  refine X.gF rfl rfl (fun hg => LU.call (few_calls [a, b] .full (show 2 < 140737488355328 by decide) (by intro x hx; rcases List.mem_cons.1 hx with e | e; rw [e]; exact hfa; rw [List.mem_singleton.1 e]; exact hfb)) Tryd.func16 rfl rfl (Opds.cons (by exact Is.whenN hg) Opds.nil)) rfl ?_
  refine X.gF rfl rfl (fun hg => LU.not (by exact Is.whenN hg)) rfl ?_
  refine X.u (LU.pickOr Is.rfl' Is.rfl' (fun hq => (by exact Is.whenN hq))) rfl ?_
  refine LL.nil (after_code ?_)
  refine X.cond rfl (fun h1 => ?_) (fun h1 => ?_)
  · try have h1 := of_decide_eq_true h1
    have hz0 : (0 : Nat) = 0 := rfl
    refine LW.seq ?_
    refine LW.region ?_
    refine X.u (LU.call1 2 rfl (lives_calls) Tryd.func15 rfl rfl Opds.nil) rfl ?_
    refine X.u (LU.assignR Is.rfl') rfl ?_
    refine LL.nil (after_code ?_)
    refine LW.ret (ret_code (after_end ?_))
    refine X.ret (H' := [kb]) (Res.one (by exact IsR rfl)) (by repeat (first | exact HSub.refl _ | refine HSub.pick 2 rfl ?_ | refine HSub.drop ?_)) ?_
    exact ⟨rfl, rfl⟩
  · have h1 : fewB l = true ∧ fewB [a, b] = true := by simpa using h1
    have hw : sumW l ≤ 120 := by have := h1.1; unfold fewB at this; simpa using this
    have hw2 : acW a + acW b ≤ 120 := by have := h1.2; unfold fewB sumW at this; simpa using this
    have hw3 : acW a = 1 + a.ids.length + a.texts.length := rfl
    have hw4 : acW b = 1 + b.ids.length + b.texts.length := rfl
    refine LW.skip (after_code ?_)
    refine LW.seq ?_
    refine LW.region ?_
    refine X.u (LU.moveS Is.rfl') rfl ?_
    refine X.act (X.call (built_calls l k hw) Tryd.func17 rfl rfl rfl (by (refine HSub.pick 2 rfl ?_); exact HSub.refl _) (Opds.cons Is.rfl' Opds.nil) ?_)
    rintro r H' ⟨g, s, rfl, rfl, hs⟩
    refine X.u (LU.assignR Is.rfl') rfl ?_
    refine LL.nil (after_code ?_)
    refine LW.seq ?_
    refine X.wghost (H' := gC g s.ma s.mb s.n :: gA s.ma s.m :: gP s.mb s.q :: kb :: .cells b4 52 (acL a) :: .cells b5 52 (acL b) :: Rf) (by repeat (first | exact HSub.refl _ | refine HSub.pick 0 rfl ?_ | refine HSub.pick 1 rfl ?_)) ?_
    obtain ⟨R, hR⟩ : ∃ R, R = bld rg0 l := ⟨_, rfl⟩
    rw [← hR] at hs
    refine LW.region ?_
    refine X.u (LU.moveR Is.rfl') rfl ?_
    refine X.act (X.call ((clone_r g hs)) Tryd.func25 rfl rfl rfl (HSub.refl _) (Opds.cons Is.rfl' Opds.nil) ?_)
    rintro r H' ⟨g2, t0, rfl, rfl, ht0⟩
    refine X.u (LU.assignR Is.rfl') rfl ?_
    refine LL.nil (after_code ?_)
    refine LW.seq ?_
    refine X.wghost (H' := gC g s.ma s.mb s.n :: gA s.ma s.m :: gP s.mb s.q :: kb :: .cells b4 52 (acL a) :: .cells b5 52 (acL b) :: gC g2 t0.ma t0.mb t0.n :: gA t0.ma t0.m :: gP t0.mb t0.q :: Rf) (by repeat (first | exact HSub.refl _ | refine HSub.pick 0 rfl ?_ | refine HSub.pick 3 rfl ?_)) ?_
    obtain ⟨hadd1, hs1⟩ := add_d g hs (by decide) a.up a.down a.ids a.texts .unk .unk (by omega) (by omega)
    obtain ⟨s1, hs1d⟩ : ∃ s1, s1 = stAdd s R a.up a.down a.ids a.texts := ⟨_, rfl⟩
    rw [← hs1d] at hadd1 hs1
    obtain ⟨hadd2, hs2⟩ := add_d g hs1 (by decide) b.up b.down b.ids b.texts .unk .unk (by omega) (by omega)
    obtain ⟨s2, hs2d⟩ : ∃ s2, s2 = stAdd s1 (raddG R a.up a.down a.ids a.texts) b.up b.down b.ids b.texts := ⟨_, rfl⟩
    rw [← hs2d] at hadd2 hs2
    refine LW.invM (m := 20) (γ := Nat × Nat) [(0, 28), (1, 29), (2, 30), (3, 31), (4, 32), (5, 33), (6, 34), (7, 35), (8, 36), (9, 37), (10, 38), (11, 39), (12, 40), (13, 41), (14, 42), (15, 43), (16, 44), (17, 45), (18, 46), (19, 47)] (fun g_ d => match g_ with | ⟨z, z0⟩ => match d with | 28 => pt g | 29 => .raw (.pointer (some ⟨b4, 1, none⟩)) | 30 => .agg (vxL a.up) | 31 => .raw (.pointer (some ⟨b4, 34, none⟩)) | 32 => .agg (vxL a.down) | 33 => .raw (.pointer (some ⟨b4, 67, none⟩)) | 34 => Vxs a.ids .unk | 35 => .raw (.pointer (some ⟨b4, 68, none⟩)) | 36 => .sl 1 (strsL a.texts) .unk | 37 => i64 (raddE R a.up a.down a.ids a.texts : Nat) | 38 => pt g | 39 => .raw (.pointer (some ⟨b5, 1, none⟩)) | 40 => .agg (vxL b.up) | 41 => .raw (.pointer (some ⟨b5, 34, none⟩)) | 42 => .agg (vxL b.down) | 43 => .raw (.pointer (some ⟨b5, 67, none⟩)) | 44 => Vxs b.ids .unk | 45 => .raw (.pointer (some ⟨b5, 68, none⟩)) | 46 => .sl 1 (strsL b.texts) .unk | 47 => i64 (raddE (raddG R a.up a.down a.ids a.texts) b.up b.down b.ids b.texts : Nat) | _ => .any) (fun g_ f => match g_ with | ⟨z, z0⟩ => .cells b4 52 (acL a) :: .cells b5 52 (acL b) :: (cond (f 19) (H4 g s2) (cond (f 9) (H4 g s1) (H4 g s)) ++ (gC g2 t0.ma t0.mb t0.n :: gA t0.ma t0.m :: gP t0.mb t0.q :: Rf))) (0, 0) rfl (by kernel_rfl) rfl rfl ((by repeat (first | exact HSub.refl _ | refine HSub.pick 4 rfl ?_))) ?_ ?_
    · intro i hi f g_ hfi hdir hdown
      obtain ⟨z, z0⟩ := g_
      have hc : i = 0 ∨ i = 1 ∨ i = 2 ∨ i = 3 ∨ i = 4 ∨ i = 5 ∨ i = 6 ∨ i = 7 ∨ i = 8 ∨ i = 9 ∨ i = 10 ∨ i = 11 ∨ i = 12 ∨ i = 13 ∨ i = 14 ∨ i = 15 ∨ i = 16 ∨ i = 17 ∨ i = 18 ∨ i = 19 := by omega
      rcases hc with rfl | rfl | rfl | rfl | rfl | rfl | rfl | rfl | rfl | rfl | rfl | rfl | rfl | rfl | rfl | rfl | rfl | rfl | rfl | rfl
      · refine ⟨_, rfl, ?_⟩
        refine A.u (LU.moveR Is.rfl') rfl ?_
        refine ⟨⟨z, z0⟩, Weaker.mk' ?_ (HSub.refl _)⟩
        refine env_back0 (envS_hit (sl := [(0, 28), (1, 29), (2, 30), (3, 31), (4, 32), (5, 33), (6, 34), (7, 35), (8, 36), (9, 37), (10, 38), (11, 39), (12, 40), (13, 41), (14, 42), (15, 43), (16, 44), (17, 45), (18, 46), (19, 47)]) (j := 0) (d := 28) rfl (fun _ _ h => h))  (envS_next ?_)
        · intro p hp hne; simp only [List.mem_cons, List.not_mem_nil, or_false] at hp; rcases hp with rfl | rfl | rfl | rfl | rfl | rfl | rfl | rfl | rfl | rfl | rfl | rfl | rfl | rfl | rfl | rfl | rfl | rfl | rfl | rfl <;> first | exact absurd rfl hne | exact ⟨rfl, rfl⟩
      · refine ⟨_, rfl, ?_⟩
        refine A.u (LU.fieldO Tryd.underlying52 rfl Tryd.sizeOf35 (by decide) Is.rfl') rfl ?_
        refine ⟨⟨z, z0⟩, Weaker.mk' ?_ (HSub.refl _)⟩
        refine env_back0 (envS_hit (sl := [(0, 28), (1, 29), (2, 30), (3, 31), (4, 32), (5, 33), (6, 34), (7, 35), (8, 36), (9, 37), (10, 38), (11, 39), (12, 40), (13, 41), (14, 42), (15, 43), (16, 44), (17, 45), (18, 46), (19, 47)]) (j := 1) (d := 29) rfl (fun _ _ h => h))  (envS_next ?_)
        · intro p hp hne; simp only [List.mem_cons, List.not_mem_nil, or_false] at hp; rcases hp with rfl | rfl | rfl | rfl | rfl | rfl | rfl | rfl | rfl | rfl | rfl | rfl | rfl | rfl | rfl | rfl | rfl | rfl | rfl | rfl <;> first | exact absurd rfl hne | exact ⟨rfl, rfl⟩
      · have d1 := hdir 1 (List.mem_of_elem_eq_true (by kernel_rfl))
        refine ⟨_, rfl, ?_⟩
        refine LP.weak (t := 29) (v := .raw (.pointer (some ⟨b4, 1, none⟩))) (envS_is (j := 1) rfl d1) ?_
        refine A.u (LU.weak (LU.loadO 0 rfl ⟨Tryd.sizeOf35, Tryd.isAgg35⟩ Is.rfl' (Part.sub (by (simp; omega)))) (Is.of (y := .agg (vxL a.up)) (congrArg LV.agg (ac_up a)))) rfl ?_
        refine ⟨⟨z, z0⟩, Weaker.mk' ?_ (HSub.refl _)⟩
        refine env_back1 (envS_hit (sl := [(0, 28), (1, 29), (2, 30), (3, 31), (4, 32), (5, 33), (6, 34), (7, 35), (8, 36), (9, 37), (10, 38), (11, 39), (12, 40), (13, 41), (14, 42), (15, 43), (16, 44), (17, 45), (18, 46), (19, 47)]) (j := 2) (d := 30) rfl (fun _ _ h => h)) (envS_hit (sl := [(0, 28), (1, 29), (2, 30), (3, 31), (4, 32), (5, 33), (6, 34), (7, 35), (8, 36), (9, 37), (10, 38), (11, 39), (12, 40), (13, 41), (14, 42), (15, 43), (16, 44), (17, 45), (18, 46), (19, 47)]) (j := 1) (d := 29) rfl (fun _ _ h => h)) (envS_next ?_)
        · intro p hp hne; simp only [List.mem_cons, List.not_mem_nil, or_false] at hp; rcases hp with rfl | rfl | rfl | rfl | rfl | rfl | rfl | rfl | rfl | rfl | rfl | rfl | rfl | rfl | rfl | rfl | rfl | rfl | rfl | rfl <;> first | exact absurd rfl hne | exact ⟨rfl, rfl⟩
      · refine ⟨_, rfl, ?_⟩
        refine A.u (LU.fieldO Tryd.underlying52 rfl Tryd.sizeOf35 (by decide) Is.rfl') rfl ?_
        refine ⟨⟨z, z0⟩, Weaker.mk' ?_ (HSub.refl _)⟩
        refine env_back0 (envS_hit (sl := [(0, 28), (1, 29), (2, 30), (3, 31), (4, 32), (5, 33), (6, 34), (7, 35), (8, 36), (9, 37), (10, 38), (11, 39), (12, 40), (13, 41), (14, 42), (15, 43), (16, 44), (17, 45), (18, 46), (19, 47)]) (j := 3) (d := 31) rfl (fun _ _ h => h))  (envS_next ?_)
        · intro p hp hne; simp only [List.mem_cons, List.not_mem_nil, or_false] at hp; rcases hp with rfl | rfl | rfl | rfl | rfl | rfl | rfl | rfl | rfl | rfl | rfl | rfl | rfl | rfl | rfl | rfl | rfl | rfl | rfl | rfl <;> first | exact absurd rfl hne | exact ⟨rfl, rfl⟩
      · have d3 := hdir 3 (List.mem_of_elem_eq_true (by kernel_rfl))
        refine ⟨_, rfl, ?_⟩
        refine LP.weak (t := 31) (v := .raw (.pointer (some ⟨b4, 34, none⟩))) (envS_is (j := 3) rfl d3) ?_
        refine A.u (LU.weak (LU.loadO 0 rfl ⟨Tryd.sizeOf35, Tryd.isAgg35⟩ Is.rfl' (Part.sub (by (simp; omega)))) (Is.of (y := .agg (vxL a.down)) (congrArg LV.agg (ac_down a)))) rfl ?_
        refine ⟨⟨z, z0⟩, Weaker.mk' ?_ (HSub.refl _)⟩
        refine env_back1 (envS_hit (sl := [(0, 28), (1, 29), (2, 30), (3, 31), (4, 32), (5, 33), (6, 34), (7, 35), (8, 36), (9, 37), (10, 38), (11, 39), (12, 40), (13, 41), (14, 42), (15, 43), (16, 44), (17, 45), (18, 46), (19, 47)]) (j := 4) (d := 32) rfl (fun _ _ h => h)) (envS_hit (sl := [(0, 28), (1, 29), (2, 30), (3, 31), (4, 32), (5, 33), (6, 34), (7, 35), (8, 36), (9, 37), (10, 38), (11, 39), (12, 40), (13, 41), (14, 42), (15, 43), (16, 44), (17, 45), (18, 46), (19, 47)]) (j := 3) (d := 31) rfl (fun _ _ h => h)) (envS_next ?_)
        · intro p hp hne; simp only [List.mem_cons, List.not_mem_nil, or_false] at hp; rcases hp with rfl | rfl | rfl | rfl | rfl | rfl | rfl | rfl | rfl | rfl | rfl | rfl | rfl | rfl | rfl | rfl | rfl | rfl | rfl | rfl <;> first | exact absurd rfl hne | exact ⟨rfl, rfl⟩
      · refine ⟨_, rfl, ?_⟩
        refine A.u (LU.fieldO Tryd.underlying52 rfl Tryd.sizeOf26 (by decide) Is.rfl') rfl ?_
        refine ⟨⟨z, z0⟩, Weaker.mk' ?_ (HSub.refl _)⟩
        refine env_back0 (envS_hit (sl := [(0, 28), (1, 29), (2, 30), (3, 31), (4, 32), (5, 33), (6, 34), (7, 35), (8, 36), (9, 37), (10, 38), (11, 39), (12, 40), (13, 41), (14, 42), (15, 43), (16, 44), (17, 45), (18, 46), (19, 47)]) (j := 5) (d := 33) rfl (fun _ _ h => h))  (envS_next ?_)
        · intro p hp hne; simp only [List.mem_cons, List.not_mem_nil, or_false] at hp; rcases hp with rfl | rfl | rfl | rfl | rfl | rfl | rfl | rfl | rfl | rfl | rfl | rfl | rfl | rfl | rfl | rfl | rfl | rfl | rfl | rfl <;> first | exact absurd rfl hne | exact ⟨rfl, rfl⟩
      · have d5 := hdir 5 (List.mem_of_elem_eq_true (by kernel_rfl))
        refine ⟨_, rfl, ?_⟩
        refine LP.weak (t := 33) (v := .raw (.pointer (some ⟨b4, 67, none⟩))) (envS_is (j := 5) rfl d5) ?_
        refine A.u (LU.loadO 0 rfl ⟨Tryd.sizeOf26, Tryd.isAgg26⟩ Is.rfl' (Part.one (ac_ids a))) rfl ?_
        refine ⟨⟨z, z0⟩, Weaker.mk' ?_ (HSub.refl _)⟩
        refine env_back1 (envS_hit (sl := [(0, 28), (1, 29), (2, 30), (3, 31), (4, 32), (5, 33), (6, 34), (7, 35), (8, 36), (9, 37), (10, 38), (11, 39), (12, 40), (13, 41), (14, 42), (15, 43), (16, 44), (17, 45), (18, 46), (19, 47)]) (j := 6) (d := 34) rfl (fun _ _ h => h)) (envS_hit (sl := [(0, 28), (1, 29), (2, 30), (3, 31), (4, 32), (5, 33), (6, 34), (7, 35), (8, 36), (9, 37), (10, 38), (11, 39), (12, 40), (13, 41), (14, 42), (15, 43), (16, 44), (17, 45), (18, 46), (19, 47)]) (j := 5) (d := 33) rfl (fun _ _ h => h)) (envS_next ?_)
        · intro p hp hne; simp only [List.mem_cons, List.not_mem_nil, or_false] at hp; rcases hp with rfl | rfl | rfl | rfl | rfl | rfl | rfl | rfl | rfl | rfl | rfl | rfl | rfl | rfl | rfl | rfl | rfl | rfl | rfl | rfl <;> first | exact absurd rfl hne | exact ⟨rfl, rfl⟩
      · refine ⟨_, rfl, ?_⟩
        refine A.u (LU.fieldO Tryd.underlying52 rfl Tryd.sizeOf25 (by decide) Is.rfl') rfl ?_
        refine ⟨⟨z, z0⟩, Weaker.mk' ?_ (HSub.refl _)⟩
        refine env_back0 (envS_hit (sl := [(0, 28), (1, 29), (2, 30), (3, 31), (4, 32), (5, 33), (6, 34), (7, 35), (8, 36), (9, 37), (10, 38), (11, 39), (12, 40), (13, 41), (14, 42), (15, 43), (16, 44), (17, 45), (18, 46), (19, 47)]) (j := 7) (d := 35) rfl (fun _ _ h => h))  (envS_next ?_)
        · intro p hp hne; simp only [List.mem_cons, List.not_mem_nil, or_false] at hp; rcases hp with rfl | rfl | rfl | rfl | rfl | rfl | rfl | rfl | rfl | rfl | rfl | rfl | rfl | rfl | rfl | rfl | rfl | rfl | rfl | rfl <;> first | exact absurd rfl hne | exact ⟨rfl, rfl⟩
      · have d7 := hdir 7 (List.mem_of_elem_eq_true (by kernel_rfl))
        refine ⟨_, rfl, ?_⟩
        refine LP.weak (t := 35) (v := .raw (.pointer (some ⟨b4, 68, none⟩))) (envS_is (j := 7) rfl d7) ?_
        refine A.u (LU.loadO 0 rfl ⟨Tryd.sizeOf25, Tryd.isAgg25⟩ Is.rfl' (Part.one (ac_texts a))) rfl ?_
        refine ⟨⟨z, z0⟩, Weaker.mk' ?_ (HSub.refl _)⟩
        refine env_back1 (envS_hit (sl := [(0, 28), (1, 29), (2, 30), (3, 31), (4, 32), (5, 33), (6, 34), (7, 35), (8, 36), (9, 37), (10, 38), (11, 39), (12, 40), (13, 41), (14, 42), (15, 43), (16, 44), (17, 45), (18, 46), (19, 47)]) (j := 8) (d := 36) rfl (fun _ _ h => h)) (envS_hit (sl := [(0, 28), (1, 29), (2, 30), (3, 31), (4, 32), (5, 33), (6, 34), (7, 35), (8, 36), (9, 37), (10, 38), (11, 39), (12, 40), (13, 41), (14, 42), (15, 43), (16, 44), (17, 45), (18, 46), (19, 47)]) (j := 7) (d := 35) rfl (fun _ _ h => h)) (envS_next ?_)
        · intro p hp hne; simp only [List.mem_cons, List.not_mem_nil, or_false] at hp; rcases hp with rfl | rfl | rfl | rfl | rfl | rfl | rfl | rfl | rfl | rfl | rfl | rfl | rfl | rfl | rfl | rfl | rfl | rfl | rfl | rfl <;> first | exact absurd rfl hne | exact ⟨rfl, rfl⟩
      · have d0 := hdir 0 (List.mem_of_elem_eq_true (by kernel_rfl))
        have d2 := hdir 2 (List.mem_of_elem_eq_true (by kernel_rfl))
        have d4 := hdir 4 (List.mem_of_elem_eq_true (by kernel_rfl))
        have d6 := hdir 6 (List.mem_of_elem_eq_true (by kernel_rfl))
        have d8 := hdir 8 (List.mem_of_elem_eq_true (by kernel_rfl))
        refine ⟨_, rfl, ?_⟩
        have k19 : f 19 = false := Bool.eq_false_iff.2 (fun h => by rw [hdown 19 (by omega) h 9 (List.mem_of_elem_eq_true (by kernel_rfl))] at hfi; cases hfi)
        refine LP.ghost (H' := H4 g s ++ (.cells b4 52 (acL a) :: .cells b5 52 (acL b) :: (gC g2 t0.ma t0.mb t0.n :: gA t0.ma t0.m :: gP t0.mb t0.q :: Rf))) (by show L.HSub (_ :: _ :: (cond (f 19) _ (cond (f 9) _ _) ++ _)) _; rw [k19, hfi]; exact (by repeat (first | exact HSub.refl _ | refine HSub.pick 2 rfl ?_))) ?_
        refine LP.weak (t := 28) (v := pt g) (envS_is (j := 0) rfl d0) ?_
        refine LP.weak (t := 30) (v := .agg (vxL a.up)) (envS_is (j := 2) rfl d2) ?_
        refine LP.weak (t := 32) (v := .agg (vxL a.down)) (envS_is (j := 4) rfl d4) ?_
        refine LP.weak (t := 34) (v := Vxs a.ids .unk) (envS_is (j := 6) rfl d6) ?_
        refine LP.weak (t := 36) (v := .sl 1 (strsL a.texts) .unk) (envS_is (j := 8) rfl d8) ?_
        refine A.act (X.call (hadd1) Tryd.func11 rfl rfl rfl (HSub.refl _) (Opds.cons Is.rfl' (Opds.cons Is.rfl' (Opds.cons Is.rfl' (Opds.cons Is.rfl' (Opds.cons Is.rfl' Opds.nil))))) ?_)
        rintro r H' ⟨rfl, rfl⟩
        refine ⟨⟨z, z0⟩, Weaker.mk' ?_ (by show L.HSub _ (_ :: _ :: (cond (f 19) _ (cond true (H4 g s1) _) ++ _)); rw [k19]; exact (by repeat (first | exact HSub.refl _ | refine HSub.pick 4 rfl ?_)))⟩
        refine env_back5 (envS_hit (sl := [(0, 28), (1, 29), (2, 30), (3, 31), (4, 32), (5, 33), (6, 34), (7, 35), (8, 36), (9, 37), (10, 38), (11, 39), (12, 40), (13, 41), (14, 42), (15, 43), (16, 44), (17, 45), (18, 46), (19, 47)]) (j := 9) (d := 37) rfl (fun _ _ h => h)) (envS_hit (sl := [(0, 28), (1, 29), (2, 30), (3, 31), (4, 32), (5, 33), (6, 34), (7, 35), (8, 36), (9, 37), (10, 38), (11, 39), (12, 40), (13, 41), (14, 42), (15, 43), (16, 44), (17, 45), (18, 46), (19, 47)]) (j := 8) (d := 36) rfl (fun _ _ h => h)) (envS_hit (sl := [(0, 28), (1, 29), (2, 30), (3, 31), (4, 32), (5, 33), (6, 34), (7, 35), (8, 36), (9, 37), (10, 38), (11, 39), (12, 40), (13, 41), (14, 42), (15, 43), (16, 44), (17, 45), (18, 46), (19, 47)]) (j := 6) (d := 34) rfl (fun _ _ h => h)) (envS_hit (sl := [(0, 28), (1, 29), (2, 30), (3, 31), (4, 32), (5, 33), (6, 34), (7, 35), (8, 36), (9, 37), (10, 38), (11, 39), (12, 40), (13, 41), (14, 42), (15, 43), (16, 44), (17, 45), (18, 46), (19, 47)]) (j := 4) (d := 32) rfl (fun _ _ h => h)) (envS_hit (sl := [(0, 28), (1, 29), (2, 30), (3, 31), (4, 32), (5, 33), (6, 34), (7, 35), (8, 36), (9, 37), (10, 38), (11, 39), (12, 40), (13, 41), (14, 42), (15, 43), (16, 44), (17, 45), (18, 46), (19, 47)]) (j := 2) (d := 30) rfl (fun _ _ h => h)) (envS_hit (sl := [(0, 28), (1, 29), (2, 30), (3, 31), (4, 32), (5, 33), (6, 34), (7, 35), (8, 36), (9, 37), (10, 38), (11, 39), (12, 40), (13, 41), (14, 42), (15, 43), (16, 44), (17, 45), (18, 46), (19, 47)]) (j := 0) (d := 28) rfl (fun _ _ h => h)) (envS_next ?_)
        · intro p hp hne; simp only [List.mem_cons, List.not_mem_nil, or_false] at hp; rcases hp with rfl | rfl | rfl | rfl | rfl | rfl | rfl | rfl | rfl | rfl | rfl | rfl | rfl | rfl | rfl | rfl | rfl | rfl | rfl | rfl <;> first | exact absurd rfl hne | exact ⟨rfl, rfl⟩
      · refine ⟨_, rfl, ?_⟩
        refine A.u (LU.moveR Is.rfl') rfl ?_
        refine ⟨⟨z, z0⟩, Weaker.mk' ?_ (HSub.refl _)⟩
        refine env_back0 (envS_hit (sl := [(0, 28), (1, 29), (2, 30), (3, 31), (4, 32), (5, 33), (6, 34), (7, 35), (8, 36), (9, 37), (10, 38), (11, 39), (12, 40), (13, 41), (14, 42), (15, 43), (16, 44), (17, 45), (18, 46), (19, 47)]) (j := 10) (d := 38) rfl (fun _ _ h => h))  (envS_next ?_)
        · intro p hp hne; simp only [List.mem_cons, List.not_mem_nil, or_false] at hp; rcases hp with rfl | rfl | rfl | rfl | rfl | rfl | rfl | rfl | rfl | rfl | rfl | rfl | rfl | rfl | rfl | rfl | rfl | rfl | rfl | rfl <;> first | exact absurd rfl hne | exact ⟨rfl, rfl⟩
      · refine ⟨_, rfl, ?_⟩
        refine A.u (LU.fieldO Tryd.underlying52 rfl Tryd.sizeOf35 (by decide) Is.rfl') rfl ?_
        refine ⟨⟨z, z0⟩, Weaker.mk' ?_ (HSub.refl _)⟩
        refine env_back0 (envS_hit (sl := [(0, 28), (1, 29), (2, 30), (3, 31), (4, 32), (5, 33), (6, 34), (7, 35), (8, 36), (9, 37), (10, 38), (11, 39), (12, 40), (13, 41), (14, 42), (15, 43), (16, 44), (17, 45), (18, 46), (19, 47)]) (j := 11) (d := 39) rfl (fun _ _ h => h))  (envS_next ?_)
        · intro p hp hne; simp only [List.mem_cons, List.not_mem_nil, or_false] at hp; rcases hp with rfl | rfl | rfl | rfl | rfl | rfl | rfl | rfl | rfl | rfl | rfl | rfl | rfl | rfl | rfl | rfl | rfl | rfl | rfl | rfl <;> first | exact absurd rfl hne | exact ⟨rfl, rfl⟩
      · have d11 := hdir 11 (List.mem_of_elem_eq_true (by kernel_rfl))
        refine ⟨_, rfl, ?_⟩
        refine LP.weak (t := 39) (v := .raw (.pointer (some ⟨b5, 1, none⟩))) (envS_is (j := 11) rfl d11) ?_
        refine A.u (LU.weak (LU.loadO 1 rfl ⟨Tryd.sizeOf35, Tryd.isAgg35⟩ Is.rfl' (Part.sub (by (simp; omega)))) (Is.of (y := .agg (vxL b.up)) (congrArg LV.agg (ac_up b)))) rfl ?_
        refine ⟨⟨z, z0⟩, Weaker.mk' ?_ (HSub.refl _)⟩
        refine env_back1 (envS_hit (sl := [(0, 28), (1, 29), (2, 30), (3, 31), (4, 32), (5, 33), (6, 34), (7, 35), (8, 36), (9, 37), (10, 38), (11, 39), (12, 40), (13, 41), (14, 42), (15, 43), (16, 44), (17, 45), (18, 46), (19, 47)]) (j := 12) (d := 40) rfl (fun _ _ h => h)) (envS_hit (sl := [(0, 28), (1, 29), (2, 30), (3, 31), (4, 32), (5, 33), (6, 34), (7, 35), (8, 36), (9, 37), (10, 38), (11, 39), (12, 40), (13, 41), (14, 42), (15, 43), (16, 44), (17, 45), (18, 46), (19, 47)]) (j := 11) (d := 39) rfl (fun _ _ h => h)) (envS_next ?_)
        · intro p hp hne; simp only [List.mem_cons, List.not_mem_nil, or_false] at hp; rcases hp with rfl | rfl | rfl | rfl | rfl | rfl | rfl | rfl | rfl | rfl | rfl | rfl | rfl | rfl | rfl | rfl | rfl | rfl | rfl | rfl <;> first | exact absurd rfl hne | exact ⟨rfl, rfl⟩
      · refine ⟨_, rfl, ?_⟩
        refine A.u (LU.fieldO Tryd.underlying52 rfl Tryd.sizeOf35 (by decide) Is.rfl') rfl ?_
        refine ⟨⟨z, z0⟩, Weaker.mk' ?_ (HSub.refl _)⟩
        refine env_back0 (envS_hit (sl := [(0, 28), (1, 29), (2, 30), (3, 31), (4, 32), (5, 33), (6, 34), (7, 35), (8, 36), (9, 37), (10, 38), (11, 39), (12, 40), (13, 41), (14, 42), (15, 43), (16, 44), (17, 45), (18, 46), (19, 47)]) (j := 13) (d := 41) rfl (fun _ _ h => h))  (envS_next ?_)
        · intro p hp hne; simp only [List.mem_cons, List.not_mem_nil, or_false] at hp; rcases hp with rfl | rfl | rfl | rfl | rfl | rfl | rfl | rfl | rfl | rfl | rfl | rfl | rfl | rfl | rfl | rfl | rfl | rfl | rfl | rfl <;> first | exact absurd rfl hne | exact ⟨rfl, rfl⟩
      · have d13 := hdir 13 (List.mem_of_elem_eq_true (by kernel_rfl))
        refine ⟨_, rfl, ?_⟩
        refine LP.weak (t := 41) (v := .raw (.pointer (some ⟨b5, 34, none⟩))) (envS_is (j := 13) rfl d13) ?_
        refine A.u (LU.weak (LU.loadO 1 rfl ⟨Tryd.sizeOf35, Tryd.isAgg35⟩ Is.rfl' (Part.sub (by (simp; omega)))) (Is.of (y := .agg (vxL b.down)) (congrArg LV.agg (ac_down b)))) rfl ?_
        refine ⟨⟨z, z0⟩, Weaker.mk' ?_ (HSub.refl _)⟩
        refine env_back1 (envS_hit (sl := [(0, 28), (1, 29), (2, 30), (3, 31), (4, 32), (5, 33), (6, 34), (7, 35), (8, 36), (9, 37), (10, 38), (11, 39), (12, 40), (13, 41), (14, 42), (15, 43), (16, 44), (17, 45), (18, 46), (19, 47)]) (j := 14) (d := 42) rfl (fun _ _ h => h)) (envS_hit (sl := [(0, 28), (1, 29), (2, 30), (3, 31), (4, 32), (5, 33), (6, 34), (7, 35), (8, 36), (9, 37), (10, 38), (11, 39), (12, 40), (13, 41), (14, 42), (15, 43), (16, 44), (17, 45), (18, 46), (19, 47)]) (j := 13) (d := 41) rfl (fun _ _ h => h)) (envS_next ?_)
        · intro p hp hne; simp only [List.mem_cons, List.not_mem_nil, or_false] at hp; rcases hp with rfl | rfl | rfl | rfl | rfl | rfl | rfl | rfl | rfl | rfl | rfl | rfl | rfl | rfl | rfl | rfl | rfl | rfl | rfl | rfl <;> first | exact absurd rfl hne | exact ⟨rfl, rfl⟩
      · refine ⟨_, rfl, ?_⟩
        refine A.u (LU.fieldO Tryd.underlying52 rfl Tryd.sizeOf26 (by decide) Is.rfl') rfl ?_
        refine ⟨⟨z, z0⟩, Weaker.mk' ?_ (HSub.refl _)⟩
        refine env_back0 (envS_hit (sl := [(0, 28), (1, 29), (2, 30), (3, 31), (4, 32), (5, 33), (6, 34), (7, 35), (8, 36), (9, 37), (10, 38), (11, 39), (12, 40), (13, 41), (14, 42), (15, 43), (16, 44), (17, 45), (18, 46), (19, 47)]) (j := 15) (d := 43) rfl (fun _ _ h => h))  (envS_next ?_)
        · intro p hp hne; simp only [List.mem_cons, List.not_mem_nil, or_false] at hp; rcases hp with rfl | rfl | rfl | rfl | rfl | rfl | rfl | rfl | rfl | rfl | rfl | rfl | rfl | rfl | rfl | rfl | rfl | rfl | rfl | rfl <;> first | exact absurd rfl hne | exact ⟨rfl, rfl⟩
      · have d15 := hdir 15 (List.mem_of_elem_eq_true (by kernel_rfl))
        refine ⟨_, rfl, ?_⟩
        refine LP.weak (t := 43) (v := .raw (.pointer (some ⟨b5, 67, none⟩))) (envS_is (j := 15) rfl d15) ?_
        refine A.u (LU.loadO 1 rfl ⟨Tryd.sizeOf26, Tryd.isAgg26⟩ Is.rfl' (Part.one (ac_ids b))) rfl ?_
        refine ⟨⟨z, z0⟩, Weaker.mk' ?_ (HSub.refl _)⟩
        refine env_back1 (envS_hit (sl := [(0, 28), (1, 29), (2, 30), (3, 31), (4, 32), (5, 33), (6, 34), (7, 35), (8, 36), (9, 37), (10, 38), (11, 39), (12, 40), (13, 41), (14, 42), (15, 43), (16, 44), (17, 45), (18, 46), (19, 47)]) (j := 16) (d := 44) rfl (fun _ _ h => h)) (envS_hit (sl := [(0, 28), (1, 29), (2, 30), (3, 31), (4, 32), (5, 33), (6, 34), (7, 35), (8, 36), (9, 37), (10, 38), (11, 39), (12, 40), (13, 41), (14, 42), (15, 43), (16, 44), (17, 45), (18, 46), (19, 47)]) (j := 15) (d := 43) rfl (fun _ _ h => h)) (envS_next ?_)
        · intro p hp hne; simp only [List.mem_cons, List.not_mem_nil, or_false] at hp; rcases hp with rfl | rfl | rfl | rfl | rfl | rfl | rfl | rfl | rfl | rfl | rfl | rfl | rfl | rfl | rfl | rfl | rfl | rfl | rfl | rfl <;> first | exact absurd rfl hne | exact ⟨rfl, rfl⟩
      · refine ⟨_, rfl, ?_⟩
        refine A.u (LU.fieldO Tryd.underlying52 rfl Tryd.sizeOf25 (by decide) Is.rfl') rfl ?_
        refine ⟨⟨z, z0⟩, Weaker.mk' ?_ (HSub.refl _)⟩
        refine env_back0 (envS_hit (sl := [(0, 28), (1, 29), (2, 30), (3, 31), (4, 32), (5, 33), (6, 34), (7, 35), (8, 36), (9, 37), (10, 38), (11, 39), (12, 40), (13, 41), (14, 42), (15, 43), (16, 44), (17, 45), (18, 46), (19, 47)]) (j := 17) (d := 45) rfl (fun _ _ h => h))  (envS_next ?_)
        · intro p hp hne; simp only [List.mem_cons, List.not_mem_nil, or_false] at hp; rcases hp with rfl | rfl | rfl | rfl | rfl | rfl | rfl | rfl | rfl | rfl | rfl | rfl | rfl | rfl | rfl | rfl | rfl | rfl | rfl | rfl <;> first | exact absurd rfl hne | exact ⟨rfl, rfl⟩
      · have d17 := hdir 17 (List.mem_of_elem_eq_true (by kernel_rfl))
        refine ⟨_, rfl, ?_⟩
        refine LP.weak (t := 45) (v := .raw (.pointer (some ⟨b5, 68, none⟩))) (envS_is (j := 17) rfl d17) ?_
        refine A.u (LU.loadO 1 rfl ⟨Tryd.sizeOf25, Tryd.isAgg25⟩ Is.rfl' (Part.one (ac_texts b))) rfl ?_
        refine ⟨⟨z, z0⟩, Weaker.mk' ?_ (HSub.refl _)⟩
        refine env_back1 (envS_hit (sl := [(0, 28), (1, 29), (2, 30), (3, 31), (4, 32), (5, 33), (6, 34), (7, 35), (8, 36), (9, 37), (10, 38), (11, 39), (12, 40), (13, 41), (14, 42), (15, 43), (16, 44), (17, 45), (18, 46), (19, 47)]) (j := 18) (d := 46) rfl (fun _ _ h => h)) (envS_hit (sl := [(0, 28), (1, 29), (2, 30), (3, 31), (4, 32), (5, 33), (6, 34), (7, 35), (8, 36), (9, 37), (10, 38), (11, 39), (12, 40), (13, 41), (14, 42), (15, 43), (16, 44), (17, 45), (18, 46), (19, 47)]) (j := 17) (d := 45) rfl (fun _ _ h => h)) (envS_next ?_)
        · intro p hp hne; simp only [List.mem_cons, List.not_mem_nil, or_false] at hp; rcases hp with rfl | rfl | rfl | rfl | rfl | rfl | rfl | rfl | rfl | rfl | rfl | rfl | rfl | rfl | rfl | rfl | rfl | rfl | rfl | rfl <;> first | exact absurd rfl hne | exact ⟨rfl, rfl⟩
      · have d9 := hdir 9 (List.mem_of_elem_eq_true (by kernel_rfl))
        have d10 := hdir 10 (List.mem_of_elem_eq_true (by kernel_rfl))
        have d12 := hdir 12 (List.mem_of_elem_eq_true (by kernel_rfl))
        have d14 := hdir 14 (List.mem_of_elem_eq_true (by kernel_rfl))
        have d16 := hdir 16 (List.mem_of_elem_eq_true (by kernel_rfl))
        have d18 := hdir 18 (List.mem_of_elem_eq_true (by kernel_rfl))
        refine ⟨_, rfl, ?_⟩
        have k9 : f 9 = true := hdir 9 (List.mem_of_elem_eq_true (by kernel_rfl))
        refine LP.ghost (H' := H4 g s1 ++ (.cells b4 52 (acL a) :: .cells b5 52 (acL b) :: (gC g2 t0.ma t0.mb t0.n :: gA t0.ma t0.m :: gP t0.mb t0.q :: Rf))) (by show L.HSub (_ :: _ :: (cond (f 19) _ (cond (f 9) _ _) ++ _)) _; rw [hfi, k9]; exact (by repeat (first | exact HSub.refl _ | refine HSub.pick 2 rfl ?_))) ?_
        refine LP.weak (t := 38) (v := pt g) (envS_is (j := 10) rfl d10) ?_
        refine LP.weak (t := 40) (v := .agg (vxL b.up)) (envS_is (j := 12) rfl d12) ?_
        refine LP.weak (t := 42) (v := .agg (vxL b.down)) (envS_is (j := 14) rfl d14) ?_
        refine LP.weak (t := 44) (v := Vxs b.ids .unk) (envS_is (j := 16) rfl d16) ?_
        refine LP.weak (t := 46) (v := .sl 1 (strsL b.texts) .unk) (envS_is (j := 18) rfl d18) ?_
        refine A.act (X.call (hadd2) Tryd.func11 rfl rfl rfl (HSub.refl _) (Opds.cons Is.rfl' (Opds.cons Is.rfl' (Opds.cons Is.rfl' (Opds.cons Is.rfl' (Opds.cons Is.rfl' Opds.nil))))) ?_)
        rintro r H' ⟨rfl, rfl⟩
        refine ⟨⟨z, z0⟩, Weaker.mk' ?_ (by show L.HSub _ (_ :: _ :: (cond true (H4 g s2) _ ++ _)); exact (by repeat (first | exact HSub.refl _ | refine HSub.pick 4 rfl ?_)))⟩
        refine env_back5 (envS_hit (sl := [(0, 28), (1, 29), (2, 30), (3, 31), (4, 32), (5, 33), (6, 34), (7, 35), (8, 36), (9, 37), (10, 38), (11, 39), (12, 40), (13, 41), (14, 42), (15, 43), (16, 44), (17, 45), (18, 46), (19, 47)]) (j := 19) (d := 47) rfl (fun _ _ h => h)) (envS_hit (sl := [(0, 28), (1, 29), (2, 30), (3, 31), (4, 32), (5, 33), (6, 34), (7, 35), (8, 36), (9, 37), (10, 38), (11, 39), (12, 40), (13, 41), (14, 42), (15, 43), (16, 44), (17, 45), (18, 46), (19, 47)]) (j := 18) (d := 46) rfl (fun _ _ h => h)) (envS_hit (sl := [(0, 28), (1, 29), (2, 30), (3, 31), (4, 32), (5, 33), (6, 34), (7, 35), (8, 36), (9, 37), (10, 38), (11, 39), (12, 40), (13, 41), (14, 42), (15, 43), (16, 44), (17, 45), (18, 46), (19, 47)]) (j := 16) (d := 44) rfl (fun _ _ h => h)) (envS_hit (sl := [(0, 28), (1, 29), (2, 30), (3, 31), (4, 32), (5, 33), (6, 34), (7, 35), (8, 36), (9, 37), (10, 38), (11, 39), (12, 40), (13, 41), (14, 42), (15, 43), (16, 44), (17, 45), (18, 46), (19, 47)]) (j := 14) (d := 42) rfl (fun _ _ h => h)) (envS_hit (sl := [(0, 28), (1, 29), (2, 30), (3, 31), (4, 32), (5, 33), (6, 34), (7, 35), (8, 36), (9, 37), (10, 38), (11, 39), (12, 40), (13, 41), (14, 42), (15, 43), (16, 44), (17, 45), (18, 46), (19, 47)]) (j := 12) (d := 40) rfl (fun _ _ h => h)) (envS_hit (sl := [(0, 28), (1, 29), (2, 30), (3, 31), (4, 32), (5, 33), (6, 34), (7, 35), (8, 36), (9, 37), (10, 38), (11, 39), (12, 40), (13, 41), (14, 42), (15, 43), (16, 44), (17, 45), (18, 46), (19, 47)]) (j := 10) (d := 38) rfl (fun _ _ h => h)) (envS_next ?_)
        · intro p hp hne; simp only [List.mem_cons, List.not_mem_nil, or_false] at hp; rcases hp with rfl | rfl | rfl | rfl | rfl | rfl | rfl | rfl | rfl | rfl | rfl | rfl | rfl | rfl | rfl | rfl | rfl | rfl | rfl | rfl <;> first | exact absurd rfl hne | exact ⟨rfl, rfl⟩
    · intro g_ f hf_
      obtain ⟨z, z0⟩ := g_
      refine X.ghost (H' := H4 g s2 ++ (.cells b4 52 (acL a) :: .cells b5 52 (acL b) :: (gC g2 t0.ma t0.mb t0.n :: gA t0.ma t0.m :: gP t0.mb t0.q :: Rf))) (by show L.HSub (_ :: _ :: (cond (f 19) _ _ ++ _)) _; rw [hf_ 19 (by omega)]; exact (by repeat (first | exact HSub.refl _ | refine HSub.pick 2 rfl ?_))) ?_
      refine X.u (LU.assignR Is.rfl') rfl ?_
      refine X.u (LU.assignR Is.rfl') rfl ?_
      refine LL.nil (after_code ?_)
      refine LW.seq ?_
      refine X.wghost (H' := gC g2 t0.ma t0.mb t0.n :: gA t0.ma t0.m :: gP t0.mb t0.q :: kb :: .cells b4 52 (acL a) :: .cells b5 52 (acL b) :: gC g s2.ma s2.mb s2.n :: gA s2.ma s2.m :: gP s2.mb s2.q :: Rf) (by repeat (first | exact HSub.refl _ | refine HSub.pick 3 rfl ?_ | refine HSub.pick 6 rfl ?_)) ?_
      obtain ⟨hadd3, ht1⟩ := add_d g2 ht0 (by decide) b.up b.down b.ids b.texts .unk .unk (by omega) (by omega)
      obtain ⟨t1, ht1d⟩ : ∃ t1, t1 = stAdd t0 R b.up b.down b.ids b.texts := ⟨_, rfl⟩
      rw [← ht1d] at hadd3 ht1
      obtain ⟨hadd4, ht2⟩ := add_d g2 ht1 (by decide) a.up a.down a.ids a.texts .unk .unk (by omega) (by omega)
      obtain ⟨t2, ht2d⟩ : ∃ t2, t2 = stAdd t1 (raddG R b.up b.down b.ids b.texts) a.up a.down a.ids a.texts := ⟨_, rfl⟩
      rw [← ht2d] at hadd4 ht2
      refine LW.invM (m := 20) (γ := Nat × Nat) [(0, 48), (1, 49), (2, 50), (3, 51), (4, 52), (5, 53), (6, 54), (7, 55), (8, 56), (9, 57), (10, 58), (11, 59), (12, 60), (13, 61), (14, 62), (15, 63), (16, 64), (17, 65), (18, 66), (19, 67)] (fun g_ d => match g_ with | ⟨z, z0⟩ => match d with | 48 => pt g2 | 49 => .raw (.pointer (some ⟨b5, 1, none⟩)) | 50 => .agg (vxL b.up) | 51 => .raw (.pointer (some ⟨b5, 34, none⟩)) | 52 => .agg (vxL b.down) | 53 => .raw (.pointer (some ⟨b5, 67, none⟩)) | 54 => Vxs b.ids .unk | 55 => .raw (.pointer (some ⟨b5, 68, none⟩)) | 56 => .sl 1 (strsL b.texts) .unk | 57 => i64 (raddE R b.up b.down b.ids b.texts : Nat) | 58 => pt g2 | 59 => .raw (.pointer (some ⟨b4, 1, none⟩)) | 60 => .agg (vxL a.up) | 61 => .raw (.pointer (some ⟨b4, 34, none⟩)) | 62 => .agg (vxL a.down) | 63 => .raw (.pointer (some ⟨b4, 67, none⟩)) | 64 => Vxs a.ids .unk | 65 => .raw (.pointer (some ⟨b4, 68, none⟩)) | 66 => .sl 1 (strsL a.texts) .unk | 67 => i64 (raddE (raddG R b.up b.down b.ids b.texts) a.up a.down a.ids a.texts : Nat) | _ => .any) (fun g_ f => match g_ with | ⟨z, z0⟩ => .cells b4 52 (acL a) :: .cells b5 52 (acL b) :: (cond (f 19) (H4 g2 t2) (cond (f 9) (H4 g2 t1) (H4 g2 t0)) ++ (gC g s2.ma s2.mb s2.n :: gA s2.ma s2.m :: gP s2.mb s2.q :: Rf))) (0, 0) rfl (by kernel_rfl) rfl rfl ((by repeat (first | exact HSub.refl _ | refine HSub.pick 4 rfl ?_))) ?_ ?_
      · intro i hi f g_ hfi hdir hdown
        obtain ⟨z, z0⟩ := g_
        have hc : i = 0 ∨ i = 1 ∨ i = 2 ∨ i = 3 ∨ i = 4 ∨ i = 5 ∨ i = 6 ∨ i = 7 ∨ i = 8 ∨ i = 9 ∨ i = 10 ∨ i = 11 ∨ i = 12 ∨ i = 13 ∨ i = 14 ∨ i = 15 ∨ i = 16 ∨ i = 17 ∨ i = 18 ∨ i = 19 := by omega
        rcases hc with rfl | rfl | rfl | rfl | rfl | rfl | rfl | rfl | rfl | rfl | rfl | rfl | rfl | rfl | rfl | rfl | rfl | rfl | rfl | rfl
        · refine ⟨_, rfl, ?_⟩
          refine A.u (LU.moveR Is.rfl') rfl ?_
          refine ⟨⟨z, z0⟩, Weaker.mk' ?_ (HSub.refl _)⟩
          refine env_back0 (envS_hit (sl := [(0, 48), (1, 49), (2, 50), (3, 51), (4, 52), (5, 53), (6, 54), (7, 55), (8, 56), (9, 57), (10, 58), (11, 59), (12, 60), (13, 61), (14, 62), (15, 63), (16, 64), (17, 65), (18, 66), (19, 67)]) (j := 0) (d := 48) rfl (fun _ _ h => h))  (envS_next ?_)
          · intro p hp hne; simp only [List.mem_cons, List.not_mem_nil, or_false] at hp; rcases hp with rfl | rfl | rfl | rfl | rfl | rfl | rfl | rfl | rfl | rfl | rfl | rfl | rfl | rfl | rfl | rfl | rfl | rfl | rfl | rfl <;> first | exact absurd rfl hne | exact ⟨rfl, rfl⟩
        · refine ⟨_, rfl, ?_⟩
          refine A.u (LU.fieldO Tryd.underlying52 rfl Tryd.sizeOf35 (by decide) Is.rfl') rfl ?_
          refine ⟨⟨z, z0⟩, Weaker.mk' ?_ (HSub.refl _)⟩
          refine env_back0 (envS_hit (sl := [(0, 48), (1, 49), (2, 50), (3, 51), (4, 52), (5, 53), (6, 54), (7, 55), (8, 56), (9, 57), (10, 58), (11, 59), (12, 60), (13, 61), (14, 62), (15, 63), (16, 64), (17, 65), (18, 66), (19, 67)]) (j := 1) (d := 49) rfl (fun _ _ h => h))  (envS_next ?_)
          · intro p hp hne; simp only [List.mem_cons, List.not_mem_nil, or_false] at hp; rcases hp with rfl | rfl | rfl | rfl | rfl | rfl | rfl | rfl | rfl | rfl | rfl | rfl | rfl | rfl | rfl | rfl | rfl | rfl | rfl | rfl <;> first | exact absurd rfl hne | exact ⟨rfl, rfl⟩
        · have d1 := hdir 1 (List.mem_of_elem_eq_true (by kernel_rfl))
          refine ⟨_, rfl, ?_⟩
          refine LP.weak (t := 49) (v := .raw (.pointer (some ⟨b5, 1, none⟩))) (envS_is (j := 1) rfl d1) ?_
          refine A.u (LU.weak (LU.loadO 1 rfl ⟨Tryd.sizeOf35, Tryd.isAgg35⟩ Is.rfl' (Part.sub (by (simp; omega)))) (Is.of (y := .agg (vxL b.up)) (congrArg LV.agg (ac_up b)))) rfl ?_
          refine ⟨⟨z, z0⟩, Weaker.mk' ?_ (HSub.refl _)⟩
          refine env_back1 (envS_hit (sl := [(0, 48), (1, 49), (2, 50), (3, 51), (4, 52), (5, 53), (6, 54), (7, 55), (8, 56), (9, 57), (10, 58), (11, 59), (12, 60), (13, 61), (14, 62), (15, 63), (16, 64), (17, 65), (18, 66), (19, 67)]) (j := 2) (d := 50) rfl (fun _ _ h => h)) (envS_hit (sl := [(0, 48), (1, 49), (2, 50), (3, 51), (4, 52), (5, 53), (6, 54), (7, 55), (8, 56), (9, 57), (10, 58), (11, 59), (12, 60), (13, 61), (14, 62), (15, 63), (16, 64), (17, 65), (18, 66), (19, 67)]) (j := 1) (d := 49) rfl (fun _ _ h => h)) (envS_next ?_)
          · intro p hp hne; simp only [List.mem_cons, List.not_mem_nil, or_false] at hp; rcases hp with rfl | rfl | rfl | rfl | rfl | rfl | rfl | rfl | rfl | rfl | rfl | rfl | rfl | rfl | rfl | rfl | rfl | rfl | rfl | rfl <;> first | exact absurd rfl hne | exact ⟨rfl, rfl⟩
        · refine ⟨_, rfl, ?_⟩
          refine A.u (LU.fieldO Tryd.underlying52 rfl Tryd.sizeOf35 (by decide) Is.rfl') rfl ?_
          refine ⟨⟨z, z0⟩, Weaker.mk' ?_ (HSub.refl _)⟩
          refine env_back0 (envS_hit (sl := [(0, 48), (1, 49), (2, 50), (3, 51), (4, 52), (5, 53), (6, 54), (7, 55), (8, 56), (9, 57), (10, 58), (11, 59), (12, 60), (13, 61), (14, 62), (15, 63), (16, 64), (17, 65), (18, 66), (19, 67)]) (j := 3) (d := 51) rfl (fun _ _ h => h))  (envS_next ?_)
          · intro p hp hne; simp only [List.mem_cons, List.not_mem_nil, or_false] at hp; rcases hp with rfl | rfl | rfl | rfl | rfl | rfl | rfl | rfl | rfl | rfl | rfl | rfl | rfl | rfl | rfl | rfl | rfl | rfl | rfl | rfl <;> first | exact absurd rfl hne | exact ⟨rfl, rfl⟩
        · have d3 := hdir 3 (List.mem_of_elem_eq_true (by kernel_rfl))
          refine ⟨_, rfl, ?_⟩
          refine LP.weak (t := 51) (v := .raw (.pointer (some ⟨b5, 34, none⟩))) (envS_is (j := 3) rfl d3) ?_
          refine A.u (LU.weak (LU.loadO 1 rfl ⟨Tryd.sizeOf35, Tryd.isAgg35⟩ Is.rfl' (Part.sub (by (simp; omega)))) (Is.of (y := .agg (vxL b.down)) (congrArg LV.agg (ac_down b)))) rfl ?_
          refine ⟨⟨z, z0⟩, Weaker.mk' ?_ (HSub.refl _)⟩
          refine env_back1 (envS_hit (sl := [(0, 48), (1, 49), (2, 50), (3, 51), (4, 52), (5, 53), (6, 54), (7, 55), (8, 56), (9, 57), (10, 58), (11, 59), (12, 60), (13, 61), (14, 62), (15, 63), (16, 64), (17, 65), (18, 66), (19, 67)]) (j := 4) (d := 52) rfl (fun _ _ h => h)) (envS_hit (sl := [(0, 48), (1, 49), (2, 50), (3, 51), (4, 52), (5, 53), (6, 54), (7, 55), (8, 56), (9, 57), (10, 58), (11, 59), (12, 60), (13, 61), (14, 62), (15, 63), (16, 64), (17, 65), (18, 66), (19, 67)]) (j := 3) (d := 51) rfl (fun _ _ h => h)) (envS_next ?_)
          · intro p hp hne; simp only [List.mem_cons, List.not_mem_nil, or_false] at hp; rcases hp with rfl | rfl | rfl | rfl | rfl | rfl | rfl | rfl | rfl | rfl | rfl | rfl | rfl | rfl | rfl | rfl | rfl | rfl | rfl | rfl <;> first | exact absurd rfl hne | exact ⟨rfl, rfl⟩
        · refine ⟨_, rfl, ?_⟩
          refine A.u (LU.fieldO Tryd.underlying52 rfl Tryd.sizeOf26 (by decide) Is.rfl') rfl ?_
          refine ⟨⟨z, z0⟩, Weaker.mk' ?_ (HSub.refl _)⟩
          refine env_back0 (envS_hit (sl := [(0, 48), (1, 49), (2, 50), (3, 51), (4, 52), (5, 53), (6, 54), (7, 55), (8, 56), (9, 57), (10, 58), (11, 59), (12, 60), (13, 61), (14, 62), (15, 63), (16, 64), (17, 65), (18, 66), (19, 67)]) (j := 5) (d := 53) rfl (fun _ _ h => h))  (envS_next ?_)
          · intro p hp hne; simp only [List.mem_cons, List.not_mem_nil, or_false] at hp; rcases hp with rfl | rfl | rfl | rfl | rfl | rfl | rfl | rfl | rfl | rfl | rfl | rfl | rfl | rfl | rfl | rfl | rfl | rfl | rfl | rfl <;> first | exact absurd rfl hne | exact ⟨rfl, rfl⟩
        · have d5 := hdir 5 (List.mem_of_elem_eq_true (by kernel_rfl))
          refine ⟨_, rfl, ?_⟩
          refine LP.weak (t := 53) (v := .raw (.pointer (some ⟨b5, 67, none⟩))) (envS_is (j := 5) rfl d5) ?_
          refine A.u (LU.loadO 1 rfl ⟨Tryd.sizeOf26, Tryd.isAgg26⟩ Is.rfl' (Part.one (ac_ids b))) rfl ?_
          refine ⟨⟨z, z0⟩, Weaker.mk' ?_ (HSub.refl _)⟩
          refine env_back1 (envS_hit (sl := [(0, 48), (1, 49), (2, 50), (3, 51), (4, 52), (5, 53), (6, 54), (7, 55), (8, 56), (9, 57), (10, 58), (11, 59), (12, 60), (13, 61), (14, 62), (15, 63), (16, 64), (17, 65), (18, 66), (19, 67)]) (j := 6) (d := 54) rfl (fun _ _ h => h)) (envS_hit (sl := [(0, 48), (1, 49), (2, 50), (3, 51), (4, 52), (5, 53), (6, 54), (7, 55), (8, 56), (9, 57), (10, 58), (11, 59), (12, 60), (13, 61), (14, 62), (15, 63), (16, 64), (17, 65), (18, 66), (19, 67)]) (j := 5) (d := 53) rfl (fun _ _ h => h)) (envS_next ?_)
          · intro p hp hne; simp only [List.mem_cons, List.not_mem_nil, or_false] at hp; rcases hp with rfl | rfl | rfl | rfl | rfl | rfl | rfl | rfl | rfl | rfl | rfl | rfl | rfl | rfl | rfl | rfl | rfl | rfl | rfl | rfl <;> first | exact absurd rfl hne | exact ⟨rfl, rfl⟩
        · refine ⟨_, rfl, ?_⟩
          refine A.u (LU.fieldO Tryd.underlying52 rfl Tryd.sizeOf25 (by decide) Is.rfl') rfl ?_
          refine ⟨⟨z, z0⟩, Weaker.mk' ?_ (HSub.refl _)⟩
          refine env_back0 (envS_hit (sl := [(0, 48), (1, 49), (2, 50), (3, 51), (4, 52), (5, 53), (6, 54), (7, 55), (8, 56), (9, 57), (10, 58), (11, 59), (12, 60), (13, 61), (14, 62), (15, 63), (16, 64), (17, 65), (18, 66), (19, 67)]) (j := 7) (d := 55) rfl (fun _ _ h => h))  (envS_next ?_)
          · intro p hp hne; simp only [List.mem_cons, List.not_mem_nil, or_false] at hp; rcases hp with rfl | rfl | rfl | rfl | rfl | rfl | rfl | rfl | rfl | rfl | rfl | rfl | rfl | rfl | rfl | rfl | rfl | rfl | rfl | rfl <;> first | exact absurd rfl hne | exact ⟨rfl, rfl⟩
        · have d7 := hdir 7 (List.mem_of_elem_eq_true (by kernel_rfl))
          refine ⟨_, rfl, ?_⟩
          refine LP.weak (t := 55) (v := .raw (.pointer (some ⟨b5, 68, none⟩))) (envS_is (j := 7) rfl d7) ?_
          refine A.u (LU.loadO 1 rfl ⟨Tryd.sizeOf25, Tryd.isAgg25⟩ Is.rfl' (Part.one (ac_texts b))) rfl ?_
          refine ⟨⟨z, z0⟩, Weaker.mk' ?_ (HSub.refl _)⟩
          refine env_back1 (envS_hit (sl := [(0, 48), (1, 49), (2, 50), (3, 51), (4, 52), (5, 53), (6, 54), (7, 55), (8, 56), (9, 57), (10, 58), (11, 59), (12, 60), (13, 61), (14, 62), (15, 63), (16, 64), (17, 65), (18, 66), (19, 67)]) (j := 8) (d := 56) rfl (fun _ _ h => h)) (envS_hit (sl := [(0, 48), (1, 49), (2, 50), (3, 51), (4, 52), (5, 53), (6, 54), (7, 55), (8, 56), (9, 57), (10, 58), (11, 59), (12, 60), (13, 61), (14, 62), (15, 63), (16, 64), (17, 65), (18, 66), (19, 67)]) (j := 7) (d := 55) rfl (fun _ _ h => h)) (envS_next ?_)
          · intro p hp hne; simp only [List.mem_cons, List.not_mem_nil, or_false] at hp; rcases hp with rfl | rfl | rfl | rfl | rfl | rfl | rfl | rfl | rfl | rfl | rfl | rfl | rfl | rfl | rfl | rfl | rfl | rfl | rfl | rfl <;> first | exact absurd rfl hne | exact ⟨rfl, rfl⟩
        · have d0 := hdir 0 (List.mem_of_elem_eq_true (by kernel_rfl))
          have d2 := hdir 2 (List.mem_of_elem_eq_true (by kernel_rfl))
          have d4 := hdir 4 (List.mem_of_elem_eq_true (by kernel_rfl))
          have d6 := hdir 6 (List.mem_of_elem_eq_true (by kernel_rfl))
          have d8 := hdir 8 (List.mem_of_elem_eq_true (by kernel_rfl))
          refine ⟨_, rfl, ?_⟩
          have k19 : f 19 = false := Bool.eq_false_iff.2 (fun h => by rw [hdown 19 (by omega) h 9 (List.mem_of_elem_eq_true (by kernel_rfl))] at hfi; cases hfi)
          refine LP.ghost (H' := H4 g2 t0 ++ (.cells b4 52 (acL a) :: .cells b5 52 (acL b) :: (gC g s2.ma s2.mb s2.n :: gA s2.ma s2.m :: gP s2.mb s2.q :: Rf))) (by show L.HSub (_ :: _ :: (cond (f 19) _ (cond (f 9) _ _) ++ _)) _; rw [k19, hfi]; exact (by repeat (first | exact HSub.refl _ | refine HSub.pick 2 rfl ?_))) ?_
          refine LP.weak (t := 48) (v := pt g2) (envS_is (j := 0) rfl d0) ?_
          refine LP.weak (t := 50) (v := .agg (vxL b.up)) (envS_is (j := 2) rfl d2) ?_
          refine LP.weak (t := 52) (v := .agg (vxL b.down)) (envS_is (j := 4) rfl d4) ?_
          refine LP.weak (t := 54) (v := Vxs b.ids .unk) (envS_is (j := 6) rfl d6) ?_
          refine LP.weak (t := 56) (v := .sl 1 (strsL b.texts) .unk) (envS_is (j := 8) rfl d8) ?_
          refine A.act (X.call (hadd3) Tryd.func11 rfl rfl rfl (HSub.refl _) (Opds.cons Is.rfl' (Opds.cons Is.rfl' (Opds.cons Is.rfl' (Opds.cons Is.rfl' (Opds.cons Is.rfl' Opds.nil))))) ?_)
          rintro r H' ⟨rfl, rfl⟩
          refine ⟨⟨z, z0⟩, Weaker.mk' ?_ (by show L.HSub _ (_ :: _ :: (cond (f 19) _ (cond true (H4 g2 t1) _) ++ _)); rw [k19]; exact (by repeat (first | exact HSub.refl _ | refine HSub.pick 4 rfl ?_)))⟩
          refine env_back5 (envS_hit (sl := [(0, 48), (1, 49), (2, 50), (3, 51), (4, 52), (5, 53), (6, 54), (7, 55), (8, 56), (9, 57), (10, 58), (11, 59), (12, 60), (13, 61), (14, 62), (15, 63), (16, 64), (17, 65), (18, 66), (19, 67)]) (j := 9) (d := 57) rfl (fun _ _ h => h)) (envS_hit (sl := [(0, 48), (1, 49), (2, 50), (3, 51), (4, 52), (5, 53), (6, 54), (7, 55), (8, 56), (9, 57), (10, 58), (11, 59), (12, 60), (13, 61), (14, 62), (15, 63), (16, 64), (17, 65), (18, 66), (19, 67)]) (j := 8) (d := 56) rfl (fun _ _ h => h)) (envS_hit (sl := [(0, 48), (1, 49), (2, 50), (3, 51), (4, 52), (5, 53), (6, 54), (7, 55), (8, 56), (9, 57), (10, 58), (11, 59), (12, 60), (13, 61), (14, 62), (15, 63), (16, 64), (17, 65), (18, 66), (19, 67)]) (j := 6) (d := 54) rfl (fun _ _ h => h)) (envS_hit (sl := [(0, 48), (1, 49), (2, 50), (3, 51), (4, 52), (5, 53), (6, 54), (7, 55), (8, 56), (9, 57), (10, 58), (11, 59), (12, 60), (13, 61), (14, 62), (15, 63), (16, 64), (17, 65), (18, 66), (19, 67)]) (j := 4) (d := 52) rfl (fun _ _ h => h)) (envS_hit (sl := [(0, 48), (1, 49), (2, 50), (3, 51), (4, 52), (5, 53), (6, 54), (7, 55), (8, 56), (9, 57), (10, 58), (11, 59), (12, 60), (13, 61), (14, 62), (15, 63), (16, 64), (17, 65), (18, 66), (19, 67)]) (j := 2) (d := 50) rfl (fun _ _ h => h)) (envS_hit (sl := [(0, 48), (1, 49), (2, 50), (3, 51), (4, 52), (5, 53), (6, 54), (7, 55), (8, 56), (9, 57), (10, 58), (11, 59), (12, 60), (13, 61), (14, 62), (15, 63), (16, 64), (17, 65), (18, 66), (19, 67)]) (j := 0) (d := 48) rfl (fun _ _ h => h)) (envS_next ?_)
          · intro p hp hne; simp only [List.mem_cons, List.not_mem_nil, or_false] at hp; rcases hp with rfl | rfl | rfl | rfl | rfl | rfl | rfl | rfl | rfl | rfl | rfl | rfl | rfl | rfl | rfl | rfl | rfl | rfl | rfl | rfl <;> first | exact absurd rfl hne | exact ⟨rfl, rfl⟩
        · refine ⟨_, rfl, ?_⟩
          refine A.u (LU.moveR Is.rfl') rfl ?_
          refine ⟨⟨z, z0⟩, Weaker.mk' ?_ (HSub.refl _)⟩
          refine env_back0 (envS_hit (sl := [(0, 48), (1, 49), (2, 50), (3, 51), (4, 52), (5, 53), (6, 54), (7, 55), (8, 56), (9, 57), (10, 58), (11, 59), (12, 60), (13, 61), (14, 62), (15, 63), (16, 64), (17, 65), (18, 66), (19, 67)]) (j := 10) (d := 58) rfl (fun _ _ h => h))  (envS_next ?_)
          · intro p hp hne; simp only [List.mem_cons, List.not_mem_nil, or_false] at hp; rcases hp with rfl | rfl | rfl | rfl | rfl | rfl | rfl | rfl | rfl | rfl | rfl | rfl | rfl | rfl | rfl | rfl | rfl | rfl | rfl | rfl <;> first | exact absurd rfl hne | exact ⟨rfl, rfl⟩
        · refine ⟨_, rfl, ?_⟩
          refine A.u (LU.fieldO Tryd.underlying52 rfl Tryd.sizeOf35 (by decide) Is.rfl') rfl ?_
          refine ⟨⟨z, z0⟩, Weaker.mk' ?_ (HSub.refl _)⟩
          refine env_back0 (envS_hit (sl := [(0, 48), (1, 49), (2, 50), (3, 51), (4, 52), (5, 53), (6, 54), (7, 55), (8, 56), (9, 57), (10, 58), (11, 59), (12, 60), (13, 61), (14, 62), (15, 63), (16, 64), (17, 65), (18, 66), (19, 67)]) (j := 11) (d := 59) rfl (fun _ _ h => h))  (envS_next ?_)
          · intro p hp hne; simp only [List.mem_cons, List.not_mem_nil, or_false] at hp; rcases hp with rfl | rfl | rfl | rfl | rfl | rfl | rfl | rfl | rfl | rfl | rfl | rfl | rfl | rfl | rfl | rfl | rfl | rfl | rfl | rfl <;> first | exact absurd rfl hne | exact ⟨rfl, rfl⟩
        · have d11 := hdir 11 (List.mem_of_elem_eq_true (by kernel_rfl))
          refine ⟨_, rfl, ?_⟩
          refine LP.weak (t := 59) (v := .raw (.pointer (some ⟨b4, 1, none⟩))) (envS_is (j := 11) rfl d11) ?_
          refine A.u (LU.weak (LU.loadO 0 rfl ⟨Tryd.sizeOf35, Tryd.isAgg35⟩ Is.rfl' (Part.sub (by (simp; omega)))) (Is.of (y := .agg (vxL a.up)) (congrArg LV.agg (ac_up a)))) rfl ?_
          refine ⟨⟨z, z0⟩, Weaker.mk' ?_ (HSub.refl _)⟩
          refine env_back1 (envS_hit (sl := [(0, 48), (1, 49), (2, 50), (3, 51), (4, 52), (5, 53), (6, 54), (7, 55), (8, 56), (9, 57), (10, 58), (11, 59), (12, 60), (13, 61), (14, 62), (15, 63), (16, 64), (17, 65), (18, 66), (19, 67)]) (j := 12) (d := 60) rfl (fun _ _ h => h)) (envS_hit (sl := [(0, 48), (1, 49), (2, 50), (3, 51), (4, 52), (5, 53), (6, 54), (7, 55), (8, 56), (9, 57), (10, 58), (11, 59), (12, 60), (13, 61), (14, 62), (15, 63), (16, 64), (17, 65), (18, 66), (19, 67)]) (j := 11) (d := 59) rfl (fun _ _ h => h)) (envS_next ?_)
          · intro p hp hne; simp only [List.mem_cons, List.not_mem_nil, or_false] at hp; rcases hp with rfl | rfl | rfl | rfl | rfl | rfl | rfl | rfl | rfl | rfl | rfl | rfl | rfl | rfl | rfl | rfl | rfl | rfl | rfl | rfl <;> first | exact absurd rfl hne | exact ⟨rfl, rfl⟩
        · refine ⟨_, rfl, ?_⟩
          refine A.u (LU.fieldO Tryd.underlying52 rfl Tryd.sizeOf35 (by decide) Is.rfl') rfl ?_
          refine ⟨⟨z, z0⟩, Weaker.mk' ?_ (HSub.refl _)⟩
          refine env_back0 (envS_hit (sl := [(0, 48), (1, 49), (2, 50), (3, 51), (4, 52), (5, 53), (6, 54), (7, 55), (8, 56), (9, 57), (10, 58), (11, 59), (12, 60), (13, 61), (14, 62), (15, 63), (16, 64), (17, 65), (18, 66), (19, 67)]) (j := 13) (d := 61) rfl (fun _ _ h => h))  (envS_next ?_)
          · intro p hp hne; simp only [List.mem_cons, List.not_mem_nil, or_false] at hp; rcases hp with rfl | rfl | rfl | rfl | rfl | rfl | rfl | rfl | rfl | rfl | rfl | rfl | rfl | rfl | rfl | rfl | rfl | rfl | rfl | rfl <;> first | exact absurd rfl hne | exact ⟨rfl, rfl⟩
        · have d13 := hdir 13 (List.mem_of_elem_eq_true (by kernel_rfl))
          refine ⟨_, rfl, ?_⟩
          refine LP.weak (t := 61) (v := .raw (.pointer (some ⟨b4, 34, none⟩))) (envS_is (j := 13) rfl d13) ?_
          refine A.u (LU.weak (LU.loadO 0 rfl ⟨Tryd.sizeOf35, Tryd.isAgg35⟩ Is.rfl' (Part.sub (by (simp; omega)))) (Is.of (y := .agg (vxL a.down)) (congrArg LV.agg (ac_down a)))) rfl ?_
          refine ⟨⟨z, z0⟩, Weaker.mk' ?_ (HSub.refl _)⟩
          refine env_back1 (envS_hit (sl := [(0, 48), (1, 49), (2, 50), (3, 51), (4, 52), (5, 53), (6, 54), (7, 55), (8, 56), (9, 57), (10, 58), (11, 59), (12, 60), (13, 61), (14, 62), (15, 63), (16, 64), (17, 65), (18, 66), (19, 67)]) (j := 14) (d := 62) rfl (fun _ _ h => h)) (envS_hit (sl := [(0, 48), (1, 49), (2, 50), (3, 51), (4, 52), (5, 53), (6, 54), (7, 55), (8, 56), (9, 57), (10, 58), (11, 59), (12, 60), (13, 61), (14, 62), (15, 63), (16, 64), (17, 65), (18, 66), (19, 67)]) (j := 13) (d := 61) rfl (fun _ _ h => h)) (envS_next ?_)
          · intro p hp hne; simp only [List.mem_cons, List.not_mem_nil, or_false] at hp; rcases hp with rfl | rfl | rfl | rfl | rfl | rfl | rfl | rfl | rfl | rfl | rfl | rfl | rfl | rfl | rfl | rfl | rfl | rfl | rfl | rfl <;> first | exact absurd rfl hne | exact ⟨rfl, rfl⟩
        · refine ⟨_, rfl, ?_⟩
          refine A.u (LU.fieldO Tryd.underlying52 rfl Tryd.sizeOf26 (by decide) Is.rfl') rfl ?_
          refine ⟨⟨z, z0⟩, Weaker.mk' ?_ (HSub.refl _)⟩
          refine env_back0 (envS_hit (sl := [(0, 48), (1, 49), (2, 50), (3, 51), (4, 52), (5, 53), (6, 54), (7, 55), (8, 56), (9, 57), (10, 58), (11, 59), (12, 60), (13, 61), (14, 62), (15, 63), (16, 64), (17, 65), (18, 66), (19, 67)]) (j := 15) (d := 63) rfl (fun _ _ h => h))  (envS_next ?_)
          · intro p hp hne; simp only [List.mem_cons, List.not_mem_nil, or_false] at hp; rcases hp with rfl | rfl | rfl | rfl | rfl | rfl | rfl | rfl | rfl | rfl | rfl | rfl | rfl | rfl | rfl | rfl | rfl | rfl | rfl | rfl <;> first | exact absurd rfl hne | exact ⟨rfl, rfl⟩
        · have d15 := hdir 15 (List.mem_of_elem_eq_true (by kernel_rfl))
          refine ⟨_, rfl, ?_⟩
          refine LP.weak (t := 63) (v := .raw (.pointer (some ⟨b4, 67, none⟩))) (envS_is (j := 15) rfl d15) ?_
          refine A.u (LU.loadO 0 rfl ⟨Tryd.sizeOf26, Tryd.isAgg26⟩ Is.rfl' (Part.one (ac_ids a))) rfl ?_
          refine ⟨⟨z, z0⟩, Weaker.mk' ?_ (HSub.refl _)⟩
          refine env_back1 (envS_hit (sl := [(0, 48), (1, 49), (2, 50), (3, 51), (4, 52), (5, 53), (6, 54), (7, 55), (8, 56), (9, 57), (10, 58), (11, 59), (12, 60), (13, 61), (14, 62), (15, 63), (16, 64), (17, 65), (18, 66), (19, 67)]) (j := 16) (d := 64) rfl (fun _ _ h => h)) (envS_hit (sl := [(0, 48), (1, 49), (2, 50), (3, 51), (4, 52), (5, 53), (6, 54), (7, 55), (8, 56), (9, 57), (10, 58), (11, 59), (12, 60), (13, 61), (14, 62), (15, 63), (16, 64), (17, 65), (18, 66), (19, 67)]) (j := 15) (d := 63) rfl (fun _ _ h => h)) (envS_next ?_)
          · intro p hp hne; simp only [List.mem_cons, List.not_mem_nil, or_false] at hp; rcases hp with rfl | rfl | rfl | rfl | rfl | rfl | rfl | rfl | rfl | rfl | rfl | rfl | rfl | rfl | rfl | rfl | rfl | rfl | rfl | rfl <;> first | exact absurd rfl hne | exact ⟨rfl, rfl⟩
        · refine ⟨_, rfl, ?_⟩
          refine A.u (LU.fieldO Tryd.underlying52 rfl Tryd.sizeOf25 (by decide) Is.rfl') rfl ?_
          refine ⟨⟨z, z0⟩, Weaker.mk' ?_ (HSub.refl _)⟩
          refine env_back0 (envS_hit (sl := [(0, 48), (1, 49), (2, 50), (3, 51), (4, 52), (5, 53), (6, 54), (7, 55), (8, 56), (9, 57), (10, 58), (11, 59), (12, 60), (13, 61), (14, 62), (15, 63), (16, 64), (17, 65), (18, 66), (19, 67)]) (j := 17) (d := 65) rfl (fun _ _ h => h))  (envS_next ?_)
          · intro p hp hne; simp only [List.mem_cons, List.not_mem_nil, or_false] at hp; rcases hp with rfl | rfl | rfl | rfl | rfl | rfl | rfl | rfl | rfl | rfl | rfl | rfl | rfl | rfl | rfl | rfl | rfl | rfl | rfl | rfl <;> first | exact absurd rfl hne | exact ⟨rfl, rfl⟩
        · have d17 := hdir 17 (List.mem_of_elem_eq_true (by kernel_rfl))
          refine ⟨_, rfl, ?_⟩
          refine LP.weak (t := 65) (v := .raw (.pointer (some ⟨b4, 68, none⟩))) (envS_is (j := 17) rfl d17) ?_
          refine A.u (LU.loadO 0 rfl ⟨Tryd.sizeOf25, Tryd.isAgg25⟩ Is.rfl' (Part.one (ac_texts a))) rfl ?_
          refine ⟨⟨z, z0⟩, Weaker.mk' ?_ (HSub.refl _)⟩
          refine env_back1 (envS_hit (sl := [(0, 48), (1, 49), (2, 50), (3, 51), (4, 52), (5, 53), (6, 54), (7, 55), (8, 56), (9, 57), (10, 58), (11, 59), (12, 60), (13, 61), (14, 62), (15, 63), (16, 64), (17, 65), (18, 66), (19, 67)]) (j := 18) (d := 66) rfl (fun _ _ h => h)) (envS_hit (sl := [(0, 48), (1, 49), (2, 50), (3, 51), (4, 52), (5, 53), (6, 54), (7, 55), (8, 56), (9, 57), (10, 58), (11, 59), (12, 60), (13, 61), (14, 62), (15, 63), (16, 64), (17, 65), (18, 66), (19, 67)]) (j := 17) (d := 65) rfl (fun _ _ h => h)) (envS_next ?_)
          · intro p hp hne; simp only [List.mem_cons, List.not_mem_nil, or_false] at hp; rcases hp with rfl | rfl | rfl | rfl | rfl | rfl | rfl | rfl | rfl | rfl | rfl | rfl | rfl | rfl | rfl | rfl | rfl | rfl | rfl | rfl <;> first | exact absurd rfl hne | exact ⟨rfl, rfl⟩
        · have d9 := hdir 9 (List.mem_of_elem_eq_true (by kernel_rfl))
          have d10 := hdir 10 (List.mem_of_elem_eq_true (by kernel_rfl))
          have d12 := hdir 12 (List.mem_of_elem_eq_true (by kernel_rfl))
          have d14 := hdir 14 (List.mem_of_elem_eq_true (by kernel_rfl))
          have d16 := hdir 16 (List.mem_of_elem_eq_true (by kernel_rfl))
          have d18 := hdir 18 (List.mem_of_elem_eq_true (by kernel_rfl))
          refine ⟨_, rfl, ?_⟩
          have k9 : f 9 = true := hdir 9 (List.mem_of_elem_eq_true (by kernel_rfl))
          refine LP.ghost (H' := H4 g2 t1 ++ (.cells b4 52 (acL a) :: .cells b5 52 (acL b) :: (gC g s2.ma s2.mb s2.n :: gA s2.ma s2.m :: gP s2.mb s2.q :: Rf))) (by show L.HSub (_ :: _ :: (cond (f 19) _ (cond (f 9) _ _) ++ _)) _; rw [hfi, k9]; exact (by repeat (first | exact HSub.refl _ | refine HSub.pick 2 rfl ?_))) ?_
          refine LP.weak (t := 58) (v := pt g2) (envS_is (j := 10) rfl d10) ?_
          refine LP.weak (t := 60) (v := .agg (vxL a.up)) (envS_is (j := 12) rfl d12) ?_
          refine LP.weak (t := 62) (v := .agg (vxL a.down)) (envS_is (j := 14) rfl d14) ?_
          refine LP.weak (t := 64) (v := Vxs a.ids .unk) (envS_is (j := 16) rfl d16) ?_
          refine LP.weak (t := 66) (v := .sl 1 (strsL a.texts) .unk) (envS_is (j := 18) rfl d18) ?_
          refine A.act (X.call (hadd4) Tryd.func11 rfl rfl rfl (HSub.refl _) (Opds.cons Is.rfl' (Opds.cons Is.rfl' (Opds.cons Is.rfl' (Opds.cons Is.rfl' (Opds.cons Is.rfl' Opds.nil))))) ?_)
          rintro r H' ⟨rfl, rfl⟩
          refine ⟨⟨z, z0⟩, Weaker.mk' ?_ (by show L.HSub _ (_ :: _ :: (cond true (H4 g2 t2) _ ++ _)); exact (by repeat (first | exact HSub.refl _ | refine HSub.pick 4 rfl ?_)))⟩
          refine env_back5 (envS_hit (sl := [(0, 48), (1, 49), (2, 50), (3, 51), (4, 52), (5, 53), (6, 54), (7, 55), (8, 56), (9, 57), (10, 58), (11, 59), (12, 60), (13, 61), (14, 62), (15, 63), (16, 64), (17, 65), (18, 66), (19, 67)]) (j := 19) (d := 67) rfl (fun _ _ h => h)) (envS_hit (sl := [(0, 48), (1, 49), (2, 50), (3, 51), (4, 52), (5, 53), (6, 54), (7, 55), (8, 56), (9, 57), (10, 58), (11, 59), (12, 60), (13, 61), (14, 62), (15, 63), (16, 64), (17, 65), (18, 66), (19, 67)]) (j := 18) (d := 66) rfl (fun _ _ h => h)) (envS_hit (sl := [(0, 48), (1, 49), (2, 50), (3, 51), (4, 52), (5, 53), (6, 54), (7, 55), (8, 56), (9, 57), (10, 58), (11, 59), (12, 60), (13, 61), (14, 62), (15, 63), (16, 64), (17, 65), (18, 66), (19, 67)]) (j := 16) (d := 64) rfl (fun _ _ h => h)) (envS_hit (sl := [(0, 48), (1, 49), (2, 50), (3, 51), (4, 52), (5, 53), (6, 54), (7, 55), (8, 56), (9, 57), (10, 58), (11, 59), (12, 60), (13, 61), (14, 62), (15, 63), (16, 64), (17, 65), (18, 66), (19, 67)]) (j := 14) (d := 62) rfl (fun _ _ h => h)) (envS_hit (sl := [(0, 48), (1, 49), (2, 50), (3, 51), (4, 52), (5, 53), (6, 54), (7, 55), (8, 56), (9, 57), (10, 58), (11, 59), (12, 60), (13, 61), (14, 62), (15, 63), (16, 64), (17, 65), (18, 66), (19, 67)]) (j := 12) (d := 60) rfl (fun _ _ h => h)) (envS_hit (sl := [(0, 48), (1, 49), (2, 50), (3, 51), (4, 52), (5, 53), (6, 54), (7, 55), (8, 56), (9, 57), (10, 58), (11, 59), (12, 60), (13, 61), (14, 62), (15, 63), (16, 64), (17, 65), (18, 66), (19, 67)]) (j := 10) (d := 58) rfl (fun _ _ h => h)) (envS_next ?_)
          · intro p hp hne; simp only [List.mem_cons, List.not_mem_nil, or_false] at hp; rcases hp with rfl | rfl | rfl | rfl | rfl | rfl | rfl | rfl | rfl | rfl | rfl | rfl | rfl | rfl | rfl | rfl | rfl | rfl | rfl | rfl <;> first | exact absurd rfl hne | exact ⟨rfl, rfl⟩
      · intro g_ f hf_
        obtain ⟨z, z0⟩ := g_
        refine X.ghost (H' := H4 g2 t2 ++ (.cells b4 52 (acL a) :: .cells b5 52 (acL b) :: (gC g s2.ma s2.mb s2.n :: gA s2.ma s2.m :: gP s2.mb s2.q :: Rf))) (by show L.HSub (_ :: _ :: (cond (f 19) _ _ ++ _)) _; rw [hf_ 19 (by omega)]; exact (by repeat (first | exact HSub.refl _ | refine HSub.pick 2 rfl ?_))) ?_
        refine X.u (LU.assignR Is.rfl') rfl ?_
        refine X.u (LU.assignR Is.rfl') rfl ?_
        refine LL.nil (after_code ?_)
        refine LW.seq ?_
        refine LW.seq ?_
        refine LW.region ?_
        refine X.u (LU.moveR Is.rfl') rfl ?_
        refine X.u (LU.neq Is.rfl' Is.rfl') rfl ?_
        refine X.u (LU.moveR Is.rfl') rfl ?_
        refine X.gF rfl rfl (fun hg => LU.moveR (by exact Is.rfl')) rfl ?_
        refine X.gF rfl rfl (fun hg => LU.neq (by exact Is.whenN hg) (by exact Is.rfl')) rfl ?_
        refine X.u (LU.pickOr Is.rfl' Is.rfl' (fun hq => (by exact Is.whenN hq))) rfl ?_
        refine X.u (LU.moveR Is.rfl') rfl ?_
        refine X.gF rfl rfl (fun hg => LU.moveR (by exact Is.rfl')) rfl ?_
        refine X.gF rfl rfl (fun hg => LU.neq (by exact Is.whenN hg) (by exact Is.rfl')) rfl ?_
        refine X.u (LU.pickOr Is.rfl' Is.rfl' (fun hq => (by exact Is.whenN hq))) rfl ?_
        refine X.u (LU.moveR Is.rfl') rfl ?_
        refine X.gF rfl rfl (fun hg => LU.moveR (by exact Is.rfl')) rfl ?_
        refine X.gF rfl rfl (fun hg => LU.neq (by exact Is.whenN hg) (by exact Is.rfl')) rfl ?_
        refine X.u (LU.pickOr Is.rfl' Is.rfl' (fun hq => (by exact Is.whenN hq))) rfl ?_
        refine LL.nil (after_code ?_)
        refine X.cond rfl (fun h7 => ?_) (fun h7 => ?_)
        · try have h7 := of_decide_eq_true h7
          have hz0 : (0 : Nat) = 0 := rfl
          refine LW.seq ?_
          refine LW.region ?_
          refine X.u (LU.call1 3 rfl (lives_calls) Tryd.func15 rfl rfl Opds.nil) rfl ?_
          refine X.u (LU.assignR Is.rfl') rfl ?_
          refine LL.nil (after_code ?_)
          refine LW.ret (ret_code (after_end ?_))
          refine X.ret (H' := [kb]) (Res.one (by exact IsR rfl)) (by repeat (first | exact HSub.refl _ | refine HSub.pick 3 rfl ?_ | refine HSub.drop ?_)) ?_
          exact ⟨rfl, rfl⟩
        · have h7 : raddE R a.up a.down a.ids a.texts = 0 ∧ raddE (raddG R a.up a.down a.ids a.texts) b.up b.down b.ids b.texts = 0 ∧ raddE R b.up b.down b.ids b.texts = 0 ∧ raddE (raddG R b.up b.down b.ids b.texts) a.up a.down a.ids a.texts = 0 := by simp at h7; omega
          obtain ⟨e1, e2, e3, e4⟩ := h7
          have G1 : raddG (raddG R a.up a.down a.ids a.texts) b.up b.down b.ids b.texts = ⟨R.L ++ [⟨a.up, a.down, a.ids, a.texts⟩] ++ [⟨b.up, b.down, b.ids, b.texts⟩], R.D⟩ := by rw [radd_eq e2, radd_eq e1]
          have G2 : raddG (raddG R b.up b.down b.ids b.texts) a.up a.down a.ids a.texts = ⟨R.L ++ [⟨b.up, b.down, b.ids, b.texts⟩] ++ [⟨a.up, a.down, a.ids, a.texts⟩], R.D⟩ := by rw [radd_eq e4, radd_eq e3]
          rw [G1] at hs2
          rw [G2] at ht2
          obtain ⟨hsh, hcf⟩ := either_same hs2.ok ht2.ok
          have hol := shown_len ht2.ok
          have hD1 : R.D.length < 900000 := by have := hs2.dc; have h2 : R.D.length ≤ _ := this; omega
          have hsc1 := shown_calls g s2.ma s2.mb s2.n s2.m s2.q _ hs2.rel hs2.ok hD1
          have hsc2 := shown_calls g2 t2.ma t2.mb t2.n t2.m t2.q _ ht2.rel ht2.ok hD1
          have hcc1 := conflicts_calls g s2.ma s2.mb s2.n s2.m s2.q _ hs2.rel hs2.ok hD1
          have hcc2 := conflicts_calls g2 t2.ma t2.mb t2.n t2.m t2.q _ ht2.rel ht2.ok hD1
          rw [hsh] at hsc1
          rw [hcf] at hcc1
          obtain ⟨S, hS⟩ : ∃ S, S = shownG ⟨R.L ++ [⟨b.up, b.down, b.ids, b.texts⟩] ++ [⟨a.up, a.down, a.ids, a.texts⟩], R.D⟩ := ⟨_, rfl⟩
          rw [← hS] at hsc1 hsc2 hol
          refine LW.skip (after_code ?_)
          refine LW.seq ?_
          refine X.wghost (H' := gC g s2.ma s2.mb s2.n :: gA s2.ma s2.m :: kb :: gP s2.mb s2.q :: gC g2 t2.ma t2.mb t2.n :: gA t2.ma t2.m :: gP t2.mb t2.q :: Rf) (by repeat (first | exact HSub.refl _ | refine HSub.pick 0 rfl ?_ | refine HSub.pick 3 rfl ?_ | refine HSub.pick 5 rfl ?_ | refine HSub.pick 6 rfl ?_ | refine HSub.drop ?_)) ?_
          refine LW.region ?_
          refine X.u (LU.moveR Is.rfl') rfl ?_
          refine X.u (LU.callP (List.Perm.refl _) (hsc1) Tryd.func18 rfl rfl (Opds.cons Is.rfl' Opds.nil)) rfl ?_
          refine X.u (LU.moveR Is.rfl') rfl ?_
          refine X.u (LU.callP (show List.Perm _ ([gC g2 t2.ma t2.mb t2.n, gA t2.ma t2.m, kb] ++ (gC g s2.ma s2.mb s2.n :: gA s2.ma s2.m :: gP s2.mb s2.q :: gP t2.mb t2.q :: Rf)) from perm_of fun x => (by simp only [List.count_append, List.count_cons, List.count_nil]; omega)) (hsc2) Tryd.func18 rfl rfl (Opds.cons Is.rfl' Opds.nil)) rfl ?_
          refine X.u (LU.weak (LU.call (same_calls S S .unk .unk (by omega) (by omega)) Tryd.func23 rfl rfl (Opds.cons Is.rfl' (Opds.cons Is.rfl' Opds.nil))) (Is.of (y := bl true) (congrArg bl (decide_eq_true rfl)))) rfl ?_
          refine X.u (LU.moveR Is.rfl') rfl ?_
          refine X.doT rfl rfl (LU.moveR (by exact Is.rfl')) rfl ?_
          refine X.doT rfl rfl (LU.callP (List.Perm.refl _) (hcc1) Tryd.func14 rfl rfl (Opds.cons (by exact Is.rfl') Opds.nil)) rfl ?_
          refine X.doT rfl rfl (LU.moveR (by exact Is.rfl')) rfl ?_
          refine X.doT rfl rfl (LU.callP (show List.Perm _ ([gC g2 t2.ma t2.mb t2.n, gA t2.ma t2.m, kb] ++ (gC g s2.ma s2.mb s2.n :: gA s2.ma s2.m :: gP s2.mb s2.q :: gP t2.mb t2.q :: Rf)) from perm_of fun x => (by simp only [List.count_append, List.count_cons, List.count_nil]; omega)) (hcc2) Tryd.func14 rfl rfl (Opds.cons (by exact Is.rfl') Opds.nil)) rfl ?_
          refine X.doT rfl rfl (LU.weak (LU.eql (by exact Is.rfl') (by exact Is.rfl')) (asB (c := true) rfl (by simp))) rfl ?_
          refine X.u (LU.pickT Is.rfl' (by exact Is.rfl')) rfl ?_
          refine X.u (LU.moveR Is.rfl') rfl ?_
          refine X.doT rfl rfl (LU.call1 2 rfl (lives_calls) Tryd.func15 rfl rfl Opds.nil) rfl ?_
          refine X.u (LU.pickT Is.rfl' (by exact Is.rfl')) rfl ?_
          refine X.u (LU.assignR Is.rfl') rfl ?_
          refine LL.nil (after_code ?_)
          refine LW.ret (after_end ?_)
          refine X.ret (H' := [kb]) (Res.one (by exact IsR rfl)) (by repeat (first | exact HSub.refl _ | refine HSub.pick 2 rfl ?_ | refine HSub.drop ?_)) ?_
          exact ⟨rfl, rfl⟩
theorem LinesEither_row (x0 : List (List LV)) (x1 x2 : List LV) (h0 : ∀ c ∈ x0, QAct c) (h1 : x0.length * 168 ≤ reachBytes) (h2 : QAct x1) (h3 : QAct x2) : LCalls Tryd.prog 7 [.sl 101 x0 .unk, .agg x1, .agg x2] [kb] (fun r H' => r = .raw (.bool true) ∧ H' = [kb]) := by
  obtain ⟨l, rfl, hl⟩ := acs_of h0
  obtain ⟨a, rfl, ha⟩ := ac_of h2
  obtain ⟨b, rfl, hb⟩ := ac_of h3
  have := reach_lt
  rw [List.length_map] at h1
  exact either_law l a b .unk (by omega) hl ha hb
end Go.Proofs.YtolpkeajokjbjaaDoor
