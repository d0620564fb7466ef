/- What LinesPlays needs, part 5. -/
import Derived.Below
import Derived.WalkKit
import Derived.OwnWalk
import Derived.Deep.LoopGhost
import Derived.RangeFuncIn
import Derived.RangeFuncLeaves
import Derived.TacticsIn
import Derived.OrdersIn
import Derived.LoopIn
import Derived.LoopNIn
import Derived.Laws.Entries
import Derived.Laws.Slices
import Derived.Laws.Cells
import Derived.Deep.AppendSrc
import Derived.Deep.MidRow
import Derived.Laws.AppendOwn
import Derived.Laws.MakeOwn
import Derived.Laws.IdiomCopy
import Derived.Lib.ConvBytes
import Derived.Lib.SlBytesConst
import Derived.Laws.BytesArg
import Derived.Deep.Upon
import Derived.Laws.StructEq
import Derived.Laws.Small
import Derived.SizedLaws
import Derived.ChangeSlices
import Derived.Lib.SmallJoins
import Derived.MakeChecks
import Derived.ChangeBears2
import Derived.Laws.CopyRow
import Derived.RangeFuncRecord
import Derived.Laws.Externs
import Derived.Lib.Bytealg
import Derived.Lib.IndexLaws
import Derived.DefersIn
import Derived.Lib.SliceRun
import Derived.OpenShut
import Derived.WideShapes
import Derived.Maps.RangeRun
import Derived.Sort.Row
import Derived.Lib.BytesEntry
import Derived.Lib.SlFresh
import Derived.Test.YtolpkeajokjbjaaDoorProg
import Derived.Test.YtolpkeajokjbjaaDoorRows
import Derived.LaidMore
import Derived.LaidHandle
import Derived.ChangeSame
import Derived.Test.YtolpkeajokjbjaaDoorBLinesPlays4
set_option linter.unusedVariables false
set_option linter.unusedSimpArgs false
namespace Go.Proofs.YtolpkeajokjbjaaDoor
open Go.RowKit Go.L Go.Lib Go.ChangeShapes
attribute [local irreducible] LL LW LO
abbrev laidL {H : Type} : List (String × DataW H) := [("ingot/lines.bottom", Rows.laid_ingot_lines_bottom)]
theorem gBottom : Tryd.prog.globalNamed "ingot/lines.bottom" = some 0 := by kernel_rfl
theorem tBottom : (Tryd.prog.globals[0]?).map (·.type) = some 35 := by kernel_rfl
set_option maxRecDepth 100000 in
theorem door_met (os : Os) (args : Array Value) : laidMetH Tryd.prog laidL ((World.doorLaid Tryd.prog 2000 os).forCall (fun _ _ => 0) ⟨#[], args, []⟩).memory :=
  laidMetH_of_parts3 (fuel := 8) (laidMet_of_run' 8 (by kernel_rfl) (by kernel_rfl)) (by kernel_rfl) (by kernel_rfl)
abbrev Z32 : List Nat := List.replicate 32 0
set_option maxRecDepth 100000 in
theorem laid_bottom {H : Type} : (Rows.laid_ingot_lines_bottom : DataW H) = .agg [.agg (Z32.map fun (m : Nat) => .lit (.int .u8 m)), .lit (.int .i64 1)] := by kernel_rfl
set_option maxRecDepth 100000 in
theorem of_laid {W : World} (h : laidMetH Tryd.prog laidL W) : Rep (PH.all W) (.pointer (some ⟨0, 0, none⟩)) (.pin (vxL botV)) := by
  rw [MakeChecks.laidMetH_plain _ _ _ (by kernel_rfl)] at h
  obtain ⟨ps, ⟨g0, t0, cs0, f0, p0, q0, hg0, ht0, hv0, hd0, _, _⟩, _, _⟩ := h
  obtain rfl := Option.some.inj (gBottom.symm.trans hg0)
  obtain rfl := Option.some.inj (tBottom.symm.trans ht0)
  rw [laid_bottom] at hd0
  obtain ⟨y0, y1, k, hx, hl, e0, e1⟩ := trod_struct2 Tryd.underlying35 hd0
  simp only [Prod.mk.injEq, DataW.agg.injEq, List.cons.injEq, and_true] at hx
  obtain ⟨⟨hx0, hx1⟩, _⟩ := hx
  obtain ⟨z0, q0'⟩ := y0
  obtain ⟨z1, q1'⟩ := y1
  obtain rfl : DataW.agg _ = z0 := hx0
  obtain rfl : DataW.lit _ = z1 := hx1
  have hA := laid_ints (l := Z32) Tryd.underlying31 Tryd.underlying5 (by kernel_rfl) (by kernel_rfl) e0
  obtain ⟨n1, hB, hn1, _⟩ := DataW.trod_int Tryd.underlying3 e1
  have hn : n1 = 1 := by
    have := congrArg Prod.fst hn1
    simpa using this.symm
  subst hn
  have hc0 : Tryd.prog.cellsOf 31 = 32 := by kernel_rfl
  have hc1 : Tryd.prog.cellsOf 3 = 1 := by kernel_rfl
  have hc2 : Tryd.prog.cellsOf 35 = 33 := by kernel_rfl
  rw [hc2] at hl
  have hA' : cs0.toList.take 32 = Z32.map fun (m : Nat) => Value.int .u8 m := by
    have := hA
    rw [show Tryd.prog.cellsOf _ = 32 from hc0] at this
    simpa using this
  have hB' : (cs0.toList.drop 32).take 1 = [.int .i64 1] := by
    have := hB
    rw [show Tryd.prog.cellsOf _ = 1 from hc1] at this
    simpa using this
  have hcs : cs0.toList = vxs1 botV := by
    rw [← List.take_append_drop 32 cs0.toList, hA']
    rw [show cs0.toList.drop 32 = [.int .i64 1] from by
      rw [← hB', List.take_of_length_le (by rw [List.length_drop]; omega)]]
    rfl
  refine known_of fun j x hx => ?_
  have hvr := (vx_raw botV).eq
  rw [hvr] at hx
  unfold raws at hx
  rw [List.getElem?_map] at hx
  cases hq : (vxs1 botV)[j]? with
  | none => rw [hq] at hx; cases hx
  | some v =>
    rw [hq] at hx
    obtain rfl : LV.raw v = x := by simpa using hx
    refine ⟨v, ?_, ?_, .raw _⟩
    · rw [World.var?_cell hg0 hv0, ← Array.getElem?_toList, hcs, hq]
    · have hm := List.mem_of_getElem? hq
      have : ∀ v ∈ vxs1 botV, v.oneCell' = true := by decide +kernel
      exact this v hm
theorem reach_lt : reachBytes < 140737488355328 := by decide
theorem byte_flat : ∀ l : List UInt8, (byteEls l).flatten = l.map fun b => LV.raw (.int .u8 b.toNat)
  | [] => rfl
  | b :: l => by
    have := byte_flat l
    show _ :: (byteEls l).flatten = _
    rw [this]; rfl
theorem hs_of {x : List LV} (h : QArr 32 1 (QInt .u8) x) : ∃ a : Hs, x = hsL a := by
  obtain ⟨es, rfl, hl, he⟩ := h
  obtain ⟨l, rfl⟩ := decode_bytes (fun c hc => (he c hc).2)
  exact ⟨⟨l, by simpa [byteEls] using hl⟩, byte_flat l⟩
abbrev QVx : List LV → Prop := QCons 32 (QArr 32 1 (QInt .u8)) (QCons 1 (QInt .i64) QNil)
theorem vx_of {x : List LV} (h : QVx x) : ∃ a : Vx, x = vxL a := by
  obtain ⟨_, _, rfl, _, h1, _, _, rfl, _, ⟨n, rfl, _⟩, rfl⟩ := h
  obtain ⟨a, rfl⟩ := hs_of h1
  exact ⟨⟨a, n⟩, rfl⟩
abbrev QAct : List LV → Prop := QCons 1 (QInt .i64) (QCons 33 QVx (QCons 33 QVx (QCons 1 (QSl 33 40 QVx) (QCons 1 (QSl 1 16 QStr) (QCons 32 (QArr 32 1 (QInt .u8)) QNil)))))
def AcIn (a : Ac) : Prop := a.ids.length < 140737488355328 ∧ a.texts.length < 140737488355328
theorem strs_of {x : List (List LV)} (h : ∀ c ∈ x, QStr c) : ∃ l : List (List UInt8), x = strsL l := by
  obtain ⟨l, e, _⟩ := Go.L.decode (fun s : List UInt8 => [Str s]) (fun _ => True) (es := x) fun c hc => by
    obtain ⟨s, hs⟩ := h c hc
    exact ⟨s, by exact hs.1, trivial⟩
  exact ⟨l, e⟩
theorem ac_of {c : List LV} (h : QAct c) : ∃ a : Ac, c = acL a ∧ AcIn a := by
  obtain ⟨_, _, rfl, _, ⟨n, rfl, _⟩, _, _, rfl, _, h1, _, _, rfl, _, h2, _, _, rfl, _, ⟨es, rfl, h3, h4⟩, _, _, rfl, _, ⟨ts, rfl, h5, h6⟩, _, _, rfl, _, h7, rfl⟩ := h
  obtain ⟨u, rfl⟩ := vx_of h1
  obtain ⟨d, rfl⟩ := vx_of h2
  obtain ⟨b, rfl⟩ := hs_of h7
  obtain ⟨ids, rfl, _⟩ := Go.L.decode vxL (fun _ => True) (fun c hc => by obtain ⟨x, e⟩ := vx_of (h3 c hc); exact ⟨x, e, trivial⟩)
  obtain ⟨l, rfl⟩ := strs_of h5
  have := reach_lt
  rw [List.length_map] at h4 h6
  exact ⟨⟨n, u, d, ids, l, b⟩, by simp, by show ids.length < _; omega, by show l.length < _; omega⟩
theorem acs_of {x : List (List LV)} (h : ∀ c ∈ x, QAct c) : ∃ l : List Ac, x = acs l ∧ ∀ e ∈ l, AcIn e := Go.L.decode acL AcIn fun c hc => ac_of (h c hc)
end Go.Proofs.YtolpkeajokjbjaaDoor
namespace Go.Proofs.YtolpkeajokjbjaaDoor
open Go.RowKit Go.L Go.Lib
attribute [local irreducible] LL LW LO
abbrev shV (x : Sh) : List Value := vxs1 x.v ++ [.string ⟨x.text.toArray⟩, .int .i64 (x.kills : Nat)]
theorem sh_raw (x : Sh) : RawL (shL x) (shV x) := by
  have h : shL x = raws (shV x) := by
    have h0 : vxL x.v = raws (vxs1 x.v) := by
      unfold raws vxs1
      rw [List.map_append, List.map_map]; rfl
    show vxL x.v ++ _ = raws (vxs1 x.v ++ [.string ⟨x.text.toArray⟩, .int .i64 (x.kills : Nat)])
    rw [h0]
    unfold raws
    rw [List.map_append (l₁ := vxs1 x.v)]; rfl
  rw [h]
  exact RawL.raws _
theorem vxs1_len (a : Vx) : (vxs1 a).length = 33 := by simp [a.p.2]
theorem sh_part0 (x : Sh) : (shV x).toArray.extract 0 (0 + 33) = (vxs1 x.v).toArray := by
  rw [List.extract_toArray, List.extract_eq_take_drop]
  simp only [List.drop_zero, Nat.zero_add, Nat.sub_zero]
  rw [List.take_left' (vxs1_len x.v)]
theorem sh_part1 (x : Sh) : (shV x).toArray[33]? = some (.string ⟨x.text.toArray⟩) := by
  rw [List.getElem?_toArray, List.getElem?_append_right (by rw [vxs1_len]; exact Nat.le_refl _), vxs1_len]; rfl
theorem sh_part2 (x : Sh) : (shV x).toArray[34]? = some (.int .i64 (x.kills : Nat)) := by
  rw [List.getElem?_toArray, List.getElem?_append_right (by rw [vxs1_len]; decide), vxs1_len]; rfl
set_option maxRecDepth 100000 in
theorem sh_eqr (a b : Sh) : EqR Tryd.prog 4 49 (.agg (shV a).toArray) (.agg (shV b).toArray) (decide (a = b)) := by
  have h1 : EqR Tryd.prog 3 9 (.string ⟨a.text.toArray⟩) (.string ⟨b.text.toArray⟩) (decide (a.text = b.text)) := by
    have := EqR.up 2 (EqR.string (a := ⟨a.text.toArray⟩) (b := ⟨b.text.toArray⟩) Tryd.underlying9)
    rwa [bytes_toList, bytes_toList, show (a.text == b.text) = decide (a.text = b.text) from by rw [Bool.eq_iff_iff]; simp] at this
  have h2 : EqR Tryd.prog 3 3 (.int .i64 (a.kills : Nat)) (.int .i64 (b.kills : Nat)) (decide ((a.kills : Int) = b.kills)) := EqR.up 2 (EqR.int Tryd.underlying3)
  have := EqR.struct (xs := (shV a).toArray) (ys := (shV b).toArray) Tryd.underlying49 Tryd.stoodInHeld49 (EqFs.cons rfl (part_agg Tryd.sizeOf35 Tryd.isAgg35 (sh_part0 a)) (part_agg Tryd.sizeOf35 Tryd.isAgg35 (sh_part0 b)) (EqR.vx vxty a.v b.v)
    (EqFs.cons rfl (part_one Tryd.isAgg9 (sh_part1 a)) (part_one Tryd.isAgg9 (sh_part1 b)) h1 (EqFs.one rfl (part_one Tryd.isAgg3 (sh_part2 a)) (part_one Tryd.isAgg3 (sh_part2 b)) h2)))
  have hd : (decide (a.v = b.v) && (decide (a.text = b.text) && decide ((a.kills : Int) = b.kills))) = decide (a = b) := by
    rw [Bool.eq_iff_iff]
    simp only [Bool.and_eq_true, decide_eq_true_eq]
    constructor
    · rintro ⟨x, y, z⟩
      cases a; cases b
      simp only [Sh.mk.injEq]
      exact ⟨x, y, by simp only at z; omega⟩
    · intro x; rw [x]; exact ⟨rfl, rfl, rfl⟩
  rw [hd] at this
  exact this
theorem neqSh {H : List Atom} {env : List (Nat × LV)} {d : Option Tmp} {ty t' : TypeId} {pos : String} {af : Array Edge} {g : Option (Nat × Bool)} {x y : Operand} {a b : Sh} (hx : Is (ev env x) (.agg (shL a))) (hy : Is (ev env y) (.agg (shL b))) : LU Tryd.prog env H ⟨d, .binOp .neq 49 x y t', ty, pos, af, g⟩ (.raw (.bool (!decide (a = b)))) :=
  LU.neqA hx hy (sh_raw a) (sh_raw b) (by kernel_rfl) (by decide) (sh_eqr a b)
set_option maxRecDepth 100000 in
theorem same_calls (a b : List Sh) (k1 k2 : Cap) (ha : a.length < 140737488355328) (hb : b.length < 140737488355328) : LCalls Tryd.prog 23 [Shs a k1, Shs b k2] [] (fun r H' => r = bl (decide (a = b)) ∧ H' = []) := by
  refine LCalls.of Tryd.func23 rfl Tryd.ntmps23 Tryd.results23 rfl (fun Rf => ?_)
  refine LW.seq ?_
  refine LW.region ?_
  refine X.u (LU.assignR Is.rfl') rfl ?_
  refine LL.nil (after_code ?_)
  refine LW.seq ?_
  refine LW.seq ?_
  refine LW.region ?_
  refine X.u (LU.moveS Is.rfl') rfl ?_
  refine X.u (LU.lenN Tryd.underlying45 Is.rfl' (by (simp only [Option.getD_some, Option.getD_none, byteEls_length, intEls_length, List.length_append, List.length_cons, List.length_nil, List.length_map, List.length_drop, List.length_take, Int.toNat_natCast]; rfl))) rfl ?_
  refine X.u (LU.moveS Is.rfl') rfl ?_
  refine X.u (LU.lenN Tryd.underlying45 Is.rfl' (by (simp only [Option.getD_some, Option.getD_none, byteEls_length, intEls_length, List.length_append, List.length_cons, List.length_nil, List.length_map, List.length_drop, List.length_take, Int.toNat_natCast]; rfl))) rfl ?_
  refine X.u (LU.neq Is.rfl' Is.rfl') rfl ?_
  refine LL.nil (after_code ?_)
  refine X.cond rfl (fun h1 => ?_) (fun h1 => ?_)
  · have h1 : a.length ≠ b.length := by have := h1; simp at this; omega
    have hz0 : (0 : Nat) = 0 := rfl
    refine LW.seq ?_
    refine LW.region ?_
    refine X.u (LU.assignR Is.rfl') rfl ?_
    refine LL.nil (after_code ?_)
    refine LW.ret (ret_code (after_end ?_))
    refine X.ret (H' := []) (Res.one (by exact IsR rfl)) (by repeat (exact HSub.refl _)) ?_
    exact ⟨by rw [decide_eq_false fun e => h1 (congrArg List.length e)], rfl⟩
  · have h1 : a.length = b.length := by have := h1; simp at this; omega
    have hz0 : (0 : Nat) = 0 := rfl
    refine LW.skip (after_code ?_)
    refine LW.seq ?_
    refine LW.seq ?_
    refine LW.region ?_
    refine X.u (LU.assignR Is.rfl') rfl ?_
    refine LL.nil (after_code ?_)
    refine LW.block ?_
    refine X.loopK (α := Nat) (fun i => [(5, i64 i)]) [0, 1] (fun i => Rf) (fun i => i ≤ a.length ∧ a.take i = b.take i) (fun i => a.length - i) (0) (EnvLe.cons (by rfl) (EnvLe.nil)) (by repeat (exact HSub.refl _)) ?_ ?_
    · exact ⟨Nat.zero_le _, by simp⟩
    · rintro i hI
      obtain ⟨hi, he⟩ := hI
      refine LW.seq ?_
      refine LW.seq ?_
      refine LW.region ?_
      refine X.u (LU.moveR Is.rfl') rfl ?_
      refine X.u (LU.moveS Is.rfl') rfl ?_
      refine X.u (LU.lenN Tryd.underlying45 Is.rfl' (by (simp only [Option.getD_some, Option.getD_none, byteEls_length, intEls_length, List.length_append, List.length_cons, List.length_nil, List.length_map, List.length_drop, List.length_take, Int.toNat_natCast]; rfl))) rfl ?_
      refine X.u (LU.lss Is.rfl' Is.rfl') rfl ?_
      refine LL.nil (after_code ?_)
      refine X.cond rfl (fun h4 => ?_) (fun h4 => ?_)
      · try have h4 := of_decide_eq_true h4
        refine LW.skip (after_code ?_)
        refine LW.seq ?_
        refine LW.block ?_
        refine LW.seq ?_
        obtain ⟨x, hx⟩ := at_lt (show i < a.length by omega)
        obtain ⟨y, hy⟩ := at_lt (show i < b.length by omega)
        have hxl := sh_len x
        have hyl := sh_len y
        have hxv := x.v.p.2
        have hyv := y.v.p.2
        refine X.drawM 9 rfl (by kernel_rfl) rfl ?_
        refine QD.u (LU.moveS Is.rfl') rfl ?_
        refine QD.u (LU.moveR Is.rfl') rfl ?_
        refine QD.u (LU.at Tryd.underlying45 ⟨Tryd.sizeOf49, Tryd.isAgg49⟩ Is.rfl' Is.rfl' (by omega) (shs_at hx) (sh_ne x)) rfl ?_
        refine QD.u (LU.weak (LU.load ⟨Tryd.sizeOf49, Tryd.isAgg49⟩ Is.rfl' (by assumption) (Part.whole (by assumption))) (Is.of (y := .agg (shL x)) (rfl))) rfl ?_
        refine QD.u (LU.moveS Is.rfl') rfl ?_
        refine QD.u (LU.moveR Is.rfl') rfl ?_
        refine QD.u (LU.at Tryd.underlying45 ⟨Tryd.sizeOf49, Tryd.isAgg49⟩ Is.rfl' Is.rfl' (by omega) (shs_at hy) (sh_ne y)) rfl ?_
        refine QD.u (LU.weak (LU.load ⟨Tryd.sizeOf49, Tryd.isAgg49⟩ Is.rfl' (by assumption) (Part.whole (by assumption))) (Is.of (y := .agg (shL y)) (rfl))) rfl ?_
        refine QD.u (neqSh Is.rfl' Is.rfl') rfl ?_
        refine QD.nil ?_
        refine LL.nil (after_code ?_)
        refine X.cond rfl (fun h6 => ?_) (fun h6 => ?_)
        · have h6 : x ≠ y := by simpa using h6
          have hz0 : (0 : Nat) = 0 := rfl
          refine LW.seq ?_
          refine LW.region ?_
          refine X.u (LU.assignR Is.rfl') rfl ?_
          refine LL.nil (after_code ?_)
          refine LW.ret (ret_blk (ret_code (ret_rnd (ret_blk (ret_code (after_end ?_))))))
          refine X.ret (H' := []) (Res.one (by exact IsR rfl)) (by repeat (exact HSub.refl _)) ?_
          exact ⟨by rw [decide_eq_false fun e => h6 (by rw [e, hy] at hx; exact (Option.some.inj hx).symm)], rfl⟩
        · have h6 : x = y := by simpa using h6
          have hz0 : (0 : Nat) = 0 := rfl
          refine LW.skip (after_blk (after_code ?_))
          refine LW.region ?_
          refine X.u (LU.moveR Is.rfl') rfl ?_
          refine X.u (LU.addN Is.rfl' Is.rfl' (wrap_i64 (by omega) (by omega))) rfl ?_
          refine X.u (LU.assignR Is.rfl') rfl ?_
          refine LL.nil (after_rnd ?_)
          refine X.next (i + 1) rfl (EnvLe.cons (by rfl) (EnvLe.nil)) (Keeps.cons (by exact Eq.trans (b := .sl _ _ _) rfl rfl) (Keeps.cons (by exact Eq.trans (b := .sl _ _ _) rfl rfl) (Keeps.nil))) (by repeat (exact HSub.refl _)) ?_ ?_
          · exact ⟨by omega, by rw [take_snoc hx, take_snoc hy, he, h6]⟩
          · omega
      · try have h4 := of_decide_eq_false h4
        refine LW.exit (exit_code (exit_rnd (exit_blk (after_code ?_))))
        refine LW.seq ?_
        refine LW.region ?_
        refine X.u (LU.assignR Is.rfl') rfl ?_
        refine LL.nil (after_code ?_)
        refine LW.ret (after_end ?_)
        refine X.ret (H' := []) (Res.one (by exact IsR rfl)) (by repeat (exact HSub.refl _)) ?_
        rw [List.take_of_length_le (by omega), List.take_of_length_le (by omega)] at he
        exact ⟨by rw [decide_eq_true he], rfl⟩
end Go.Proofs.YtolpkeajokjbjaaDoor
namespace Go.Proofs.YtolpkeajokjbjaaDoor
open Go.RowKit Go.L Go.Lib
attribute [local irreducible] LL LW LO
section
variable {α : Type}
def pickM (l : List α) (seen : List Nat) : List α := seen.flatMap fun i => (l[i]?).toList
theorem pickM_snoc {l : List α} {seen : List Nat} {i : Nat} {x : α} (h : l[i]? = some x) : pickM l (seen ++ [i]) = pickM l seen ++ [x] := by
  unfold pickM
  rw [List.flatMap_append]
  simp [h]
theorem pickM_mem {l : List α} {seen : List Nat} {x : α} : x ∈ pickM l seen ↔ ∃ i ∈ seen, l[i]? = some x := by
  unfold pickM
  rw [List.mem_flatMap]
  refine exists_congr fun i => and_congr_right fun _ => ?_
  rw [Option.mem_toList]
theorem pickM_range : ∀ (l : List α), pickM l (List.range l.length) = l := fun l => by
  have key : ∀ n, n ≤ l.length → pickM l (List.range n) = l.take n := fun n => by
    induction n with
    | zero => intro _; rfl
    | succ n ih =>
      intro hn
      obtain ⟨x, hx⟩ := at_lt (show n < l.length by omega)
      rw [List.range_succ, pickM_snoc hx, ih (by omega), take_snoc hx]
  rw [key _ (Nat.le_refl _), List.take_length]
theorem pickM_perm {l : List α} {seen : List Nat} (hn : seen.Nodup) (hs : ∀ i ∈ seen, i < l.length) (hall : ∀ i, i < l.length → i ∈ seen) : (pickM l seen).Perm l := by
  have hp : seen.Perm (List.range l.length) := perm_same hn List.nodup_range fun i => ⟨fun h => List.mem_range.2 (hs i h), fun h => hall i (List.mem_range.1 h)⟩
  have := List.Perm.flatMap_right (fun i => (l[i]?).toList) hp
  rw [show (List.range l.length).flatMap (fun i => (l[i]?).toList) = l from pickM_range l] at this
  exact this
end
section
variable {κ β : Type} [DecidableEq κ]
theorem pickM_new {l : List (κ × β)} {seen : List Nat} {i : Nat} {p : κ × β} (hk : (l.map (·.1)).Nodup) (hp : l[i]? = some p) (hi : i ∉ seen) : setA (pickM l seen) p.1 p.2 = pickM l (seen ++ [i]) := by
  rw [pickM_snoc hp, set_new]
  intro c
  obtain ⟨y, hy, e⟩ := List.mem_map.1 c
  obtain ⟨j, hj, hy⟩ := pickM_mem.1 hy
  have h1 : (l.map (·.1))[i]? = some p.1 := by rw [List.getElem?_map, hp]; rfl
  have h2 : (l.map (·.1))[j]? = some p.1 := by rw [List.getElem?_map, hy]; exact congrArg some e
  obtain ⟨a1, a2⟩ := List.getElem?_eq_some_iff.1 h1
  obtain ⟨b1, b2⟩ := List.getElem?_eq_some_iff.1 h2
  have := (List.getElem_inj hk).1 (a2.trans b2.symm)
  exact hi (this ▸ hj)
theorem look_perm {l k : List (κ × β)} (h : l.Perm k) (hn : (k.map (·.1)).Nodup) (a : κ) : lookA l a = lookA k a := by
  have hl : (l.map (·.1)).Nodup := (h.map (·.1)).nodup_iff.2 hn
  have key : ∀ {l k : List (κ × β)}, l.Perm k → (l.map (·.1)).Nodup → (k.map (·.1)).Nodup → ∀ x, lookA l a = some x → lookA k a = some x := fun {l k} h h1 h2 x hx => by
    have hm : (a, x) ∈ l := by
      have : ∀ {l : List (κ × β)}, lookA l a = some x → (a, x) ∈ l := fun {l} => by
        induction l with
        | nil => intro h; cases h
        | cons z l ih =>
          intro h
          rw [lookA] at h
          split at h
          · rename_i e
            rw [← Option.some.inj h, ← e]; simp
          · exact List.mem_cons_of_mem _ (ih h)
      exact this hx
    exact mem_look h2 (h.mem_iff.1 hm)
  cases hq : lookA l a with
  | some x => exact (key h hl hn x hq).symm
  | none =>
    cases hk : lookA k a with
    | none => rfl
    | some x => rw [key h.symm hn hl x hk] at hq; cases hq
end
theorem Rel.perm {m m2 : At} {q q2 : Ps} {n : Int} {r : Rg} (h : Rel m q n r) (ho : Ok r) (hm : m2.Perm m) (hq : q2.Perm q) : Rel m2 q2 n r := by
  have hat : ∀ v, atG m2 v = atG m v := fun v => by unfold atG; rw [look_perm hm (h.knd ho)]
  obtain ⟨z, z1, z2, z3, z4, z5⟩ := h.parts
  exact ⟨(hm.map _).trans h.keys, fun v => by rw [hat]; exact h.next v, fun v => by rw [hat]; exact h.prev v, fun v => by rw [hat]; exact h.text v, fun v => by rw [hat]; exact h.kills v, z, z1, hq.trans z2, z3, z4, fun p hp v hv => by rw [hat]; exact z5 p hp v hv⟩
set_option maxHeartbeats 2000000 in
set_option maxRecDepth 100000 in
theorem gclone_calls (g ma mb : Nat) (n : Int) (m : At) (q : Ps) (hkm : (m.map (·.1)).Nodup) (hkq : (q.map (·.1)).Nodup) : LCalls Tryd.prog 25 [pt g] [gC g ma mb n, gA ma m, gP mb q] (fun r H' => ∃ g2 ma2 mb2 m2 q2, r = pt g2 ∧ H' = [gC g ma mb n, gA ma m, gP mb q, gC g2 ma2 mb2 n, gA ma2 m2, gP mb2 q2] ∧ m2.Perm m ∧ q2.Perm q) := by
  refine LCalls.of Tryd.func25 rfl Tryd.ntmps25 Tryd.results25 rfl (fun Rf => ?_)
  refine LW.seq ?_
  refine LW.region ?_
  refine X.u (LU.assignR Is.rfl') rfl ?_
  refine LL.nil (after_code ?_)
  refine LW.seq ?_
  refine LW.seq ?_
  refine LW.region ?_
  refine X.u (LU.moveR Is.rfl') rfl ?_
  refine X.u (LU.call1 0 rfl (none_calls g ma mb n) Tryd.func33 rfl rfl (Opds.cons Is.rfl' Opds.nil)) rfl ?_
  refine LL.nil (after_code ?_)
  refine X.condF rfl ?_ ?_
  · rfl
  refine LW.skip (after_code ?_)
  refine LW.seq ?_
  refine LW.region ?_
  refine X.act (LO.makeMap (st := ⟨_, _, _⟩) rfl (fun b10 => ?_))
  refine X.act (LO.makeMap (st := ⟨_, _, _⟩) rfl (fun b11 => ?_))
  refine X.u (LU.moveR Is.rfl') rfl ?_
  refine X.u (LU.nilCheck Is.rfl') rfl ?_
  refine X.u (LU.fieldO Tryd.underlying68 rfl Tryd.sizeOf3 (by decide) Is.rfl') rfl ?_
  refine X.u (LU.loadO 2 rfl ⟨Tryd.sizeOf3, Tryd.isAgg3⟩ Is.rfl' (Part.one rfl)) rfl ?_
  refine X.u (LU.weak (LU.build (places := #[(0, 1), (1, 1), (2, 1)]) Tryd.underlying68 Tryd.zeroValue68 (ones rfl) (by intro w; simp [Tryd.sizeOf3, Tryd.sizeOf65, Tryd.sizeOf66]) (Parts.cons Is.rfl' (by exact Cells.raw rfl) (Parts.cons Is.rfl' (by exact Cells.raw rfl) (Parts.cons Is.rfl' (by exact Cells.raw rfl) Parts.nil))) rfl) (Is.of (y := .agg [.raw (.map (some b10)), .raw (.map (some b11)), i64 n]) (rfl))) rfl ?_
  refine X.act (X.box rfl Is.rfl' (by exact Cells.agg) (fun b17 => ?_))
  refine X.u (LU.assignR Is.rfl') rfl ?_
  refine LL.nil (after_code ?_)
  refine LW.seq ?_
  refine LW.seq ?_
  refine X.wghost (H' := gA ma m :: gC g ma mb n :: gP mb q :: gC b17 b10 b11 n :: gA b10 [] :: gP b11 [] :: Rf) (by repeat (first | exact HSub.refl _ | refine HSub.pick 0 rfl ?_ | refine HSub.pick 1 rfl ?_ | refine HSub.pick 3 rfl ?_ | refine HSub.pick 4 rfl ?_)) ?_
  refine LW.region ?_
  refine X.u (LU.moveR Is.rfl') rfl ?_
  refine X.u (LU.nilCheck Is.rfl') rfl ?_
  refine X.u (LU.fieldO Tryd.underlying68 rfl Tryd.sizeOf65 (by decide) Is.rfl') rfl ?_
  refine X.u (LU.loadO 1 rfl ⟨Tryd.sizeOf65, Tryd.isAgg65⟩ Is.rfl' (Part.one rfl)) rfl ?_
  refine X.act (LO.rangeMap (st := ⟨_, _, _⟩) 0 rfl rfl Tryd.underlying65 Is.rfl' (fun b22 => ?_))
  refine LL.nil (after_code ?_)
  refine LW.block ?_
  refine X.loopK (α := List Nat) (fun seen => []) [0, 2, 3, 22] (fun seen => .mapr ma b22 (mp vxV (encM lnE m)) seen :: gA b10 (pickM m seen) :: gC g ma mb n :: gP mb q :: gC b17 b10 b11 n :: gP b11 [] :: Rf) (fun seen => (∀ i ∈ seen, i < m.length) ∧ seen.Nodup) (fun seen => unseen m.length seen) ([]) (EnvLe.nil) (by repeat (first | exact HSub.refl _ | refine HSub.pick 0 rfl ?_ | refine HSub.pick 3 rfl ?_)) ?_ ?_
  · exact ⟨(fun i hi => by cases hi), List.nodup_nil⟩
  · rintro seen hI
    obtain ⟨hsl, hsn⟩ := hI
    refine LW.seq ?_
    refine LW.region ?_
    refine X.act (LO.nextMap (st := ⟨_, _, _⟩) 0 rfl rfl Is.rfl' (fun i23 kv23 hi23 hn23 => ?_) (fun hall23 => ?_))
    · refine X.u (LU.extract Is.rfl' rfl) rfl ?_
      refine LL.nil (after_code ?_)
      refine LW.seq ?_
      refine X.condT rfl ?_ ?_
      · rfl
      refine LW.skip (after_code ?_)
      refine LW.block ?_
      refine LW.seq ?_
      obtain ⟨p, hp, rfl⟩ := ent_at hi23
      have hil2 := (List.getElem?_eq_some_iff.1 hp).1
      have hmu := unseen_lt hil2 hn23
      have hpl := vxL_len p.1
      have hp32 : p.1.p.1.length = 32 := p.1.p.2
      have hset : Atom.map b10 (mp vxV (setM (encM lnE (pickM m seen)) p.1 (lnE p.2))) = gA b10 (pickM m (seen ++ [i23])) := by rw [← pickM_new hkm hp hn23]; exact gA_set _ _ _ _
      refine LW.region ?_
      refine X.u (LU.entryMap 0 rfl (by assumption) Is.rfl') rfl ?_
      refine X.u (LU.weak (LU.extract Is.rfl' rfl) (Is.rawvx p.1)) rfl ?_
      refine X.u (LU.extract Is.rfl' rfl) rfl ?_
      refine X.act (X.alloc rfl Tryd.zeroValue35 (by exact Cells.rawagg (by decide)) (fun b4 => ?_))
      refine X.act (X.alloc rfl Tryd.zeroValue73 (by exact Cells.rawagg (by decide)) (fun b5 => ?_))
      refine X.act (X.store 1 rfl Tryd.sizeOf35 Is.rfl' Is.rfl' (by exact Cells.agg) (by assumption) (by exact Nat.le_of_ble_eq_true rfl) ?_)
      refine X.act (X.store 1 rfl Tryd.sizeOf73 Is.rfl' Is.rfl' (by exact Cells.agg) (by (simp; done)) (by exact Nat.le_of_ble_eq_true rfl) ?_)
      refine LL.nil (after_code ?_)
      refine X.wcells (ys := lnL p.2) rfl ?_
      refine X.wghost (H' := .cells b4 35 (putAt (raws z35.cells.toList) 0 (vxL p.1)) :: .cells b5 73 (lnL p.2) :: .mapr ma b22 (mp vxV (encM lnE m)) (seen ++ [i23]) :: gA b10 (pickM m seen) :: gC g ma mb n :: gP mb q :: gC b17 b10 b11 n :: gP b11 [] :: Rf) (by repeat (first | exact HSub.refl _ | refine HSub.pick 1 rfl ?_)) ?_
      rw [putAt_all (by rw [hpl]; rfl)]
      refine X.drawM 6 rfl (by kernel_rfl) rfl ?_
      refine QD.u (LU.moveR Is.rfl') rfl ?_
      refine QD.u (LU.nilCheck Is.rfl') rfl ?_
      refine QD.u (LU.fieldO Tryd.underlying68 rfl Tryd.sizeOf65 (by decide) Is.rfl') rfl ?_
      refine QD.u (LU.loadO 6 rfl ⟨Tryd.sizeOf65, Tryd.isAgg65⟩ Is.rfl' (Part.one rfl)) rfl ?_
      refine QD.u (LU.loadO 0 rfl ⟨Tryd.sizeOf35, Tryd.isAgg35⟩ Is.rfl' (Part.whole (by assumption))) rfl ?_
      refine QD.u (LU.loadO 1 rfl ⟨Tryd.sizeOf73, Tryd.isAgg73⟩ Is.rfl' (Part.whole (by (simp; done)))) rfl ?_
      refine QD.nil ?_
      refine X.act (LO.mapUpdate (st := ⟨_, _, _⟩) 3 (KeyOk.vx vxty) rfl Tryd.underlying65 Is.rfl' (by exact Is.vx _) Is.rfl' ?_)
      refine LL.nil (after_blk (after_rnd ?_))
      refine X.next (seen ++ [i23]) rfl (EnvLe.nil) (Keeps.cons (by exact Eq.trans (b := .raw _) rfl rfl) (Keeps.cons (by exact Eq.trans (b := .raw _) rfl rfl) (Keeps.cons (by exact Eq.trans (b := .raw _) rfl rfl) (Keeps.cons (by exact Eq.trans (b := .raw _) rfl rfl) (Keeps.nil))))) (by show L.HSub _ (.mapr ma b22 (mp vxV (encM lnE m)) (seen ++ [i23]) :: gA b10 (pickM m (seen ++ [i23])) :: gC g ma mb n :: gP mb q :: gC b17 b10 b11 n :: gP b11 [] :: Rf); rw [← hset]; exact (by repeat (first | exact HSub.refl _ | refine HSub.pick 0 rfl ?_ | refine HSub.pick 2 rfl ?_ | refine HSub.pick 3 rfl ?_ | refine HSub.drop ?_))) ?_ ?_
      · refine ⟨fun i hi => ?_, ?_⟩
        · rcases List.mem_append.1 hi with h | h
          · exact hsl i h
          · rw [List.mem_singleton.1 h]; exact hil2
        · exact nodup_snoc.2 ⟨hsn, hn23⟩
      · omega
    · refine X.u (LU.extract Is.rfl' rfl) rfl ?_
      refine LL.nil (after_code ?_)
      refine LW.seq ?_
      refine X.condF rfl ?_ ?_
      · rfl
      refine LW.exit (exit_code (exit_rnd (exit_blk (after_code ?_))))
      refine LW.seq ?_
      refine LW.seq ?_
      have hM1 := pickM_perm hsn hsl fun i hi => hall23 i (by rw [mp_len]; exact hi)
      obtain ⟨M1, hM1d⟩ : ∃ M1, M1 = pickM m seen := ⟨_, rfl⟩
      rw [← hM1d] at hM1
      refine X.wghost (H' := gP mb q :: gA ma m :: gA b10 M1 :: gC g ma mb n :: gC b17 b10 b11 n :: gP b11 [] :: Rf) (by rw [hM1d]; exact HSub.trans (HSub.ranged _ _ _ _ _) (by repeat (first | exact HSub.refl _ | refine HSub.pick 3 rfl ?_))) ?_
      refine LW.region ?_
      refine X.u (LU.moveR Is.rfl') rfl ?_
      refine X.u (LU.nilCheck Is.rfl') rfl ?_
      refine X.u (LU.fieldO Tryd.underlying68 rfl Tryd.sizeOf66 (by decide) Is.rfl') rfl ?_
      refine X.u (LU.loadO 3 rfl ⟨Tryd.sizeOf66, Tryd.isAgg66⟩ Is.rfl' (Part.one rfl)) rfl ?_
      refine X.act (LO.rangeMap (st := ⟨_, _, _⟩) 0 rfl rfl Tryd.underlying66 Is.rfl' (fun b38 => ?_))
      refine LL.nil (after_code ?_)
      refine LW.block ?_
      refine X.loopK (α := List Nat) (fun seen2 => []) [2, 3, 38] (fun seen2 => .mapr mb b38 (mp intK (encM ptE q)) seen2 :: gP b11 (pickM q seen2) :: gA ma m :: gA b10 M1 :: gC g ma mb n :: gC b17 b10 b11 n :: Rf) (fun seen2 => (∀ i ∈ seen2, i < q.length) ∧ seen2.Nodup) (fun seen2 => unseen q.length seen2) ([]) (EnvLe.nil) (by repeat (first | exact HSub.refl _ | refine HSub.pick 0 rfl ?_ | refine HSub.pick 4 rfl ?_)) ?_ ?_
      · exact ⟨(fun i hi => by cases hi), List.nodup_nil⟩
      · rintro seen2 hI
        obtain ⟨hsl2, hsn2⟩ := hI
        refine LW.seq ?_
        refine LW.region ?_
        refine X.act (LO.nextMap (st := ⟨_, _, _⟩) 0 rfl rfl Is.rfl' (fun i39 kv39 hi39 hn39 => ?_) (fun hall39 => ?_))
        · refine X.u (LU.extract Is.rfl' rfl) rfl ?_
          refine LL.nil (after_code ?_)
          refine LW.seq ?_
          refine X.condT rfl ?_ ?_
          · rfl
          refine LW.skip (after_code ?_)
          refine LW.block ?_
          refine LW.seq ?_
          obtain ⟨p, hp, rfl⟩ := ent_at hi39
          have hil3 := (List.getElem?_eq_some_iff.1 hp).1
          have hmu := unseen_lt hil3 hn39
          have hpl := pt_len p.2
          have hset2 : Atom.map b11 (mp intK (setM (encM ptE (pickM q seen2)) p.1 (ptE p.2))) = gP b11 (pickM q (seen2 ++ [i39])) := by rw [← pickM_new hkq hp hn39]; exact gP_set _ _ _ _
          refine LW.region ?_
          refine X.u (LU.entryMap 0 rfl (by assumption) Is.rfl') rfl ?_
          refine X.u (LU.extract Is.rfl' rfl) rfl ?_
          refine X.u (LU.extract Is.rfl' rfl) rfl ?_
          refine X.act (X.alloc rfl Tryd.zeroValue82 (by exact Cells.rawagg (by decide)) (fun b7 => ?_))
          refine X.u (LU.assignR Is.rfl') rfl ?_
          refine X.act (X.store 0 rfl Tryd.sizeOf82 Is.rfl' Is.rfl' (by exact Cells.agg) (by assumption) (by exact Nat.le_of_ble_eq_true rfl) ?_)
          refine LL.nil (after_code ?_)
          refine X.wcells (ys := ptL p.2) (putAt_all (by rw [hpl]; rfl)) ?_
          refine X.drawM 6 rfl (by kernel_rfl) rfl ?_
          refine QD.u (LU.moveR Is.rfl') rfl ?_
          refine QD.u (LU.nilCheck Is.rfl') rfl ?_
          refine QD.u (LU.fieldO Tryd.underlying68 rfl Tryd.sizeOf66 (by decide) Is.rfl') rfl ?_
          refine QD.u (LU.loadO 6 rfl ⟨Tryd.sizeOf66, Tryd.isAgg66⟩ Is.rfl' (Part.one rfl)) rfl ?_
          refine QD.u (LU.moveR Is.rfl') rfl ?_
          refine QD.u (LU.loadO 0 rfl ⟨Tryd.sizeOf82, Tryd.isAgg82⟩ Is.rfl' (Part.whole (by assumption))) rfl ?_
          refine QD.nil ?_
          refine X.act (LO.mapUpdate (st := ⟨_, _, _⟩) 2 (KeyOk.int Tryd.underlying3) rfl Tryd.underlying66 Is.rfl' Is.rfl' Is.rfl' ?_)
          refine LL.nil (after_blk (after_rnd ?_))
          refine X.next (seen2 ++ [i39]) rfl (EnvLe.nil) (Keeps.cons (by exact Eq.trans (b := .raw _) rfl rfl) (Keeps.cons (by exact Eq.trans (b := .raw _) rfl rfl) (Keeps.cons (by exact Eq.trans (b := .raw _) rfl rfl) (Keeps.nil)))) (by show L.HSub _ (.mapr mb b38 (mp intK (encM ptE q)) (seen2 ++ [i39]) :: gP b11 (pickM q (seen2 ++ [i39])) :: gA ma m :: gA b10 M1 :: gC g ma mb n :: gC b17 b10 b11 n :: Rf); rw [← hset2]; exact (by repeat (first | exact HSub.refl _ | refine HSub.pick 0 rfl ?_ | refine HSub.pick 1 rfl ?_ | refine HSub.pick 2 rfl ?_ | refine HSub.drop ?_))) ?_ ?_
          · refine ⟨fun i hi => ?_, ?_⟩
            · rcases List.mem_append.1 hi with h | h
              · exact hsl2 i h
              · rw [List.mem_singleton.1 h]; exact hil3
            · exact nodup_snoc.2 ⟨hsn2, hn39⟩
          · omega
        · refine X.u (LU.extract Is.rfl' rfl) rfl ?_
          refine LL.nil (after_code ?_)
          refine LW.seq ?_
          refine X.condF rfl ?_ ?_
          · rfl
          refine LW.exit (exit_code (exit_rnd (exit_blk (after_code ?_))))
          refine LW.seq ?_
          have hM2 := pickM_perm hsn2 hsl2 fun i hi => hall39 i (by rw [mp_len]; exact hi)
          obtain ⟨Q1, hQ1d⟩ : ∃ Q1, Q1 = pickM q seen2 := ⟨_, rfl⟩
          rw [← hQ1d] at hM2
          refine X.wghost (H' := gP mb q :: gP b11 Q1 :: gA ma m :: gA b10 M1 :: gC g ma mb n :: gC b17 b10 b11 n :: Rf) (by rw [hQ1d]; exact HSub.trans (HSub.ranged _ _ _ _ _) (by repeat (exact HSub.refl _))) ?_
          refine LW.region ?_
          refine X.u (LU.moveR Is.rfl') rfl ?_
          refine X.u (LU.assignR Is.rfl') rfl ?_
          refine LL.nil (after_code ?_)
          refine LW.ret (after_end ?_)
          refine X.ret (H' := [gC g ma mb n, gA ma m, gP mb q, gC b17 b10 b11 n, gA b10 M1, gP b11 Q1]) (Res.one (by exact IsR rfl)) (by repeat (first | exact HSub.refl _ | refine HSub.pick 0 rfl ?_ | refine HSub.pick 1 rfl ?_ | refine HSub.pick 2 rfl ?_ | refine HSub.pick 4 rfl ?_)) ?_
          exact ⟨b17, b10, b11, M1, Q1, rfl, rfl, hM1, hM2⟩
end Go.Proofs.YtolpkeajokjbjaaDoor
namespace Go.Proofs.YtolpkeajokjbjaaDoor
open Go.RowKit Go.L Go.Lib
attribute [local irreducible] LL LW LO LP LA
section
variable {s : St} {r : Rg} {c : Nat}
theorem clone_r (g : Nat) (hs : StR s r c) : LCalls Tryd.prog 25 [pt g] [gC g s.ma s.mb s.n, gA s.ma s.m, gP s.mb s.q] (fun x H' => ∃ g2 s2, x = pt g2 ∧ H' = [gC g s.ma s.mb s.n, gA s.ma s.m, gP s.mb s.q, gC g2 s2.ma s2.mb s2.n, gA s2.ma s2.m, gP s2.mb s2.q] ∧ StR s2 r c) := by
  have hkq : (s.q.map (·.1)).Nodup := by
    obtain ⟨z, z1, z2, z3, z4, z5⟩ := hs.rel.parts
    refine (z2.map (·.1)).nodup_iff.2 ?_
    rw [List.map_map]; exact z3
  exact (gclone_calls g s.ma s.mb s.n s.m s.q (hs.rel.knd hs.ok) hkq).mono fun x H' ⟨g2, ma2, mb2, m2, q2, h1, h2, h3, h4⟩ => ⟨g2, ⟨ma2, mb2, s.n, m2, q2⟩, h1, h2, hs.rel.perm hs.ok h3 h4, hs.ok, hs.n0, hs.nc, hs.dc⟩
end
end Go.Proofs.YtolpkeajokjbjaaDoor
namespace Go.Proofs.YtolpkeajokjbjaaDoor
open Go.RowKit Go.L Go.Lib
attribute [local irreducible] LL LW LO
set_option maxHeartbeats 1000000 in
set_option maxRecDepth 100000 in
theorem death_calls (r : Rg) (v : Vx) (h : Hs) (hl : r.D.length < 1000000) : LCalls Tryd.prog 66 [.agg (rgL r), .agg (vxL v), .agg (hsL h)] [] (fun x H' => x = i64 (placeG r.D ⟨v, h⟩) ∧ H' = []) := by
  have hvl := vxL_len v
  have hhl := hsL_len h
  refine LCalls.of Tryd.func66 rfl Tryd.ntmps66 Tryd.results66 rfl (fun Rf => ?_)
  refine LW.seq ?_
  refine LW.region ?_
  refine X.act (X.box rfl Is.rfl' (by exact Cells.agg) (fun b3 => ?_))
  refine X.act (X.box rfl Is.rfl' (by exact Cells.agg) (fun b4 => ?_))
  refine X.act (X.box rfl Is.rfl' (by exact Cells.agg) (fun b5 => ?_))
  refine X.u (LU.assignR Is.rfl') rfl ?_
  refine LL.nil (after_code ?_)
  refine LW.seq ?_
  refine LW.seq ?_
  refine LW.region ?_
  refine X.u (LU.assignR Is.rfl') rfl ?_
  refine LL.nil (after_code ?_)
  refine LW.block ?_
  refine X.loopK (α := Nat) (fun i => [(7, i64 i)]) [3, 4, 5] (fun i => .cells b5 31 (hsL h) :: .cells b4 35 (vxL v) :: .cells b3 59 (rgL r) :: Rf) (fun i => i ≤ r.D.length ∧ ∀ j, j < i → ∀ y, r.D[j]? = some y → y ≠ ⟨v, h⟩) (fun i => r.D.length - i) (0) (EnvLe.cons (by rfl) (EnvLe.nil)) (by repeat (exact HSub.refl _)) ?_ ?_
  · exact ⟨Nat.zero_le _, fun j hj => by omega⟩
  · rintro i hI
    obtain ⟨hi, hf⟩ := hI
    refine LW.seq ?_
    refine LW.seq ?_
    refine LW.region ?_
    refine X.u (LU.moveR Is.rfl') rfl ?_
    refine X.u (LU.fieldO Tryd.underlying59 rfl Tryd.sizeOf57 (by decide) Is.rfl') rfl ?_
    refine X.u (LU.loadO 2 rfl ⟨Tryd.sizeOf57, Tryd.isAgg57⟩ Is.rfl' (Part.one rfl)) rfl ?_
    refine X.u (LU.lenN Tryd.underlying57 Is.rfl' (by (simp only [Option.getD_some, Option.getD_none, byteEls_length, intEls_length, List.length_append, List.length_cons, List.length_nil, List.length_map, List.length_drop, List.length_take, Int.toNat_natCast]; rfl))) rfl ?_
    refine X.u (LU.lss Is.rfl' Is.rfl') rfl ?_
    refine LL.nil (after_code ?_)
    refine X.cond rfl (fun h2 => ?_) (fun h2 => ?_)
    · try have h2 := of_decide_eq_true h2
      refine LW.skip (after_code ?_)
      refine LW.seq ?_
      refine LW.block ?_
      refine LW.seq ?_
      obtain ⟨d_, hd⟩ := at_lt (show i < r.D.length by omega)
      have hdl := de_len d_
      have hd1 : d_.v.p.1.length = 32 := d_.v.p.2
      have hd2 : d_.by_.1.length = 32 := d_.by_.2
      refine X.drawM 18 rfl (by kernel_rfl) rfl ?_
      refine QD.u (LU.fieldO Tryd.underlying59 rfl Tryd.sizeOf57 (by decide) Is.rfl') rfl ?_
      refine QD.u (LU.loadO 2 rfl ⟨Tryd.sizeOf57, Tryd.isAgg57⟩ Is.rfl' (Part.one rfl)) rfl ?_
      refine QD.u (LU.moveR Is.rfl') rfl ?_
      refine QD.u (LU.at Tryd.underlying57 ⟨Tryd.sizeOf106, Tryd.isAgg106⟩ Is.rfl' Is.rfl' (by omega) (des_at hd) (de_ne d_)) rfl ?_
      refine QD.u (LU.fieldP Tryd.underlying106 rfl ⟨Tryd.sizeOf35, Tryd.isAgg35⟩ (by decide) Is.rfl' (by (simp; omega))) rfl ?_
      refine QD.u (LU.weak (LU.load ⟨Tryd.sizeOf35, Tryd.isAgg35⟩ Is.rfl' (by (simp; omega)) (Part.whole (by (simp; omega)))) (Is.of (y := .agg (vxL d_.v)) (congrArg LV.agg (de_v d_)))) rfl ?_
      refine QD.u (LU.loadO 1 rfl ⟨Tryd.sizeOf35, Tryd.isAgg35⟩ Is.rfl' (Part.whole (by assumption))) rfl ?_
      refine QD.u (LU.eqlVx vxty Is.rfl' Is.rfl') rfl ?_
      refine QD.u (LU.moveR Is.rfl') rfl ?_
      refine QD.gT rfl rfl (fun hg => LU.fieldO Tryd.underlying59 rfl Tryd.sizeOf57 (by decide) (by exact Is.rfl')) rfl ?_
      refine QD.gT rfl rfl (fun hg => LU.loadO 2 rfl ⟨Tryd.sizeOf57, Tryd.isAgg57⟩ (by exact Is.whenE hg) (Part.one rfl)) rfl ?_
      refine QD.gT rfl rfl (fun hg => LU.moveR (by exact Is.rfl')) rfl ?_
      refine QD.gT rfl rfl (fun hg => LU.at Tryd.underlying57 ⟨Tryd.sizeOf106, Tryd.isAgg106⟩ (by exact Is.whenE hg) (by exact Is.whenE hg) (by omega) (des_at hd) (de_ne d_)) rfl ?_
      refine QD.gT rfl rfl (fun hg => LU.fieldP Tryd.underlying106 rfl ⟨Tryd.sizeOf31, Tryd.isAgg31⟩ (by decide) (by exact Is.whenE hg) (by (simp; omega))) rfl ?_
      refine QD.gT rfl rfl (fun hg => LU.weak (LU.load ⟨Tryd.sizeOf31, Tryd.isAgg31⟩ (by exact Is.whenE hg) (by (simp; omega)) (Part.whole (by (simp; omega)))) (Is.of (y := .agg (hsL d_.by_)) (congrArg LV.agg (de_by d_)))) rfl ?_
      refine QD.gT rfl rfl (fun hg => LU.loadO 0 rfl ⟨Tryd.sizeOf31, Tryd.isAgg31⟩ (by exact Is.rfl') (Part.whole (by assumption))) rfl ?_
      refine QD.gT rfl rfl (fun hg => LU.eqlHs Tryd.underlying31 Tryd.underlying5 Tryd.sizeOf5 (by kernel_rfl) (by exact Is.whenE hg) (by exact Is.whenE hg)) rfl ?_
      refine QD.u (LU.pickAnd Is.rfl' (fun hq => (by exact Is.whenE hq)) Is.rfl') rfl ?_
      refine QD.nil ?_
      refine LL.nil (after_code ?_)
      refine X.cond rfl (fun h4 => ?_) (fun h4 => ?_)
      · have h4 : d_.v = v ∧ d_.by_ = h := by simpa using h4
        have heq : d_ = ⟨v, h⟩ := by cases d_; simp at h4; simp [h4.1, h4.2]
        refine LW.seq ?_
        refine LW.region ?_
        refine X.u (LU.moveR Is.rfl') rfl ?_
        refine X.u (LU.assignR Is.rfl') rfl ?_
        refine LL.nil (after_code ?_)
        refine LW.ret (ret_blk (ret_code (ret_rnd (ret_blk (ret_code (after_end ?_))))))
        refine X.ret (H' := []) (Res.one (by exact IsR rfl)) (by repeat (first | exact HSub.refl _ | refine HSub.drop ?_)) ?_
        exact ⟨by rw [placeG_at (by rw [← heq]; exact hd) hf], rfl⟩
      · have h4 : d_.v = v → d_.by_ ≠ h := by simpa using h4
        have hne : d_ ≠ ⟨v, h⟩ := fun e => by rw [e] at h4; exact h4 rfl rfl
        refine LW.skip (after_blk (after_code ?_))
        refine LW.region ?_
        refine X.u (LU.moveR Is.rfl') rfl ?_
        refine X.u (LU.addN Is.rfl' Is.rfl' (wrap_i64 (by omega) (by omega))) rfl ?_
        refine X.u (LU.assignR Is.rfl') rfl ?_
        refine LL.nil (after_rnd ?_)
        refine X.next (i + 1) rfl (EnvLe.cons (by rfl) (EnvLe.nil)) (Keeps.cons (by exact Eq.trans (b := .raw _) rfl rfl) (Keeps.cons (by exact Eq.trans (b := .raw _) rfl rfl) (Keeps.cons (by exact Eq.trans (b := .raw _) rfl rfl) (Keeps.nil)))) (by repeat (exact HSub.refl _)) ?_ ?_
        · refine ⟨by omega, fun j hj y hy => ?_⟩
          by_cases c : j = i
          · rw [c, hd] at hy; rw [← Option.some.inj hy]; exact hne
          · exact hf j (by omega) y hy
        · omega
    · try have h2 := of_decide_eq_false h2
      refine LW.exit (exit_code (exit_rnd (exit_blk (after_code ?_))))
      refine LW.seq ?_
      refine LW.region ?_
      refine X.u (LU.assignR Is.rfl') rfl ?_
      refine LL.nil (after_code ?_)
      refine LW.ret (after_end ?_)
      refine X.ret (H' := []) (Res.one (by exact IsR rfl)) (by repeat (first | exact HSub.refl _ | refine HSub.drop ?_)) ?_
      exact ⟨by rw [placeG_none (fun hm => by obtain ⟨j, hj, e⟩ := List.getElem_of_mem hm; exact hf j (by omega) _ (by rw [List.getElem?_eq_getElem hj, e]) rfl)], rfl⟩
end Go.Proofs.YtolpkeajokjbjaaDoor
namespace Go.Proofs.YtolpkeajokjbjaaDoor
open Go.RowKit Go.L Go.Lib
attribute [local irreducible] LL LW LO
theorem less_cb : ∀ a b : List UInt8, Op.bytesLess a b = decide (compareBytes a b < 0)
  | [], [] => rfl
  | [], _ :: _ => rfl
  | _ :: _, [] => rfl
  | a :: x, b :: y => by
    rw [Op.bytesLess, compareBytes]
    rcases u8_tri a b with c | c | c
    · simp [c]
    · subst c; simp [UInt8.lt_irrefl, less_cb x y]
    · have h1 := UInt8.lt_asymm c
      have h2 : a ≠ b := fun e => by subst e; exact UInt8.lt_irrefl a c
      simp [h1, c, h2]
theorem hs_els (a : Hs) : singles (((hsL a).drop 0).take 32) = byteEls a.1 := by
  rw [List.drop_zero, List.take_of_length_le (by rw [List.length_map, a.2]; exact Nat.le_refl _)]
  show (a.1.map _).map _ = _
  rw [List.map_map]; rfl
set_option maxRecDepth 100000 in
theorem below_calls (a b : Hs) : LCalls Tryd.prog 77 [.agg (hsL a), .agg (hsL b)] [] (fun r H' => r = bl (decide (compareBytes a.1 b.1 < 0)) ∧ H' = []) := by
  have ha : a.1.length = 32 := a.2
  have hb : b.1.length = 32 := b.2
  refine LCalls.of Tryd.func77 rfl Tryd.ntmps77 Tryd.results77 rfl (fun Rf => ?_)
  refine LW.seq ?_
  refine LW.region ?_
  refine X.act (X.box rfl Is.rfl' (by exact Cells.agg) (fun b2 => ?_))
  refine X.act (X.box rfl Is.rfl' (by exact Cells.agg) (fun b3 => ?_))
  refine X.u (LU.assignR Is.rfl') rfl ?_
  refine LL.nil (after_code ?_)
  refine LW.seq ?_
  refine LW.know 0 rfl ?_
  refine LW.know 1 rfl ?_
  refine X.drawM 6 rfl (by kernel_rfl) rfl ?_
  refine QD.u (LU.weak (LU.sliceKA 0 rfl Tryd.underlying31 Tryd.sizeOf5 Is.rfl' (by rw [List.length_map, ha]; decide)) ((Is.of (congrArg (fun z => LV.sl 1 z .full) (hs_els a))))) rfl ?_
  refine QD.u (LU.tostr Tryd.underlying110 Tryd.underlying5 Tryd.underlying9 Is.rfl') rfl ?_
  refine QD.u (LU.weak (LU.sliceKA 1 rfl Tryd.underlying31 Tryd.sizeOf5 Is.rfl' (by rw [List.length_map, hb]; decide)) ((Is.of (congrArg (fun z => LV.sl 1 z .full) (hs_els b))))) rfl ?_
  refine QD.u (LU.tostr Tryd.underlying110 Tryd.underlying5 Tryd.underlying9 Is.rfl') rfl ?_
  refine QD.u (LU.strlt Is.rfl' Is.rfl') rfl ?_
  refine QD.u (LU.assignR Is.rfl') rfl ?_
  refine QD.nil ?_
  refine LL.nil (after_code ?_)
  refine LW.ret (after_end ?_)
  refine X.ret (H' := []) (Res.one (by exact IsR rfl)) (by repeat (first | exact HSub.refl _ | refine HSub.drop ?_)) ?_
  exact ⟨by rw [less_cb, bytes_toList, bytes_toList], rfl⟩
theorem vx_p (a : Vx) : ((vxL a).drop 0).take 32 = hsL a.p := by rw [List.drop_zero, List.take_left' (hsL_len a.p)]
theorem ltV_dec (a b : Vx) : decide (cmpV a b < 0) = if a.p ≠ b.p then decide (compareBytes a.p.1 b.p.1 < 0) else decide (a.n < b.n) := by
  have h := ltV_iff (a := a) (b := b)
  unfold ltV at h
  by_cases c : a.p = b.p
  · rw [if_neg (fun d => d c), decide_eq_decide, h]
    constructor
    · rintro (e | ⟨_, e⟩)
      · rw [c] at e
        have := cmpB_anti b.p.1 b.p.1
        omega
      · exact e
    · intro e; exact .inr ⟨c, e⟩
  · rw [if_pos c, decide_eq_decide, h]
    constructor
    · rintro (e | ⟨e, _⟩)
      · exact e
      · exact absurd e c
    · exact .inl
set_option maxRecDepth 100000 in
theorem less_calls (a b : Vx) : LCalls Tryd.prog 73 [.agg (vxL a), .agg (vxL b)] [] (fun r H' => r = bl (decide (cmpV a b < 0)) ∧ H' = []) := by
  have hal := vxL_len a
  have hbl := vxL_len b
  have ha32 : a.p.1.length = 32 := a.p.2
  have hb32 : b.p.1.length = 32 := b.p.2
  have hd := ltV_dec a b
  refine LCalls.of Tryd.func73 rfl Tryd.ntmps73 Tryd.results73 rfl (fun Rf => ?_)
  refine LW.seq ?_
  refine LW.region ?_
  refine X.act (X.box rfl Is.rfl' (by exact Cells.agg) (fun b2 => ?_))
  refine X.act (X.box rfl Is.rfl' (by exact Cells.agg) (fun b3 => ?_))
  refine X.u (LU.assignR Is.rfl') rfl ?_
  refine LL.nil (after_code ?_)
  refine LW.seq ?_
  refine LW.seq ?_
  refine LW.region ?_
  refine X.u (LU.fieldO Tryd.underlying35 rfl Tryd.sizeOf31 (by decide) Is.rfl') rfl ?_
  refine X.u (LU.weak (LU.loadO 1 rfl ⟨Tryd.sizeOf31, Tryd.isAgg31⟩ Is.rfl' (Part.sub (by (simp; omega)))) (Is.of (y := .agg (hsL a.p)) (congrArg LV.agg (vx_p a)))) rfl ?_
  refine X.u (LU.fieldO Tryd.underlying35 rfl Tryd.sizeOf31 (by decide) Is.rfl') rfl ?_
  refine X.u (LU.weak (LU.loadO 0 rfl ⟨Tryd.sizeOf31, Tryd.isAgg31⟩ Is.rfl' (Part.sub (by (simp; omega)))) (Is.of (y := .agg (hsL b.p)) (congrArg LV.agg (vx_p b)))) rfl ?_
  refine X.u (LU.weak (LU.neqArr (xs := a.p.1.map UInt8.toNat) (ys := b.p.1.map UInt8.toNat) Tryd.underlying31 Tryd.underlying5 Tryd.sizeOf5 (by kernel_rfl) (Is.of (by rw [List.map_map]; rfl)) (Is.of (by rw [List.map_map]; rfl)) (by rw [List.length_map]; exact ha32) (by rw [List.length_map]; exact hb32)) (Is.of (y := bl (!decide (a.p = b.p))) (by rw [hs_dec]))) rfl ?_
  refine LL.nil (after_code ?_)
  refine X.cond rfl (fun h1 => ?_) (fun h1 => ?_)
  · have h1 : a.p ≠ b.p := by simpa using h1
    rw [if_pos h1] at hd
    refine LW.seq ?_
    refine LW.region ?_
    refine X.u (LU.fieldO Tryd.underlying35 rfl Tryd.sizeOf31 (by decide) Is.rfl') rfl ?_
    refine X.u (LU.weak (LU.loadO 1 rfl ⟨Tryd.sizeOf31, Tryd.isAgg31⟩ Is.rfl' (Part.sub (by (simp; omega)))) (Is.of (y := .agg (hsL a.p)) (congrArg LV.agg (vx_p a)))) rfl ?_
    refine X.u (LU.fieldO Tryd.underlying35 rfl Tryd.sizeOf31 (by decide) Is.rfl') rfl ?_
    refine X.u (LU.weak (LU.loadO 0 rfl ⟨Tryd.sizeOf31, Tryd.isAgg31⟩ Is.rfl' (Part.sub (by (simp; omega)))) (Is.of (y := .agg (hsL b.p)) (congrArg LV.agg (vx_p b)))) rfl ?_
    refine X.u (LU.call (below_calls a.p b.p) Tryd.func77 rfl rfl (Opds.cons Is.rfl' (Opds.cons Is.rfl' Opds.nil))) rfl ?_
    refine X.u (LU.assignR Is.rfl') rfl ?_
    refine LL.nil (after_code ?_)
    refine LW.ret (ret_code (after_end ?_))
    refine X.ret (H' := []) (Res.one (by exact IsR rfl)) (by repeat (first | exact HSub.refl _ | refine HSub.drop ?_)) ?_
    exact ⟨by rw [hd], rfl⟩
  · have h1 : ¬ a.p ≠ b.p := by simpa using h1
    rw [if_neg h1] at hd
    refine LW.skip (after_code ?_)
    refine LW.seq ?_
    refine LW.region ?_
    refine X.u (LU.fieldO Tryd.underlying35 rfl Tryd.sizeOf3 (by decide) Is.rfl') rfl ?_
    refine X.u (LU.loadO 1 rfl ⟨Tryd.sizeOf3, Tryd.isAgg3⟩ Is.rfl' (Part.one (vx_num a))) rfl ?_
    refine X.u (LU.fieldO Tryd.underlying35 rfl Tryd.sizeOf3 (by decide) Is.rfl') rfl ?_
    refine X.u (LU.loadO 0 rfl ⟨Tryd.sizeOf3, Tryd.isAgg3⟩ Is.rfl' (Part.one (vx_num b))) rfl ?_
    refine X.u (LU.lss Is.rfl' Is.rfl') rfl ?_
    refine X.u (LU.assignR Is.rfl') rfl ?_
    refine LL.nil (after_code ?_)
    refine LW.ret (after_end ?_)
    refine X.ret (H' := []) (Res.one (by exact IsR rfl)) (by repeat (first | exact HSub.refl _ | refine HSub.drop ?_)) ?_
    exact ⟨by rw [hd], rfl⟩
theorem ad_texts1 (a : Ad) : ((adL a).drop 67).take 1 = [.sl 1 (strsL a.texts) .unk] := by
  rw [show (67 : Nat) = 33 + 33 + 1 from rfl, ← List.drop_drop, ← List.drop_drop, List.drop_left' (vxL_len a.up), List.drop_left' (vxL_len a.down)]; rfl
set_option maxHeartbeats 1000000 in
set_option maxRecDepth 100000 in
theorem rtext_calls (r : Rg) (v : Vx) (hl : r.L.length < 1000000) (hne : ∀ a ∈ r.L, a.ids.length < 1000000 ∧ a.texts.length = a.ids.length) : LCalls Tryd.prog 59 [.agg (rgL r), .agg (vxL v)] [] (fun x H' => x = Str (textG r.L v) ∧ H' = []) := by
  have hvl := vxL_len v
  have hv32 : v.p.1.length = 32 := v.p.2
  refine LCalls.of Tryd.func59 rfl Tryd.ntmps59 Tryd.results59 rfl (fun Rf => ?_)
  refine LW.seq ?_
  refine LW.region ?_
  refine X.act (X.box rfl Is.rfl' (by exact Cells.agg) (fun b2 => ?_))
  refine X.act (X.box rfl Is.rfl' (by exact Cells.agg) (fun b3 => ?_))
  refine X.u (LU.assignR Is.rfl') rfl ?_
  refine LL.nil (after_code ?_)
  refine LW.seq ?_
  refine LW.seq ?_
  refine LW.region ?_
  refine X.u (LU.assignR Is.rfl') rfl ?_
  refine LL.nil (after_code ?_)
  refine LW.block ?_
  refine X.loopK (α := Nat) (fun i => [(5, i64 i)]) [2, 3] (fun i => .cells b3 35 (vxL v) :: .cells b2 59 (rgL r) :: Rf) (fun i => i ≤ r.L.length ∧ textG (r.L.drop i) v = textG r.L v) (fun i => r.L.length - i) (0) (EnvLe.cons (by rfl) (EnvLe.nil)) (by repeat (exact HSub.refl _)) ?_ ?_
  · exact ⟨Nat.zero_le _, by rw [List.drop_zero]⟩
  · rintro i hI
    obtain ⟨hi, ht⟩ := hI
    refine LW.seq ?_
    refine LW.seq ?_
    refine LW.region ?_
    refine X.u (LU.moveR Is.rfl') rfl ?_
    refine X.u (LU.fieldO Tryd.underlying59 rfl Tryd.sizeOf56 (by decide) Is.rfl') rfl ?_
    refine X.u (LU.loadO 1 rfl ⟨Tryd.sizeOf56, Tryd.isAgg56⟩ Is.rfl' (Part.one rfl)) rfl ?_
    refine X.u (LU.lenN Tryd.underlying56 Is.rfl' (by (simp only [Option.getD_some, Option.getD_none, byteEls_length, intEls_length, List.length_append, List.length_cons, List.length_nil, List.length_map, List.length_drop, List.length_take, Int.toNat_natCast]; rfl))) rfl ?_
    refine X.u (LU.lss Is.rfl' Is.rfl') rfl ?_
    refine LL.nil (after_code ?_)
    refine X.cond rfl (fun h2 => ?_) (fun h2 => ?_)
    · try have h2 := of_decide_eq_true h2
      refine LW.skip (after_code ?_)
      refine LW.seq ?_
      refine LW.block ?_
      refine LW.seq ?_
      obtain ⟨a, ha⟩ := at_lt (show i < r.L.length by omega)
      have hal := ad_len a
      have hau := a.up.p.2
      have had := a.down.p.2
      obtain ⟨hn1, hn2⟩ := hne a (List.mem_of_getElem? ha)
      rw [drop_at ha, textG] at ht
      refine X.drawM 9 rfl (by kernel_rfl) rfl ?_
      refine QD.u (LU.fieldO Tryd.underlying59 rfl Tryd.sizeOf56 (by decide) Is.rfl') rfl ?_
      refine QD.u (LU.loadO 1 rfl ⟨Tryd.sizeOf56, Tryd.isAgg56⟩ Is.rfl' (Part.one rfl)) rfl ?_
      refine QD.u (LU.moveR Is.rfl') rfl ?_
      refine QD.u (LU.at Tryd.underlying56 ⟨Tryd.sizeOf104, Tryd.isAgg104⟩ Is.rfl' Is.rfl' (by omega) (ads_at ha) (ad_ne a)) rfl ?_
      refine QD.u (LU.weak (LU.fieldP Tryd.underlying104 rfl ⟨Tryd.sizeOf26, Tryd.isAgg26⟩ (by decide) Is.rfl' (by (simp; omega))) (Is.of (y := .pin [Vxs a.ids .unk]) (congrArg LV.pin (ad_ids a)))) rfl ?_
      refine QD.u (LU.load ⟨Tryd.sizeOf26, Tryd.isAgg26⟩ Is.rfl' (by (simp; done)) (Part.one rfl)) rfl ?_
      refine QD.u (LU.loadO 0 rfl ⟨Tryd.sizeOf35, Tryd.isAgg35⟩ Is.rfl' (Part.whole (by assumption))) rfl ?_
      refine QD.u (LU.call (place_calls a.ids .unk v (by omega)) Tryd.func63 rfl rfl (Opds.cons Is.rfl' (Opds.cons Is.rfl' Opds.nil))) rfl ?_
      refine QD.u (LU.assignR Is.rfl') rfl ?_
      refine QD.nil ?_
      refine LL.nil (after_code ?_)
      refine LW.seq ?_
      refine LW.region ?_
      refine X.u (LU.moveR Is.rfl') rfl ?_
      refine X.u (LU.geq Is.rfl' Is.rfl') rfl ?_
      refine LL.nil (after_code ?_)
      refine X.cond rfl (fun h5 => ?_) (fun h5 => ?_)
      · have h5 : 0 ≤ placeG a.ids v := of_decide_eq_true h5
        rw [if_pos h5] at ht
        have hpr := placeG_range a.ids v
        obtain ⟨ix, hix⟩ : ∃ ix : Nat, placeG a.ids v = ix := ⟨(placeG a.ids v).toNat, by omega⟩
        obtain ⟨t, htt⟩ := at_lt (show ix < a.texts.length by omega)
        have hte : t = textG r.L v := by rw [← ht, hix, Int.toNat_natCast, List.getD_eq_getElem?_getD, htt]; rfl
        refine LW.seq ?_
        refine LW.region ?_
        refine X.u (LU.fieldO Tryd.underlying59 rfl Tryd.sizeOf56 (by decide) Is.rfl') rfl ?_
        refine X.u (LU.loadO 1 rfl ⟨Tryd.sizeOf56, Tryd.isAgg56⟩ Is.rfl' (Part.one rfl)) rfl ?_
        refine X.u (LU.moveR Is.rfl') rfl ?_
        refine X.u (LU.at Tryd.underlying56 ⟨Tryd.sizeOf104, Tryd.isAgg104⟩ Is.rfl' Is.rfl' (by omega) (ads_at ha) (ad_ne a)) rfl ?_
        refine X.u (LU.weak (LU.fieldP Tryd.underlying104 rfl ⟨Tryd.sizeOf25, Tryd.isAgg25⟩ (by decide) Is.rfl' (by (simp; omega))) (Is.of (y := .pin [.sl 1 (strsL a.texts) .unk]) (congrArg LV.pin (ad_texts1 a)))) rfl ?_
        refine X.u (LU.load ⟨Tryd.sizeOf25, Tryd.isAgg25⟩ Is.rfl' (by (simp; done)) (Part.one rfl)) rfl ?_
        refine X.u (LU.weak (LU.moveR Is.rfl') (Is.of (y := i64 (ix : Nat)) (congrArg i64 hix))) rfl ?_
        refine X.u (LU.at Tryd.underlying25 ⟨Tryd.sizeOf9, Tryd.isAgg9⟩ Is.rfl' Is.rfl' (by omega) (strsL_at htt) (by simp)) rfl ?_
        refine X.u (LU.load ⟨Tryd.sizeOf9, Tryd.isAgg9⟩ Is.rfl' (by (simp; done)) (Part.one rfl)) rfl ?_
        refine X.u (LU.assignR Is.rfl') rfl ?_
        refine LL.nil (after_code ?_)
        refine LW.ret (ret_blk (ret_code (ret_rnd (ret_blk (ret_code (after_end ?_))))))
        refine X.ret (H' := []) (Res.one (by exact IsR rfl)) (by repeat (first | exact HSub.refl _ | refine HSub.drop ?_)) ?_
        exact ⟨by rw [← hte], rfl⟩
      · have h5 : ¬ 0 ≤ placeG a.ids v := of_decide_eq_false h5
        rw [if_neg h5] at ht
        refine LW.skip (after_blk (after_code ?_))
        refine LW.region ?_
        refine X.u (LU.moveR Is.rfl') rfl ?_
        refine X.u (LU.addN Is.rfl' Is.rfl' (wrap_i64 (by omega) (by omega))) rfl ?_
        refine X.u (LU.assignR Is.rfl') rfl ?_
        refine LL.nil (after_rnd ?_)
        refine X.next (i + 1) rfl (EnvLe.cons (by rfl) (EnvLe.nil)) (Keeps.cons (by exact Eq.trans (b := .raw _) rfl rfl) (Keeps.cons (by exact Eq.trans (b := .raw _) rfl rfl) (Keeps.nil))) (by repeat (exact HSub.refl _)) ?_ ?_
        · exact ⟨by omega, ht⟩
        · omega
    · try have h2 := of_decide_eq_false h2
      refine LW.exit (exit_code (exit_rnd (exit_blk (after_code ?_))))
      refine LW.seq ?_
      refine LW.region ?_
      refine X.u (LU.assignR Is.rfl') rfl ?_
      refine LL.nil (after_code ?_)
      refine LW.ret (after_end ?_)
      refine X.ret (H' := []) (Res.one (by exact IsR rfl)) (by repeat (first | exact HSub.refl _ | refine HSub.drop ?_)) ?_
      rw [List.drop_of_length_le (by omega)] at ht
      exact ⟨by rw [← ht]; rfl, rfl⟩
theorem sh_text1 (x : Sh) : ((shL x).drop 33).take 1 = [Str x.text] := by rw [List.drop_left' (vxL_len x.v)]; rfl
theorem sh_kills1 (x : Sh) : ((shL x).drop 34).take 1 = [i64 (x.kills : Nat)] := by
  rw [show (34 : Nat) = 33 + 1 from rfl, ← List.drop_drop, List.drop_left' (vxL_len x.v)]; rfl
set_option maxHeartbeats 1000000 in
set_option maxRecDepth 100000 in
theorem living_calls (l : List Sh) (k : Cap) (hl : l.length < 1000000) : LCalls Tryd.prog 45 [Shs l k] [] (fun x H' => x = .sl 1 (strsL ((livF l).map (·.text))) .unk ∧ H' = []) := by
  refine LCalls.of Tryd.func45 rfl Tryd.ntmps45 Tryd.results45 rfl (fun Rf => ?_)
  refine LW.seq ?_
  refine LW.region ?_
  refine X.u (LU.assign (Is.nil 1)) rfl ?_
  refine LL.nil (after_code ?_)
  refine LW.seq ?_
  refine LW.region ?_
  refine X.u (LU.assign (Is.nil 1)) rfl ?_
  refine LL.nil (after_code ?_)
  refine LW.seq ?_
  refine LW.seq ?_
  refine LW.region ?_
  refine X.u (LU.assignR Is.rfl') rfl ?_
  refine LL.nil (after_code ?_)
  refine LW.block ?_
  refine X.wweak (t := 3) (v := .sl 1 (strsL []) (.tok 0 0 0)) (Is.full_tok 0 0) ?_
  refine X.wghost (HSub.tail0 0 0 0 (Nat.le_refl _) _) ?_
  refine X.loopK (α := Nat × List (List UInt8) × Nat × Nat × Nat) (fun ⟨i, T, b, o, c⟩ => [(4, i64 i), (3, .sl 1 (strsL T) (.tok b o c))]) [0, 2] (fun ⟨i, T, b, o, c⟩ => .tail b o c :: Rf) (fun ⟨i, T, b, o, c⟩ => i ≤ l.length ∧ T = (livF (l.take i)).map (·.text)) (fun ⟨i, T, b, o, c⟩ => l.length - i) ((0, [], 0, 0, 0)) (EnvLe.cons (by rfl) (EnvLe.cons (by rfl) (EnvLe.nil))) (by repeat (exact HSub.refl _)) ?_ ?_
  · exact ⟨Nat.zero_le _, rfl⟩
  · rintro ⟨i, T, b, o, c⟩ hI
    obtain ⟨hi, hT⟩ := hI
    refine LW.seq ?_
    refine LW.seq ?_
    refine LW.region ?_
    refine X.u (LU.moveR Is.rfl') rfl ?_
    refine X.u (LU.moveS Is.rfl') rfl ?_
    refine X.u (LU.lenN Tryd.underlying45 Is.rfl' (by (simp only [Option.getD_some, Option.getD_none, byteEls_length, intEls_length, List.length_append, List.length_cons, List.length_nil, List.length_map, List.length_drop, List.length_take, Int.toNat_natCast]; rfl))) rfl ?_
    refine X.u (LU.lss Is.rfl' Is.rfl') rfl ?_
    refine LL.nil (after_code ?_)
    refine X.cond rfl (fun h3 => ?_) (fun h3 => ?_)
    · try have h3 := of_decide_eq_true h3
      refine LW.skip (after_code ?_)
      refine LW.seq ?_
      refine LW.block ?_
      refine LW.seq ?_
      obtain ⟨x, hx⟩ := at_lt (show i < l.length by omega)
      have hxl := sh_len x
      have hv32 : x.v.p.1.length = 32 := x.v.p.2
      have htk : T.length ≤ i := by
        rw [hT, List.length_map]
        refine Nat.le_trans (livF_len _) ?_
        rw [List.length_take]; omega
      refine LW.region ?_
      refine X.u (LU.moveS Is.rfl') rfl ?_
      refine X.u (LU.moveR Is.rfl') rfl ?_
      refine X.u (LU.at Tryd.underlying45 ⟨Tryd.sizeOf49, Tryd.isAgg49⟩ Is.rfl' Is.rfl' (by omega) (shs_at hx) (sh_ne x)) rfl ?_
      refine X.u (LU.weak (LU.fieldP Tryd.underlying49 rfl ⟨Tryd.sizeOf3, Tryd.isAgg3⟩ (by decide) Is.rfl' (by (simp; omega))) (Is.of (y := .pin [i64 (x.kills : Nat)]) (congrArg LV.pin (sh_kills1 x)))) rfl ?_
      refine X.u (LU.load ⟨Tryd.sizeOf3, Tryd.isAgg3⟩ Is.rfl' (by (simp; done)) (Part.one rfl)) rfl ?_
      refine X.u (LU.eql Is.rfl' Is.rfl') rfl ?_
      refine LL.nil (after_code ?_)
      refine X.cond rfl (fun h5 => ?_) (fun h5 => ?_)
      · have h5 : x.kills = 0 := by simp at h5; omega
        have hz0 : (0 : Nat) = 0 := rfl
        refine LW.region ?_
        refine X.u (LU.moveS Is.rfl') rfl ?_
        refine X.u (LU.moveS Is.rfl') rfl ?_
        refine X.u (LU.moveR Is.rfl') rfl ?_
        refine X.u (LU.at Tryd.underlying45 ⟨Tryd.sizeOf49, Tryd.isAgg49⟩ Is.rfl' Is.rfl' (by omega) (shs_at hx) (sh_ne x)) rfl ?_
        refine X.u (LU.weak (LU.fieldP Tryd.underlying49 rfl ⟨Tryd.sizeOf9, Tryd.isAgg9⟩ (by decide) Is.rfl' (by (simp; omega))) (Is.of (y := .pin [Str x.text]) (congrArg LV.pin (sh_text1 x)))) rfl ?_
        refine X.u (LU.load ⟨Tryd.sizeOf9, Tryd.isAgg9⟩ Is.rfl' (by (simp; done)) (Part.one rfl)) rfl ?_
        refine X.u (LU.lits Tryd.underlying25 Tryd.sizeOf9 Tryd.zeroValue9 (ones rfl) rfl (by decide) (by decide) (Elems.cons Is.rfl' (by exact Cells.raw rfl) Elems.nil) (by (simp; done)) rfl) rfl ?_
        refine X.act (X.append 0 rfl rfl Tryd.underlying25 (El.of (P := Tryd.prog) (z := (.string ByteArray.empty)) (size := 1) (bytes := 16) rfl rfl rfl) Is.rfl' Is.rfl' (SrcL.slice Tryd.underlying25 (by decide) (by (intro e he; simp [chunks] at he; simp [he]; done))) (by simp only [Option.getD_some, Option.getD_none, byteEls_length, intEls_length, List.length_append, List.length_cons, List.length_nil, List.length_map, List.length_drop, List.length_take, Int.toNat_natCast]; omega) (by simp only [Option.getD_some, Option.getD_none, byteEls_length, intEls_length, List.length_append, List.length_cons, List.length_nil, List.length_map, List.length_drop, List.length_take, Int.toNat_natCast]; omega) (fun b24 o24 c24 => X.weak (t := 24) (Is.of (y := .sl 1 (strsL (T ++ [x.text])) (.tok b24 o24 c24)) (congrArg (fun z => LV.sl 1 z (.tok b24 o24 c24)) (by simp))) ?_))
        refine X.u (LU.assignS Is.rfl') rfl ?_
        refine LL.nil (after_blk (after_code ?_))
        refine LW.region ?_
        refine X.u (LU.moveR Is.rfl') rfl ?_
        refine X.u (LU.addN Is.rfl' Is.rfl' (wrap_i64 (by omega) (by omega))) rfl ?_
        refine X.u (LU.assignR Is.rfl') rfl ?_
        refine LL.nil (after_rnd ?_)
        refine X.next ((i + 1, T ++ [x.text], b24, o24, c24)) rfl (EnvLe.cons (by rfl) (EnvLe.cons (by rfl) (EnvLe.nil))) (Keeps.cons (by exact Eq.trans (b := .sl _ _ _) rfl rfl) (Keeps.cons (by exact Eq.trans (b := .sl _ _ _) rfl rfl) (Keeps.nil))) (by repeat (exact HSub.refl _)) ?_ ?_
        · exact ⟨by omega, by rw [take_snoc hx, livF_snoc, if_pos h5, List.map_append, ← hT]; rfl⟩
        · (simp; omega)
      · have h5 : ¬ x.kills = 0 := by simp at h5; omega
        have hz0 : (0 : Nat) = 0 := rfl
        refine LW.skip (after_blk (after_code ?_))
        refine LW.region ?_
        refine X.u (LU.moveR Is.rfl') rfl ?_
        refine X.u (LU.addN Is.rfl' Is.rfl' (wrap_i64 (by omega) (by omega))) rfl ?_
        refine X.u (LU.assignR Is.rfl') rfl ?_
        refine LL.nil (after_rnd ?_)
        refine X.next ((i + 1, T, b, o, c)) rfl (EnvLe.cons (by rfl) (EnvLe.cons (by rfl) (EnvLe.nil))) (Keeps.cons (by exact Eq.trans (b := .sl _ _ _) rfl rfl) (Keeps.cons (by exact Eq.trans (b := .sl _ _ _) rfl rfl) (Keeps.nil))) (by repeat (exact HSub.refl _)) ?_ ?_
        · exact ⟨by omega, by rw [take_snoc hx, livF_snoc, if_neg h5, List.append_nil, hT]⟩
        · (simp; omega)
    · try have h3 := of_decide_eq_false h3
      refine LW.exit (exit_code (exit_rnd (exit_blk (after_code ?_))))
      refine LW.seq ?_
      refine LW.region ?_
      refine X.u (LU.moveS Is.rfl') rfl ?_
      refine X.u (LU.assignS Is.rfl') rfl ?_
      refine LL.nil (after_code ?_)
      refine LW.ret (after_end ?_)
      refine X.ret (H' := []) (Res.one (by exact IsS rfl)) (by repeat (first | exact HSub.refl _ | refine HSub.drop ?_)) ?_
      exact ⟨by rw [hT, List.take_of_length_le (by omega)], rfl⟩
end Go.Proofs.YtolpkeajokjbjaaDoor
namespace Go.Proofs.YtolpkeajokjbjaaDoor
open Go.RowKit Go.L Go.Lib
attribute [local irreducible] LL LW LO
def blkB (r : Rg) (out : List Vx) (v u : Vx) : Bool := decide (u ∈ out) || !decide (v ∈ behindG r u)
def freeB (r : Rg) (out : List Vx) (v : Vx) (l : List Vx) : Bool := decide (v ∉ out) && l.all (blkB r out v)
theorem freeB_snoc (r : Rg) (out : List Vx) (v u : Vx) (l : List Vx) : freeB r out v (l ++ [u]) = (freeB r out v l && blkB r out v u) := by
  unfold freeB
  rw [List.all_append, List.all_cons, List.all_nil, Bool.and_true, Bool.and_assoc]
theorem freeB_rest {r : Rg} {out : List Vx} {v : Vx} {l : List Vx} {k : Nat} (h : freeB r out v (l.take k) = false) : freeB r out v l = false := by
  unfold freeB at h ⊢
  rw [← List.take_append_drop k l, List.all_append, ← Bool.and_assoc, h, Bool.false_and]
theorem Run.clo {r : Rg} (h : Ok r) {out : List Vx} (hr : Run (Ee r) (Ss r) out) {u v : Vx} (hu : u ∈ idsG r.L) (hp : Rch (nxE (Er r)) u v) : ∀ {i : Nat}, out[i]? = some v → u ∈ out.take i := by
  induction hp with
  | one hd => intro i hi; exact hr.before hi hu hd
  | step hz hd ih =>
    rename_i z y
    intro i hi
    rcases h.rch_last hz with e | e
    · rw [e] at hd; exact absurd (nxE_mem.1 hd) h.from_bot
    · have hm := hr.before hi e hd
      obtain ⟨j, hj⟩ := List.getElem?_of_mem hm
      have hji : j < i := by
        have := (List.getElem?_eq_some_iff.1 hj).1
        rw [List.length_take] at this; omega
      rw [List.getElem?_take_of_lt hji] at hj
      exact (List.take_sublist_take_left (by omega)).subset (ih hj)
theorem rdy_free {r : Rg} (h : Ok r) {out : List Vx} (hr : Run (Ee r) (Ss r) out) {v : Vx} (hv : v ∈ idsG r.L) : freeB r out v (idsG r.L) = true ↔ Rdy (Ee r) (Ss r) out v := by
  unfold freeB Rdy
  rw [Bool.and_eq_true, decide_eq_true_eq, List.all_eq_true]
  have hb : ∀ u, v ∈ behindG r u ↔ Rch (nxE (Er r)) u v := fun u => by rw [behind_mem fun a ha => (h.ne a ha).1, h.rchS]
  have hbl : ∀ u, blkB r out v u = true ↔ (Rch (nxE (Er r)) u v → u ∈ out) := fun u => by
    unfold blkB
    rw [Bool.or_eq_true, Bool.not_eq_true', decide_eq_true_eq, decide_eq_false_iff_not, hb]
    exact ⟨fun e hr => e.elim id fun f => absurd hr f, fun e => Classical.byCases (fun c => .inl (e c)) .inr⟩
  constructor
  · rintro ⟨h1, h2⟩
    exact ⟨hv, h1, fun u hu he => (hbl u).1 (h2 u hu) (.one he)⟩
  · rintro ⟨_, h1, h2⟩
    refine ⟨h1, fun u hu => (hbl u).2 fun hp => ?_⟩
    cases hp with
    | one hd => exact h2 u hu hd
    | step hz hd =>
      rename_i z
      rcases h.rch_last hz with e | e
      · rw [e] at hd; exact absurd (nxE_mem.1 hd) h.from_bot
      · have hm := h2 z e hd
        obtain ⟨i, hi⟩ := List.getElem?_of_mem hm
        exact List.mem_of_mem_take (Run.clo h hr hu hz hi)
abbrev bhL (r : Rg) (l : List Vx) : List (List LV) := l.map fun v => [Vxs (behindG r v) .unk]
theorem bhL_at {r : Rg} {l : List Vx} {i : Nat} {x : Vx} (h : l[i]? = some x) : (bhL r l)[(i : Int).toNat]? = some [Vxs (behindG r x) .unk] := by
  rw [Int.toNat_natCast, List.getElem?_map, h]; rfl
set_option maxHeartbeats 8000000 in
set_option maxRecDepth 100000 in
theorem rorder_calls (r : Rg) (ho : Ok r) : LCalls Tryd.prog 58 [.agg (rgL r)] [] (fun x H' => x = Vxs (orderG r) .unk ∧ H' = []) := by
  have hszs := ho.sizes
  have hlen := ho.len
  have hidl : ∀ a ∈ r.L, a.ids.length ≤ 512 := fun a ha => by
    have := nodup_len (ho.idsOf ha) (l := idsG r.L) fun x hx => ids_mem.2 ⟨_, ha, hx⟩
    omega
  have hne2 : ∀ a ∈ r.L, a.ids ≠ [] ∧ a.ids.length < 1000000 := fun a ha => ⟨(ho.ne a ha).1, by have := hidl a ha; omega⟩
  have hT : (allT r).length < 400000 := by
    have h2 : ∀ l : List Ad, (l.flatMap fun a => a.ids ++ [a.down]).length = (idsG l).length + l.length := fun l => by
      induction l with
      | nil => rfl
      | cons a l ih =>
        unfold idsG at ih ⊢
        rw [List.flatMap_cons, List.flatMap_cons, List.length_append, List.length_append, List.length_append, ih]
        simp only [List.length_cons, List.length_nil]
        omega
    unfold allT
    rw [List.length_cons, h2]
    omega
  have hbh := fun v => behind_calls r v (by omega) hne2 hT
  have hbl := fun v => behind_len r v fun a ha => (ho.ne a ha).1
  have hTl : (allT r).length ≤ 399999 := by omega
  have hstl := fun v => steps_len r v
  obtain ⟨O, hO⟩ : ∃ O, O = orderG r := ⟨_, rfl⟩
  rw [← hO]
  obtain ⟨S, hS⟩ : ∃ S, S = idsG r.L := ⟨_, rfl⟩
  have hidc : LCalls Tryd.prog 61 [.agg (rgL r)] [] (fun x H' => x = Vxs S .unk ∧ H' = []) := by rw [hS]; exact ids_calls r (by omega) (by omega)
  have hSl : S.length ≤ 512 := by rw [hS]; exact hlen
  have hend : ∀ out, Run (Ee r) (Ss r) out → (∀ v, ¬ Rdy (Ee r) (Ss r) out v) → out = O := fun out h1 h2 => by rw [hO]; exact OrdR.eq ⟨h1, h2⟩
  have hfull : ∀ out, Run (Ee r) (Ss r) out → S.length ≤ out.length → out = O := fun out h1 h2 => hend out h1 fun v hv => by
    have := nodup_len (List.nodup_cons.2 ⟨hv.2.1, h1.nodup⟩) (l := S) fun x hx => by
      rw [hS]
      rcases List.mem_cons.1 hx with e | e
      · rw [e]; exact hv.1
      · exact h1.mem x e
    rw [List.length_cons] at this
    omega
  refine LCalls.of Tryd.func58 rfl Tryd.ntmps58 Tryd.results58 rfl (fun Rf => ?_)
  refine LW.seq ?_
  refine LW.region ?_
  refine X.act (X.box rfl Is.rfl' (by exact Cells.agg) (fun b1 => ?_))
  refine X.u (LU.assign (Is.nil 33)) rfl ?_
  refine LL.nil (after_code ?_)
  refine LW.seq ?_
  refine LW.region ?_
  refine X.u (LU.assign (Is.nil 33)) rfl ?_
  refine LL.nil (after_code ?_)
  refine LW.seq ?_
  refine LW.region ?_
  refine X.u (LU.loadO 0 rfl ⟨Tryd.sizeOf59, Tryd.isAgg59⟩ Is.rfl' (Part.whole (by (simp; done)))) rfl ?_
  refine X.u (LU.call (hidc) Tryd.func61 rfl rfl (Opds.cons Is.rfl' Opds.nil)) rfl ?_
  refine X.u (LU.assignS Is.rfl') rfl ?_
  refine LL.nil (after_code ?_)
  refine LW.seq ?_
  refine LW.region ?_
  refine X.u (LU.assign (Is.nil 1)) rfl ?_
  refine LL.nil (after_code ?_)
  refine LW.seq ?_
  refine LW.seq ?_
  refine LW.region ?_
  refine X.u (LU.assignR Is.rfl') rfl ?_
  refine LL.nil (after_code ?_)
  refine LW.block ?_
  refine X.wweak (t := 5) (v := .sl 1 (bhL r []) (.tok 0 0 0)) (Is.full_tok 0 0) ?_
  refine X.wghost (HSub.tail0 0 0 0 (Nat.le_refl _) _) ?_
  refine X.loopK (α := Nat × Nat × Nat × Nat) (fun ⟨i, b, o, c⟩ => [(6, i64 i), (5, .sl 1 (bhL r (S.take i)) (.tok b o c))]) [1, 2, 3, 4] (fun ⟨i, b, o, c⟩ => .tail b o c :: .cells b1 59 (rgL r) :: Rf) (fun ⟨i, b, o, c⟩ => i ≤ S.length) (fun ⟨i, b, o, c⟩ => S.length - i) ((0, 0, 0, 0)) (EnvLe.cons (by rfl) (EnvLe.cons (by rfl) (EnvLe.nil))) (by repeat (exact HSub.refl _)) ?_ ?_
  · exact Nat.zero_le _
  · rintro ⟨i, b, o, c⟩ hI
    refine LW.seq ?_
    refine LW.seq ?_
    refine LW.region ?_
    refine X.u (LU.moveR Is.rfl') rfl ?_
    refine X.u (LU.moveS Is.rfl') rfl ?_
    refine X.u (LU.lenN Tryd.underlying26 Is.rfl' (by (simp only [Option.getD_some, Option.getD_none, byteEls_length, intEls_length, List.length_append, List.length_cons, List.length_nil, List.length_map, List.length_drop, List.length_take, Int.toNat_natCast]; rfl))) rfl ?_
    refine X.u (LU.lss Is.rfl' Is.rfl') rfl ?_
    refine LL.nil (after_code ?_)
    refine X.cond rfl (fun h5 => ?_) (fun h5 => ?_)
    · try have h5 := of_decide_eq_true h5
      refine LW.skip (after_code ?_)
      refine LW.seq ?_
      refine LW.block ?_
      obtain ⟨v, hv⟩ := at_lt (show i < S.length by omega)
      have hvl := vxL_len v
      have hv32 : v.p.1.length = 32 := v.p.2
      have htk : (bhL r (S.take i)).length = i := by rw [List.length_map, List.length_take]; omega
      refine X.drawM 8 rfl (by kernel_rfl) rfl ?_
      refine QD.u (LU.moveS Is.rfl') rfl ?_
      refine QD.u (LU.loadO 1 rfl ⟨Tryd.sizeOf59, Tryd.isAgg59⟩ Is.rfl' (Part.whole (by (simp; done)))) rfl ?_
      refine QD.u (LU.moveS Is.rfl') rfl ?_
      refine QD.u (LU.moveR Is.rfl') rfl ?_
      refine QD.u (LU.at Tryd.underlying26 ⟨Tryd.sizeOf35, Tryd.isAgg35⟩ Is.rfl' Is.rfl' (by omega) (vxs_at hv) (vx_ne v)) rfl ?_
      refine QD.u (LU.weak (LU.load ⟨Tryd.sizeOf35, Tryd.isAgg35⟩ Is.rfl' (by assumption) (Part.whole (by assumption))) (Is.of (y := .agg (vxL v)) (rfl))) rfl ?_
      refine QD.u (LU.call (hbh v) Tryd.func62 rfl rfl (Opds.cons Is.rfl' (Opds.cons Is.rfl' Opds.nil))) rfl ?_
      refine QD.u (LU.lits Tryd.underlying113 Tryd.sizeOf26 Tryd.zeroValue26 (ones rfl) rfl (by decide) (by decide) (Elems.cons Is.rfl' (by exact Cells.sl) Elems.nil) (by (simp; done)) rfl) rfl ?_
      refine QD.nil ?_
      refine X.act (X.append 0 rfl rfl Tryd.underlying113 (El.of (P := Tryd.prog) (z := (.slice none 0 0)) (size := 1) (bytes := 24) rfl rfl rfl) Is.rfl' Is.rfl' (SrcL.slice Tryd.underlying113 (by decide) (by intro e he; rw [List.mem_singleton.1 he]; rfl)) (by simp only [Option.getD_some, Option.getD_none, byteEls_length, intEls_length, List.length_append, List.length_cons, List.length_nil, List.length_map, List.length_drop, List.length_take, Int.toNat_natCast]; omega) (by simp only [Option.getD_some, Option.getD_none, byteEls_length, intEls_length, List.length_append, List.length_cons, List.length_nil, List.length_map, List.length_drop, List.length_take, Int.toNat_natCast]; omega) (fun b32 o32 c32 => X.weak (t := 32) (Is.of (y := .sl 1 (bhL r (S.take (i + 1))) (.tok b32 o32 c32)) (congrArg (fun z => LV.sl 1 z (.tok b32 o32 c32)) (by rw [take_snoc hv]; exact (List.map_append (f := fun v => [Vxs (behindG r v) .unk]) (l₁ := S.take i) (l₂ := [v])).symm))) ?_))
      refine X.u (LU.assignS Is.rfl') rfl ?_
      refine LL.nil (after_blk (after_code ?_))
      refine LW.region ?_
      refine X.u (LU.moveR Is.rfl') rfl ?_
      refine X.u (LU.addN Is.rfl' Is.rfl' (wrap_i64 (by omega) (by omega))) rfl ?_
      refine X.u (LU.assignR Is.rfl') rfl ?_
      refine LL.nil (after_rnd ?_)
      refine X.next ((i + 1, b32, o32, c32)) rfl (EnvLe.cons (by rfl) (EnvLe.cons (by rfl) (EnvLe.nil))) (Keeps.cons (by exact Eq.trans (b := .raw _) rfl rfl) (Keeps.cons (by exact Eq.trans (b := .sl _ _ _) rfl rfl) (Keeps.cons (by exact Eq.trans (b := .sl _ _ _) rfl rfl) (Keeps.cons (by exact Eq.trans (b := .sl _ _ _) rfl rfl) (Keeps.nil))))) (by repeat (exact HSub.refl _)) ?_ ?_
      · omega
      · (simp; omega)
    · try have h5 := of_decide_eq_false h5
      refine LW.exit (exit_code (exit_rnd (exit_blk (after_code ?_))))
      refine LW.seq ?_
      refine X.wweak (t := 5) (v := .sl 1 (bhL r S) .unk) (show Is (.sl 1 (bhL r (S.take i)) (.tok b o c)) (.sl 1 (bhL r S) .unk) from by rw [List.take_of_length_le (show S.length ≤ i by omega)]; exact Is.unk) ?_
      refine X.wweak (t := 3) (v := Vxs [] (.tok 0 0 0)) (Is.full_tok 0 0) ?_
      refine X.wghost (H' := .tail 0 0 0 :: .cells b1 59 (rgL r) :: Rf) (HSub.trans (HSub.drop (HSub.refl _)) (HSub.tail0 0 0 0 (Nat.le_refl _) _)) ?_
      refine LW.region ?_
      refine X.u (LU.call (top_calls) Tryd.func71 rfl rfl Opds.nil) rfl ?_
      refine X.act (X.alloc rfl Tryd.zeroValue35 (by exact Cells.rawagg (by decide)) (fun b7 => ?_))
      refine X.act (X.store 0 rfl Tryd.sizeOf35 Is.rfl' Is.rfl' (by exact Cells.agg) (by (simp; done)) (by exact Nat.le_of_ble_eq_true rfl) ?_)
      refine LL.nil (after_code ?_)
      refine LW.seq ?_
      refine LW.block ?_
      rw [putAt_all (by rw [vxL_len]; rfl)]
      refine X.wghost (H' := .tail 0 0 0 :: .cells b7 35 (vxL topV) :: .cells b1 59 (rgL r) :: Rf) (by repeat (first | exact HSub.refl _ | refine HSub.pick 1 rfl ?_)) ?_
      refine X.loopK (α := List Vx × Nat × Nat × Nat) (fun ⟨out, b, o, c⟩ => [(3, Vxs out (.tok b o c))]) [1, 4, 5, 7] (fun ⟨out, b, o, c⟩ => .tail b o c :: .cells b7 35 (vxL (lastO out)) :: .cells b1 59 (rgL r) :: Rf) (fun ⟨out, b, o, c⟩ => Run (Ee r) (Ss r) out) (fun ⟨out, b, o, c⟩ => S.length - out.length) (([], 0, 0, 0)) (EnvLe.cons (by rfl) (EnvLe.nil)) (by repeat (exact HSub.refl _)) ?_ ?_
      · exact Run.nil
      · rintro ⟨out, b, o, c⟩ hI
        have hrun := hI
        have hol : out.length ≤ S.length := by rw [hS]; exact run_len ho hrun
        have hll := vxL_len (lastO out)
        have hl32 : (lastO out).p.1.length = 32 := (lastO out).p.2
        have hl32s : (out.getLast?.getD topV).p.1.length = 32 := (out.getLast?.getD topV).p.2
        refine LW.seq ?_
        refine LW.seq ?_
        refine LW.region ?_
        refine X.u (LU.moveS Is.rfl') rfl ?_
        refine X.u (LU.lenN Tryd.underlying26 Is.rfl' (by (simp only [Option.getD_some, Option.getD_none, byteEls_length, intEls_length, List.length_append, List.length_cons, List.length_nil, List.length_map, List.length_drop, List.length_take, Int.toNat_natCast]; rfl))) rfl ?_
        refine X.u (LU.moveS Is.rfl') rfl ?_
        refine X.u (LU.lenN Tryd.underlying26 Is.rfl' (by (simp only [Option.getD_some, Option.getD_none, byteEls_length, intEls_length, List.length_append, List.length_cons, List.length_nil, List.length_map, List.length_drop, List.length_take, Int.toNat_natCast]; rfl))) rfl ?_
        refine X.u (LU.lss Is.rfl' Is.rfl') rfl ?_
        refine LL.nil (after_code ?_)
        refine X.cond rfl (fun h9 => ?_) (fun h9 => ?_)
        · try have h9 := of_decide_eq_true h9
          refine LW.skip (after_code ?_)
          refine LW.block ?_
          refine LW.seq ?_
          refine LW.region ?_
          refine X.u (LU.assign (Is.nil 33)) rfl ?_
          refine LL.nil (after_code ?_)
          refine LW.seq ?_
          refine LW.seq ?_
          refine LW.region ?_
          refine X.u (LU.assignR Is.rfl') rfl ?_
          refine LL.nil (after_code ?_)
          refine LW.block ?_
          refine X.wweak (t := 8) (v := Vxs [] (.tok 0 0 0)) (Is.full_tok 0 0) ?_
          refine X.wghost (HSub.tail0 0 0 0 (Nat.le_refl _) _) ?_
          refine X.loopK (α := Nat × List Vx × Nat × Nat × Nat) (fun ⟨i, Rl, b2, o2, c2⟩ => [(9, i64 i), (8, Vxs Rl (.tok b2 o2 c2))]) [1, 3, 4, 5, 7] (fun ⟨i, Rl, b2, o2, c2⟩ => .tail b2 o2 c2 :: .tail b o c :: .cells b7 35 (vxL (lastO out)) :: .cells b1 59 (rgL r) :: Rf) (fun ⟨i, Rl, b2, o2, c2⟩ => i ≤ S.length ∧ Rl = (S.take i).filter (fun v => freeB r out v S)) (fun ⟨i, Rl, b2, o2, c2⟩ => S.length - i) ((0, [], 0, 0, 0)) (EnvLe.cons (by rfl) (EnvLe.cons (by rfl) (EnvLe.nil))) (by repeat (exact HSub.refl _)) ?_ ?_
          · exact ⟨Nat.zero_le _, by simp⟩
          · rintro ⟨i, Rl, b2, o2, c2⟩ hI
            obtain ⟨hi, hR⟩ := hI
            have hRl : Rl.length ≤ i := by
              rw [hR]
              refine Nat.le_trans (List.length_filter_le _ _) ?_
              rw [List.length_take]; omega
            refine LW.seq ?_
            refine LW.seq ?_
            refine LW.region ?_
            refine X.u (LU.moveR Is.rfl') rfl ?_
            refine X.u (LU.moveS Is.rfl') rfl ?_
            refine X.u (LU.lenN Tryd.underlying26 Is.rfl' (by (simp only [Option.getD_some, Option.getD_none, byteEls_length, intEls_length, List.length_append, List.length_cons, List.length_nil, List.length_map, List.length_drop, List.length_take, Int.toNat_natCast]; rfl))) rfl ?_
            refine X.u (LU.lss Is.rfl' Is.rfl') rfl ?_
            refine LL.nil (after_code ?_)
            refine X.cond rfl (fun h12 => ?_) (fun h12 => ?_)
            · try have h12 := of_decide_eq_true h12
              refine LW.skip (after_code ?_)
              refine LW.seq ?_
              refine LW.block ?_
              refine LW.seq ?_
              obtain ⟨v, hv⟩ := at_lt (show i < S.length by omega)
              have hvl := vxL_len v
              have hv32 : v.p.1.length = 32 := v.p.2
              refine LW.region ?_
              refine X.u (LU.moveS Is.rfl') rfl ?_
              refine X.u (LU.moveS Is.rfl') rfl ?_
              refine X.u (LU.moveR Is.rfl') rfl ?_
              refine X.u (LU.at Tryd.underlying26 ⟨Tryd.sizeOf35, Tryd.isAgg35⟩ Is.rfl' Is.rfl' (by omega) (vxs_at hv) (vx_ne v)) rfl ?_
              refine X.u (LU.weak (LU.load ⟨Tryd.sizeOf35, Tryd.isAgg35⟩ Is.rfl' (by assumption) (Part.whole (by assumption))) (Is.of (y := .agg (vxL v)) (rfl))) rfl ?_
              refine X.u (LU.call (place_calls out (.tok b o c) v (by omega)) Tryd.func63 rfl rfl (Opds.cons Is.rfl' (Opds.cons Is.rfl' Opds.nil))) rfl ?_
              refine X.u (LU.weak (LU.lss Is.rfl' Is.rfl') (Is.of (y := bl (freeB r out v [])) (congrArg bl (by unfold freeB; rw [List.all_nil, Bool.and_true, decide_eq_decide]; exact placeG_neg)))) rfl ?_
              refine X.u (LU.assignR Is.rfl') rfl ?_
              refine LL.nil (after_code ?_)
              refine LW.seq ?_
              refine LW.seq ?_
              refine LW.region ?_
              refine X.u (LU.assignR Is.rfl') rfl ?_
              refine LL.nil (after_code ?_)
              refine LW.block ?_
              refine X.loopK (α := Nat × Bool) (fun ⟨k, fb⟩ => [(11, i64 k), (10, bl fb)]) [1, 3, 4, 5, 7, 8, 9] (fun ⟨k, fb⟩ => .tail b2 o2 c2 :: .tail b o c :: .cells b7 35 (vxL (lastO out)) :: .cells b1 59 (rgL r) :: Rf) (fun ⟨k, fb⟩ => k ≤ S.length ∧ fb = freeB r out v (S.take k)) (fun ⟨k, fb⟩ => S.length - k) ((0, freeB r out v [])) (EnvLe.cons (by rfl) (EnvLe.cons (by rfl) (EnvLe.nil))) (by repeat (exact HSub.refl _)) ?_ ?_
              · exact ⟨Nat.zero_le _, by simp⟩
              · rintro ⟨k, fb⟩ hI
                obtain ⟨hk, hfb⟩ := hI
                refine LW.seq ?_
                refine LW.seq ?_
                refine LW.region ?_
                refine X.u (LU.moveR Is.rfl') rfl ?_
                refine X.u (LU.moveS Is.rfl') rfl ?_
                refine X.u (LU.lenN Tryd.underlying26 Is.rfl' (by (simp only [Option.getD_some, Option.getD_none, byteEls_length, intEls_length, List.length_append, List.length_cons, List.length_nil, List.length_map, List.length_drop, List.length_take, Int.toNat_natCast]; rfl))) rfl ?_
                refine X.u (LU.lss Is.rfl' Is.rfl') rfl ?_
                refine X.u (LU.moveR Is.rfl') rfl ?_
                refine X.gT rfl rfl (fun hg => LU.moveR (by exact Is.rfl')) rfl ?_
                refine X.u (LU.pickAnd Is.rfl' (fun hq => (by exact Is.whenE hq)) Is.rfl') rfl ?_
                refine LL.nil (after_code ?_)
                refine X.cond rfl (fun h16 => ?_) (fun h16 => ?_)
                · have h16 : k < S.length ∧ fb = true := by simpa using h16
                  obtain ⟨u, hu⟩ := at_lt h16.1
                  have hul := vxL_len u
                  have hu32 : u.p.1.length = 32 := u.p.2
                  have hbul : (behindG r u).length < 9223372036854775807 := by have := hbl u; omega
                  refine LW.skip (after_code ?_)
                  refine LW.seq ?_
                  refine LW.block ?_
                  refine LW.seq ?_
                  refine X.drawM 19 rfl (by kernel_rfl) rfl ?_
                  refine QD.u (LU.moveS Is.rfl') rfl ?_
                  refine QD.u (LU.moveS Is.rfl') rfl ?_
                  refine QD.u (LU.moveR Is.rfl') rfl ?_
                  refine QD.u (LU.at Tryd.underlying26 ⟨Tryd.sizeOf35, Tryd.isAgg35⟩ Is.rfl' Is.rfl' (by omega) (vxs_at hu) (vx_ne u)) rfl ?_
                  refine QD.u (LU.weak (LU.load ⟨Tryd.sizeOf35, Tryd.isAgg35⟩ Is.rfl' (by assumption) (Part.whole (by assumption))) (Is.of (y := .agg (vxL u)) (rfl))) rfl ?_
                  refine QD.u (LU.call (place_calls out (.tok b o c) u (by omega)) Tryd.func63 rfl rfl (Opds.cons Is.rfl' (Opds.cons Is.rfl' Opds.nil))) rfl ?_
                  refine QD.u (LU.lss Is.rfl' Is.rfl') rfl ?_
                  refine QD.u (LU.moveR Is.rfl') rfl ?_
                  refine QD.gT rfl rfl (fun hg => LU.moveS (by exact Is.rfl')) rfl ?_
                  refine QD.gT rfl rfl (fun hg => LU.moveR (by exact Is.rfl')) rfl ?_
                  refine QD.gT rfl rfl (fun hg => LU.at Tryd.underlying113 ⟨Tryd.sizeOf26, Tryd.isAgg26⟩ (by exact Is.whenE hg) (by exact Is.whenE hg) (by omega) (bhL_at hu) (by simp)) rfl ?_
                  refine QD.gT rfl rfl (fun hg => LU.load ⟨Tryd.sizeOf26, Tryd.isAgg26⟩ (by exact Is.whenE hg) (by (simp; done)) (Part.one rfl)) rfl ?_
                  refine QD.gT rfl rfl (fun hg => LU.moveS (by exact Is.rfl')) rfl ?_
                  refine QD.gT rfl rfl (fun hg => LU.moveR (by exact Is.rfl')) rfl ?_
                  refine QD.gT rfl rfl (fun hg => LU.at Tryd.underlying26 ⟨Tryd.sizeOf35, Tryd.isAgg35⟩ (by exact Is.whenE hg) (by exact Is.whenE hg) (by omega) (vxs_at hv) (vx_ne v)) rfl ?_
                  refine QD.gT rfl rfl (fun hg => LU.weak (LU.load ⟨Tryd.sizeOf35, Tryd.isAgg35⟩ (by exact Is.whenE hg) (by assumption) (Part.whole (by assumption))) (Is.of (y := .agg (vxL v)) (rfl))) rfl ?_
                  refine QD.gT rfl rfl (fun hg => LU.call (place_calls (behindG r u) .unk v hbul) Tryd.func63 rfl rfl (Opds.cons (by exact Is.whenE hg) (Opds.cons (by exact Is.whenE hg) Opds.nil))) rfl ?_
                  refine QD.gT rfl rfl (fun hg => LU.geq (by exact Is.whenE hg) (by exact Is.rfl')) rfl ?_
                  refine QD.u (LU.pickAnd Is.rfl' (fun hq => (by exact Is.whenE hq)) Is.rfl') rfl ?_
                  refine QD.nil ?_
                  refine LL.nil (after_code ?_)
                  refine X.cond rfl (fun h18 => ?_) (fun h18 => ?_)
                  · have h18 : placeG out u < 0 ∧ 0 ≤ placeG (behindG r u) v := by simpa using h18
                    have hbk : blkB r out v u = false := by
                      unfold blkB
                      rw [decide_eq_false (placeG_neg.1 h18.1), Bool.false_or, decide_eq_true (Classical.byContradiction fun c => absurd (placeG_neg.2 c) (by omega))]; rfl
                    refine LW.region ?_
                    refine X.u (LU.assignR Is.rfl') rfl ?_
                    refine LL.nil (after_blk (after_code ?_))
                    refine LW.region ?_
                    refine X.u (LU.moveR Is.rfl') rfl ?_
                    refine X.u (LU.addN Is.rfl' Is.rfl' (wrap_i64 (by omega) (by omega))) rfl ?_
                    refine X.u (LU.assignR Is.rfl') rfl ?_
                    refine LL.nil (after_rnd ?_)
                    refine X.next ((k + 1, false)) rfl (EnvLe.cons (by rfl) (EnvLe.cons (by rfl) (EnvLe.nil))) (Keeps.cons (by exact Eq.trans (b := .raw _) rfl rfl) (Keeps.cons (by exact Eq.trans (b := .sl _ _ _) rfl rfl) (Keeps.cons (by exact Eq.trans (b := .sl _ _ _) rfl rfl) (Keeps.cons (by exact Eq.trans (b := .sl _ _ _) rfl rfl) (Keeps.cons (by exact Eq.trans (b := .raw _) rfl rfl) (Keeps.cons (by exact Eq.trans (b := .sl _ _ _) rfl rfl) (Keeps.cons (by exact Eq.trans (b := .raw _) rfl rfl) (Keeps.nil)))))))) (by repeat (exact HSub.refl _)) ?_ ?_
                    · exact ⟨by omega, by rw [take_snoc hu, freeB_snoc, hbk, Bool.and_false]⟩
                    · (simp; omega)
                  · have h18 : ¬ (placeG out u < 0 ∧ 0 ≤ placeG (behindG r u) v) := by simpa using h18
                    have hbk : blkB r out v u = true := by
                      unfold blkB
                      by_cases c : u ∈ out
                      · rw [decide_eq_true c]; rfl
                      · rw [decide_eq_false (fun hm => h18 ⟨placeG_neg.2 c, placeG_nn hm⟩)]; simp
                    refine LW.skip (after_blk (after_code ?_))
                    refine LW.region ?_
                    refine X.u (LU.moveR Is.rfl') rfl ?_
                    refine X.u (LU.addN Is.rfl' Is.rfl' (wrap_i64 (by omega) (by omega))) rfl ?_
                    refine X.u (LU.assignR Is.rfl') rfl ?_
                    refine LL.nil (after_rnd ?_)
                    refine X.next ((k + 1, fb)) rfl (EnvLe.cons (by rfl) (EnvLe.cons (by rfl) (EnvLe.nil))) (Keeps.cons (by exact Eq.trans (b := .raw _) rfl rfl) (Keeps.cons (by exact Eq.trans (b := .sl _ _ _) rfl rfl) (Keeps.cons (by exact Eq.trans (b := .sl _ _ _) rfl rfl) (Keeps.cons (by exact Eq.trans (b := .sl _ _ _) rfl rfl) (Keeps.cons (by exact Eq.trans (b := .raw _) rfl rfl) (Keeps.cons (by exact Eq.trans (b := .sl _ _ _) rfl rfl) (Keeps.cons (by exact Eq.trans (b := .raw _) rfl rfl) (Keeps.nil)))))))) (by repeat (exact HSub.refl _)) ?_ ?_
                    · exact ⟨by omega, by rw [take_snoc hu, freeB_snoc, hbk, Bool.and_true, ← hfb]⟩
                    · (simp; omega)
                · have h16 : ¬ (k < S.length ∧ fb = true) := by simpa using h16
                  have hfr : fb = freeB r out v S := by
                    by_cases c : k < S.length
                    · have hff : fb = false := by
                        cases hq : fb with
                        | false => rfl
                        | true => exact absurd ⟨c, hq⟩ h16
                      rw [hff]
                      rw [hff] at hfb
                      exact (freeB_rest hfb.symm).symm
                    · rw [hfb, List.take_of_length_le (by omega)]
                  refine LW.exit (exit_code (exit_rnd (exit_blk (after_code ?_))))
                  refine LW.seq ?_
                  refine LW.region ?_
                  refine X.u (LU.moveR Is.rfl') rfl ?_
                  refine LL.nil (after_code ?_)
                  refine X.cond rfl (fun h20 => ?_) (fun h20 => ?_)
                  · have h20 : freeB r out v S = true := by rw [← hfr]; simpa using h20
                    have hz0 : (0 : Nat) = 0 := rfl
                    refine LW.region ?_
                    refine X.u (LU.moveS Is.rfl') rfl ?_
                    refine X.u (LU.moveS Is.rfl') rfl ?_
                    refine X.u (LU.moveR Is.rfl') rfl ?_
                    refine X.u (LU.at Tryd.underlying26 ⟨Tryd.sizeOf35, Tryd.isAgg35⟩ Is.rfl' Is.rfl' (by omega) (vxs_at hv) (vx_ne v)) rfl ?_
                    refine X.u (LU.weak (LU.load ⟨Tryd.sizeOf35, Tryd.isAgg35⟩ Is.rfl' (by assumption) (Part.whole (by assumption))) (Is.of (y := .agg (vxL v)) (rfl))) rfl ?_
                    refine X.u (LU.lits Tryd.underlying26 Tryd.sizeOf35 Tryd.zeroValue35 (ones rfl) rfl (by decide) (by decide) (Elems.cons Is.rfl' (by exact Cells.agg) Elems.nil) (by (simp; assumption)) rfl) rfl ?_
                    refine X.act (X.append 0 rfl rfl Tryd.underlying26 (El.of (P := Tryd.prog) (z := (.agg #[(.int .u8 0), (.int .u8 0), (.int .u8 0), (.int .u8 0), (.int .u8 0), (.int .u8 0), (.int .u8 0), (.int .u8 0), (.int .u8 0), (.int .u8 0), (.int .u8 0), (.int .u8 0), (.int .u8 0), (.int .u8 0), (.int .u8 0), (.int .u8 0), (.int .u8 0), (.int .u8 0), (.int .u8 0), (.int .u8 0), (.int .u8 0), (.int .u8 0), (.int .u8 0), (.int .u8 0), (.int .u8 0), (.int .u8 0), (.int .u8 0), (.int .u8 0), (.int .u8 0), (.int .u8 0), (.int .u8 0), (.int .u8 0), (.int .i64 0)])) (size := 33) (bytes := 40) rfl rfl rfl) Is.rfl' Is.rfl' (SrcL.slice Tryd.underlying26 (by decide) (by intro e he; rw [List.mem_singleton.1 he]; exact hvl)) (by simp only [Option.getD_some, Option.getD_none, byteEls_length, intEls_length, List.length_append, List.length_cons, List.length_nil, List.length_map, List.length_drop, List.length_take, Int.toNat_natCast]; omega) (by simp only [Option.getD_some, Option.getD_none, byteEls_length, intEls_length, List.length_append, List.length_cons, List.length_nil, List.length_map, List.length_drop, List.length_take, Int.toNat_natCast]; omega) (fun b87 o87 c87 => X.weak (t := 87) (Is.of (y := Vxs (Rl ++ [v]) (.tok b87 o87 c87)) (congrArg (fun z => LV.sl 33 z (.tok b87 o87 c87)) (vxs_app Rl [v]))) ?_))
                    refine X.u (LU.assignS Is.rfl') rfl ?_
                    refine LL.nil (after_blk (after_code ?_))
                    refine LW.region ?_
                    refine X.u (LU.moveR Is.rfl') rfl ?_
                    refine X.u (LU.addN Is.rfl' Is.rfl' (wrap_i64 (by omega) (by omega))) rfl ?_
                    refine X.u (LU.assignR Is.rfl') rfl ?_
                    refine LL.nil (after_rnd ?_)
                    refine X.next ((i + 1, Rl ++ [v], b87, o87, c87)) rfl (EnvLe.cons (by rfl) (EnvLe.cons (by rfl) (EnvLe.nil))) (Keeps.cons (by exact Eq.trans (b := .raw _) rfl rfl) (Keeps.cons (by exact Eq.trans (b := .sl _ _ _) rfl rfl) (Keeps.cons (by exact Eq.trans (b := .sl _ _ _) rfl rfl) (Keeps.cons (by exact Eq.trans (b := .sl _ _ _) rfl rfl) (Keeps.cons (by exact Eq.trans (b := .raw _) rfl rfl) (Keeps.nil)))))) (by repeat (exact HSub.refl _)) ?_ ?_
                    · exact ⟨by omega, by rw [take_snoc hv, List.filter_append, ← hR, List.filter_cons, if_pos h20]; rfl⟩
                    · (simp; omega)
                  · have h20 : freeB r out v S = false := by rw [← hfr]; simpa using h20
                    have hz0 : (0 : Nat) = 0 := rfl
                    refine LW.skip (after_blk (after_code ?_))
                    refine LW.region ?_
                    refine X.u (LU.moveR Is.rfl') rfl ?_
                    refine X.u (LU.addN Is.rfl' Is.rfl' (wrap_i64 (by omega) (by omega))) rfl ?_
                    refine X.u (LU.assignR Is.rfl') rfl ?_
                    refine LL.nil (after_rnd ?_)
                    refine X.next ((i + 1, Rl, b2, o2, c2)) rfl (EnvLe.cons (by rfl) (EnvLe.cons (by rfl) (EnvLe.nil))) (Keeps.cons (by exact Eq.trans (b := .raw _) rfl rfl) (Keeps.cons (by exact Eq.trans (b := .sl _ _ _) rfl rfl) (Keeps.cons (by exact Eq.trans (b := .sl _ _ _) rfl rfl) (Keeps.cons (by exact Eq.trans (b := .sl _ _ _) rfl rfl) (Keeps.cons (by exact Eq.trans (b := .raw _) rfl rfl) (Keeps.nil)))))) (by repeat (exact HSub.refl _)) ?_ ?_
                    · exact ⟨by omega, by rw [take_snoc hv, List.filter_append, ← hR, List.filter_cons, if_neg (by rw [h20]; decide)]; simp⟩
                    · (simp; omega)
            · have hiS : i = S.length := by have := of_decide_eq_false h12; omega
              rw [hiS, List.take_length] at hR
              have hRdy : ∀ w, w ∈ Rl ↔ Rdy (Ee r) (Ss r) out w := fun w => by
                rw [hR, List.mem_filter]
                constructor
                · rintro ⟨e1, e2⟩; rw [hS] at e1 e2; exact (rdy_free ho hrun e1).1 e2
                · intro e; have e1 : w ∈ idsG r.L := e.1; rw [hS]; exact ⟨e1, (rdy_free ho hrun e1).2 e⟩
              refine LW.exit (exit_code (exit_rnd (exit_blk (after_code ?_))))
              refine LW.seq ?_
              refine LW.region ?_
              refine X.u (LU.assign (Is.nil 33)) rfl ?_
              refine LL.nil (after_code ?_)
              refine LW.seq ?_
              refine LW.region ?_
              refine X.u (LU.loadO 3 rfl ⟨Tryd.sizeOf59, Tryd.isAgg59⟩ Is.rfl' (Part.whole (by (simp; done)))) rfl ?_
              refine X.u (LU.loadO 2 rfl ⟨Tryd.sizeOf35, Tryd.isAgg35⟩ Is.rfl' (Part.whole (by assumption))) rfl ?_
              refine X.act (X.call (steps_calls r (lastO out) (by omega) hne2) Tryd.func72 rfl rfl rfl (HSub.refl _) (Opds.cons Is.rfl' (Opds.cons Is.rfl' Opds.nil)) ?_)
              rintro r H' ⟨b90, o90, c90, rfl, rfl⟩
              refine X.u (LU.assignS Is.rfl') rfl ?_
              refine LL.nil (after_code ?_)
              refine LW.seq ?_
              refine LW.seq ?_
              refine LW.region ?_
              refine X.u (LU.assignR Is.rfl') rfl ?_
              refine LL.nil (after_code ?_)
              refine LW.block ?_
              have hstp := hstl (lastO out)
              refine X.wweak (t := 12) (v := Vxs [] (.tok 0 0 0)) (Is.full_tok 0 0) ?_
              refine X.wghost (HSub.tail0 0 0 0 (Nat.le_refl _) _) ?_
              refine X.loopK (α := Nat × List Vx × Nat × Nat × Nat) (fun ⟨j, Nl, b3, o3, c3⟩ => [(14, i64 j), (12, Vxs Nl (.tok b3 o3 c3))]) [1, 3, 4, 5, 7, 8, 13] (fun ⟨j, Nl, b3, o3, c3⟩ => .tail b3 o3 c3 :: .tail b o c :: .cells b7 35 (vxL (lastO out)) :: .cells b1 59 (rgL r) :: Rf) (fun ⟨j, Nl, b3, o3, c3⟩ => j ≤ Rl.length ∧ Nl = (Rl.take j).filter (fun v => decide (v ∈ stepsG r (lastO out)))) (fun ⟨j, Nl, b3, o3, c3⟩ => Rl.length - j) ((0, [], 0, 0, 0)) (EnvLe.cons (by rfl) (EnvLe.cons (by rfl) (EnvLe.nil))) (by repeat (first | exact HSub.refl _ | refine HSub.pick 0 rfl ?_ | refine HSub.pick 2 rfl ?_ | refine HSub.drop ?_)) ?_ ?_
              · exact ⟨Nat.zero_le _, by simp⟩
              · rintro ⟨j, Nl, b3, o3, c3⟩ hI
                obtain ⟨hj, hN⟩ := hI
                have hNl : Nl.length ≤ j := by
                  rw [hN]
                  refine Nat.le_trans (List.length_filter_le _ _) ?_
                  rw [List.length_take]; omega
                refine LW.seq ?_
                refine LW.seq ?_
                refine LW.region ?_
                refine X.u (LU.moveR Is.rfl') rfl ?_
                refine X.u (LU.moveS Is.rfl') rfl ?_
                refine X.u (LU.lenN Tryd.underlying26 Is.rfl' (by (simp only [Option.getD_some, Option.getD_none, byteEls_length, intEls_length, List.length_append, List.length_cons, List.length_nil, List.length_map, List.length_drop, List.length_take, Int.toNat_natCast]; rfl))) rfl ?_
                refine X.u (LU.lss Is.rfl' Is.rfl') rfl ?_
                refine LL.nil (after_code ?_)
                refine X.cond rfl (fun h25 => ?_) (fun h25 => ?_)
                · try have h25 := of_decide_eq_true h25
                  refine LW.skip (after_code ?_)
                  refine LW.seq ?_
                  refine LW.block ?_
                  refine LW.seq ?_
                  obtain ⟨v, hv⟩ := at_lt (show j < Rl.length by omega)
                  have hvl := vxL_len v
                  have hv32 : v.p.1.length = 32 := v.p.2
                  refine LW.region ?_
                  refine X.u (LU.moveS Is.rfl') rfl ?_
                  refine X.u (LU.moveS Is.rfl') rfl ?_
                  refine X.u (LU.moveR Is.rfl') rfl ?_
                  refine X.u (LU.at Tryd.underlying26 ⟨Tryd.sizeOf35, Tryd.isAgg35⟩ Is.rfl' Is.rfl' (by omega) (vxs_at hv) (vx_ne v)) rfl ?_
                  refine X.u (LU.weak (LU.load ⟨Tryd.sizeOf35, Tryd.isAgg35⟩ Is.rfl' (by assumption) (Part.whole (by assumption))) (Is.of (y := .agg (vxL v)) (rfl))) rfl ?_
                  refine X.u (LU.call (place_calls (stepsG r (lastO out)) _ v (by omega)) Tryd.func63 rfl rfl (Opds.cons Is.rfl' (Opds.cons Is.rfl' Opds.nil))) rfl ?_
                  refine X.u (LU.geq Is.rfl' Is.rfl') rfl ?_
                  refine LL.nil (after_code ?_)
                  refine X.cond rfl (fun h27 => ?_) (fun h27 => ?_)
                  · have h27 : v ∈ stepsG r (lastO out) := Classical.byContradiction fun c => by have h0 := of_decide_eq_true h27; have := placeG_neg.2 c; omega
                    have hz0 : (0 : Nat) = 0 := rfl
                    refine LW.region ?_
                    refine X.u (LU.moveS Is.rfl') rfl ?_
                    refine X.u (LU.moveS Is.rfl') rfl ?_
                    refine X.u (LU.moveR Is.rfl') rfl ?_
                    refine X.u (LU.at Tryd.underlying26 ⟨Tryd.sizeOf35, Tryd.isAgg35⟩ Is.rfl' Is.rfl' (by omega) (vxs_at hv) (vx_ne v)) rfl ?_
                    refine X.u (LU.weak (LU.load ⟨Tryd.sizeOf35, Tryd.isAgg35⟩ Is.rfl' (by assumption) (Part.whole (by assumption))) (Is.of (y := .agg (vxL v)) (rfl))) rfl ?_
                    refine X.u (LU.lits Tryd.underlying26 Tryd.sizeOf35 Tryd.zeroValue35 (ones rfl) rfl (by decide) (by decide) (Elems.cons Is.rfl' (by exact Cells.agg) Elems.nil) (by (simp; assumption)) rfl) rfl ?_
                    refine X.act (X.append 0 rfl rfl Tryd.underlying26 (El.of (P := Tryd.prog) (z := (.agg #[(.int .u8 0), (.int .u8 0), (.int .u8 0), (.int .u8 0), (.int .u8 0), (.int .u8 0), (.int .u8 0), (.int .u8 0), (.int .u8 0), (.int .u8 0), (.int .u8 0), (.int .u8 0), (.int .u8 0), (.int .u8 0), (.int .u8 0), (.int .u8 0), (.int .u8 0), (.int .u8 0), (.int .u8 0), (.int .u8 0), (.int .u8 0), (.int .u8 0), (.int .u8 0), (.int .u8 0), (.int .u8 0), (.int .u8 0), (.int .u8 0), (.int .u8 0), (.int .u8 0), (.int .u8 0), (.int .u8 0), (.int .u8 0), (.int .i64 0)])) (size := 33) (bytes := 40) rfl rfl rfl) Is.rfl' Is.rfl' (SrcL.slice Tryd.underlying26 (by decide) (by intro e he; rw [List.mem_singleton.1 he]; exact hvl)) (by simp only [Option.getD_some, Option.getD_none, byteEls_length, intEls_length, List.length_append, List.length_cons, List.length_nil, List.length_map, List.length_drop, List.length_take, Int.toNat_natCast]; omega) (by simp only [Option.getD_some, Option.getD_none, byteEls_length, intEls_length, List.length_append, List.length_cons, List.length_nil, List.length_map, List.length_drop, List.length_take, Int.toNat_natCast]; omega) (fun b110 o110 c110 => X.weak (t := 110) (Is.of (y := Vxs (Nl ++ [v]) (.tok b110 o110 c110)) (congrArg (fun z => LV.sl 33 z (.tok b110 o110 c110)) (vxs_app Nl [v]))) ?_))
                    refine X.u (LU.assignS Is.rfl') rfl ?_
                    refine LL.nil (after_blk (after_code ?_))
                    refine LW.region ?_
                    refine X.u (LU.moveR Is.rfl') rfl ?_
                    refine X.u (LU.addN Is.rfl' Is.rfl' (wrap_i64 (by omega) (by omega))) rfl ?_
                    refine X.u (LU.assignR Is.rfl') rfl ?_
                    refine LL.nil (after_rnd ?_)
                    refine X.next ((j + 1, Nl ++ [v], b110, o110, c110)) rfl (EnvLe.cons (by rfl) (EnvLe.cons (by rfl) (EnvLe.nil))) (Keeps.cons (by exact Eq.trans (b := .raw _) rfl rfl) (Keeps.cons (by exact Eq.trans (b := .sl _ _ _) rfl rfl) (Keeps.cons (by exact Eq.trans (b := .sl _ _ _) rfl rfl) (Keeps.cons (by exact Eq.trans (b := .sl _ _ _) rfl rfl) (Keeps.cons (by exact Eq.trans (b := .raw _) rfl rfl) (Keeps.cons (by exact Eq.trans (b := .sl _ _ _) rfl rfl) (Keeps.cons (by exact Eq.trans (b := .sl _ _ _) rfl rfl) (Keeps.nil)))))))) (by repeat (exact HSub.refl _)) ?_ ?_
                    · exact ⟨by omega, by rw [take_snoc hv, List.filter_append, ← hN, List.filter_cons, if_pos (decide_eq_true h27)]; rfl⟩
                    · (simp; omega)
                  · have h27 : v ∉ stepsG r (lastO out) := fun c => of_decide_eq_false h27 (placeG_nn c)
                    have hz0 : (0 : Nat) = 0 := rfl
                    refine LW.skip (after_blk (after_code ?_))
                    refine LW.region ?_
                    refine X.u (LU.moveR Is.rfl') rfl ?_
                    refine X.u (LU.addN Is.rfl' Is.rfl' (wrap_i64 (by omega) (by omega))) rfl ?_
                    refine X.u (LU.assignR Is.rfl') rfl ?_
                    refine LL.nil (after_rnd ?_)
                    refine X.next ((j + 1, Nl, b3, o3, c3)) rfl (EnvLe.cons (by rfl) (EnvLe.cons (by rfl) (EnvLe.nil))) (Keeps.cons (by exact Eq.trans (b := .raw _) rfl rfl) (Keeps.cons (by exact Eq.trans (b := .sl _ _ _) rfl rfl) (Keeps.cons (by exact Eq.trans (b := .sl _ _ _) rfl rfl) (Keeps.cons (by exact Eq.trans (b := .sl _ _ _) rfl rfl) (Keeps.cons (by exact Eq.trans (b := .raw _) rfl rfl) (Keeps.cons (by exact Eq.trans (b := .sl _ _ _) rfl rfl) (Keeps.cons (by exact Eq.trans (b := .sl _ _ _) rfl rfl) (Keeps.nil)))))))) (by repeat (exact HSub.refl _)) ?_ ?_
                    · exact ⟨by omega, by rw [take_snoc hv, List.filter_append, ← hN, List.filter_cons, if_neg (by simpa using h27)]; simp⟩
                    · (simp; omega)
                · have hjR : j = Rl.length := by have := of_decide_eq_false h25; omega
                  rw [hjR, List.take_length] at hN
                  have hNea : ∀ w, w ∈ Nl ↔ Nea (Ee r) (Ss r) out w := fun w => by
                    unfold Nea
                    rw [hN, List.mem_filter, decide_eq_true_eq, hRdy, ho.steps]
                  refine LW.exit (exit_code (exit_rnd (exit_blk (after_code ?_))))
                  refine X.meetK (α := List Vx) (fun C => [(12, Vxs C .unk)]) [1, 3, 4, 5, 7] (fun C => .tail b o c :: .cells b7 35 (vxL (lastO out)) :: .cells b1 59 (rgL r) :: Rf) (fun C => ((∃ w, Nea (Ee r) (Ss r) out w) → ∀ v, Nea (Ee r) (Ss r) out v ↔ v ∈ C) ∧ ((¬ ∃ w, Nea (Ee r) (Ss r) out w) → ∀ v, Rdy (Ee r) (Ss r) out v ↔ v ∈ C) ∧ C.length ≤ 512) ?_ ?_
                  · refine LW.seq ?_
                    refine LW.region ?_
                    refine X.u (LU.moveS Is.rfl') rfl ?_
                    refine X.u (LU.lenN Tryd.underlying26 Is.rfl' (by (simp only [Option.getD_some, Option.getD_none, byteEls_length, intEls_length, List.length_append, List.length_cons, List.length_nil, List.length_map, List.length_drop, List.length_take, Int.toNat_natCast]; rfl))) rfl ?_
                    refine X.u (LU.eql Is.rfl' Is.rfl') rfl ?_
                    refine LL.nil (after_code ?_)
                    refine X.cond rfl (fun h29 => ?_) (fun h29 => ?_)
                    · have h29 : Nl = [] := List.eq_nil_of_length_eq_zero (by simp at h29; (rw [h29]; rfl))
                      have hno : ¬ ∃ w, Nea (Ee r) (Ss r) out w := fun ⟨w, hw⟩ => by have := (hNea w).2 hw; rw [h29] at this; cases this
                      refine LW.region ?_
                      refine X.u (LU.moveS Is.rfl') rfl ?_
                      refine X.u (LU.weak (LU.assignS Is.rfl') (Is.unk)) rfl ?_
                      refine LL.nil (after_rnd ?_)
                      refine X.meets (Rl) rfl (EnvLe.cons (by rfl) (EnvLe.nil)) (Keeps.cons (by exact Eq.trans (b := .raw _) rfl rfl) (Keeps.cons (by exact Eq.trans (b := .sl _ _ _) rfl rfl) (Keeps.cons (by exact Eq.trans (b := .sl _ _ _) rfl rfl) (Keeps.cons (by exact Eq.trans (b := .sl _ _ _) rfl rfl) (Keeps.cons (by exact Eq.trans (b := .raw _) rfl rfl) (Keeps.nil)))))) (by repeat (first | exact HSub.refl _ | refine HSub.pick 1 rfl ?_ | refine HSub.drop ?_)) ?_
                      exact ⟨fun e => absurd e hno, fun _ v => (hRdy v).symm, by omega⟩
                    · have h29 : Nl ≠ [] := fun e => by rw [e] at h29; simp at h29
                      refine X.wweak (t := 12) (v := Vxs Nl .unk) Is.unk ?_
                      refine LW.skip (after_rnd ?_)
                      refine X.meets (Nl) rfl (EnvLe.cons (by rfl) (EnvLe.nil)) (Keeps.cons (by exact Eq.trans (b := .raw _) rfl rfl) (Keeps.cons (by exact Eq.trans (b := .sl _ _ _) rfl rfl) (Keeps.cons (by exact Eq.trans (b := .sl _ _ _) rfl rfl) (Keeps.cons (by exact Eq.trans (b := .sl _ _ _) rfl rfl) (Keeps.cons (by exact Eq.trans (b := .raw _) rfl rfl) (Keeps.nil)))))) (by repeat (first | exact HSub.refl _ | refine HSub.pick 1 rfl ?_ | refine HSub.drop ?_)) ?_
                      exact ⟨fun _ v => (hNea v).symm, fun e => absurd (by obtain ⟨w, hw⟩ := List.exists_mem_of_ne_nil _ h29; exact ⟨w, (hNea w).1 hw⟩) e, by omega⟩
                  · rintro C hI
                    obtain ⟨hC1, hC2, hCl⟩ := hI
                    refine LW.seq ?_
                    refine LW.seq ?_
                    refine LW.region ?_
                    refine X.u (LU.moveS Is.rfl') rfl ?_
                    refine X.u (LU.lenN Tryd.underlying26 Is.rfl' (by (simp only [Option.getD_some, Option.getD_none, byteEls_length, intEls_length, List.length_append, List.length_cons, List.length_nil, List.length_map, List.length_drop, List.length_take, Int.toNat_natCast]; rfl))) rfl ?_
                    refine X.u (LU.eql Is.rfl' Is.rfl') rfl ?_
                    refine LL.nil (after_code ?_)
                    refine X.cond rfl (fun h31 => ?_) (fun h31 => ?_)
                    · have h31 : C = [] := List.eq_nil_of_length_eq_zero (by simp at h31; (rw [h31]; rfl))
                      have hfin : out = O := hend out hrun fun v hv => by
                        by_cases c : ∃ w, Nea (Ee r) (Ss r) out w
                        · obtain ⟨w, hw⟩ := c
                          have := (hC1 ⟨w, hw⟩ w).1 hw
                          rw [h31] at this; cases this
                        · have := (hC2 c v).1 hv
                          rw [h31] at this; cases this
                      refine LW.seq ?_
                      refine LW.region ?_
                      refine X.u (LU.moveS Is.rfl') rfl ?_
                      refine X.u (LU.assignS Is.rfl') rfl ?_
                      refine LL.nil (after_code ?_)
                      refine LW.ret (ret_code (ret_blk (ret_rnd (ret_blk (ret_code (after_end ?_))))))
                      refine X.ret (H' := []) (Res.one (by exact IsS rfl)) (by repeat (first | exact HSub.refl _ | refine HSub.drop ?_)) ?_
                      exact ⟨by rw [hfin], rfl⟩
                    · have h31 : C ≠ [] := fun e => by rw [e] at h31; simp at h31
                      obtain ⟨c0, C1, hCc⟩ : ∃ c0 C1, C = c0 :: C1 := by
                        cases hq : C with
                        | nil => exact absurd hq h31
                        | cons x y => exact ⟨x, y, rfl⟩
                      have hc0 : C[0]? = some c0 := by rw [hCc]; rfl
                      have hC1d : C.drop 1 = C1 := by rw [hCc]; rfl
                      have hcl := vxL_len c0
                      have hc32 : c0.p.1.length = 32 := c0.p.2
                      refine LW.skip (after_code ?_)
                      refine LW.seq ?_
                      refine LW.region ?_
                      refine X.u (LU.moveS Is.rfl') rfl ?_
                      refine X.u (LU.at Tryd.underlying26 ⟨Tryd.sizeOf35, Tryd.isAgg35⟩ Is.rfl' Is.rfl' (by omega) (show (vxs C)[(0 : Int).toNat]? = some (vxL c0) from vxs_at (i := 0) hc0) (vx_ne c0)) rfl ?_
                      refine X.u (LU.weak (LU.load ⟨Tryd.sizeOf35, Tryd.isAgg35⟩ Is.rfl' (by assumption) (Part.whole (by assumption))) (Is.of (y := .agg (vxL c0)) (rfl))) rfl ?_
                      refine X.act (X.store 1 rfl Tryd.sizeOf35 Is.rfl' Is.rfl' (by exact Cells.agg) (by assumption) (by (simp; omega)) ?_)
                      refine LL.nil (after_code ?_)
                      refine LW.seq ?_
                      refine LW.seq ?_
                      refine LW.region ?_
                      refine X.u (LU.assignR Is.rfl') rfl ?_
                      refine LL.nil (after_code ?_)
                      refine LW.block ?_
                      rw [putAt_all (by rw [hcl, hll])]
                      refine X.wghost (H' := .cells b7 35 (vxL c0) :: .tail b o c :: .cells b1 59 (rgL r) :: Rf) (by repeat (exact HSub.refl _)) ?_
                      refine X.loopK (α := Nat × Vx) (fun ⟨q, m⟩ => [(15, i64 q)]) [1, 3, 4, 5, 7, 12] (fun ⟨q, m⟩ => .cells b7 35 (vxL m) :: .tail b o c :: .cells b1 59 (rgL r) :: Rf) (fun ⟨q, m⟩ => 1 ≤ q ∧ q ≤ C.length ∧ minV m (C.drop q) = minV c0 C1) (fun ⟨q, m⟩ => C.length - q) ((1, c0)) (EnvLe.cons (by rfl) (EnvLe.nil)) (by repeat (exact HSub.refl _)) ?_ ?_
                      · exact ⟨Nat.le_refl _, by rw [hCc]; simp, by rw [hC1d]⟩
                      · rintro ⟨q, m⟩ hI
                        obtain ⟨hq1, hq2, hmin⟩ := hI
                        have hml := vxL_len m
                        have hm32 : m.p.1.length = 32 := m.p.2
                        refine LW.seq ?_
                        refine LW.seq ?_
                        refine LW.region ?_
                        refine X.u (LU.moveR Is.rfl') rfl ?_
                        refine X.u (LU.moveS Is.rfl') rfl ?_
                        refine X.u (LU.lenN Tryd.underlying26 Is.rfl' (by (simp only [Option.getD_some, Option.getD_none, byteEls_length, intEls_length, List.length_append, List.length_cons, List.length_nil, List.length_map, List.length_drop, List.length_take, Int.toNat_natCast]; rfl))) rfl ?_
                        refine X.u (LU.lss Is.rfl' Is.rfl') rfl ?_
                        refine LL.nil (after_code ?_)
                        refine X.cond rfl (fun h35 => ?_) (fun h35 => ?_)
                        · try have h35 := of_decide_eq_true h35
                          refine LW.skip (after_code ?_)
                          refine LW.seq ?_
                          refine LW.block ?_
                          refine LW.seq ?_
                          obtain ⟨x, hx⟩ := at_lt (show q < C.length by omega)
                          have hxl := vxL_len x
                          have hx32 : x.p.1.length = 32 := x.p.2
                          rw [drop_at hx] at hmin
                          have hmin2 : minV (if cmpV x m < 0 then x else m) (C.drop (q + 1)) = minV c0 C1 := hmin
                          refine X.drawM 6 rfl (by kernel_rfl) rfl ?_
                          refine QD.u (LU.moveS Is.rfl') rfl ?_
                          refine QD.u (LU.moveR Is.rfl') rfl ?_
                          refine QD.u (LU.at Tryd.underlying26 ⟨Tryd.sizeOf35, Tryd.isAgg35⟩ Is.rfl' Is.rfl' (by omega) (vxs_at hx) (vx_ne x)) rfl ?_
                          refine QD.u (LU.weak (LU.load ⟨Tryd.sizeOf35, Tryd.isAgg35⟩ Is.rfl' (by assumption) (Part.whole (by assumption))) (Is.of (y := .agg (vxL x)) (rfl))) rfl ?_
                          refine QD.u (LU.loadO 0 rfl ⟨Tryd.sizeOf35, Tryd.isAgg35⟩ Is.rfl' (Part.whole (by assumption))) rfl ?_
                          refine QD.u (LU.call (less_calls x m) Tryd.func73 rfl rfl (Opds.cons Is.rfl' (Opds.cons Is.rfl' Opds.nil))) rfl ?_
                          refine QD.nil ?_
                          refine LL.nil (after_code ?_)
                          refine X.cond rfl (fun h37 => ?_) (fun h37 => ?_)
                          · have h37 : cmpV x m < 0 := by simpa using h37
                            rw [if_pos h37] at hmin2
                            refine LW.region ?_
                            refine X.u (LU.moveS Is.rfl') rfl ?_
                            refine X.u (LU.moveR Is.rfl') rfl ?_
                            refine X.u (LU.at Tryd.underlying26 ⟨Tryd.sizeOf35, Tryd.isAgg35⟩ Is.rfl' Is.rfl' (by omega) (vxs_at hx) (vx_ne x)) rfl ?_
                            refine X.u (LU.weak (LU.load ⟨Tryd.sizeOf35, Tryd.isAgg35⟩ Is.rfl' (by assumption) (Part.whole (by assumption))) (Is.of (y := .agg (vxL x)) (rfl))) rfl ?_
                            refine X.act (X.store 0 rfl Tryd.sizeOf35 Is.rfl' Is.rfl' (by exact Cells.agg) (by assumption) (by (simp; omega)) ?_)
                            refine LL.nil (after_blk (after_code ?_))
                            refine X.wcells (ys := vxL x) (putAt_all (by rw [hxl, hml])) ?_
                            refine LW.region ?_
                            refine X.u (LU.moveR Is.rfl') rfl ?_
                            refine X.u (LU.addN Is.rfl' Is.rfl' (wrap_i64 (by omega) (by omega))) rfl ?_
                            refine X.u (LU.assignR Is.rfl') rfl ?_
                            refine LL.nil (after_rnd ?_)
                            refine X.next ((q + 1, x)) rfl (EnvLe.cons (by rfl) (EnvLe.nil)) (Keeps.cons (by exact Eq.trans (b := .raw _) rfl rfl) (Keeps.cons (by exact Eq.trans (b := .sl _ _ _) rfl rfl) (Keeps.cons (by exact Eq.trans (b := .sl _ _ _) rfl rfl) (Keeps.cons (by exact Eq.trans (b := .sl _ _ _) rfl rfl) (Keeps.cons (by exact Eq.trans (b := .raw _) rfl rfl) (Keeps.cons (by exact Eq.trans (b := .sl _ _ _) rfl rfl) (Keeps.nil))))))) (by repeat (exact HSub.refl _)) ?_ ?_
                            · exact ⟨by omega, by omega, hmin2⟩
                            · (simp; omega)
                          · have h37 : ¬ cmpV x m < 0 := by simpa using h37
                            rw [if_neg h37] at hmin2
                            refine LW.skip (after_blk (after_code ?_))
                            refine LW.region ?_
                            refine X.u (LU.moveR Is.rfl') rfl ?_
                            refine X.u (LU.addN Is.rfl' Is.rfl' (wrap_i64 (by omega) (by omega))) rfl ?_
                            refine X.u (LU.assignR Is.rfl') rfl ?_
                            refine LL.nil (after_rnd ?_)
                            refine X.next ((q + 1, m)) rfl (EnvLe.cons (by rfl) (EnvLe.nil)) (Keeps.cons (by exact Eq.trans (b := .raw _) rfl rfl) (Keeps.cons (by exact Eq.trans (b := .sl _ _ _) rfl rfl) (Keeps.cons (by exact Eq.trans (b := .sl _ _ _) rfl rfl) (Keeps.cons (by exact Eq.trans (b := .sl _ _ _) rfl rfl) (Keeps.cons (by exact Eq.trans (b := .raw _) rfl rfl) (Keeps.cons (by exact Eq.trans (b := .sl _ _ _) rfl rfl) (Keeps.nil))))))) (by repeat (exact HSub.refl _)) ?_ ?_
                            · exact ⟨by omega, by omega, hmin2⟩
                            · (simp; omega)
                        · try have h35 := of_decide_eq_false h35
                          refine LW.exit (exit_code (exit_rnd (exit_blk (after_code ?_))))
                          have hqC : q = C.length := by omega
                          rw [hqC, List.drop_length] at hmin
                          have hme : m = minV c0 C1 := hmin
                          have hpick : Pick (Ee r) (Ss r) out m := by
                            rw [hme]
                            exact ⟨fun e => minV_least fun v => by rw [hC1 e, hCc], fun e => minV_least fun v => by rw [hC2 e, hCc]⟩
                          refine X.wghost (H' := .tail b o c :: .cells b7 35 (vxL m) :: .cells b1 59 (rgL r) :: Rf) (by repeat (first | exact HSub.refl _ | refine HSub.pick 1 rfl ?_)) ?_
                          refine LW.region ?_
                          refine X.u (LU.moveS Is.rfl') rfl ?_
                          refine X.u (LU.loadO 1 rfl ⟨Tryd.sizeOf35, Tryd.isAgg35⟩ Is.rfl' (Part.whole (by assumption))) rfl ?_
                          refine X.u (LU.lits Tryd.underlying26 Tryd.sizeOf35 Tryd.zeroValue35 (ones rfl) rfl (by decide) (by decide) (Elems.cons Is.rfl' (by exact Cells.agg) Elems.nil) (by (simp; assumption)) rfl) rfl ?_
                          refine X.act (X.append 0 rfl rfl Tryd.underlying26 (El.of (P := Tryd.prog) (z := (.agg #[(.int .u8 0), (.int .u8 0), (.int .u8 0), (.int .u8 0), (.int .u8 0), (.int .u8 0), (.int .u8 0), (.int .u8 0), (.int .u8 0), (.int .u8 0), (.int .u8 0), (.int .u8 0), (.int .u8 0), (.int .u8 0), (.int .u8 0), (.int .u8 0), (.int .u8 0), (.int .u8 0), (.int .u8 0), (.int .u8 0), (.int .u8 0), (.int .u8 0), (.int .u8 0), (.int .u8 0), (.int .u8 0), (.int .u8 0), (.int .u8 0), (.int .u8 0), (.int .u8 0), (.int .u8 0), (.int .u8 0), (.int .u8 0), (.int .i64 0)])) (size := 33) (bytes := 40) rfl rfl rfl) Is.rfl' Is.rfl' (SrcL.slice Tryd.underlying26 (by decide) (by intro e he; rw [List.mem_singleton.1 he]; exact hml)) (by simp only [Option.getD_some, Option.getD_none, byteEls_length, intEls_length, List.length_append, List.length_cons, List.length_nil, List.length_map, List.length_drop, List.length_take, Int.toNat_natCast]; omega) (by simp only [Option.getD_some, Option.getD_none, byteEls_length, intEls_length, List.length_append, List.length_cons, List.length_nil, List.length_map, List.length_drop, List.length_take, Int.toNat_natCast]; omega) (fun b141 o141 c141 => X.weak (t := 141) (Is.of (y := Vxs (out ++ [m]) (.tok b141 o141 c141)) (congrArg (fun z => LV.sl 33 z (.tok b141 o141 c141)) (vxs_app out [m]))) ?_))
                          refine X.u (LU.assignS Is.rfl') rfl ?_
                          refine LL.nil (after_blk (after_rnd ?_))
                          refine X.next ((out ++ [m], b141, o141, c141)) rfl (EnvLe.cons (by rfl) (EnvLe.nil)) (Keeps.cons (by exact Eq.trans (b := .raw _) rfl rfl) (Keeps.cons (by exact Eq.trans (b := .sl _ _ _) rfl rfl) (Keeps.cons (by exact Eq.trans (b := .sl _ _ _) rfl rfl) (Keeps.cons (by exact Eq.trans (b := .raw _) rfl rfl) (Keeps.nil))))) (by show L.HSub _ (.tail b141 o141 c141 :: .cells b7 35 (vxL (lastO (out ++ [m]))) :: .cells b1 59 (rgL r) :: Rf); rw [last_snoc]; exact (by repeat (exact HSub.refl _))) ?_ ?_
                          · exact hrun.snoc hpick
                          · (simp; omega)
        · try have h9 := of_decide_eq_false h9
          refine LW.exit (exit_code (exit_rnd (exit_blk (after_code ?_))))
          refine LW.seq ?_
          refine LW.region ?_
          refine X.u (LU.moveS Is.rfl') rfl ?_
          refine X.u (LU.assignS Is.rfl') rfl ?_
          refine LL.nil (after_code ?_)
          refine LW.ret (after_end ?_)
          refine X.ret (H' := []) (Res.one (by exact IsS rfl)) (by repeat (first | exact HSub.refl _ | refine HSub.drop ?_)) ?_
          exact ⟨by rw [hfull out hrun (by omega)], rfl⟩
end Go.Proofs.YtolpkeajokjbjaaDoor
namespace Go.Proofs.YtolpkeajokjbjaaDoor
open Go.RowKit Go.L Go.Lib
attribute [local irreducible] LL LW LO
theorem killsG_of (r : Rg) (v : Vx) : killsG r v = (killsOf r.D v).length := by unfold killsG killsOf; rw [List.length_map]
set_option maxHeartbeats 4000000 in
set_option maxRecDepth 100000 in
theorem rshown_calls (r : Rg) (ho : Ok r) (hD : r.D.length < 900000) : LCalls Tryd.prog 44 [.agg (rgL r)] [] (fun x H' => x = Shs (shownG r) .unk ∧ H' = []) := by
  have hszs := ho.sizes
  have hidl : ∀ a ∈ r.L, a.ids.length ≤ 512 := fun a ha => by
    have := nodup_len (ho.idsOf ha) (l := idsG r.L) fun x hx => ids_mem.2 ⟨_, ha, hx⟩
    have := ho.len
    omega
  have htc := fun v => rtext_calls r v (by omega) fun a ha => ⟨by have := hidl a ha; omega, (ho.ne a ha).2⟩
  have hkc := fun v => rkills_calls r v (by omega)
  have hordc := rorder_calls r ho
  have hol := order_len ho
  obtain ⟨O, hO⟩ : ∃ O, O = orderG r := ⟨_, rfl⟩
  have hS : shownG r = O.map (shG r) := by unfold shownG; rw [hO]
  rw [← hO] at hordc hol
  rw [hS]
  refine LCalls.of Tryd.func44 rfl Tryd.ntmps44 Tryd.results44 rfl (fun Rf => ?_)
  refine LW.seq ?_
  refine LW.region ?_
  refine X.act (X.box rfl Is.rfl' (by exact Cells.agg) (fun b1 => ?_))
  refine X.u (LU.assign (Is.nil 35)) rfl ?_
  refine LL.nil (after_code ?_)
  refine LW.seq ?_
  refine LW.region ?_
  refine X.u (LU.assign (Is.nil 35)) rfl ?_
  refine LL.nil (after_code ?_)
  refine LW.seq ?_
  refine LW.region ?_
  refine X.u (LU.loadO 0 rfl ⟨Tryd.sizeOf59, Tryd.isAgg59⟩ Is.rfl' (Part.whole (by (simp; done)))) rfl ?_
  refine X.u (LU.call (hordc) Tryd.func58 rfl rfl (Opds.cons Is.rfl' Opds.nil)) rfl ?_
  refine X.u (LU.assignS Is.rfl') rfl ?_
  refine LL.nil (after_code ?_)
  refine LW.seq ?_
  refine LW.seq ?_
  refine LW.region ?_
  refine X.u (LU.assignR Is.rfl') rfl ?_
  refine LL.nil (after_code ?_)
  refine LW.block ?_
  refine X.wweak (t := 3) (v := Shs [] (.tok 0 0 0)) (Is.full_tok 0 0) ?_
  refine X.wghost (HSub.tail0 0 0 0 (Nat.le_refl _) _) ?_
  refine X.loopK (α := Nat × Nat × Nat × Nat) (fun ⟨i, b, o, c⟩ => [(5, i64 i), (3, Shs ((O.take i).map (shG r)) (.tok b o c))]) [1, 2, 4] (fun ⟨i, b, o, c⟩ => .tail b o c :: .cells b1 59 (rgL r) :: Rf) (fun ⟨i, b, o, c⟩ => i ≤ O.length) (fun ⟨i, b, o, c⟩ => O.length - i) ((0, 0, 0, 0)) (EnvLe.cons (by rfl) (EnvLe.cons (by rfl) (EnvLe.nil))) (by repeat (exact HSub.refl _)) ?_ ?_
  · exact Nat.zero_le _
  · rintro ⟨i, b, o, c⟩ hI
    refine LW.seq ?_
    refine LW.seq ?_
    refine LW.region ?_
    refine X.u (LU.moveR Is.rfl') rfl ?_
    refine X.u (LU.moveS Is.rfl') rfl ?_
    refine X.u (LU.lenN Tryd.underlying26 Is.rfl' (by (simp only [Option.getD_some, Option.getD_none, byteEls_length, intEls_length, List.length_append, List.length_cons, List.length_nil, List.length_map, List.length_drop, List.length_take, Int.toNat_natCast]; rfl))) rfl ?_
    refine X.u (LU.lss Is.rfl' Is.rfl') rfl ?_
    refine LL.nil (after_code ?_)
    refine X.cond rfl (fun h4 => ?_) (fun h4 => ?_)
    · try have h4 := of_decide_eq_true h4
      refine LW.skip (after_code ?_)
      refine LW.seq ?_
      refine LW.block ?_
      obtain ⟨v, hv⟩ := at_lt (show i < O.length by omega)
      have hvl := vxL_len v
      have hv32 : v.p.1.length = 32 := v.p.2
      have hkl := kills_len r.D v
      have hshl := sh_len (shG r v)
      have htk : ((O.take i).map (shG r)).length = i := by rw [List.length_map, List.length_take]; omega
      refine X.drawM 19 rfl (by kernel_rfl) rfl ?_
      refine QD.u (LU.moveS Is.rfl') rfl ?_
      refine QD.u (LU.moveS Is.rfl') rfl ?_
      refine QD.u (LU.moveR Is.rfl') rfl ?_
      refine QD.u (LU.at Tryd.underlying26 ⟨Tryd.sizeOf35, Tryd.isAgg35⟩ Is.rfl' Is.rfl' (by omega) (vxs_at hv) (vx_ne v)) rfl ?_
      refine QD.u (LU.weak (LU.load ⟨Tryd.sizeOf35, Tryd.isAgg35⟩ Is.rfl' (by assumption) (Part.whole (by assumption))) (Is.of (y := .agg (vxL v)) (rfl))) rfl ?_
      refine QD.u (LU.loadO 1 rfl ⟨Tryd.sizeOf59, Tryd.isAgg59⟩ Is.rfl' (Part.whole (by (simp; done)))) rfl ?_
      refine QD.u (LU.moveS Is.rfl') rfl ?_
      refine QD.u (LU.moveR Is.rfl') rfl ?_
      refine QD.u (LU.at Tryd.underlying26 ⟨Tryd.sizeOf35, Tryd.isAgg35⟩ Is.rfl' Is.rfl' (by omega) (vxs_at hv) (vx_ne v)) rfl ?_
      refine QD.u (LU.weak (LU.load ⟨Tryd.sizeOf35, Tryd.isAgg35⟩ Is.rfl' (by assumption) (Part.whole (by assumption))) (Is.of (y := .agg (vxL v)) (rfl))) rfl ?_
      refine QD.u (LU.call (htc v) Tryd.func59 rfl rfl (Opds.cons Is.rfl' (Opds.cons Is.rfl' Opds.nil))) rfl ?_
      refine QD.u (LU.loadO 1 rfl ⟨Tryd.sizeOf59, Tryd.isAgg59⟩ Is.rfl' (Part.whole (by (simp; done)))) rfl ?_
      refine QD.u (LU.moveS Is.rfl') rfl ?_
      refine QD.u (LU.moveR Is.rfl') rfl ?_
      refine QD.u (LU.at Tryd.underlying26 ⟨Tryd.sizeOf35, Tryd.isAgg35⟩ Is.rfl' Is.rfl' (by omega) (vxs_at hv) (vx_ne v)) rfl ?_
      refine QD.u (LU.weak (LU.load ⟨Tryd.sizeOf35, Tryd.isAgg35⟩ Is.rfl' (by assumption) (Part.whole (by assumption))) (Is.of (y := .agg (vxL v)) (rfl))) rfl ?_
      refine QD.u (LU.weak (LU.call (hkc v) Tryd.func60 rfl rfl (Opds.cons Is.rfl' (Opds.cons Is.rfl' Opds.nil))) (Is.of (y := i64 ((killsOf r.D v).length : Nat)) (congrArg (fun n : Nat => i64 n) (killsG_of r v)))) rfl ?_
      refine QD.u (LU.weak (LU.build (places := #[(0, 33), (33, 1), (34, 1)]) Tryd.underlying49 Tryd.zeroValue49 (ones rfl) (by intro w; simp [Tryd.sizeOf3, Tryd.sizeOf35, Tryd.sizeOf9]) (Parts.cons Is.rfl' (by exact Cells.agg) (Parts.cons Is.rfl' (by exact Cells.raw rfl) (Parts.cons Is.rfl' (by exact Cells.raw rfl) Parts.nil))) (laid_sh hvl rfl)) (Is.of (y := .agg (shL (shG r v))) (rfl))) rfl ?_
      refine QD.u (LU.lits Tryd.underlying45 Tryd.sizeOf49 Tryd.zeroValue49 (ones rfl) rfl (by decide) (by decide) (Elems.cons Is.rfl' (by exact Cells.agg) Elems.nil) (by (simp; assumption)) rfl) rfl ?_
      refine QD.nil ?_
      refine X.act (X.append 0 rfl rfl Tryd.underlying45 (El.of (P := Tryd.prog) (z := (.agg #[(.int .u8 0), (.int .u8 0), (.int .u8 0), (.int .u8 0), (.int .u8 0), (.int .u8 0), (.int .u8 0), (.int .u8 0), (.int .u8 0), (.int .u8 0), (.int .u8 0), (.int .u8 0), (.int .u8 0), (.int .u8 0), (.int .u8 0), (.int .u8 0), (.int .u8 0), (.int .u8 0), (.int .u8 0), (.int .u8 0), (.int .u8 0), (.int .u8 0), (.int .u8 0), (.int .u8 0), (.int .u8 0), (.int .u8 0), (.int .u8 0), (.int .u8 0), (.int .u8 0), (.int .u8 0), (.int .u8 0), (.int .u8 0), (.int .i64 0), (.string ByteArray.empty), (.int .i64 0)])) (size := 35) (bytes := 64) rfl rfl rfl) Is.rfl' Is.rfl' (SrcL.slice Tryd.underlying45 (by decide) (by intro e he; rw [List.mem_singleton.1 he]; exact sh_len _)) (by simp only [Option.getD_some, Option.getD_none, byteEls_length, intEls_length, List.length_append, List.length_cons, List.length_nil, List.length_map, List.length_drop, List.length_take, Int.toNat_natCast]; omega) (by simp only [Option.getD_some, Option.getD_none, byteEls_length, intEls_length, List.length_append, List.length_cons, List.length_nil, List.length_map, List.length_drop, List.length_take, Int.toNat_natCast]; omega) (fun b33 o33 c33 => X.weak (t := 33) (Is.of (y := Shs ((O.take (i + 1)).map (shG r)) (.tok b33 o33 c33)) (congrArg (fun z => LV.sl 35 z (.tok b33 o33 c33)) (by rw [take_snoc hv, List.map_append]; exact shs_app _ [shG r v]))) ?_))
      refine X.u (LU.assignS Is.rfl') rfl ?_
      refine LL.nil (after_blk (after_code ?_))
      refine LW.region ?_
      refine X.u (LU.moveR Is.rfl') rfl ?_
      refine X.u (LU.addN Is.rfl' Is.rfl' (wrap_i64 (by omega) (by omega))) rfl ?_
      refine X.u (LU.assignR Is.rfl') rfl ?_
      refine LL.nil (after_rnd ?_)
      refine X.next ((i + 1, b33, o33, c33)) rfl (EnvLe.cons (by rfl) (EnvLe.cons (by rfl) (EnvLe.nil))) (Keeps.cons (by exact Eq.trans (b := .raw _) rfl rfl) (Keeps.cons (by exact Eq.trans (b := .sl _ _ _) rfl rfl) (Keeps.cons (by exact Eq.trans (b := .sl _ _ _) rfl rfl) (Keeps.nil)))) (by repeat (exact HSub.refl _)) ?_ ?_
      · omega
      · (simp; omega)
    · try have h4 := of_decide_eq_false h4
      refine LW.exit (exit_code (exit_rnd (exit_blk (after_code ?_))))
      refine LW.seq ?_
      refine LW.region ?_
      refine X.u (LU.moveS Is.rfl') rfl ?_
      refine X.u (LU.assignS Is.rfl') rfl ?_
      refine LL.nil (after_code ?_)
      refine LW.ret (after_end ?_)
      refine X.ret (H' := []) (Res.one (by exact IsS rfl)) (by repeat (first | exact HSub.refl _ | refine HSub.drop ?_)) ?_
      exact ⟨by rw [List.take_of_length_le (by omega)], rfl⟩
end Go.Proofs.YtolpkeajokjbjaaDoor
namespace Go.Proofs.YtolpkeajokjbjaaDoor
open Go.RowKit Go.L Go.Lib
attribute [local irreducible] LL LW LO LP LA
theorem des_size (l : List De) : ∀ e ∈ des l, e.length = 65 := fun e he => by obtain ⟨x, _, rfl⟩ := List.mem_map.1 he; exact de_len x
theorem des_app (a b : List De) : des a ++ des b = des (a ++ b) := (List.map_append (f := deL) (l₁ := a) (l₂ := b)).symm
theorem laid_de {a b zs : List LV} (ha : a.length = 33) (hb : b.length = 32) (hz : zs.length = 65) : laid (#[(0, 33), (33, 32)][·]?) zs [(0, a), (1, b)] = some (a ++ b) := by
  have h1 : putAt zs 0 a = a ++ zs.drop 33 := by simp [putAt, ha]
  have h2 : putAt (a ++ zs.drop 33) 33 b = a ++ b := by
    unfold putAt
    rw [List.take_left' ha, List.drop_of_length_le (by simp [ha, hb, hz]), List.append_nil]
  have l1 : (a ++ zs.drop 33).length = 65 := by simp [ha, hz]
  show (bif (Nat.beq a.length 33 && Nat.ble (0 + a.length) zs.length) then laid _ (putAt zs 0 a) [(1, b)] else none) = _
  rw [ha, hz, h1]
  show (bif (Nat.beq b.length 32 && Nat.ble (33 + b.length) (a ++ zs.drop 33).length) then laid _ (putAt (a ++ zs.drop 33) 33 b) [] else none) = _
  rw [hb, l1, h2]
  rfl
set_option maxHeartbeats 4000000 in
set_option maxRecDepth 100000 in
theorem rkill_calls (r : Rg) (v : Vx) (h : Hs) (hl : r.L.length < 1000000) (hi : (idsG r.L).length < 1000000) (hD : r.D.length < 1000000) : LCalls Tryd.prog 51 [.agg (rgL r), .agg (vxL v), .agg (hsL h)] [] (fun x H' => x = .tup [.agg (rgL (rkG r v h)), i64 (rkE r v h : Nat)] ∧ H' = []) := by
  have hvl := vxL_len v
  have hhl := hsL_len h
  have hdl := de_len ⟨v, h⟩
  have hv32 : v.p.1.length = 32 := v.p.2
  have hh32 : h.1.length = 32 := h.2
  have hsz : v.p.val.length + (h.val.length + 1) = 65 := by omega
  refine LCalls.of Tryd.func51 rfl Tryd.ntmps51 Tryd.results51 rfl (fun Rf => ?_)
  refine LW.seq ?_
  refine LW.region ?_
  refine X.act (X.box rfl Is.rfl' (by exact Cells.agg) (fun b3 => ?_))
  refine X.act (X.box rfl Is.rfl' (by exact Cells.agg) (fun b4 => ?_))
  refine X.act (X.box rfl Is.rfl' (by exact Cells.agg) (fun b5 => ?_))
  refine X.act (X.alloc rfl Tryd.zeroValue59 (by exact Cells.rawagg (by decide)) (fun b6 => ?_))
  refine X.u (LU.assignR Is.rfl') rfl ?_
  refine LL.nil (after_code ?_)
  refine LW.seq ?_
  refine LW.seq ?_
  refine LW.region ?_
  refine X.u (LU.loadO 2 rfl ⟨Tryd.sizeOf35, Tryd.isAgg35⟩ Is.rfl' (Part.whole (by assumption))) rfl ?_
  refine X.u (LU.call (rends_calls v) Tryd.func64 rfl rfl (Opds.cons Is.rfl' Opds.nil)) rfl ?_
  refine LL.nil (after_code ?_)
  refine X.cond rfl (fun h1 => ?_) (fun h1 => ?_)
  · try have h1 := of_decide_eq_true h1
    refine LW.seq ?_
    refine LW.region ?_
    refine X.u (LU.loadO 3 rfl ⟨Tryd.sizeOf59, Tryd.isAgg59⟩ Is.rfl' (Part.whole (by (simp; done)))) rfl ?_
    refine X.act (X.store 0 rfl Tryd.sizeOf59 Is.rfl' Is.rfl' (by exact Cells.agg) (by (simp; done)) (by exact Nat.le_of_ble_eq_true rfl) ?_)
    refine X.u (LU.assignR Is.rfl') rfl ?_
    refine LL.nil (after_code ?_)
    refine LW.ret (ret_code (after_end ?_))
    refine X.ret (H' := []) (by exact Res.cell2 0 rfl rfl ⟨Tryd.sizeOf59, Tryd.isAgg59⟩ (Part.whole (by rfl)) (by exact IsA rfl) (by exact IsR rfl)) (by repeat (first | exact HSub.refl _ | refine HSub.drop ?_)) ?_
    have hE : rkE r v h = 2 := by unfold rkE; rw [if_pos h1]
    exact ⟨by unfold rkG; rw [hE, if_neg (by decide)]; rfl, rfl⟩
  · try have h1 := of_decide_eq_false h1
    refine LW.skip (after_code ?_)
    refine LW.seq ?_
    refine LW.seq ?_
    refine LW.region ?_
    refine X.u (LU.loadO 3 rfl ⟨Tryd.sizeOf59, Tryd.isAgg59⟩ Is.rfl' (Part.whole (by (simp; done)))) rfl ?_
    refine X.u (LU.loadO 2 rfl ⟨Tryd.sizeOf35, Tryd.isAgg35⟩ Is.rfl' (Part.whole (by assumption))) rfl ?_
    refine X.u (LU.call (rhas_calls r v hl hi) Tryd.func47 rfl rfl (Opds.cons Is.rfl' (Opds.cons Is.rfl' Opds.nil))) rfl ?_
    refine X.u (LU.not Is.rfl') rfl ?_
    refine LL.nil (after_code ?_)
    refine X.cond rfl (fun h3 => ?_) (fun h3 => ?_)
    · have h3 : hasG r v = false := by simpa using h3
      have hz0 : (0 : Nat) = 0 := rfl
      refine LW.seq ?_
      refine LW.region ?_
      refine X.u (LU.loadO 3 rfl ⟨Tryd.sizeOf59, Tryd.isAgg59⟩ Is.rfl' (Part.whole (by (simp; done)))) rfl ?_
      refine X.act (X.store 0 rfl Tryd.sizeOf59 Is.rfl' Is.rfl' (by exact Cells.agg) (by (simp; done)) (by exact Nat.le_of_ble_eq_true rfl) ?_)
      refine X.u (LU.assignR Is.rfl') rfl ?_
      refine LL.nil (after_code ?_)
      refine LW.ret (ret_code (after_end ?_))
      refine X.ret (H' := []) (by exact Res.cell2 0 rfl rfl ⟨Tryd.sizeOf59, Tryd.isAgg59⟩ (Part.whole (by rfl)) (by exact IsA rfl) (by exact IsR rfl)) (by repeat (first | exact HSub.refl _ | refine HSub.drop ?_)) ?_
      have hE : rkE r v h = 111 := by unfold rkE; rw [if_neg (by rw [h1]; decide), if_pos h3]
      exact ⟨by unfold rkG; rw [hE, if_neg (by decide)]; rfl, rfl⟩
    · have h3 : hasG r v = true := by simpa using h3
      have hz0 : (0 : Nat) = 0 := rfl
      refine LW.skip (after_code ?_)
      refine LW.seq ?_
      refine LW.seq ?_
      refine LW.region ?_
      refine X.u (LU.loadO 3 rfl ⟨Tryd.sizeOf59, Tryd.isAgg59⟩ Is.rfl' (Part.whole (by (simp; done)))) rfl ?_
      refine X.u (LU.loadO 2 rfl ⟨Tryd.sizeOf35, Tryd.isAgg35⟩ Is.rfl' (Part.whole (by assumption))) rfl ?_
      refine X.u (LU.loadO 1 rfl ⟨Tryd.sizeOf31, Tryd.isAgg31⟩ Is.rfl' (Part.whole (by assumption))) rfl ?_
      refine X.u (LU.call (death_calls r v h hD) Tryd.func66 rfl rfl (Opds.cons Is.rfl' (Opds.cons Is.rfl' (Opds.cons Is.rfl' Opds.nil)))) rfl ?_
      refine X.u (LU.geq Is.rfl' Is.rfl') rfl ?_
      refine LL.nil (after_code ?_)
      refine X.cond rfl (fun h5 => ?_) (fun h5 => ?_)
      · have h5 : (⟨v, h⟩ : De) ∈ r.D := Classical.byContradiction fun c => by have h0 := of_decide_eq_true h5; have := placeG_neg.2 c; omega
        have hz0 : (0 : Nat) = 0 := rfl
        refine LW.seq ?_
        refine LW.region ?_
        refine X.u (LU.loadO 3 rfl ⟨Tryd.sizeOf59, Tryd.isAgg59⟩ Is.rfl' (Part.whole (by (simp; done)))) rfl ?_
        refine X.act (X.store 0 rfl Tryd.sizeOf59 Is.rfl' Is.rfl' (by exact Cells.agg) (by (simp; done)) (by exact Nat.le_of_ble_eq_true rfl) ?_)
        refine X.u (LU.assignR Is.rfl') rfl ?_
        refine LL.nil (after_code ?_)
        refine LW.ret (ret_code (after_end ?_))
        refine X.ret (H' := []) (by exact Res.cell2 0 rfl rfl ⟨Tryd.sizeOf59, Tryd.isAgg59⟩ (Part.whole (by rfl)) (by exact IsA rfl) (by exact IsR rfl)) (by repeat (first | exact HSub.refl _ | refine HSub.drop ?_)) ?_
        have hE : rkE r v h = 110 := by unfold rkE; rw [if_neg (by rw [h1]; decide), if_neg (by rw [h3]; decide), if_pos h5]
        exact ⟨by unfold rkG; rw [hE, if_neg (by decide)]; rfl, rfl⟩
      · have h5 : (⟨v, h⟩ : De) ∉ r.D := fun c => of_decide_eq_false h5 (placeG_nn c)
        have hz0 : (0 : Nat) = 0 := rfl
        refine LW.skip (after_code ?_)
        refine LW.seq ?_
        refine LW.invM (m := 9) (γ := Nat × Nat × Nat × Nat × Nat × Nat) [(0, 22), (1, 23), (2, 24), (3, 25), (4, 26), (5, 27), (6, 28), (7, 29), (8, 30)] (fun g_ d => match g_ with | ⟨q1, q2, q3, q4, q5, q6⟩ => match d with | 22 => .sl 65 [] .full | 23 => .raw (.pointer (some ⟨b3, 1, none⟩)) | 24 => .sl 65 (des r.D) .unk | 25 => .sl 65 (des r.D) (.tok q1 q2 q3) | 26 => .agg (vxL v) | 27 => .agg (hsL h) | 28 => .agg (deL ⟨v, h⟩) | 29 => .sl 65 [deL ⟨v, h⟩] .full | 30 => .sl 65 (des (r.D ++ [⟨v, h⟩])) (.tok q4 q5 q6) | _ => .any) (fun g_ f => match g_ with | ⟨q1, q2, q3, q4, q5, q6⟩ => cond (f 8) (.tail q4 q5 q6) (cond (f 3) (.tail q1 q2 q3) (.tail 0 0 0)) :: .cells b3 59 (rgL r) :: .cells b6 59 [.raw (.slice none 0 0), .raw (.slice none 0 0)] :: .cells b4 35 (vxL v) :: .cells b5 31 (hsL h) :: Rf) (0, 0, 0, 0, 0, 0) rfl (by kernel_rfl) rfl rfl ((HSub.trans (by repeat (first | exact HSub.refl _ | refine HSub.pick 0 rfl ?_ | refine HSub.pick 1 rfl ?_ | refine HSub.pick 3 rfl ?_)) (HSub.tail0 0 0 0 (Nat.le_refl _) _))) ?_ ?_
        · intro i hi f g_ hfi hdir hdown
          obtain ⟨q1, q2, q3, q4, q5, q6⟩ := g_
          have hc : i = 0 ∨ i = 1 ∨ i = 2 ∨ i = 3 ∨ i = 4 ∨ i = 5 ∨ i = 6 ∨ i = 7 ∨ i = 8 := by omega
          rcases hc with rfl | rfl | rfl | rfl | rfl | rfl | rfl | rfl | rfl
          · refine ⟨_, rfl, ?_⟩
            refine A.u (LU.lits Tryd.underlying57 Tryd.sizeOf106 Tryd.zeroValue106 (ones rfl) rfl (by decide) (by decide) Elems.nil (by intro e he; cases he) rfl) rfl ?_
            refine ⟨⟨q1, q2, q3, q4, q5, q6⟩, Weaker.mk' ?_ (HSub.refl _)⟩
            refine env_back0 (envS_hit (sl := [(0, 22), (1, 23), (2, 24), (3, 25), (4, 26), (5, 27), (6, 28), (7, 29), (8, 30)]) (j := 0) (d := 22) rfl (fun _ _ h => h))  (envS_next ?_)
            · intro p hp hne; simp only [List.mem_cons, List.not_mem_nil, or_false] at hp; rcases hp with rfl | rfl | rfl | rfl | rfl | rfl | rfl | rfl | rfl <;> first | exact absurd rfl hne | exact ⟨rfl, rfl⟩
          · refine ⟨_, rfl, ?_⟩
            refine A.u (LU.fieldO Tryd.underlying59 rfl Tryd.sizeOf57 (by decide) Is.rfl') rfl ?_
            refine ⟨⟨q1, q2, q3, q4, q5, q6⟩, Weaker.mk' ?_ (HSub.refl _)⟩
            refine env_back0 (envS_hit (sl := [(0, 22), (1, 23), (2, 24), (3, 25), (4, 26), (5, 27), (6, 28), (7, 29), (8, 30)]) (j := 1) (d := 23) rfl (fun _ _ h => h))  (envS_next ?_)
            · intro p hp hne; simp only [List.mem_cons, List.not_mem_nil, or_false] at hp; rcases hp with rfl | rfl | rfl | rfl | rfl | rfl | rfl | rfl | rfl <;> first | exact absurd rfl hne | exact ⟨rfl, rfl⟩
          · have d1 := hdir 1 (List.mem_of_elem_eq_true (by kernel_rfl))
            refine ⟨_, rfl, ?_⟩
            refine LP.weak (t := 23) (v := .raw (.pointer (some ⟨b3, 1, none⟩))) (envS_is (j := 1) rfl d1) ?_
            refine A.u (LU.loadO 1 rfl ⟨Tryd.sizeOf57, Tryd.isAgg57⟩ Is.rfl' (Part.one rfl)) rfl ?_
            refine ⟨⟨q1, q2, q3, q4, q5, q6⟩, Weaker.mk' ?_ (HSub.refl _)⟩
            refine env_back1 (envS_hit (sl := [(0, 22), (1, 23), (2, 24), (3, 25), (4, 26), (5, 27), (6, 28), (7, 29), (8, 30)]) (j := 2) (d := 24) rfl (fun _ _ h => h)) (envS_hit (sl := [(0, 22), (1, 23), (2, 24), (3, 25), (4, 26), (5, 27), (6, 28), (7, 29), (8, 30)]) (j := 1) (d := 23) rfl (fun _ _ h => h)) (envS_next ?_)
            · intro p hp hne; simp only [List.mem_cons, List.not_mem_nil, or_false] at hp; rcases hp with rfl | rfl | rfl | rfl | rfl | rfl | rfl | rfl | rfl <;> first | exact absurd rfl hne | exact ⟨rfl, rfl⟩
          · have d0 := hdir 0 (List.mem_of_elem_eq_true (by kernel_rfl))
            have d2 := hdir 2 (List.mem_of_elem_eq_true (by kernel_rfl))
            refine ⟨_, rfl, ?_⟩
            have h6 : f 8 = false := Bool.eq_false_iff.2 (fun h => by rw [hdown 8 (by omega) h 3 (List.mem_of_elem_eq_true (by kernel_rfl))] at hfi; cases hfi)
            refine LP.ghost (H' := .cells b3 59 (rgL r) :: .cells b6 59 [.raw (.slice none 0 0), .raw (.slice none 0 0)] :: .cells b4 35 (vxL v) :: .cells b5 31 (hsL h) :: Rf) (by show L.HSub (cond (f 8) _ (cond (f 3) _ _) :: _) _; rw [h6, hfi]; exact HSub.drop (HSub.refl _)) ?_
            refine LP.weak (t := 22) (v := .sl 65 [] .full) (envS_is (j := 0) rfl d0) ?_
            refine LP.weak (t := 24) (v := .sl 65 (des r.D) .unk) (envS_is (j := 2) rfl d2) ?_
            refine A.act (X.appendF rfl Tryd.underlying57 (El.of (P := Tryd.prog) (z := (.agg #[(.int .u8 0), (.int .u8 0), (.int .u8 0), (.int .u8 0), (.int .u8 0), (.int .u8 0), (.int .u8 0), (.int .u8 0), (.int .u8 0), (.int .u8 0), (.int .u8 0), (.int .u8 0), (.int .u8 0), (.int .u8 0), (.int .u8 0), (.int .u8 0), (.int .u8 0), (.int .u8 0), (.int .u8 0), (.int .u8 0), (.int .u8 0), (.int .u8 0), (.int .u8 0), (.int .u8 0), (.int .u8 0), (.int .u8 0), (.int .u8 0), (.int .u8 0), (.int .u8 0), (.int .u8 0), (.int .u8 0), (.int .u8 0), (.int .i64 0), (.int .u8 0), (.int .u8 0), (.int .u8 0), (.int .u8 0), (.int .u8 0), (.int .u8 0), (.int .u8 0), (.int .u8 0), (.int .u8 0), (.int .u8 0), (.int .u8 0), (.int .u8 0), (.int .u8 0), (.int .u8 0), (.int .u8 0), (.int .u8 0), (.int .u8 0), (.int .u8 0), (.int .u8 0), (.int .u8 0), (.int .u8 0), (.int .u8 0), (.int .u8 0), (.int .u8 0), (.int .u8 0), (.int .u8 0), (.int .u8 0), (.int .u8 0), (.int .u8 0), (.int .u8 0), (.int .u8 0), (.int .u8 0)])) (size := 65) (bytes := 72) rfl rfl rfl) Is.rfl' Is.rfl' (SrcL.slice Tryd.underlying57 (by decide) (des_size r.D)) (by simp only [Option.getD_some, Option.getD_none, byteEls_length, intEls_length, List.length_append, List.length_cons, List.length_nil, List.length_map, List.length_drop, List.length_take, Int.toNat_natCast]; omega) (by simp only [Option.getD_some, Option.getD_none, byteEls_length, intEls_length, List.length_append, List.length_cons, List.length_nil, List.length_map, List.length_drop, List.length_take, Int.toNat_natCast]; omega) (fun b25 o25 c25 => ?_))
            refine ⟨(b25, o25, c25, q4, q5, q6), Weaker.mk' ?_ (by show L.HSub _ (cond (f 8) _ (.tail b25 o25 c25) :: _); rw [h6]; exact HSub.refl _)⟩
            refine env_back2 (envS_hit (sl := [(0, 22), (1, 23), (2, 24), (3, 25), (4, 26), (5, 27), (6, 28), (7, 29), (8, 30)]) (j := 3) (d := 25) rfl (fun _ _ h => h)) (envS_hit (sl := [(0, 22), (1, 23), (2, 24), (3, 25), (4, 26), (5, 27), (6, 28), (7, 29), (8, 30)]) (j := 2) (d := 24) rfl (fun _ _ h => h)) (envS_hit (sl := [(0, 22), (1, 23), (2, 24), (3, 25), (4, 26), (5, 27), (6, 28), (7, 29), (8, 30)]) (j := 0) (d := 22) rfl (fun _ _ h => h)) (envS_next ?_)
            · intro p hp hne; simp only [List.mem_cons, List.not_mem_nil, or_false] at hp; rcases hp with rfl | rfl | rfl | rfl | rfl | rfl | rfl | rfl | rfl <;> first | exact absurd rfl hne | exact ⟨rfl, rfl⟩
          · refine ⟨_, rfl, ?_⟩
            refine A.u (LU.loadO 3 rfl ⟨Tryd.sizeOf35, Tryd.isAgg35⟩ Is.rfl' (Part.whole (by assumption))) rfl ?_
            refine ⟨⟨q1, q2, q3, q4, q5, q6⟩, Weaker.mk' ?_ (HSub.refl _)⟩
            refine env_back0 (envS_hit (sl := [(0, 22), (1, 23), (2, 24), (3, 25), (4, 26), (5, 27), (6, 28), (7, 29), (8, 30)]) (j := 4) (d := 26) rfl (fun _ _ h => h))  (envS_next ?_)
            · intro p hp hne; simp only [List.mem_cons, List.not_mem_nil, or_false] at hp; rcases hp with rfl | rfl | rfl | rfl | rfl | rfl | rfl | rfl | rfl <;> first | exact absurd rfl hne | exact ⟨rfl, rfl⟩
          · refine ⟨_, rfl, ?_⟩
            refine A.u (LU.loadO 4 rfl ⟨Tryd.sizeOf31, Tryd.isAgg31⟩ Is.rfl' (Part.whole (by assumption))) rfl ?_
            refine ⟨⟨q1, q2, q3, q4, q5, q6⟩, Weaker.mk' ?_ (HSub.refl _)⟩
            refine env_back0 (envS_hit (sl := [(0, 22), (1, 23), (2, 24), (3, 25), (4, 26), (5, 27), (6, 28), (7, 29), (8, 30)]) (j := 5) (d := 27) rfl (fun _ _ h => h))  (envS_next ?_)
            · intro p hp hne; simp only [List.mem_cons, List.not_mem_nil, or_false] at hp; rcases hp with rfl | rfl | rfl | rfl | rfl | rfl | rfl | rfl | rfl <;> first | exact absurd rfl hne | exact ⟨rfl, rfl⟩
          · have d4 := hdir 4 (List.mem_of_elem_eq_true (by kernel_rfl))
            have d5 := hdir 5 (List.mem_of_elem_eq_true (by kernel_rfl))
            refine ⟨_, rfl, ?_⟩
            refine LP.weak (t := 26) (v := .agg (vxL v)) (envS_is (j := 4) rfl d4) ?_
            refine LP.weak (t := 27) (v := .agg (hsL h)) (envS_is (j := 5) rfl d5) ?_
            refine A.u (LU.build (places := #[(0, 33), (33, 32)]) Tryd.underlying106 Tryd.zeroValue106 (ones rfl) (by intro w; simp [Tryd.sizeOf31, Tryd.sizeOf35]) (Parts.cons Is.rfl' (by exact Cells.agg) (Parts.cons Is.rfl' (by exact Cells.agg) Parts.nil)) (laid_de hvl hhl rfl)) rfl ?_
            refine ⟨⟨q1, q2, q3, q4, q5, q6⟩, Weaker.mk' ?_ (HSub.refl _)⟩
            refine env_back2 (envS_hit (sl := [(0, 22), (1, 23), (2, 24), (3, 25), (4, 26), (5, 27), (6, 28), (7, 29), (8, 30)]) (j := 6) (d := 28) rfl (fun _ _ h => h)) (envS_hit (sl := [(0, 22), (1, 23), (2, 24), (3, 25), (4, 26), (5, 27), (6, 28), (7, 29), (8, 30)]) (j := 5) (d := 27) rfl (fun _ _ h => h)) (envS_hit (sl := [(0, 22), (1, 23), (2, 24), (3, 25), (4, 26), (5, 27), (6, 28), (7, 29), (8, 30)]) (j := 4) (d := 26) rfl (fun _ _ h => h)) (envS_next ?_)
            · intro p hp hne; simp only [List.mem_cons, List.not_mem_nil, or_false] at hp; rcases hp with rfl | rfl | rfl | rfl | rfl | rfl | rfl | rfl | rfl <;> first | exact absurd rfl hne | exact ⟨rfl, rfl⟩
          · have d6 := hdir 6 (List.mem_of_elem_eq_true (by kernel_rfl))
            refine ⟨_, rfl, ?_⟩
            refine LP.weak (t := 28) (v := .agg (deL ⟨v, h⟩)) (envS_is (j := 6) rfl d6) ?_
            refine A.u (LU.lits Tryd.underlying57 Tryd.sizeOf106 Tryd.zeroValue106 (ones rfl) rfl (by decide) (by decide) (Elems.cons Is.rfl' (by exact Cells.agg) Elems.nil) (by (simp; assumption)) rfl) rfl ?_
            refine ⟨⟨q1, q2, q3, q4, q5, q6⟩, Weaker.mk' ?_ (HSub.refl _)⟩
            refine env_back1 (envS_hit (sl := [(0, 22), (1, 23), (2, 24), (3, 25), (4, 26), (5, 27), (6, 28), (7, 29), (8, 30)]) (j := 7) (d := 29) rfl (fun _ _ h => h)) (envS_hit (sl := [(0, 22), (1, 23), (2, 24), (3, 25), (4, 26), (5, 27), (6, 28), (7, 29), (8, 30)]) (j := 6) (d := 28) rfl (fun _ _ h => h)) (envS_next ?_)
            · intro p hp hne; simp only [List.mem_cons, List.not_mem_nil, or_false] at hp; rcases hp with rfl | rfl | rfl | rfl | rfl | rfl | rfl | rfl | rfl <;> first | exact absurd rfl hne | exact ⟨rfl, rfl⟩
          · have d3 := hdir 3 (List.mem_of_elem_eq_true (by kernel_rfl))
            have d7 := hdir 7 (List.mem_of_elem_eq_true (by kernel_rfl))
            refine ⟨_, rfl, ?_⟩
            have h2 : f 3 = true := hdir 3 (List.mem_of_elem_eq_true (by kernel_rfl))
            refine LP.ghost (H' := .tail q1 q2 q3 :: .cells b3 59 (rgL r) :: .cells b6 59 [.raw (.slice none 0 0), .raw (.slice none 0 0)] :: .cells b4 35 (vxL v) :: .cells b5 31 (hsL h) :: Rf) (by show L.HSub (cond (f 8) _ (cond (f 3) _ _) :: _) _; rw [h2, hfi]; exact HSub.refl _) ?_
            refine LP.weak (t := 25) (v := .sl 65 (des r.D) (.tok q1 q2 q3)) (envS_is (j := 3) rfl d3) ?_
            refine LP.weak (t := 29) (v := .sl 65 [deL ⟨v, h⟩] .full) (envS_is (j := 7) rfl d7) ?_
            refine A.act (X.append 0 rfl rfl Tryd.underlying57 (El.of (P := Tryd.prog) (z := (.agg #[(.int .u8 0), (.int .u8 0), (.int .u8 0), (.int .u8 0), (.int .u8 0), (.int .u8 0), (.int .u8 0), (.int .u8 0), (.int .u8 0), (.int .u8 0), (.int .u8 0), (.int .u8 0), (.int .u8 0), (.int .u8 0), (.int .u8 0), (.int .u8 0), (.int .u8 0), (.int .u8 0), (.int .u8 0), (.int .u8 0), (.int .u8 0), (.int .u8 0), (.int .u8 0), (.int .u8 0), (.int .u8 0), (.int .u8 0), (.int .u8 0), (.int .u8 0), (.int .u8 0), (.int .u8 0), (.int .u8 0), (.int .u8 0), (.int .i64 0), (.int .u8 0), (.int .u8 0), (.int .u8 0), (.int .u8 0), (.int .u8 0), (.int .u8 0), (.int .u8 0), (.int .u8 0), (.int .u8 0), (.int .u8 0), (.int .u8 0), (.int .u8 0), (.int .u8 0), (.int .u8 0), (.int .u8 0), (.int .u8 0), (.int .u8 0), (.int .u8 0), (.int .u8 0), (.int .u8 0), (.int .u8 0), (.int .u8 0), (.int .u8 0), (.int .u8 0), (.int .u8 0), (.int .u8 0), (.int .u8 0), (.int .u8 0), (.int .u8 0), (.int .u8 0), (.int .u8 0), (.int .u8 0)])) (size := 65) (bytes := 72) rfl rfl rfl) Is.rfl' Is.rfl' (SrcL.slice Tryd.underlying57 (by decide) (by intro e he; rw [List.mem_singleton.1 he]; exact hdl)) (by simp only [Option.getD_some, Option.getD_none, byteEls_length, intEls_length, List.length_append, List.length_cons, List.length_nil, List.length_map, List.length_drop, List.length_take, Int.toNat_natCast]; omega) (by simp only [Option.getD_some, Option.getD_none, byteEls_length, intEls_length, List.length_append, List.length_cons, List.length_nil, List.length_map, List.length_drop, List.length_take, Int.toNat_natCast]; omega) (fun b30 o30 c30 => ?_))
            refine ⟨(q1, q2, q3, b30, o30, c30), Weaker.mk' ?_ (HSub.refl _)⟩
            refine env_back2 (envS_hit (sl := [(0, 22), (1, 23), (2, 24), (3, 25), (4, 26), (5, 27), (6, 28), (7, 29), (8, 30)]) (j := 8) (d := 30) rfl (Is.of (congrArg (fun z => LV.sl 65 z (.tok b30 o30 c30)) (des_app r.D [⟨v, h⟩])))) (envS_hit (sl := [(0, 22), (1, 23), (2, 24), (3, 25), (4, 26), (5, 27), (6, 28), (7, 29), (8, 30)]) (j := 7) (d := 29) rfl (fun _ _ h => h)) (envS_hit (sl := [(0, 22), (1, 23), (2, 24), (3, 25), (4, 26), (5, 27), (6, 28), (7, 29), (8, 30)]) (j := 3) (d := 25) rfl (fun _ _ h => h)) (envS_next ?_)
            · intro p hp hne; simp only [List.mem_cons, List.not_mem_nil, or_false] at hp; rcases hp with rfl | rfl | rfl | rfl | rfl | rfl | rfl | rfl | rfl <;> first | exact absurd rfl hne | exact ⟨rfl, rfl⟩
        · intro g_ f hf_
          obtain ⟨q1, q2, q3, q4, q5, q6⟩ := g_
          refine X.ghost (H' := .tail q4 q5 q6 :: .cells b3 59 (rgL r) :: .cells b6 59 [.raw (.slice none 0 0), .raw (.slice none 0 0)] :: .cells b4 35 (vxL v) :: .cells b5 31 (hsL h) :: Rf) (by show L.HSub (cond (f 8) _ _ :: _) _; rw [hf_ 8 (by omega)]; exact HSub.refl _) ?_
          refine X.u (LU.fieldO Tryd.underlying59 rfl Tryd.sizeOf57 (by decide) Is.rfl') rfl ?_
          refine X.act (X.store 1 rfl Tryd.sizeOf57 Is.rfl' Is.rfl' (by exact Cells.sl) (by (simp; done)) (by (simp; done)) ?_)
          refine LL.nil (after_code ?_)
          refine LW.seq ?_
          refine X.wghost (H' := .cells b3 59 (rgL ⟨r.L, r.D ++ [⟨v, h⟩]⟩) :: .cells b6 59 [.raw (.slice none 0 0), .raw (.slice none 0 0)] :: Rf) (HSub.trans (B := .cells b3 59 [.sl 68 (ads r.L) .unk, .sl 65 (des (r.D ++ [⟨v, h⟩])) (.tok q4 q5 q6)] :: .cells b6 59 [.raw (.slice none 0 0), .raw (.slice none 0 0)] :: Rf) (by repeat (first | exact HSub.refl _ | refine HSub.pick 0 rfl ?_ | refine HSub.pick 1 rfl ?_ | refine HSub.drop ?_)) (HSub.cell 1 rfl Is.unk)) ?_
          refine LW.region ?_
          refine X.u (LU.loadO 0 rfl ⟨Tryd.sizeOf59, Tryd.isAgg59⟩ Is.rfl' (Part.whole (by (simp; done)))) rfl ?_
          refine X.act (X.store 1 rfl Tryd.sizeOf59 Is.rfl' Is.rfl' (by exact Cells.agg) (by (simp; done)) (by (simp; done)) ?_)
          refine X.u (LU.assignR Is.rfl') rfl ?_
          refine LL.nil (after_code ?_)
          refine LW.ret (after_end ?_)
          refine X.ret (H' := []) (by exact Res.cell2 0 rfl rfl ⟨Tryd.sizeOf59, Tryd.isAgg59⟩ (Part.whole (by rfl)) (by exact IsA rfl) (by exact IsR rfl)) (by repeat (first | exact HSub.refl _ | refine HSub.drop ?_)) ?_
          have hE : rkE r v h = 0 := by unfold rkE; rw [if_neg (by rw [h1]; decide), if_neg (by rw [h3]; decide), if_neg h5]
          exact ⟨by unfold rkG; rw [hE, if_pos rfl]; rfl, rfl⟩
set_option maxHeartbeats 4000000 in
set_option maxRecDepth 100000 in
theorem runkill_calls (r : Rg) (v : Vx) (h : Hs) (hD : r.D.length < 1000000) : LCalls Tryd.prog 52 [.agg (rgL r), .agg (vxL v), .agg (hsL h)] [] (fun x H' => x = .tup [.agg (rgL (ukG r v h)), i64 (ukE r v h : Nat)] ∧ H' = []) := by
  have hvl := vxL_len v
  have hhl := hsL_len h
  have hv32 : v.p.1.length = 32 := v.p.2
  have hh32 : h.1.length = 32 := h.2
  have hpr := placeG_range r.D ⟨v, h⟩
  refine LCalls.of Tryd.func52 rfl Tryd.ntmps52 Tryd.results52 rfl (fun Rf => ?_)
  refine LW.seq ?_
  refine LW.region ?_
  refine X.act (X.box rfl Is.rfl' (by exact Cells.agg) (fun b3 => ?_))
  refine X.act (X.box rfl Is.rfl' (by exact Cells.agg) (fun b4 => ?_))
  refine X.act (X.box rfl Is.rfl' (by exact Cells.agg) (fun b5 => ?_))
  refine X.act (X.alloc rfl Tryd.zeroValue59 (by exact Cells.rawagg (by decide)) (fun b6 => ?_))
  refine X.u (LU.assignR Is.rfl') rfl ?_
  refine LL.nil (after_code ?_)
  refine LW.seq ?_
  refine LW.seq ?_
  refine LW.region ?_
  refine X.u (LU.loadO 2 rfl ⟨Tryd.sizeOf35, Tryd.isAgg35⟩ Is.rfl' (Part.whole (by assumption))) rfl ?_
  refine X.u (LU.call (rends_calls v) Tryd.func64 rfl rfl (Opds.cons Is.rfl' Opds.nil)) rfl ?_
  refine LL.nil (after_code ?_)
  refine X.cond rfl (fun h1 => ?_) (fun h1 => ?_)
  · try have h1 := of_decide_eq_true h1
    refine LW.seq ?_
    refine LW.region ?_
    refine X.u (LU.loadO 3 rfl ⟨Tryd.sizeOf59, Tryd.isAgg59⟩ Is.rfl' (Part.whole (by (simp; done)))) rfl ?_
    refine X.act (X.store 0 rfl Tryd.sizeOf59 Is.rfl' Is.rfl' (by exact Cells.agg) (by (simp; done)) (by exact Nat.le_of_ble_eq_true rfl) ?_)
    refine X.u (LU.assignR Is.rfl') rfl ?_
    refine LL.nil (after_code ?_)
    refine LW.ret (ret_code (after_end ?_))
    refine X.ret (H' := []) (by exact Res.cell2 0 rfl rfl ⟨Tryd.sizeOf59, Tryd.isAgg59⟩ (Part.whole (by rfl)) (by exact IsA rfl) (by exact IsR rfl)) (by repeat (first | exact HSub.refl _ | refine HSub.drop ?_)) ?_
    have hE : ukE r v h = 2 := by unfold ukE; rw [if_pos h1]
    exact ⟨by unfold ukG; rw [hE, if_neg (by decide)]; rfl, rfl⟩
  · try have h1 := of_decide_eq_false h1
    refine LW.skip (after_code ?_)
    refine LW.seq ?_
    refine LW.region ?_
    refine X.u (LU.loadO 3 rfl ⟨Tryd.sizeOf59, Tryd.isAgg59⟩ Is.rfl' (Part.whole (by (simp; done)))) rfl ?_
    refine X.u (LU.loadO 2 rfl ⟨Tryd.sizeOf35, Tryd.isAgg35⟩ Is.rfl' (Part.whole (by assumption))) rfl ?_
    refine X.u (LU.loadO 1 rfl ⟨Tryd.sizeOf31, Tryd.isAgg31⟩ Is.rfl' (Part.whole (by assumption))) rfl ?_
    refine X.u (LU.call (death_calls r v h hD) Tryd.func66 rfl rfl (Opds.cons Is.rfl' (Opds.cons Is.rfl' (Opds.cons Is.rfl' Opds.nil)))) rfl ?_
    refine X.u (LU.assignR Is.rfl') rfl ?_
    refine LL.nil (after_code ?_)
    refine LW.seq ?_
    refine LW.seq ?_
    refine LW.region ?_
    refine X.u (LU.moveR Is.rfl') rfl ?_
    refine X.u (LU.lss Is.rfl' Is.rfl') rfl ?_
    refine LL.nil (after_code ?_)
    refine X.cond rfl (fun h4 => ?_) (fun h4 => ?_)
    · have h4 : (⟨v, h⟩ : De) ∉ r.D := fun c => by have h0 := of_decide_eq_true h4; have := placeG_nn c; omega
      have hz0 : (0 : Nat) = 0 := rfl
      refine LW.seq ?_
      refine LW.region ?_
      refine X.u (LU.loadO 3 rfl ⟨Tryd.sizeOf59, Tryd.isAgg59⟩ Is.rfl' (Part.whole (by (simp; done)))) rfl ?_
      refine X.act (X.store 0 rfl Tryd.sizeOf59 Is.rfl' Is.rfl' (by exact Cells.agg) (by (simp; done)) (by exact Nat.le_of_ble_eq_true rfl) ?_)
      refine X.u (LU.assignR Is.rfl') rfl ?_
      refine LL.nil (after_code ?_)
      refine LW.ret (ret_code (after_end ?_))
      refine X.ret (H' := []) (by exact Res.cell2 0 rfl rfl ⟨Tryd.sizeOf59, Tryd.isAgg59⟩ (Part.whole (by rfl)) (by exact IsA rfl) (by exact IsR rfl)) (by repeat (first | exact HSub.refl _ | refine HSub.drop ?_)) ?_
      have hE : ukE r v h = 111 := by unfold ukE; rw [if_neg (by rw [h1]; decide), if_neg h4]
      exact ⟨by unfold ukG; rw [hE, if_neg (by decide)]; rfl, rfl⟩
    · have h4 : (⟨v, h⟩ : De) ∈ r.D := Classical.byContradiction fun c => of_decide_eq_false h4 (by have := placeG_neg.2 c; omega)
      have hge := placeG_nn h4
      obtain ⟨p, hp⟩ : ∃ p : Nat, placeG r.D ⟨v, h⟩ = p := ⟨(placeG r.D ⟨v, h⟩).toNat, by omega⟩
      have hpl : p < r.D.length := by omega
      refine X.wweak (t := 8) (v := i64 (p : Nat)) (Is.of (congrArg i64 hp)) ?_
      refine LW.skip (after_code ?_)
      refine LW.seq ?_
      refine LW.invM (m := 12) (γ := Nat × Nat × Nat × Nat × Nat × Nat) [(0, 19), (1, 20), (2, 21), (3, 22), (4, 23), (5, 24), (6, 25), (7, 26), (8, 27), (9, 28), (10, 29), (11, 30)] (fun g_ d => match g_ with | ⟨q1, q2, q3, q4, q5, q6⟩ => match d with | 19 => .sl 65 [] .full | 20 => .raw (.pointer (some ⟨b3, 1, none⟩)) | 21 => .sl 65 (des r.D) .unk | 22 => i64 (p : Nat) | 23 => .sl 65 (des (r.D.take p)) .unk | 24 => .sl 65 (des (r.D.take p)) (.tok q1 q2 q3) | 25 => .raw (.pointer (some ⟨b3, 1, none⟩)) | 26 => .sl 65 (des r.D) .unk | 27 => i64 (p : Nat) | 28 => i64 ((p + 1 : Nat) : Int) | 29 => .sl 65 (des (r.D.drop (p + 1))) .unk | 30 => .sl 65 (des (r.D.take p ++ r.D.drop (p + 1))) (.tok q4 q5 q6) | _ => .any) (fun g_ f => match g_ with | ⟨q1, q2, q3, q4, q5, q6⟩ => cond (f 11) (.tail q4 q5 q6) (cond (f 5) (.tail q1 q2 q3) (.tail 0 0 0)) :: .cells b3 59 (rgL r) :: .cells b6 59 [.raw (.slice none 0 0), .raw (.slice none 0 0)] :: .cells b4 35 (vxL v) :: .cells b5 31 (hsL h) :: Rf) (0, 0, 0, 0, 0, 0) rfl (by kernel_rfl) rfl rfl ((HSub.trans (by repeat (first | exact HSub.refl _ | refine HSub.pick 0 rfl ?_ | refine HSub.pick 1 rfl ?_ | refine HSub.pick 3 rfl ?_)) (HSub.tail0 0 0 0 (Nat.le_refl _) _))) ?_ ?_
      · intro i hi f g_ hfi hdir hdown
        obtain ⟨q1, q2, q3, q4, q5, q6⟩ := g_
        have hc : i = 0 ∨ i = 1 ∨ i = 2 ∨ i = 3 ∨ i = 4 ∨ i = 5 ∨ i = 6 ∨ i = 7 ∨ i = 8 ∨ i = 9 ∨ i = 10 ∨ i = 11 := by omega
        rcases hc with rfl | rfl | rfl | rfl | rfl | rfl | rfl | rfl | rfl | rfl | rfl | rfl
        · refine ⟨_, rfl, ?_⟩
          refine A.u (LU.lits Tryd.underlying57 Tryd.sizeOf106 Tryd.zeroValue106 (ones rfl) rfl (by decide) (by decide) Elems.nil (by intro e he; cases he) rfl) rfl ?_
          refine ⟨⟨q1, q2, q3, q4, q5, q6⟩, Weaker.mk' ?_ (HSub.refl _)⟩
          refine env_back0 (envS_hit (sl := [(0, 19), (1, 20), (2, 21), (3, 22), (4, 23), (5, 24), (6, 25), (7, 26), (8, 27), (9, 28), (10, 29), (11, 30)]) (j := 0) (d := 19) rfl (fun _ _ h => h))  (envS_next ?_)
          · intro p hp hne; simp only [List.mem_cons, List.not_mem_nil, or_false] at hp; rcases hp with rfl | rfl | rfl | rfl | rfl | rfl | rfl | rfl | rfl | rfl | rfl | rfl <;> first | exact absurd rfl hne | exact ⟨rfl, rfl⟩
        · refine ⟨_, rfl, ?_⟩
          refine A.u (LU.fieldO Tryd.underlying59 rfl Tryd.sizeOf57 (by decide) Is.rfl') rfl ?_
          refine ⟨⟨q1, q2, q3, q4, q5, q6⟩, Weaker.mk' ?_ (HSub.refl _)⟩
          refine env_back0 (envS_hit (sl := [(0, 19), (1, 20), (2, 21), (3, 22), (4, 23), (5, 24), (6, 25), (7, 26), (8, 27), (9, 28), (10, 29), (11, 30)]) (j := 1) (d := 20) rfl (fun _ _ h => h))  (envS_next ?_)
          · intro p hp hne; simp only [List.mem_cons, List.not_mem_nil, or_false] at hp; rcases hp with rfl | rfl | rfl | rfl | rfl | rfl | rfl | rfl | rfl | rfl | rfl | rfl <;> first | exact absurd rfl hne | exact ⟨rfl, rfl⟩
        · have d1 := hdir 1 (List.mem_of_elem_eq_true (by kernel_rfl))
          refine ⟨_, rfl, ?_⟩
          refine LP.weak (t := 20) (v := .raw (.pointer (some ⟨b3, 1, none⟩))) (envS_is (j := 1) rfl d1) ?_
          refine A.u (LU.loadO 1 rfl ⟨Tryd.sizeOf57, Tryd.isAgg57⟩ Is.rfl' (Part.one rfl)) rfl ?_
          refine ⟨⟨q1, q2, q3, q4, q5, q6⟩, Weaker.mk' ?_ (HSub.refl _)⟩
          refine env_back1 (envS_hit (sl := [(0, 19), (1, 20), (2, 21), (3, 22), (4, 23), (5, 24), (6, 25), (7, 26), (8, 27), (9, 28), (10, 29), (11, 30)]) (j := 2) (d := 21) rfl (fun _ _ h => h)) (envS_hit (sl := [(0, 19), (1, 20), (2, 21), (3, 22), (4, 23), (5, 24), (6, 25), (7, 26), (8, 27), (9, 28), (10, 29), (11, 30)]) (j := 1) (d := 20) rfl (fun _ _ h => h)) (envS_next ?_)
          · intro p hp hne; simp only [List.mem_cons, List.not_mem_nil, or_false] at hp; rcases hp with rfl | rfl | rfl | rfl | rfl | rfl | rfl | rfl | rfl | rfl | rfl | rfl <;> first | exact absurd rfl hne | exact ⟨rfl, rfl⟩
        · refine ⟨_, rfl, ?_⟩
          refine A.u (LU.moveR Is.rfl') rfl ?_
          refine ⟨⟨q1, q2, q3, q4, q5, q6⟩, Weaker.mk' ?_ (HSub.refl _)⟩
          refine env_back0 (envS_hit (sl := [(0, 19), (1, 20), (2, 21), (3, 22), (4, 23), (5, 24), (6, 25), (7, 26), (8, 27), (9, 28), (10, 29), (11, 30)]) (j := 3) (d := 22) rfl (fun _ _ h => h))  (envS_next ?_)
          · intro p hp hne; simp only [List.mem_cons, List.not_mem_nil, or_false] at hp; rcases hp with rfl | rfl | rfl | rfl | rfl | rfl | rfl | rfl | rfl | rfl | rfl | rfl <;> first | exact absurd rfl hne | exact ⟨rfl, rfl⟩
        · have d2 := hdir 2 (List.mem_of_elem_eq_true (by kernel_rfl))
          have d3 := hdir 3 (List.mem_of_elem_eq_true (by kernel_rfl))
          refine ⟨_, rfl, ?_⟩
          refine LP.weak (t := 21) (v := .sl 65 (des r.D) .unk) (envS_is (j := 2) rfl d2) ?_
          refine LP.weak (t := 22) (v := i64 (p : Nat)) (envS_is (j := 3) rfl d3) ?_
          refine A.u (LU.weak (LU.slice (lo := none) (hi := some _) (l := none) (h := some ((p : Nat) : Int)) Tryd.sizeOf106 (by decide) Tryd.underlying57 Is.rfl' trivial ⟨_, Is.rfl'⟩ (by (simp; done)) (by simp only [Option.getD_some, Option.getD_none, List.length_map]; try omega) (by simp only [Option.getD_some, Option.getD_none, List.length_map]; try omega) .unk (.inl rfl)) (Is.of (y := .sl 65 (des (r.D.take p)) .unk) (congrArg (fun z => LV.sl 65 z .unk) (by simp only [Option.getD_some, Option.getD_none, Int.toNat_natCast, Int.toNat_zero, List.drop_zero, Nat.sub_zero, des, List.map_take] <;> (try rfl))))) rfl ?_
          refine ⟨⟨q1, q2, q3, q4, q5, q6⟩, Weaker.mk' ?_ (HSub.refl _)⟩
          refine env_back2 (envS_hit (sl := [(0, 19), (1, 20), (2, 21), (3, 22), (4, 23), (5, 24), (6, 25), (7, 26), (8, 27), (9, 28), (10, 29), (11, 30)]) (j := 4) (d := 23) rfl (fun _ _ h => h)) (envS_hit (sl := [(0, 19), (1, 20), (2, 21), (3, 22), (4, 23), (5, 24), (6, 25), (7, 26), (8, 27), (9, 28), (10, 29), (11, 30)]) (j := 3) (d := 22) rfl (fun _ _ h => h)) (envS_hit (sl := [(0, 19), (1, 20), (2, 21), (3, 22), (4, 23), (5, 24), (6, 25), (7, 26), (8, 27), (9, 28), (10, 29), (11, 30)]) (j := 2) (d := 21) rfl (fun _ _ h => h)) (envS_next ?_)
          · intro p hp hne; simp only [List.mem_cons, List.not_mem_nil, or_false] at hp; rcases hp with rfl | rfl | rfl | rfl | rfl | rfl | rfl | rfl | rfl | rfl | rfl | rfl <;> first | exact absurd rfl hne | exact ⟨rfl, rfl⟩
        · have d0 := hdir 0 (List.mem_of_elem_eq_true (by kernel_rfl))
          have d4 := hdir 4 (List.mem_of_elem_eq_true (by kernel_rfl))
          refine ⟨_, rfl, ?_⟩
          have h9 : f 11 = false := Bool.eq_false_iff.2 (fun h => by rw [hdown 11 (by omega) h 5 (List.mem_of_elem_eq_true (by kernel_rfl))] at hfi; cases hfi)
          refine LP.ghost (H' := .cells b3 59 (rgL r) :: .cells b6 59 [.raw (.slice none 0 0), .raw (.slice none 0 0)] :: .cells b4 35 (vxL v) :: .cells b5 31 (hsL h) :: Rf) (by show L.HSub (cond (f 11) _ (cond (f 5) _ _) :: _) _; rw [h9, hfi]; exact HSub.drop (HSub.refl _)) ?_
          refine LP.weak (t := 19) (v := .sl 65 [] .full) (envS_is (j := 0) rfl d0) ?_
          refine LP.weak (t := 23) (v := .sl 65 (des (r.D.take p)) .unk) (envS_is (j := 4) rfl d4) ?_
          refine A.act (X.appendF rfl Tryd.underlying57 (El.of (P := Tryd.prog) (z := (.agg #[(.int .u8 0), (.int .u8 0), (.int .u8 0), (.int .u8 0), (.int .u8 0), (.int .u8 0), (.int .u8 0), (.int .u8 0), (.int .u8 0), (.int .u8 0), (.int .u8 0), (.int .u8 0), (.int .u8 0), (.int .u8 0), (.int .u8 0), (.int .u8 0), (.int .u8 0), (.int .u8 0), (.int .u8 0), (.int .u8 0), (.int .u8 0), (.int .u8 0), (.int .u8 0), (.int .u8 0), (.int .u8 0), (.int .u8 0), (.int .u8 0), (.int .u8 0), (.int .u8 0), (.int .u8 0), (.int .u8 0), (.int .u8 0), (.int .i64 0), (.int .u8 0), (.int .u8 0), (.int .u8 0), (.int .u8 0), (.int .u8 0), (.int .u8 0), (.int .u8 0), (.int .u8 0), (.int .u8 0), (.int .u8 0), (.int .u8 0), (.int .u8 0), (.int .u8 0), (.int .u8 0), (.int .u8 0), (.int .u8 0), (.int .u8 0), (.int .u8 0), (.int .u8 0), (.int .u8 0), (.int .u8 0), (.int .u8 0), (.int .u8 0), (.int .u8 0), (.int .u8 0), (.int .u8 0), (.int .u8 0), (.int .u8 0), (.int .u8 0), (.int .u8 0), (.int .u8 0), (.int .u8 0)])) (size := 65) (bytes := 72) rfl rfl rfl) Is.rfl' Is.rfl' (SrcL.slice Tryd.underlying57 (by decide) (des_size _)) (by simp only [Option.getD_some, Option.getD_none, byteEls_length, intEls_length, List.length_append, List.length_cons, List.length_nil, List.length_map, List.length_drop, List.length_take, Int.toNat_natCast]; omega) (by simp only [Option.getD_some, Option.getD_none, byteEls_length, intEls_length, List.length_append, List.length_cons, List.length_nil, List.length_map, List.length_drop, List.length_take, Int.toNat_natCast]; omega) (fun b24 o24 c24 => ?_))
          refine ⟨(b24, o24, c24, q4, q5, q6), Weaker.mk' ?_ (by show L.HSub _ (cond (f 11) _ (.tail b24 o24 c24) :: _); rw [h9]; exact HSub.refl _)⟩
          refine env_back2 (envS_hit (sl := [(0, 19), (1, 20), (2, 21), (3, 22), (4, 23), (5, 24), (6, 25), (7, 26), (8, 27), (9, 28), (10, 29), (11, 30)]) (j := 5) (d := 24) rfl (fun _ _ h => h)) (envS_hit (sl := [(0, 19), (1, 20), (2, 21), (3, 22), (4, 23), (5, 24), (6, 25), (7, 26), (8, 27), (9, 28), (10, 29), (11, 30)]) (j := 4) (d := 23) rfl (fun _ _ h => h)) (envS_hit (sl := [(0, 19), (1, 20), (2, 21), (3, 22), (4, 23), (5, 24), (6, 25), (7, 26), (8, 27), (9, 28), (10, 29), (11, 30)]) (j := 0) (d := 19) rfl (fun _ _ h => h)) (envS_next ?_)
          · intro p hp hne; simp only [List.mem_cons, List.not_mem_nil, or_false] at hp; rcases hp with rfl | rfl | rfl | rfl | rfl | rfl | rfl | rfl | rfl | rfl | rfl | rfl <;> first | exact absurd rfl hne | exact ⟨rfl, rfl⟩
        · refine ⟨_, rfl, ?_⟩
          refine A.u (LU.fieldO Tryd.underlying59 rfl Tryd.sizeOf57 (by decide) Is.rfl') rfl ?_
          refine ⟨⟨q1, q2, q3, q4, q5, q6⟩, Weaker.mk' ?_ (HSub.refl _)⟩
          refine env_back0 (envS_hit (sl := [(0, 19), (1, 20), (2, 21), (3, 22), (4, 23), (5, 24), (6, 25), (7, 26), (8, 27), (9, 28), (10, 29), (11, 30)]) (j := 6) (d := 25) rfl (fun _ _ h => h))  (envS_next ?_)
          · intro p hp hne; simp only [List.mem_cons, List.not_mem_nil, or_false] at hp; rcases hp with rfl | rfl | rfl | rfl | rfl | rfl | rfl | rfl | rfl | rfl | rfl | rfl <;> first | exact absurd rfl hne | exact ⟨rfl, rfl⟩
        · have d6 := hdir 6 (List.mem_of_elem_eq_true (by kernel_rfl))
          refine ⟨_, rfl, ?_⟩
          refine LP.weak (t := 25) (v := .raw (.pointer (some ⟨b3, 1, none⟩))) (envS_is (j := 6) rfl d6) ?_
          refine A.u (LU.loadO 1 rfl ⟨Tryd.sizeOf57, Tryd.isAgg57⟩ Is.rfl' (Part.one rfl)) rfl ?_
          refine ⟨⟨q1, q2, q3, q4, q5, q6⟩, Weaker.mk' ?_ (HSub.refl _)⟩
          refine env_back1 (envS_hit (sl := [(0, 19), (1, 20), (2, 21), (3, 22), (4, 23), (5, 24), (6, 25), (7, 26), (8, 27), (9, 28), (10, 29), (11, 30)]) (j := 7) (d := 26) rfl (fun _ _ h => h)) (envS_hit (sl := [(0, 19), (1, 20), (2, 21), (3, 22), (4, 23), (5, 24), (6, 25), (7, 26), (8, 27), (9, 28), (10, 29), (11, 30)]) (j := 6) (d := 25) rfl (fun _ _ h => h)) (envS_next ?_)
          · intro p hp hne; simp only [List.mem_cons, List.not_mem_nil, or_false] at hp; rcases hp with rfl | rfl | rfl | rfl | rfl | rfl | rfl | rfl | rfl | rfl | rfl | rfl <;> first | exact absurd rfl hne | exact ⟨rfl, rfl⟩
        · refine ⟨_, rfl, ?_⟩
          refine A.u (LU.moveR Is.rfl') rfl ?_
          refine ⟨⟨q1, q2, q3, q4, q5, q6⟩, Weaker.mk' ?_ (HSub.refl _)⟩
          refine env_back0 (envS_hit (sl := [(0, 19), (1, 20), (2, 21), (3, 22), (4, 23), (5, 24), (6, 25), (7, 26), (8, 27), (9, 28), (10, 29), (11, 30)]) (j := 8) (d := 27) rfl (fun _ _ h => h))  (envS_next ?_)
          · intro p hp hne; simp only [List.mem_cons, List.not_mem_nil, or_false] at hp; rcases hp with rfl | rfl | rfl | rfl | rfl | rfl | rfl | rfl | rfl | rfl | rfl | rfl <;> first | exact absurd rfl hne | exact ⟨rfl, rfl⟩
        · have d8 := hdir 8 (List.mem_of_elem_eq_true (by kernel_rfl))
          refine ⟨_, rfl, ?_⟩
          refine LP.weak (t := 27) (v := i64 (p : Nat)) (envS_is (j := 8) rfl d8) ?_
          refine A.u (LU.weak (LU.addN Is.rfl' Is.rfl' (wrap_i64 (by omega) (by omega))) (Is.of (y := i64 ((p + 1 : Nat) : Int)) (rfl))) rfl ?_
          refine ⟨⟨q1, q2, q3, q4, q5, q6⟩, Weaker.mk' ?_ (HSub.refl _)⟩
          refine env_back1 (envS_hit (sl := [(0, 19), (1, 20), (2, 21), (3, 22), (4, 23), (5, 24), (6, 25), (7, 26), (8, 27), (9, 28), (10, 29), (11, 30)]) (j := 9) (d := 28) rfl (fun _ _ h => h)) (envS_hit (sl := [(0, 19), (1, 20), (2, 21), (3, 22), (4, 23), (5, 24), (6, 25), (7, 26), (8, 27), (9, 28), (10, 29), (11, 30)]) (j := 8) (d := 27) rfl (fun _ _ h => h)) (envS_next ?_)
          · intro p hp hne; simp only [List.mem_cons, List.not_mem_nil, or_false] at hp; rcases hp with rfl | rfl | rfl | rfl | rfl | rfl | rfl | rfl | rfl | rfl | rfl | rfl <;> first | exact absurd rfl hne | exact ⟨rfl, rfl⟩
        · have d7 := hdir 7 (List.mem_of_elem_eq_true (by kernel_rfl))
          have d9 := hdir 9 (List.mem_of_elem_eq_true (by kernel_rfl))
          refine ⟨_, rfl, ?_⟩
          refine LP.weak (t := 26) (v := .sl 65 (des r.D) .unk) (envS_is (j := 7) rfl d7) ?_
          refine LP.weak (t := 28) (v := i64 ((p + 1 : Nat) : Int)) (envS_is (j := 9) rfl d9) ?_
          refine A.u (LU.weak (LU.slice (lo := some _) (hi := none) (l := some ((p + 1 : Nat) : Int)) (h := none) Tryd.sizeOf106 (by decide) Tryd.underlying57 Is.rfl' ⟨_, Is.rfl'⟩ trivial (by (simp; omega)) (by simp only [Option.getD_some, Option.getD_none, List.length_map]; try omega) (by simp only [Option.getD_some, Option.getD_none, List.length_map]; try omega) .unk (.inl rfl)) (Is.of (y := .sl 65 (des (r.D.drop (p + 1))) .unk) (congrArg (fun z => LV.sl 65 z .unk) (by simp only [Option.getD_some, Option.getD_none, Int.toNat_natCast, des, List.map_drop, List.length_map]; rw [List.take_of_length_le (by simp)])))) rfl ?_
          refine ⟨⟨q1, q2, q3, q4, q5, q6⟩, Weaker.mk' ?_ (HSub.refl _)⟩
          refine env_back2 (envS_hit (sl := [(0, 19), (1, 20), (2, 21), (3, 22), (4, 23), (5, 24), (6, 25), (7, 26), (8, 27), (9, 28), (10, 29), (11, 30)]) (j := 10) (d := 29) rfl (fun _ _ h => h)) (envS_hit (sl := [(0, 19), (1, 20), (2, 21), (3, 22), (4, 23), (5, 24), (6, 25), (7, 26), (8, 27), (9, 28), (10, 29), (11, 30)]) (j := 9) (d := 28) rfl (fun _ _ h => h)) (envS_hit (sl := [(0, 19), (1, 20), (2, 21), (3, 22), (4, 23), (5, 24), (6, 25), (7, 26), (8, 27), (9, 28), (10, 29), (11, 30)]) (j := 7) (d := 26) rfl (fun _ _ h => h)) (envS_next ?_)
          · intro p hp hne; simp only [List.mem_cons, List.not_mem_nil, or_false] at hp; rcases hp with rfl | rfl | rfl | rfl | rfl | rfl | rfl | rfl | rfl | rfl | rfl | rfl <;> first | exact absurd rfl hne | exact ⟨rfl, rfl⟩
        · have d5 := hdir 5 (List.mem_of_elem_eq_true (by kernel_rfl))
          have d10 := hdir 10 (List.mem_of_elem_eq_true (by kernel_rfl))
          refine ⟨_, rfl, ?_⟩
          have h4 : f 5 = true := hdir 5 (List.mem_of_elem_eq_true (by kernel_rfl))
          refine LP.ghost (H' := .tail q1 q2 q3 :: .cells b3 59 (rgL r) :: .cells b6 59 [.raw (.slice none 0 0), .raw (.slice none 0 0)] :: .cells b4 35 (vxL v) :: .cells b5 31 (hsL h) :: Rf) (by show L.HSub (cond (f 11) _ (cond (f 5) _ _) :: _) _; rw [h4, hfi]; exact HSub.refl _) ?_
          refine LP.weak (t := 24) (v := .sl 65 (des (r.D.take p)) (.tok q1 q2 q3)) (envS_is (j := 5) rfl d5) ?_
          refine LP.weak (t := 29) (v := .sl 65 (des (r.D.drop (p + 1))) .unk) (envS_is (j := 10) rfl d10) ?_
          refine A.act (X.append 0 rfl rfl Tryd.underlying57 (El.of (P := Tryd.prog) (z := (.agg #[(.int .u8 0), (.int .u8 0), (.int .u8 0), (.int .u8 0), (.int .u8 0), (.int .u8 0), (.int .u8 0), (.int .u8 0), (.int .u8 0), (.int .u8 0), (.int .u8 0), (.int .u8 0), (.int .u8 0), (.int .u8 0), (.int .u8 0), (.int .u8 0), (.int .u8 0), (.int .u8 0), (.int .u8 0), (.int .u8 0), (.int .u8 0), (.int .u8 0), (.int .u8 0), (.int .u8 0), (.int .u8 0), (.int .u8 0), (.int .u8 0), (.int .u8 0), (.int .u8 0), (.int .u8 0), (.int .u8 0), (.int .u8 0), (.int .i64 0), (.int .u8 0), (.int .u8 0), (.int .u8 0), (.int .u8 0), (.int .u8 0), (.int .u8 0), (.int .u8 0), (.int .u8 0), (.int .u8 0), (.int .u8 0), (.int .u8 0), (.int .u8 0), (.int .u8 0), (.int .u8 0), (.int .u8 0), (.int .u8 0), (.int .u8 0), (.int .u8 0), (.int .u8 0), (.int .u8 0), (.int .u8 0), (.int .u8 0), (.int .u8 0), (.int .u8 0), (.int .u8 0), (.int .u8 0), (.int .u8 0), (.int .u8 0), (.int .u8 0), (.int .u8 0), (.int .u8 0), (.int .u8 0)])) (size := 65) (bytes := 72) rfl rfl rfl) Is.rfl' Is.rfl' (SrcL.slice Tryd.underlying57 (by decide) (des_size _)) (by simp only [Option.getD_some, Option.getD_none, byteEls_length, intEls_length, List.length_append, List.length_cons, List.length_nil, List.length_map, List.length_drop, List.length_take, Int.toNat_natCast]; omega) (by simp only [Option.getD_some, Option.getD_none, byteEls_length, intEls_length, List.length_append, List.length_cons, List.length_nil, List.length_map, List.length_drop, List.length_take, Int.toNat_natCast]; omega) (fun b30 o30 c30 => ?_))
          refine ⟨(q1, q2, q3, b30, o30, c30), Weaker.mk' ?_ (HSub.refl _)⟩
          refine env_back2 (envS_hit (sl := [(0, 19), (1, 20), (2, 21), (3, 22), (4, 23), (5, 24), (6, 25), (7, 26), (8, 27), (9, 28), (10, 29), (11, 30)]) (j := 11) (d := 30) rfl (Is.of (congrArg (fun z => LV.sl 65 z (.tok b30 o30 c30)) (des_app _ _)))) (envS_hit (sl := [(0, 19), (1, 20), (2, 21), (3, 22), (4, 23), (5, 24), (6, 25), (7, 26), (8, 27), (9, 28), (10, 29), (11, 30)]) (j := 10) (d := 29) rfl (fun _ _ h => h)) (envS_hit (sl := [(0, 19), (1, 20), (2, 21), (3, 22), (4, 23), (5, 24), (6, 25), (7, 26), (8, 27), (9, 28), (10, 29), (11, 30)]) (j := 5) (d := 24) rfl (fun _ _ h => h)) (envS_next ?_)
          · intro p hp hne; simp only [List.mem_cons, List.not_mem_nil, or_false] at hp; rcases hp with rfl | rfl | rfl | rfl | rfl | rfl | rfl | rfl | rfl | rfl | rfl | rfl <;> first | exact absurd rfl hne | exact ⟨rfl, rfl⟩
      · intro g_ f hf_
        obtain ⟨q1, q2, q3, q4, q5, q6⟩ := g_
        refine X.ghost (H' := .tail q4 q5 q6 :: .cells b3 59 (rgL r) :: .cells b6 59 [.raw (.slice none 0 0), .raw (.slice none 0 0)] :: .cells b4 35 (vxL v) :: .cells b5 31 (hsL h) :: Rf) (by show L.HSub (cond (f 11) _ _ :: _) _; rw [hf_ 11 (by omega)]; exact HSub.refl _) ?_
        refine X.u (LU.fieldO Tryd.underlying59 rfl Tryd.sizeOf57 (by decide) Is.rfl') rfl ?_
        refine X.act (X.store 1 rfl Tryd.sizeOf57 Is.rfl' Is.rfl' (by exact Cells.sl) (by (simp; done)) (by (simp; done)) ?_)
        refine LL.nil (after_code ?_)
        refine LW.seq ?_
        refine X.wghost (H' := .cells b3 59 (rgL ⟨r.L, r.D.take p ++ r.D.drop (p + 1)⟩) :: .cells b6 59 [.raw (.slice none 0 0), .raw (.slice none 0 0)] :: Rf) (HSub.trans (B := .cells b3 59 [.sl 68 (ads r.L) .unk, .sl 65 (des (r.D.take p ++ r.D.drop (p + 1))) (.tok q4 q5 q6)] :: .cells b6 59 [.raw (.slice none 0 0), .raw (.slice none 0 0)] :: Rf) (by repeat (first | exact HSub.refl _ | refine HSub.pick 0 rfl ?_ | refine HSub.pick 1 rfl ?_ | refine HSub.drop ?_)) (HSub.cell 1 rfl Is.unk)) ?_
        refine LW.region ?_
        refine X.u (LU.loadO 0 rfl ⟨Tryd.sizeOf59, Tryd.isAgg59⟩ Is.rfl' (Part.whole (by (simp; done)))) rfl ?_
        refine X.act (X.store 1 rfl Tryd.sizeOf59 Is.rfl' Is.rfl' (by exact Cells.agg) (by (simp; done)) (by (simp; done)) ?_)
        refine X.u (LU.assignR Is.rfl') rfl ?_
        refine LL.nil (after_code ?_)
        refine LW.ret (after_end ?_)
        refine X.ret (H' := []) (by exact Res.cell2 0 rfl rfl ⟨Tryd.sizeOf59, Tryd.isAgg59⟩ (Part.whole (by rfl)) (by exact IsA rfl) (by exact IsR rfl)) (by repeat (first | exact HSub.refl _ | refine HSub.drop ?_)) ?_
        have hE : ukE r v h = 0 := by unfold ukE; rw [if_neg (by rw [h1]; decide), if_pos h4]
        exact ⟨by unfold ukG; rw [hE, if_pos rfl, hp, Int.toNat_natCast, List.eraseIdx_eq_take_drop_succ]; rfl, rfl⟩
end Go.Proofs.YtolpkeajokjbjaaDoor
namespace Go.Proofs.YtolpkeajokjbjaaDoor
open Go.RowKit Go.L Go.Lib
attribute [local irreducible] LL LW LO LP LA
theorem put_app {p x zs : List LV} {k : Nat} (hk : p.length = k) : putAt (p ++ zs.drop k) k x = (p ++ x) ++ zs.drop (k + x.length) := by
  unfold putAt
  rw [List.take_left' hk, ← List.drop_drop, List.drop_left' hk, List.drop_drop, List.append_assoc]
theorem laid_ad {a b zs : List LV} {c d : LV} (ha : a.length = 33) (hb : b.length = 33) (hz : zs.length = 68) : laid (#[(0, 33), (33, 33), (66, 1), (67, 1)][·]?) zs [(0, a), (1, b), (2, [c]), (3, [d])] = some (a ++ (b ++ [c, d])) := by
  have h1 : putAt zs 0 a = a ++ zs.drop 33 := by simp [putAt, ha]
  have h2 : putAt (a ++ zs.drop 33) 33 b = (a ++ b) ++ zs.drop 66 := by rw [put_app ha, hb]
  have lab : (a ++ b).length = 66 := by rw [List.length_append, ha, hb]
  have h3 : putAt ((a ++ b) ++ zs.drop 66) 66 [c] = ((a ++ b) ++ [c]) ++ zs.drop 67 := by rw [put_app lab]; rfl
  have labc : ((a ++ b) ++ [c]).length = 67 := by rw [List.length_append, lab]; rfl
  have h4 : putAt (((a ++ b) ++ [c]) ++ zs.drop 67) 67 [d] = a ++ (b ++ [c, d]) := by
    rw [put_app labc, List.drop_of_length_le (by simp [hz])]
    simp
  have l1 : (a ++ zs.drop 33).length = 68 := by rw [List.length_append, List.length_drop, ha, hz]
  have l2 : ((a ++ b) ++ zs.drop 66).length = 68 := by rw [List.length_append, List.length_drop, lab, hz]
  have l3 : (((a ++ b) ++ [c]) ++ zs.drop 67).length = 68 := by rw [List.length_append, List.length_drop, labc, hz]
  show (bif (Nat.beq a.length 33 && Nat.ble (0 + a.length) zs.length) then laid _ (putAt zs 0 a) [(1, b), (2, [c]), (3, [d])] else none) = _
  rw [ha, hz, h1]
  show (bif (Nat.beq b.length 33 && Nat.ble (33 + b.length) (a ++ zs.drop 33).length) then laid _ (putAt (a ++ zs.drop 33) 33 b) [(2, [c]), (3, [d])] else none) = _
  rw [hb, l1, h2]
  show (bif (Nat.beq 1 1 && Nat.ble (66 + 1) ((a ++ b) ++ zs.drop 66).length) then laid _ (putAt ((a ++ b) ++ zs.drop 66) 66 [c]) [(3, [d])] else none) = _
  rw [l2, h3]
  show (bif (Nat.beq 1 1 && Nat.ble (67 + 1) (((a ++ b) ++ [c]) ++ zs.drop 67).length) then laid _ (putAt (((a ++ b) ++ [c]) ++ zs.drop 67) 67 [d]) [] else none) = _
  rw [l3, h4]
  rfl
theorem strs_size2 (l : List (List UInt8)) : ∀ e ∈ strsL l, e.length = 1 := fun e he => by obtain ⟨x, _, rfl⟩ := List.mem_map.1 he; rfl
theorem ads_size (l : List Ad) : ∀ e ∈ ads l, e.length = 68 := fun e he => by obtain ⟨x, _, rfl⟩ := List.mem_map.1 he; exact ad_len x
theorem ads_app (a b : List Ad) : ads a ++ ads b = ads (a ++ b) := (List.map_append (f := adL) (l₁ := a) (l₂ := b)).symm
set_option maxHeartbeats 8000000 in
set_option maxRecDepth 100000 in
theorem radd_calls (r : Rg) (ho : Ok r) (up down : Vx) (ids : List Vx) (ts : List (List UInt8)) (hi : ids.length < 100000) (hts : ts.length < 100000) : LCalls Tryd.prog 49 [.agg (rgL r), .agg (vxL up), .agg (vxL down), Vxs ids .unk, .sl 1 (strsL ts) .unk] [] (fun x H' => x = .tup [.agg (rgL (raddG r up down ids ts)), i64 (raddE r up down ids ts : Nat)] ∧ H' = []) := by
  have hul := vxL_len up
  have hdl := vxL_len down
  have hu32 : up.p.1.length = 32 := up.p.2
  have hd32 : down.p.1.length = 32 := down.p.2
  have hszs := ho.sizes
  have hlen := ho.len
  have hidl : ∀ a ∈ r.L, a.ids.length ≤ 512 := fun a ha => by
    have := nodup_len (ho.idsOf ha) (l := idsG r.L) fun x hx => ids_mem.2 ⟨_, ha, hx⟩
    omega
  have hne2 : ∀ a ∈ r.L, a.ids ≠ [] ∧ a.ids.length < 1000000 := fun a ha => ⟨(ho.ne a ha).1, by have := hidl a ha; omega⟩
  have hT : (allT r).length < 400000 := by
    have h2 : ∀ l : List Ad, (l.flatMap fun a => a.ids ++ [a.down]).length = (idsG l).length + l.length := fun l => by
      induction l with
      | nil => rfl
      | cons a l ih =>
        unfold idsG at ih ⊢
        rw [List.flatMap_cons, List.flatMap_cons, List.length_append, List.length_append, List.length_append, ih]
        simp only [List.length_cons, List.length_nil]
        omega
    unfold allT
    rw [List.length_cons, h2]
    omega
  have hah := rahead_calls r up down (by omega) (by omega) hne2 hT
  have hhu := rhas_calls r up (by omega) (by omega)
  have hhd := rhas_calls r down (by omega) (by omega)
  obtain ⟨S, hS⟩ : ∃ S, S = idsG r.L := ⟨_, rfl⟩
  have hidc : LCalls Tryd.prog 61 [.agg (rgL r)] [] (fun x H' => x = Vxs S .unk ∧ H' = []) := by rw [hS]; exact ids_calls r (by omega) (by omega)
  have hSl : S.length ≤ 512 := by rw [hS]; exact hlen
  obtain ⟨E, hE⟩ : ∃ E, E = raddE r up down ids ts := ⟨_, rfl⟩
  have hG : E ≠ 0 → raddG r up down ids ts = r := fun h => by unfold raddG; rw [← hE, if_neg h]
  have hG0 : E = 0 → raddG r up down ids ts = ⟨r.L ++ [⟨up, down, ids, ts⟩], r.D⟩ := fun h => by unfold raddG; rw [← hE, if_pos h]
  obtain ⟨G, hGG⟩ : ∃ G, G = raddG r up down ids ts := ⟨_, rfl⟩
  rw [← hE, ← hGG]
  rw [← hGG] at hG hG0
  unfold raddE at hE
  rw [← hS] at hE
  have hal := ad_len ⟨up, down, ids, ts⟩
  have hsz : up.p.val.length + (down.p.val.length + 3 + 1) = 68 := by omega
  refine LCalls.of Tryd.func49 rfl Tryd.ntmps49 Tryd.results49 rfl (fun Rf => ?_)
  refine LW.seq ?_
  refine LW.region ?_
  refine X.act (X.box rfl Is.rfl' (by exact Cells.agg) (fun b5 => ?_))
  refine X.act (X.box rfl Is.rfl' (by exact Cells.agg) (fun b6 => ?_))
  refine X.act (X.box rfl Is.rfl' (by exact Cells.agg) (fun b7 => ?_))
  refine X.act (X.alloc rfl Tryd.zeroValue59 (by exact Cells.rawagg (by decide)) (fun b10 => ?_))
  refine X.u (LU.assignR Is.rfl') rfl ?_
  refine LL.nil (after_code ?_)
  refine LW.seq ?_
  refine LW.seq ?_
  refine LW.region ?_
  refine X.u (LU.moveS Is.rfl') rfl ?_
  refine X.u (LU.call (rwrong_calls ids .unk (by omega)) Tryd.func65 rfl rfl (Opds.cons Is.rfl' Opds.nil)) rfl ?_
  refine X.u (LU.moveR Is.rfl') rfl ?_
  refine X.gF rfl rfl (fun hg => LU.moveS (by exact Is.rfl')) rfl ?_
  refine X.gF rfl rfl (fun hg => LU.lenN Tryd.underlying25 (by exact Is.whenN hg) (by (simp only [Option.getD_some, Option.getD_none, byteEls_length, intEls_length, List.length_append, List.length_cons, List.length_nil, List.length_map, List.length_drop, List.length_take, Int.toNat_natCast]; rfl))) rfl ?_
  refine X.gF rfl rfl (fun hg => LU.moveS (by exact Is.rfl')) rfl ?_
  refine X.gF rfl rfl (fun hg => LU.lenN Tryd.underlying26 (by exact Is.whenN hg) (by (simp only [Option.getD_some, Option.getD_none, byteEls_length, intEls_length, List.length_append, List.length_cons, List.length_nil, List.length_map, List.length_drop, List.length_take, Int.toNat_natCast]; rfl))) rfl ?_
  refine X.gF rfl rfl (fun hg => LU.neq (by exact Is.whenN hg) (by exact Is.whenN hg)) rfl ?_
  refine X.u (LU.pickOr Is.rfl' Is.rfl' (fun hq => (by exact Is.whenN hq))) rfl ?_
  refine LL.nil (after_code ?_)
  refine X.cond rfl (fun h1 => ?_) (fun h1 => ?_)
  · have h1 : (wrongB ids || !decide ((ts.length : Int) = ids.length)) = true := by simpa using h1
    rw [if_pos h1] at hE
    refine LW.seq ?_
    refine LW.region ?_
    refine X.u (LU.loadO 3 rfl ⟨Tryd.sizeOf59, Tryd.isAgg59⟩ Is.rfl' (Part.whole (by (simp; done)))) rfl ?_
    refine X.act (X.store 0 rfl Tryd.sizeOf59 Is.rfl' Is.rfl' (by exact Cells.agg) (by (simp; done)) (by exact Nat.le_of_ble_eq_true rfl) ?_)
    refine X.u (LU.assignR Is.rfl') rfl ?_
    refine LL.nil (after_code ?_)
    refine LW.ret (ret_code (after_end ?_))
    refine X.ret (H' := []) (by exact Res.cell2 0 rfl rfl ⟨Tryd.sizeOf59, Tryd.isAgg59⟩ (Part.whole (by rfl)) (by exact IsA rfl) (by exact IsR rfl)) (by repeat (first | exact HSub.refl _ | refine HSub.drop ?_)) ?_
    exact ⟨by rw [hG (by rw [hE]; decide), hE]; rfl, rfl⟩
  · have h1 : (wrongB ids || !decide ((ts.length : Int) = ids.length)) = false := by simpa using h1
    rw [if_neg (by rw [h1]; decide)] at hE
    refine LW.skip (after_code ?_)
    refine LW.seq ?_
    refine LW.region ?_
    refine X.u (LU.loadO 3 rfl ⟨Tryd.sizeOf59, Tryd.isAgg59⟩ Is.rfl' (Part.whole (by (simp; done)))) rfl ?_
    refine X.u (LU.call (hidc) Tryd.func61 rfl rfl (Opds.cons Is.rfl' Opds.nil)) rfl ?_
    refine X.u (LU.assignS Is.rfl') rfl ?_
    refine LL.nil (after_code ?_)
    refine LW.seq ?_
    refine LW.seq ?_
    refine LW.region ?_
    refine X.u (LU.assignR Is.rfl') rfl ?_
    refine LL.nil (after_code ?_)
    refine LW.block ?_
    refine X.loopK (α := Nat) (fun i => [(13, i64 i)]) [3, 4, 5, 6, 7, 10, 12] (fun i => .cells b10 59 [.raw (.slice none 0 0), .raw (.slice none 0 0)] :: .cells b7 35 (vxL down) :: .cells b6 35 (vxL up) :: .cells b5 59 (rgL r) :: Rf) (fun i => i ≤ ids.length ∧ (ids.take i).any (fun v => decide (v ∈ S)) = false) (fun i => ids.length - i) (0) (EnvLe.cons (by rfl) (EnvLe.nil)) (by repeat (exact HSub.refl _)) ?_ ?_
    · exact ⟨Nat.zero_le _, by simp⟩
    · rintro i hI
      obtain ⟨hi2, hany⟩ := hI
      refine LW.seq ?_
      refine LW.seq ?_
      refine LW.region ?_
      refine X.u (LU.moveR Is.rfl') rfl ?_
      refine X.u (LU.moveS Is.rfl') rfl ?_
      refine X.u (LU.lenN Tryd.underlying26 Is.rfl' (by (simp only [Option.getD_some, Option.getD_none, byteEls_length, intEls_length, List.length_append, List.length_cons, List.length_nil, List.length_map, List.length_drop, List.length_take, Int.toNat_natCast]; rfl))) rfl ?_
      refine X.u (LU.lss Is.rfl' Is.rfl') rfl ?_
      refine LL.nil (after_code ?_)
      refine X.cond rfl (fun h5 => ?_) (fun h5 => ?_)
      · try have h5 := of_decide_eq_true h5
        refine LW.skip (after_code ?_)
        refine LW.seq ?_
        refine LW.block ?_
        refine LW.seq ?_
        obtain ⟨v, hv⟩ := at_lt (show i < ids.length by omega)
        have hvl := vxL_len v
        have hv32 : v.p.1.length = 32 := v.p.2
        refine LW.region ?_
        refine X.u (LU.moveS Is.rfl') rfl ?_
        refine X.u (LU.moveS Is.rfl') rfl ?_
        refine X.u (LU.moveR Is.rfl') rfl ?_
        refine X.u (LU.at Tryd.underlying26 ⟨Tryd.sizeOf35, Tryd.isAgg35⟩ Is.rfl' Is.rfl' (by omega) (vxs_at hv) (vx_ne v)) rfl ?_
        refine X.u (LU.weak (LU.load ⟨Tryd.sizeOf35, Tryd.isAgg35⟩ Is.rfl' (by assumption) (Part.whole (by assumption))) (Is.of (y := .agg (vxL v)) (rfl))) rfl ?_
        refine X.u (LU.call (place_calls S .unk v (by omega)) Tryd.func63 rfl rfl (Opds.cons Is.rfl' (Opds.cons Is.rfl' Opds.nil))) rfl ?_
        refine X.u (LU.geq Is.rfl' Is.rfl') rfl ?_
        refine LL.nil (after_code ?_)
        refine X.cond rfl (fun h7 => ?_) (fun h7 => ?_)
        · have h7 : v ∈ S := Classical.byContradiction fun c => by have h0 := of_decide_eq_true h7; have := placeG_neg.2 c; omega
          have hin : ids.any (fun v => decide (v ∈ S)) = true := List.any_eq_true.2 ⟨v, List.mem_of_getElem? hv, decide_eq_true h7⟩
          rw [if_pos hin] at hE
          refine LW.seq ?_
          refine LW.region ?_
          refine X.u (LU.loadO 3 rfl ⟨Tryd.sizeOf59, Tryd.isAgg59⟩ Is.rfl' (Part.whole (by (simp; done)))) rfl ?_
          refine X.act (X.store 0 rfl Tryd.sizeOf59 Is.rfl' Is.rfl' (by exact Cells.agg) (by (simp; done)) (by (simp; done)) ?_)
          refine X.u (LU.assignR Is.rfl') rfl ?_
          refine LL.nil (after_code ?_)
          refine LW.ret (ret_blk (ret_code (ret_rnd (ret_blk (ret_code (after_end ?_))))))
          refine X.ret (H' := []) (by exact Res.cell2 0 rfl rfl ⟨Tryd.sizeOf59, Tryd.isAgg59⟩ (Part.whole (by rfl)) (by exact IsA rfl) (by exact IsR rfl)) (by repeat (first | exact HSub.refl _ | refine HSub.drop ?_)) ?_
          exact ⟨by rw [hG (by rw [hE]; decide), hE]; rfl, rfl⟩
        · have h7 : v ∉ S := fun c => of_decide_eq_false h7 (placeG_nn c)
          have hz0 : (0 : Nat) = 0 := rfl
          refine LW.skip (after_blk (after_code ?_))
          refine LW.region ?_
          refine X.u (LU.moveR Is.rfl') rfl ?_
          refine X.u (LU.addN Is.rfl' Is.rfl' (wrap_i64 (by omega) (by omega))) rfl ?_
          refine X.u (LU.assignR Is.rfl') rfl ?_
          refine LL.nil (after_rnd ?_)
          refine X.next (i + 1) rfl (EnvLe.cons (by rfl) (EnvLe.nil)) (Keeps.cons (by exact Eq.trans (b := .sl _ _ _) rfl rfl) (Keeps.cons (by exact Eq.trans (b := .sl _ _ _) rfl rfl) (Keeps.cons (by exact Eq.trans (b := .raw _) rfl rfl) (Keeps.cons (by exact Eq.trans (b := .raw _) rfl rfl) (Keeps.cons (by exact Eq.trans (b := .raw _) rfl rfl) (Keeps.cons (by exact Eq.trans (b := .raw _) rfl rfl) (Keeps.cons (by exact Eq.trans (b := .sl _ _ _) rfl rfl) (Keeps.nil)))))))) (by repeat (exact HSub.refl _)) ?_ ?_
          · exact ⟨by omega, by rw [take_snoc hv, List.any_append, hany, List.any_cons, List.any_nil, Bool.or_false, Bool.false_or]; exact decide_eq_false h7⟩
          · omega
      · try have h5 := of_decide_eq_false h5
        refine LW.exit (exit_code (exit_rnd (exit_blk (after_code ?_))))
        refine LW.seq ?_
        refine LW.seq ?_
        rw [List.take_of_length_le (by omega)] at hany
        rw [if_neg (by rw [hany]; decide)] at hE
        refine LW.region ?_
        refine X.u (LU.loadO 3 rfl ⟨Tryd.sizeOf59, Tryd.isAgg59⟩ Is.rfl' (Part.whole (by (simp; done)))) rfl ?_
        refine X.u (LU.loadO 2 rfl ⟨Tryd.sizeOf35, Tryd.isAgg35⟩ Is.rfl' (Part.whole (by assumption))) rfl ?_
        refine X.u (LU.call (hhu) Tryd.func47 rfl rfl (Opds.cons Is.rfl' (Opds.cons Is.rfl' Opds.nil))) rfl ?_
        refine X.u (LU.not Is.rfl') rfl ?_
        refine X.u (LU.moveR Is.rfl') rfl ?_
        refine X.gF rfl rfl (fun hg => LU.loadO 3 rfl ⟨Tryd.sizeOf59, Tryd.isAgg59⟩ (by exact Is.rfl') (Part.whole (by (simp; done)))) rfl ?_
        refine X.gF rfl rfl (fun hg => LU.loadO 1 rfl ⟨Tryd.sizeOf35, Tryd.isAgg35⟩ (by exact Is.rfl') (Part.whole (by assumption))) rfl ?_
        refine X.gF rfl rfl (fun hg => LU.call (hhd) Tryd.func47 rfl rfl (Opds.cons (by exact Is.whenN hg) (Opds.cons (by exact Is.whenN hg) Opds.nil))) rfl ?_
        refine X.gF rfl rfl (fun hg => LU.not (by exact Is.whenN hg)) rfl ?_
        refine X.u (LU.pickOr Is.rfl' Is.rfl' (fun hq => (by exact Is.whenN hq))) rfl ?_
        refine LL.nil (after_code ?_)
        refine X.cond rfl (fun h9 => ?_) (fun h9 => ?_)
        · have h9 : (!hasG r up || !hasG r down) = true := by simpa using h9
          rw [if_pos h9] at hE
          refine LW.seq ?_
          refine LW.region ?_
          refine X.u (LU.loadO 3 rfl ⟨Tryd.sizeOf59, Tryd.isAgg59⟩ Is.rfl' (Part.whole (by (simp; done)))) rfl ?_
          refine X.act (X.store 0 rfl Tryd.sizeOf59 Is.rfl' Is.rfl' (by exact Cells.agg) (by (simp; done)) (by (simp; done)) ?_)
          refine X.u (LU.assignR Is.rfl') rfl ?_
          refine LL.nil (after_code ?_)
          refine LW.ret (ret_code (after_end ?_))
          refine X.ret (H' := []) (by exact Res.cell2 0 rfl rfl ⟨Tryd.sizeOf59, Tryd.isAgg59⟩ (Part.whole (by rfl)) (by exact IsA rfl) (by exact IsR rfl)) (by repeat (first | exact HSub.refl _ | refine HSub.drop ?_)) ?_
          exact ⟨by rw [hG (by rw [hE]; decide), hE]; rfl, rfl⟩
        · have h9 : (!hasG r up || !hasG r down) = false := by simpa using h9
          rw [if_neg (by rw [h9]; decide)] at hE
          refine LW.skip (after_code ?_)
          refine LW.seq ?_
          refine LW.seq ?_
          refine LW.region ?_
          refine X.u (LU.loadO 3 rfl ⟨Tryd.sizeOf59, Tryd.isAgg59⟩ Is.rfl' (Part.whole (by (simp; done)))) rfl ?_
          refine X.u (LU.loadO 2 rfl ⟨Tryd.sizeOf35, Tryd.isAgg35⟩ Is.rfl' (Part.whole (by assumption))) rfl ?_
          refine X.u (LU.loadO 1 rfl ⟨Tryd.sizeOf35, Tryd.isAgg35⟩ Is.rfl' (Part.whole (by assumption))) rfl ?_
          refine X.u (LU.call (hah) Tryd.func48 rfl rfl (Opds.cons Is.rfl' (Opds.cons Is.rfl' (Opds.cons Is.rfl' Opds.nil)))) rfl ?_
          refine X.u (LU.not Is.rfl') rfl ?_
          refine LL.nil (after_code ?_)
          refine X.cond rfl (fun h11 => ?_) (fun h11 => ?_)
          · have h11 : (!aheadG r up down) = true := by simpa using h11
            rw [if_pos h11] at hE
            refine LW.seq ?_
            refine LW.region ?_
            refine X.u (LU.loadO 3 rfl ⟨Tryd.sizeOf59, Tryd.isAgg59⟩ Is.rfl' (Part.whole (by (simp; done)))) rfl ?_
            refine X.act (X.store 0 rfl Tryd.sizeOf59 Is.rfl' Is.rfl' (by exact Cells.agg) (by (simp; done)) (by (simp; done)) ?_)
            refine X.u (LU.assignR Is.rfl') rfl ?_
            refine LL.nil (after_code ?_)
            refine LW.ret (ret_code (after_end ?_))
            refine X.ret (H' := []) (by exact Res.cell2 0 rfl rfl ⟨Tryd.sizeOf59, Tryd.isAgg59⟩ (Part.whole (by rfl)) (by exact IsA rfl) (by exact IsR rfl)) (by repeat (first | exact HSub.refl _ | refine HSub.drop ?_)) ?_
            exact ⟨by rw [hG (by rw [hE]; decide), hE]; rfl, rfl⟩
          · have h11 : (!aheadG r up down) = false := by simpa using h11
            rw [if_neg (by rw [h11]; decide)] at hE
            refine LW.skip (after_code ?_)
            refine LW.seq ?_
            refine LW.seq ?_
            refine LW.region ?_
            refine X.u (LU.moveS Is.rfl') rfl ?_
            refine X.u (LU.lenN Tryd.underlying26 Is.rfl' (by (simp only [Option.getD_some, Option.getD_none, byteEls_length, intEls_length, List.length_append, List.length_cons, List.length_nil, List.length_map, List.length_drop, List.length_take, Int.toNat_natCast]; rfl))) rfl ?_
            refine X.u (LU.moveS Is.rfl') rfl ?_
            refine X.u (LU.lenN Tryd.underlying26 Is.rfl' (by (simp only [Option.getD_some, Option.getD_none, byteEls_length, intEls_length, List.length_append, List.length_cons, List.length_nil, List.length_map, List.length_drop, List.length_take, Int.toNat_natCast]; rfl))) rfl ?_
            refine X.u (LU.addN Is.rfl' Is.rfl' (wrap_i64 (by omega) (by omega))) rfl ?_
            refine X.u (LU.gtr Is.rfl' Is.rfl') rfl ?_
            refine LL.nil (after_code ?_)
            refine X.cond rfl (fun h13 => ?_) (fun h13 => ?_)
            · have h13 : 512 < S.length + ids.length := by have := of_decide_eq_true h13; omega
              rw [if_pos h13] at hE
              refine LW.seq ?_
              refine LW.region ?_
              refine X.u (LU.loadO 3 rfl ⟨Tryd.sizeOf59, Tryd.isAgg59⟩ Is.rfl' (Part.whole (by (simp; done)))) rfl ?_
              refine X.act (X.store 0 rfl Tryd.sizeOf59 Is.rfl' Is.rfl' (by exact Cells.agg) (by (simp; done)) (by (simp; done)) ?_)
              refine X.u (LU.assignR Is.rfl') rfl ?_
              refine LL.nil (after_code ?_)
              refine LW.ret (ret_code (after_end ?_))
              refine X.ret (H' := []) (by exact Res.cell2 0 rfl rfl ⟨Tryd.sizeOf59, Tryd.isAgg59⟩ (Part.whole (by rfl)) (by exact IsA rfl) (by exact IsR rfl)) (by repeat (first | exact HSub.refl _ | refine HSub.drop ?_)) ?_
              exact ⟨by rw [hG (by rw [hE]; decide), hE]; rfl, rfl⟩
            · have h13 : ¬ 512 < S.length + ids.length := by have := of_decide_eq_false h13; omega
              rw [if_neg h13] at hE
              refine LW.skip (after_code ?_)
              refine LW.seq ?_
              refine LW.invM (m := 10) (γ := Nat × Nat) [(0, 65), (1, 66), (2, 67), (3, 68), (4, 69), (5, 70), (6, 71), (7, 72), (8, 73), (9, 14)] (fun g_ d => match g_ with | ⟨b_, z_⟩ => match d with | 65 => .agg (vxL up) | 66 => .agg (vxL down) | 67 => .sl 33 [] .full | 68 => Vxs ids .unk | 69 => Vxs ids .unk | 70 => .sl 1 [] .full | 71 => .sl 1 (strsL ts) .unk | 72 => .sl 1 (strsL ts) .unk | 73 => .agg (adL ⟨up, down, ids, ts⟩) | 14 => pt b_ | _ => .any) (fun g_ f => match g_ with | ⟨b_, z_⟩ => cond (f 9) (.cells b_ 104 (raws (Value.agg Tryd.zeroCells104).cells.toList)) (.tail 0 0 0) :: .cells b10 59 [.raw (.slice none 0 0), .raw (.slice none 0 0)] :: .cells b7 35 (vxL down) :: .cells b6 35 (vxL up) :: .cells b5 59 (rgL r) :: Rf) (0, 0) rfl (by kernel_rfl) rfl rfl ((HSub.trans (by repeat (exact HSub.refl _)) (HSub.tail0 0 0 0 (Nat.le_refl _) _))) ?_ ?_
              · intro i hi f g_ hfi hdir hdown
                obtain ⟨b_, z_⟩ := g_
                have hc : i = 0 ∨ i = 1 ∨ i = 2 ∨ i = 3 ∨ i = 4 ∨ i = 5 ∨ i = 6 ∨ i = 7 ∨ i = 8 ∨ i = 9 := by omega
                rcases hc with rfl | rfl | rfl | rfl | rfl | rfl | rfl | rfl | rfl | rfl
                · refine ⟨_, rfl, ?_⟩
                  refine A.u (LU.loadO 3 rfl ⟨Tryd.sizeOf35, Tryd.isAgg35⟩ Is.rfl' (Part.whole (by assumption))) rfl ?_
                  refine ⟨⟨b_, z_⟩, Weaker.mk' ?_ (HSub.refl _)⟩
                  refine env_back0 (envS_hit (sl := [(0, 65), (1, 66), (2, 67), (3, 68), (4, 69), (5, 70), (6, 71), (7, 72), (8, 73), (9, 14)]) (j := 0) (d := 65) rfl (fun _ _ h => h))  (envS_next ?_)
                  · intro p hp hne; simp only [List.mem_cons, List.not_mem_nil, or_false] at hp; rcases hp with rfl | rfl | rfl | rfl | rfl | rfl | rfl | rfl | rfl | rfl <;> first | exact absurd rfl hne | exact ⟨rfl, rfl⟩
                · refine ⟨_, rfl, ?_⟩
                  refine A.u (LU.loadO 2 rfl ⟨Tryd.sizeOf35, Tryd.isAgg35⟩ Is.rfl' (Part.whole (by assumption))) rfl ?_
                  refine ⟨⟨b_, z_⟩, Weaker.mk' ?_ (HSub.refl _)⟩
                  refine env_back0 (envS_hit (sl := [(0, 65), (1, 66), (2, 67), (3, 68), (4, 69), (5, 70), (6, 71), (7, 72), (8, 73), (9, 14)]) (j := 1) (d := 66) rfl (fun _ _ h => h))  (envS_next ?_)
                  · intro p hp hne; simp only [List.mem_cons, List.not_mem_nil, or_false] at hp; rcases hp with rfl | rfl | rfl | rfl | rfl | rfl | rfl | rfl | rfl | rfl <;> first | exact absurd rfl hne | exact ⟨rfl, rfl⟩
                · refine ⟨_, rfl, ?_⟩
                  refine A.u (LU.lits Tryd.underlying26 Tryd.sizeOf35 Tryd.zeroValue35 (ones rfl) rfl (by decide) (by decide) Elems.nil (by intro e he; cases he) rfl) rfl ?_
                  refine ⟨⟨b_, z_⟩, Weaker.mk' ?_ (HSub.refl _)⟩
                  refine env_back0 (envS_hit (sl := [(0, 65), (1, 66), (2, 67), (3, 68), (4, 69), (5, 70), (6, 71), (7, 72), (8, 73), (9, 14)]) (j := 2) (d := 67) rfl (fun _ _ h => h))  (envS_next ?_)
                  · intro p hp hne; simp only [List.mem_cons, List.not_mem_nil, or_false] at hp; rcases hp with rfl | rfl | rfl | rfl | rfl | rfl | rfl | rfl | rfl | rfl <;> first | exact absurd rfl hne | exact ⟨rfl, rfl⟩
                · refine ⟨_, rfl, ?_⟩
                  refine A.u (LU.moveS Is.rfl') rfl ?_
                  refine ⟨⟨b_, z_⟩, Weaker.mk' ?_ (HSub.refl _)⟩
                  refine env_back0 (envS_hit (sl := [(0, 65), (1, 66), (2, 67), (3, 68), (4, 69), (5, 70), (6, 71), (7, 72), (8, 73), (9, 14)]) (j := 3) (d := 68) rfl (fun _ _ h => h))  (envS_next ?_)
                  · intro p hp hne; simp only [List.mem_cons, List.not_mem_nil, or_false] at hp; rcases hp with rfl | rfl | rfl | rfl | rfl | rfl | rfl | rfl | rfl | rfl <;> first | exact absurd rfl hne | exact ⟨rfl, rfl⟩
                · have d2 := hdir 2 (List.mem_of_elem_eq_true (by kernel_rfl))
                  have d3 := hdir 3 (List.mem_of_elem_eq_true (by kernel_rfl))
                  refine ⟨_, rfl, ?_⟩
                  refine LP.weak (t := 67) (v := .sl 33 [] .full) (envS_is (j := 2) rfl d2) ?_
                  refine LP.weak (t := 68) (v := Vxs ids .unk) (envS_is (j := 3) rfl d3) ?_
                  refine A.u (LU.append Tryd.underlying26 (El.of (P := Tryd.prog) (z := (.agg #[(.int .u8 0), (.int .u8 0), (.int .u8 0), (.int .u8 0), (.int .u8 0), (.int .u8 0), (.int .u8 0), (.int .u8 0), (.int .u8 0), (.int .u8 0), (.int .u8 0), (.int .u8 0), (.int .u8 0), (.int .u8 0), (.int .u8 0), (.int .u8 0), (.int .u8 0), (.int .u8 0), (.int .u8 0), (.int .u8 0), (.int .u8 0), (.int .u8 0), (.int .u8 0), (.int .u8 0), (.int .u8 0), (.int .u8 0), (.int .u8 0), (.int .u8 0), (.int .u8 0), (.int .u8 0), (.int .u8 0), (.int .u8 0), (.int .i64 0)])) (size := 33) (bytes := 40) rfl rfl rfl) Is.rfl' Is.rfl' (SrcL.slice Tryd.underlying26 (by decide) (vxs_size ids)) (by simp only [Option.getD_some, Option.getD_none, byteEls_length, intEls_length, List.length_append, List.length_cons, List.length_nil, List.length_map, List.length_drop, List.length_take, Int.toNat_natCast]; omega) (by simp only [Option.getD_some, Option.getD_none, byteEls_length, intEls_length, List.length_append, List.length_cons, List.length_nil, List.length_map, List.length_drop, List.length_take, Int.toNat_natCast]; omega)) rfl ?_
                  refine ⟨⟨b_, z_⟩, Weaker.mk' ?_ (HSub.refl _)⟩
                  refine env_back2 (envS_hit (sl := [(0, 65), (1, 66), (2, 67), (3, 68), (4, 69), (5, 70), (6, 71), (7, 72), (8, 73), (9, 14)]) (j := 4) (d := 69) rfl (fun _ _ h => h)) (envS_hit (sl := [(0, 65), (1, 66), (2, 67), (3, 68), (4, 69), (5, 70), (6, 71), (7, 72), (8, 73), (9, 14)]) (j := 3) (d := 68) rfl (fun _ _ h => h)) (envS_hit (sl := [(0, 65), (1, 66), (2, 67), (3, 68), (4, 69), (5, 70), (6, 71), (7, 72), (8, 73), (9, 14)]) (j := 2) (d := 67) rfl (fun _ _ h => h)) (envS_next ?_)
                  · intro p hp hne; simp only [List.mem_cons, List.not_mem_nil, or_false] at hp; rcases hp with rfl | rfl | rfl | rfl | rfl | rfl | rfl | rfl | rfl | rfl <;> first | exact absurd rfl hne | exact ⟨rfl, rfl⟩
                · refine ⟨_, rfl, ?_⟩
                  refine A.u (LU.lits Tryd.underlying25 Tryd.sizeOf9 Tryd.zeroValue9 (ones rfl) rfl (by decide) (by decide) Elems.nil (by intro e he; cases he) rfl) rfl ?_
                  refine ⟨⟨b_, z_⟩, Weaker.mk' ?_ (HSub.refl _)⟩
                  refine env_back0 (envS_hit (sl := [(0, 65), (1, 66), (2, 67), (3, 68), (4, 69), (5, 70), (6, 71), (7, 72), (8, 73), (9, 14)]) (j := 5) (d := 70) rfl (fun _ _ h => h))  (envS_next ?_)
                  · intro p hp hne; simp only [List.mem_cons, List.not_mem_nil, or_false] at hp; rcases hp with rfl | rfl | rfl | rfl | rfl | rfl | rfl | rfl | rfl | rfl <;> first | exact absurd rfl hne | exact ⟨rfl, rfl⟩
                · refine ⟨_, rfl, ?_⟩
                  refine A.u (LU.moveS Is.rfl') rfl ?_
                  refine ⟨⟨b_, z_⟩, Weaker.mk' ?_ (HSub.refl _)⟩
                  refine env_back0 (envS_hit (sl := [(0, 65), (1, 66), (2, 67), (3, 68), (4, 69), (5, 70), (6, 71), (7, 72), (8, 73), (9, 14)]) (j := 6) (d := 71) rfl (fun _ _ h => h))  (envS_next ?_)
                  · intro p hp hne; simp only [List.mem_cons, List.not_mem_nil, or_false] at hp; rcases hp with rfl | rfl | rfl | rfl | rfl | rfl | rfl | rfl | rfl | rfl <;> first | exact absurd rfl hne | exact ⟨rfl, rfl⟩
                · have d4 := hdir 4 (List.mem_of_elem_eq_true (by kernel_rfl))
                  have d5 := hdir 5 (List.mem_of_elem_eq_true (by kernel_rfl))
                  have d6 := hdir 6 (List.mem_of_elem_eq_true (by kernel_rfl))
                  refine ⟨_, rfl, ?_⟩
                  refine LP.weak (t := 70) (v := .sl 1 [] .full) (envS_is (j := 5) rfl d5) ?_
                  refine LP.weak (t := 71) (v := .sl 1 (strsL ts) .unk) (envS_is (j := 6) rfl d6) ?_
                  refine A.u (LU.append Tryd.underlying25 (El.of (P := Tryd.prog) (z := (.string ByteArray.empty)) (size := 1) (bytes := 16) rfl rfl rfl) Is.rfl' Is.rfl' (SrcL.slice Tryd.underlying25 (by decide) (strs_size2 ts)) (by simp only [Option.getD_some, Option.getD_none, byteEls_length, intEls_length, List.length_append, List.length_cons, List.length_nil, List.length_map, List.length_drop, List.length_take, Int.toNat_natCast]; omega) (by simp only [Option.getD_some, Option.getD_none, byteEls_length, intEls_length, List.length_append, List.length_cons, List.length_nil, List.length_map, List.length_drop, List.length_take, Int.toNat_natCast]; omega)) rfl ?_
                  refine ⟨⟨b_, z_⟩, Weaker.mk' ?_ (HSub.refl _)⟩
                  refine env_back2 (envS_hit (sl := [(0, 65), (1, 66), (2, 67), (3, 68), (4, 69), (5, 70), (6, 71), (7, 72), (8, 73), (9, 14)]) (j := 7) (d := 72) rfl (fun _ _ h => h)) (envS_hit (sl := [(0, 65), (1, 66), (2, 67), (3, 68), (4, 69), (5, 70), (6, 71), (7, 72), (8, 73), (9, 14)]) (j := 6) (d := 71) rfl (fun _ _ h => h)) (envS_hit (sl := [(0, 65), (1, 66), (2, 67), (3, 68), (4, 69), (5, 70), (6, 71), (7, 72), (8, 73), (9, 14)]) (j := 5) (d := 70) rfl (fun _ _ h => h)) (envS_next ?_)
                  · intro p hp hne; simp only [List.mem_cons, List.not_mem_nil, or_false] at hp; rcases hp with rfl | rfl | rfl | rfl | rfl | rfl | rfl | rfl | rfl | rfl <;> first | exact absurd rfl hne | exact ⟨rfl, rfl⟩
                · have d0 := hdir 0 (List.mem_of_elem_eq_true (by kernel_rfl))
                  have d1 := hdir 1 (List.mem_of_elem_eq_true (by kernel_rfl))
                  have d4 := hdir 4 (List.mem_of_elem_eq_true (by kernel_rfl))
                  have d7 := hdir 7 (List.mem_of_elem_eq_true (by kernel_rfl))
                  refine ⟨_, rfl, ?_⟩
                  refine LP.weak (t := 65) (v := .agg (vxL up)) (envS_is (j := 0) rfl d0) ?_
                  refine LP.weak (t := 66) (v := .agg (vxL down)) (envS_is (j := 1) rfl d1) ?_
                  refine LP.weak (t := 69) (v := Vxs ids .unk) (envS_is (j := 4) rfl d4) ?_
                  refine LP.weak (t := 72) (v := .sl 1 (strsL ts) .unk) (envS_is (j := 7) rfl d7) ?_
                  refine A.u (LU.build (places := #[(0, 33), (33, 33), (66, 1), (67, 1)]) Tryd.underlying104 Tryd.zeroValue104 (ones rfl) (by intro w; simp [Tryd.sizeOf25, Tryd.sizeOf26, Tryd.sizeOf35]) (Parts.cons Is.rfl' (by exact Cells.agg) (Parts.cons Is.rfl' (by exact Cells.agg) (Parts.cons Is.rfl' (by exact Cells.sl) (Parts.cons Is.rfl' (by exact Cells.sl) Parts.nil)))) (laid_ad hul hdl rfl)) rfl ?_
                  refine ⟨⟨b_, z_⟩, Weaker.mk' ?_ (HSub.refl _)⟩
                  refine env_back4 (envS_hit (sl := [(0, 65), (1, 66), (2, 67), (3, 68), (4, 69), (5, 70), (6, 71), (7, 72), (8, 73), (9, 14)]) (j := 8) (d := 73) rfl (fun _ _ h => h)) (envS_hit (sl := [(0, 65), (1, 66), (2, 67), (3, 68), (4, 69), (5, 70), (6, 71), (7, 72), (8, 73), (9, 14)]) (j := 7) (d := 72) rfl (fun _ _ h => h)) (envS_hit (sl := [(0, 65), (1, 66), (2, 67), (3, 68), (4, 69), (5, 70), (6, 71), (7, 72), (8, 73), (9, 14)]) (j := 4) (d := 69) rfl (fun _ _ h => h)) (envS_hit (sl := [(0, 65), (1, 66), (2, 67), (3, 68), (4, 69), (5, 70), (6, 71), (7, 72), (8, 73), (9, 14)]) (j := 1) (d := 66) rfl (fun _ _ h => h)) (envS_hit (sl := [(0, 65), (1, 66), (2, 67), (3, 68), (4, 69), (5, 70), (6, 71), (7, 72), (8, 73), (9, 14)]) (j := 0) (d := 65) rfl (fun _ _ h => h)) (envS_next ?_)
                  · intro p hp hne; simp only [List.mem_cons, List.not_mem_nil, or_false] at hp; rcases hp with rfl | rfl | rfl | rfl | rfl | rfl | rfl | rfl | rfl | rfl <;> first | exact absurd rfl hne | exact ⟨rfl, rfl⟩
                · refine ⟨_, rfl, ?_⟩
                  refine A.act (X.alloc rfl Tryd.zeroValue104 (by exact Cells.rawagg (by decide)) (fun b14 => ?_))
                  refine ⟨(b14, 0), Weaker.mk' ?_ (by show L.HSub (_ :: cond (f 9) _ (.tail 0 0 0) :: _) _; rw [hfi]; exact HSub.cons (HSub.drop (HSub.refl _)))⟩
                  refine env_back0 (envS_hit (sl := [(0, 65), (1, 66), (2, 67), (3, 68), (4, 69), (5, 70), (6, 71), (7, 72), (8, 73), (9, 14)]) (j := 9) (d := 14) rfl (fun _ _ h => h))  (envS_next ?_)
                  · intro p hp hne; simp only [List.mem_cons, List.not_mem_nil, or_false] at hp; rcases hp with rfl | rfl | rfl | rfl | rfl | rfl | rfl | rfl | rfl | rfl <;> first | exact absurd rfl hne | exact ⟨rfl, rfl⟩
              · intro g_ f hf_
                obtain ⟨b_, z_⟩ := g_
                refine X.ghost (H' := .cells b_ 104 (raws (Value.agg Tryd.zeroCells104).cells.toList) :: .cells b10 59 [.raw (.slice none 0 0), .raw (.slice none 0 0)] :: .cells b7 35 (vxL down) :: .cells b6 35 (vxL up) :: .cells b5 59 (rgL r) :: Rf) (by show L.HSub (cond (f 9) _ (.tail 0 0 0) :: _) _; rw [hf_ 9 (by omega)]; exact HSub.refl _) ?_
                refine X.act (X.store 0 rfl Tryd.sizeOf104 Is.rfl' Is.rfl' (by exact Cells.agg) (by assumption) (by exact Nat.le_of_ble_eq_true rfl) ?_)
                refine LL.nil (after_code ?_)
                refine LW.seq ?_
                refine X.wcells (ys := adL ⟨up, down, ids, ts⟩) (putAt_all (by rw [hal]; rfl)) ?_
                refine X.wghost (H' := .cells b_ 104 (adL ⟨up, down, ids, ts⟩) :: .cells b10 59 [.raw (.slice none 0 0), .raw (.slice none 0 0)] :: .cells b7 35 (vxL down) :: .cells b6 35 (vxL up) :: .cells b5 59 (rgL r) :: Rf) (by repeat (exact HSub.refl _)) ?_
                refine LW.invM (m := 7) (γ := Nat × Nat × Nat × Nat × Nat × Nat) [(0, 74), (1, 75), (2, 76), (3, 77), (4, 78), (5, 79), (6, 80)] (fun g_ d => match g_ with | ⟨q1, q2, q3, q4, q5, q6⟩ => match d with | 74 => .sl 68 [] .full | 75 => .raw (.pointer (some ⟨b5, 0, none⟩)) | 76 => .sl 68 (ads r.L) .unk | 77 => .sl 68 (ads r.L) (.tok q1 q2 q3) | 78 => .agg (adL ⟨up, down, ids, ts⟩) | 79 => .sl 68 [adL ⟨up, down, ids, ts⟩] .full | 80 => .sl 68 (ads (r.L ++ [⟨up, down, ids, ts⟩])) (.tok q4 q5 q6) | _ => .any) (fun g_ f => match g_ with | ⟨q1, q2, q3, q4, q5, q6⟩ => cond (f 6) (.tail q4 q5 q6) (cond (f 3) (.tail q1 q2 q3) (.tail 0 0 0)) :: .cells b_ 104 (adL ⟨up, down, ids, ts⟩) :: .cells b10 59 [.raw (.slice none 0 0), .raw (.slice none 0 0)] :: .cells b7 35 (vxL down) :: .cells b6 35 (vxL up) :: .cells b5 59 (rgL r) :: Rf) (0, 0, 0, 0, 0, 0) rfl (by kernel_rfl) rfl rfl ((HSub.trans (by repeat (exact HSub.refl _)) (HSub.tail0 0 0 0 (Nat.le_refl _) _))) ?_ ?_
                · intro i hi f g_ hfi hdir hdown
                  obtain ⟨q1, q2, q3, q4, q5, q6⟩ := g_
                  have hc : i = 0 ∨ i = 1 ∨ i = 2 ∨ i = 3 ∨ i = 4 ∨ i = 5 ∨ i = 6 := by omega
                  rcases hc with rfl | rfl | rfl | rfl | rfl | rfl | rfl
                  · refine ⟨_, rfl, ?_⟩
                    refine A.u (LU.lits Tryd.underlying56 Tryd.sizeOf104 Tryd.zeroValue104 (ones rfl) rfl (by decide) (by decide) Elems.nil (by intro e he; cases he) rfl) rfl ?_
                    refine ⟨⟨q1, q2, q3, q4, q5, q6⟩, Weaker.mk' ?_ (HSub.refl _)⟩
                    refine env_back0 (envS_hit (sl := [(0, 74), (1, 75), (2, 76), (3, 77), (4, 78), (5, 79), (6, 80)]) (j := 0) (d := 74) rfl (fun _ _ h => h))  (envS_next ?_)
                    · intro p hp hne; simp only [List.mem_cons, List.not_mem_nil, or_false] at hp; rcases hp with rfl | rfl | rfl | rfl | rfl | rfl | rfl <;> first | exact absurd rfl hne | exact ⟨rfl, rfl⟩
                  · refine ⟨_, rfl, ?_⟩
                    refine A.u (LU.fieldO Tryd.underlying59 rfl Tryd.sizeOf56 (by decide) Is.rfl') rfl ?_
                    refine ⟨⟨q1, q2, q3, q4, q5, q6⟩, Weaker.mk' ?_ (HSub.refl _)⟩
                    refine env_back0 (envS_hit (sl := [(0, 74), (1, 75), (2, 76), (3, 77), (4, 78), (5, 79), (6, 80)]) (j := 1) (d := 75) rfl (fun _ _ h => h))  (envS_next ?_)
                    · intro p hp hne; simp only [List.mem_cons, List.not_mem_nil, or_false] at hp; rcases hp with rfl | rfl | rfl | rfl | rfl | rfl | rfl <;> first | exact absurd rfl hne | exact ⟨rfl, rfl⟩
                  · have d1 := hdir 1 (List.mem_of_elem_eq_true (by kernel_rfl))
                    refine ⟨_, rfl, ?_⟩
                    refine LP.weak (t := 75) (v := .raw (.pointer (some ⟨b5, 0, none⟩))) (envS_is (j := 1) rfl d1) ?_
                    refine A.u (LU.loadO 5 rfl ⟨Tryd.sizeOf56, Tryd.isAgg56⟩ Is.rfl' (Part.one rfl)) rfl ?_
                    refine ⟨⟨q1, q2, q3, q4, q5, q6⟩, Weaker.mk' ?_ (HSub.refl _)⟩
                    refine env_back1 (envS_hit (sl := [(0, 74), (1, 75), (2, 76), (3, 77), (4, 78), (5, 79), (6, 80)]) (j := 2) (d := 76) rfl (fun _ _ h => h)) (envS_hit (sl := [(0, 74), (1, 75), (2, 76), (3, 77), (4, 78), (5, 79), (6, 80)]) (j := 1) (d := 75) rfl (fun _ _ h => h)) (envS_next ?_)
                    · intro p hp hne; simp only [List.mem_cons, List.not_mem_nil, or_false] at hp; rcases hp with rfl | rfl | rfl | rfl | rfl | rfl | rfl <;> first | exact absurd rfl hne | exact ⟨rfl, rfl⟩
                  · have d0 := hdir 0 (List.mem_of_elem_eq_true (by kernel_rfl))
                    have d2 := hdir 2 (List.mem_of_elem_eq_true (by kernel_rfl))
                    refine ⟨_, rfl, ?_⟩
                    have h6 : f 6 = false := Bool.eq_false_iff.2 (fun h => by rw [hdown 6 (by omega) h 3 (List.mem_of_elem_eq_true (by kernel_rfl))] at hfi; cases hfi)
                    refine LP.ghost (H' := .cells b_ 104 (adL ⟨up, down, ids, ts⟩) :: .cells b10 59 [.raw (.slice none 0 0), .raw (.slice none 0 0)] :: .cells b7 35 (vxL down) :: .cells b6 35 (vxL up) :: .cells b5 59 (rgL r) :: Rf) (by show L.HSub (cond (f 6) _ (cond (f 3) _ _) :: _) _; rw [h6, hfi]; exact HSub.drop (HSub.refl _)) ?_
                    refine LP.weak (t := 74) (v := .sl 68 [] .full) (envS_is (j := 0) rfl d0) ?_
                    refine LP.weak (t := 76) (v := .sl 68 (ads r.L) .unk) (envS_is (j := 2) rfl d2) ?_
                    refine A.act (X.appendF rfl Tryd.underlying56 (El.of (P := Tryd.prog) (z := (.agg #[(.int .u8 0), (.int .u8 0), (.int .u8 0), (.int .u8 0), (.int .u8 0), (.int .u8 0), (.int .u8 0), (.int .u8 0), (.int .u8 0), (.int .u8 0), (.int .u8 0), (.int .u8 0), (.int .u8 0), (.int .u8 0), (.int .u8 0), (.int .u8 0), (.int .u8 0), (.int .u8 0), (.int .u8 0), (.int .u8 0), (.int .u8 0), (.int .u8 0), (.int .u8 0), (.int .u8 0), (.int .u8 0), (.int .u8 0), (.int .u8 0), (.int .u8 0), (.int .u8 0), (.int .u8 0), (.int .u8 0), (.int .u8 0), (.int .i64 0), (.int .u8 0), (.int .u8 0), (.int .u8 0), (.int .u8 0), (.int .u8 0), (.int .u8 0), (.int .u8 0), (.int .u8 0), (.int .u8 0), (.int .u8 0), (.int .u8 0), (.int .u8 0), (.int .u8 0), (.int .u8 0), (.int .u8 0), (.int .u8 0), (.int .u8 0), (.int .u8 0), (.int .u8 0), (.int .u8 0), (.int .u8 0), (.int .u8 0), (.int .u8 0), (.int .u8 0), (.int .u8 0), (.int .u8 0), (.int .u8 0), (.int .u8 0), (.int .u8 0), (.int .u8 0), (.int .u8 0), (.int .u8 0), (.int .i64 0), (.slice none 0 0), (.slice none 0 0)])) (size := 68) (bytes := 128) rfl rfl rfl) Is.rfl' Is.rfl' (SrcL.slice Tryd.underlying56 (by decide) (ads_size r.L)) (by simp only [Option.getD_some, Option.getD_none, byteEls_length, intEls_length, List.length_append, List.length_cons, List.length_nil, List.length_map, List.length_drop, List.length_take, Int.toNat_natCast]; omega) (by simp only [Option.getD_some, Option.getD_none, byteEls_length, intEls_length, List.length_append, List.length_cons, List.length_nil, List.length_map, List.length_drop, List.length_take, Int.toNat_natCast]; omega) (fun b77 o77 c77 => ?_))
                    refine ⟨(b77, o77, c77, q4, q5, q6), Weaker.mk' ?_ (by show L.HSub _ (cond (f 6) _ (.tail b77 o77 c77) :: _); rw [h6]; exact HSub.refl _)⟩
                    refine env_back2 (envS_hit (sl := [(0, 74), (1, 75), (2, 76), (3, 77), (4, 78), (5, 79), (6, 80)]) (j := 3) (d := 77) rfl (fun _ _ h => h)) (envS_hit (sl := [(0, 74), (1, 75), (2, 76), (3, 77), (4, 78), (5, 79), (6, 80)]) (j := 2) (d := 76) rfl (fun _ _ h => h)) (envS_hit (sl := [(0, 74), (1, 75), (2, 76), (3, 77), (4, 78), (5, 79), (6, 80)]) (j := 0) (d := 74) rfl (fun _ _ h => h)) (envS_next ?_)
                    · intro p hp hne; simp only [List.mem_cons, List.not_mem_nil, or_false] at hp; rcases hp with rfl | rfl | rfl | rfl | rfl | rfl | rfl <;> first | exact absurd rfl hne | exact ⟨rfl, rfl⟩
                  · refine ⟨_, rfl, ?_⟩
                    refine A.u (LU.loadO 1 rfl ⟨Tryd.sizeOf104, Tryd.isAgg104⟩ Is.rfl' (Part.whole (by assumption))) rfl ?_
                    refine ⟨⟨q1, q2, q3, q4, q5, q6⟩, Weaker.mk' ?_ (HSub.refl _)⟩
                    refine env_back0 (envS_hit (sl := [(0, 74), (1, 75), (2, 76), (3, 77), (4, 78), (5, 79), (6, 80)]) (j := 4) (d := 78) rfl (fun _ _ h => h))  (envS_next ?_)
                    · intro p hp hne; simp only [List.mem_cons, List.not_mem_nil, or_false] at hp; rcases hp with rfl | rfl | rfl | rfl | rfl | rfl | rfl <;> first | exact absurd rfl hne | exact ⟨rfl, rfl⟩
                  · have d4 := hdir 4 (List.mem_of_elem_eq_true (by kernel_rfl))
                    refine ⟨_, rfl, ?_⟩
                    refine LP.weak (t := 78) (v := .agg (adL ⟨up, down, ids, ts⟩)) (envS_is (j := 4) rfl d4) ?_
                    refine A.u (LU.lits Tryd.underlying56 Tryd.sizeOf104 Tryd.zeroValue104 (ones rfl) rfl (by decide) (by decide) (Elems.cons Is.rfl' (by exact Cells.agg) Elems.nil) (by (simp; assumption)) rfl) rfl ?_
                    refine ⟨⟨q1, q2, q3, q4, q5, q6⟩, Weaker.mk' ?_ (HSub.refl _)⟩
                    refine env_back1 (envS_hit (sl := [(0, 74), (1, 75), (2, 76), (3, 77), (4, 78), (5, 79), (6, 80)]) (j := 5) (d := 79) rfl (fun _ _ h => h)) (envS_hit (sl := [(0, 74), (1, 75), (2, 76), (3, 77), (4, 78), (5, 79), (6, 80)]) (j := 4) (d := 78) rfl (fun _ _ h => h)) (envS_next ?_)
                    · intro p hp hne; simp only [List.mem_cons, List.not_mem_nil, or_false] at hp; rcases hp with rfl | rfl | rfl | rfl | rfl | rfl | rfl <;> first | exact absurd rfl hne | exact ⟨rfl, rfl⟩
                  · have d3 := hdir 3 (List.mem_of_elem_eq_true (by kernel_rfl))
                    have d5 := hdir 5 (List.mem_of_elem_eq_true (by kernel_rfl))
                    refine ⟨_, rfl, ?_⟩
                    have h3 : f 3 = true := hdir 3 (List.mem_of_elem_eq_true (by kernel_rfl))
                    refine LP.ghost (H' := .tail q1 q2 q3 :: .cells b_ 104 (adL ⟨up, down, ids, ts⟩) :: .cells b10 59 [.raw (.slice none 0 0), .raw (.slice none 0 0)] :: .cells b7 35 (vxL down) :: .cells b6 35 (vxL up) :: .cells b5 59 (rgL r) :: Rf) (by show L.HSub (cond (f 6) _ (cond (f 3) _ _) :: _) _; rw [h3, hfi]; exact HSub.refl _) ?_
                    refine LP.weak (t := 77) (v := .sl 68 (ads r.L) (.tok q1 q2 q3)) (envS_is (j := 3) rfl d3) ?_
                    refine LP.weak (t := 79) (v := .sl 68 [adL ⟨up, down, ids, ts⟩] .full) (envS_is (j := 5) rfl d5) ?_
                    refine A.act (X.append 0 rfl rfl Tryd.underlying56 (El.of (P := Tryd.prog) (z := (.agg #[(.int .u8 0), (.int .u8 0), (.int .u8 0), (.int .u8 0), (.int .u8 0), (.int .u8 0), (.int .u8 0), (.int .u8 0), (.int .u8 0), (.int .u8 0), (.int .u8 0), (.int .u8 0), (.int .u8 0), (.int .u8 0), (.int .u8 0), (.int .u8 0), (.int .u8 0), (.int .u8 0), (.int .u8 0), (.int .u8 0), (.int .u8 0), (.int .u8 0), (.int .u8 0), (.int .u8 0), (.int .u8 0), (.int .u8 0), (.int .u8 0), (.int .u8 0), (.int .u8 0), (.int .u8 0), (.int .u8 0), (.int .u8 0), (.int .i64 0), (.int .u8 0), (.int .u8 0), (.int .u8 0), (.int .u8 0), (.int .u8 0), (.int .u8 0), (.int .u8 0), (.int .u8 0), (.int .u8 0), (.int .u8 0), (.int .u8 0), (.int .u8 0), (.int .u8 0), (.int .u8 0), (.int .u8 0), (.int .u8 0), (.int .u8 0), (.int .u8 0), (.int .u8 0), (.int .u8 0), (.int .u8 0), (.int .u8 0), (.int .u8 0), (.int .u8 0), (.int .u8 0), (.int .u8 0), (.int .u8 0), (.int .u8 0), (.int .u8 0), (.int .u8 0), (.int .u8 0), (.int .u8 0), (.int .i64 0), (.slice none 0 0), (.slice none 0 0)])) (size := 68) (bytes := 128) rfl rfl rfl) Is.rfl' Is.rfl' (SrcL.slice Tryd.underlying56 (by decide) (by intro e he; rw [List.mem_singleton.1 he]; exact hal)) (by simp only [Option.getD_some, Option.getD_none, byteEls_length, intEls_length, List.length_append, List.length_cons, List.length_nil, List.length_map, List.length_drop, List.length_take, Int.toNat_natCast]; omega) (by simp only [Option.getD_some, Option.getD_none, byteEls_length, intEls_length, List.length_append, List.length_cons, List.length_nil, List.length_map, List.length_drop, List.length_take, Int.toNat_natCast]; omega) (fun b80 o80 c80 => ?_))
                    refine ⟨(q1, q2, q3, b80, o80, c80), Weaker.mk' ?_ (HSub.refl _)⟩
                    refine env_back2 (envS_hit (sl := [(0, 74), (1, 75), (2, 76), (3, 77), (4, 78), (5, 79), (6, 80)]) (j := 6) (d := 80) rfl (Is.of (congrArg (fun z => LV.sl 68 z (.tok b80 o80 c80)) (ads_app r.L [⟨up, down, ids, ts⟩])))) (envS_hit (sl := [(0, 74), (1, 75), (2, 76), (3, 77), (4, 78), (5, 79), (6, 80)]) (j := 5) (d := 79) rfl (fun _ _ h => h)) (envS_hit (sl := [(0, 74), (1, 75), (2, 76), (3, 77), (4, 78), (5, 79), (6, 80)]) (j := 3) (d := 77) rfl (fun _ _ h => h)) (envS_next ?_)
                    · intro p hp hne; simp only [List.mem_cons, List.not_mem_nil, or_false] at hp; rcases hp with rfl | rfl | rfl | rfl | rfl | rfl | rfl <;> first | exact absurd rfl hne | exact ⟨rfl, rfl⟩
                · intro g_ f hf_
                  obtain ⟨q1, q2, q3, q4, q5, q6⟩ := g_
                  refine X.ghost (H' := .tail q4 q5 q6 :: .cells b_ 104 (adL ⟨up, down, ids, ts⟩) :: .cells b10 59 [.raw (.slice none 0 0), .raw (.slice none 0 0)] :: .cells b7 35 (vxL down) :: .cells b6 35 (vxL up) :: .cells b5 59 (rgL r) :: Rf) (by show L.HSub (cond (f 6) _ _ :: _) _; rw [hf_ 6 (by omega)]; exact HSub.refl _) ?_
                  refine X.u (LU.fieldO Tryd.underlying59 rfl Tryd.sizeOf56 (by decide) Is.rfl') rfl ?_
                  refine X.act (X.store 5 rfl Tryd.sizeOf56 Is.rfl' Is.rfl' (by exact Cells.sl) (by (simp; done)) (by (simp; done)) ?_)
                  refine LL.nil (after_code ?_)
                  refine LW.seq ?_
                  refine X.wghost (H' := .cells b5 59 (rgL ⟨r.L ++ [⟨up, down, ids, ts⟩], r.D⟩) :: .cells b10 59 [.raw (.slice none 0 0), .raw (.slice none 0 0)] :: Rf) (HSub.trans (B := .cells b5 59 [.sl 68 (ads (r.L ++ [⟨up, down, ids, ts⟩])) (.tok q4 q5 q6), .sl 65 (des r.D) .unk] :: .cells b10 59 [.raw (.slice none 0 0), .raw (.slice none 0 0)] :: Rf) (by repeat (first | exact HSub.refl _ | refine HSub.pick 0 rfl ?_ | refine HSub.pick 2 rfl ?_ | refine HSub.drop ?_)) (HSub.cell 0 rfl Is.unk)) ?_
                  refine LW.region ?_
                  refine X.u (LU.loadO 0 rfl ⟨Tryd.sizeOf59, Tryd.isAgg59⟩ Is.rfl' (Part.whole (by (simp; done)))) rfl ?_
                  refine X.act (X.store 1 rfl Tryd.sizeOf59 Is.rfl' Is.rfl' (by exact Cells.agg) (by (simp; done)) (by (simp; done)) ?_)
                  refine X.u (LU.assignR Is.rfl') rfl ?_
                  refine LL.nil (after_code ?_)
                  refine LW.ret (after_end ?_)
                  refine X.ret (H' := []) (by exact Res.cell2 0 rfl rfl ⟨Tryd.sizeOf59, Tryd.isAgg59⟩ (Part.whole (by rfl)) (by exact IsA rfl) (by exact IsR rfl)) (by repeat (first | exact HSub.refl _ | refine HSub.drop ?_)) ?_
                  exact ⟨by rw [hG0 hE, hE]; rfl, rfl⟩
end Go.Proofs.YtolpkeajokjbjaaDoor
namespace Go.Proofs.YtolpkeajokjbjaaDoor
open Go.RowKit Go.L Go.Lib
attribute [local irreducible] LL LW LO
theorem any_rest {α : Type} {p : α → Bool} {l : List α} {i : Nat} {x : α} (h : l[i]? = some x) (hp : p x = true) : l.any p = true := List.any_eq_true.2 ⟨x, List.mem_of_getElem? h, hp⟩
set_option maxHeartbeats 8000000 in
set_option maxRecDepth 100000 in
theorem rdrop_calls (r : Rg) (ho : Ok r) (hD : r.D.length < 900000) (ids : List Vx) (hi : ids.length < 100000) : LCalls Tryd.prog 50 [.agg (rgL r), Vxs ids .unk] [] (fun x H' => x = .tup [.agg (rgL (rdropG r ids)), i64 (rdropE r ids : Nat)] ∧ H' = []) := by
  have hszs := ho.sizes
  have hlen := ho.len
  have hidl : ∀ a ∈ r.L, a.ids.length ≤ 512 := fun a ha => by
    have := nodup_len (ho.idsOf ha) (l := idsG r.L) fun x hx => ids_mem.2 ⟨_, ha, hx⟩
    omega
  obtain ⟨S, hS⟩ : ∃ S, S = idsG r.L := ⟨_, rfl⟩
  have hidc : LCalls Tryd.prog 61 [.agg (rgL r)] [] (fun x H' => x = Vxs S .unk ∧ H' = []) := by rw [hS]; exact ids_calls r (by omega) (by omega)
  have hSl : S.length ≤ 512 := by rw [hS]; exact hlen
  obtain ⟨E, hE⟩ : ∃ E, E = rdropE r ids := ⟨_, rfl⟩
  have hG : E ≠ 0 → rdropG r ids = r := fun h => by unfold rdropG; rw [← hE, if_neg h]
  have hG0 : E = 0 → rdropG r ids = ⟨r.L.filter (fun a => !goneB ids a), r.D.filter (fun d => !decide (d.v ∈ ids))⟩ := fun h => by unfold rdropG; rw [← hE, if_pos h]
  obtain ⟨G, hGG⟩ : ∃ G, G = rdropG r ids := ⟨_, rfl⟩
  rw [← hE, ← hGG]
  rw [← hGG] at hG hG0
  unfold rdropE at hE
  rw [← hS] at hE
  refine LCalls.of Tryd.func50 rfl Tryd.ntmps50 Tryd.results50 rfl (fun Rf => ?_)
  refine LW.seq ?_
  refine LW.region ?_
  refine X.act (X.box rfl Is.rfl' (by exact Cells.agg) (fun b2 => ?_))
  refine X.act (X.alloc rfl Tryd.zeroValue59 (by exact Cells.rawagg (by decide)) (fun b4 => ?_))
  refine X.u (LU.assignR Is.rfl') rfl ?_
  refine LL.nil (after_code ?_)
  refine LW.seq ?_
  refine LW.seq ?_
  refine LW.region ?_
  refine X.u (LU.moveS Is.rfl') rfl ?_
  refine X.u (LU.call (rwrong_calls ids .unk (by omega)) Tryd.func65 rfl rfl (Opds.cons Is.rfl' Opds.nil)) rfl ?_
  refine LL.nil (after_code ?_)
  refine X.cond rfl (fun h1 => ?_) (fun h1 => ?_)
  · rw [if_pos h1] at hE
    refine LW.seq ?_
    refine LW.region ?_
    refine X.u (LU.loadO 1 rfl ⟨Tryd.sizeOf59, Tryd.isAgg59⟩ Is.rfl' (Part.whole (by (simp; done)))) rfl ?_
    refine X.act (X.store 0 rfl Tryd.sizeOf59 Is.rfl' Is.rfl' (by exact Cells.agg) (by (simp; done)) (by exact Nat.le_of_ble_eq_true rfl) ?_)
    refine X.u (LU.assignR Is.rfl') rfl ?_
    refine LL.nil (after_code ?_)
    refine LW.ret (ret_code (after_end ?_))
    refine X.ret (H' := []) (by exact Res.cell2 0 rfl rfl ⟨Tryd.sizeOf59, Tryd.isAgg59⟩ (Part.whole (by rfl)) (by exact IsA rfl) (by exact IsR rfl)) (by repeat (first | exact HSub.refl _ | refine HSub.drop ?_)) ?_
    exact ⟨by rw [hG (by rw [hE]; decide), hE]; rfl, rfl⟩
  · rw [if_neg (by rw [h1]; decide)] at hE
    refine LW.skip (after_code ?_)
    refine LW.seq ?_
    refine LW.region ?_
    refine X.u (LU.loadO 1 rfl ⟨Tryd.sizeOf59, Tryd.isAgg59⟩ Is.rfl' (Part.whole (by (simp; done)))) rfl ?_
    refine X.u (LU.call (hidc) Tryd.func61 rfl rfl (Opds.cons Is.rfl' Opds.nil)) rfl ?_
    refine X.u (LU.assignS Is.rfl') rfl ?_
    refine LL.nil (after_code ?_)
    refine LW.seq ?_
    refine LW.seq ?_
    refine LW.region ?_
    refine X.u (LU.assignR Is.rfl') rfl ?_
    refine LL.nil (after_code ?_)
    refine LW.block ?_
    refine X.loopK (α := Nat) (fun i => [(7, i64 i)]) [1, 2, 4, 6] (fun i => .cells b4 59 [.raw (.slice none 0 0), .raw (.slice none 0 0)] :: .cells b2 59 (rgL r) :: Rf) (fun i => i ≤ ids.length ∧ (ids.take i).any (fun v => !decide (v ∈ S)) = false) (fun i => ids.length - i) (0) (EnvLe.cons (by rfl) (EnvLe.nil)) (by repeat (exact HSub.refl _)) ?_ ?_
    · exact ⟨Nat.zero_le _, by simp⟩
    · rintro i hI
      obtain ⟨hi2, hany⟩ := hI
      refine LW.seq ?_
      refine LW.seq ?_
      refine LW.region ?_
      refine X.u (LU.moveR Is.rfl') rfl ?_
      refine X.u (LU.moveS Is.rfl') rfl ?_
      refine X.u (LU.lenN Tryd.underlying26 Is.rfl' (by (simp only [Option.getD_some, Option.getD_none, byteEls_length, intEls_length, List.length_append, List.length_cons, List.length_nil, List.length_map, List.length_drop, List.length_take, Int.toNat_natCast]; rfl))) rfl ?_
      refine X.u (LU.lss Is.rfl' Is.rfl') rfl ?_
      refine LL.nil (after_code ?_)
      refine X.cond rfl (fun h5 => ?_) (fun h5 => ?_)
      · try have h5 := of_decide_eq_true h5
        refine LW.skip (after_code ?_)
        refine LW.seq ?_
        refine LW.block ?_
        refine LW.seq ?_
        obtain ⟨v, hv⟩ := at_lt (show i < ids.length by omega)
        have hvl := vxL_len v
        have hv32 : v.p.1.length = 32 := v.p.2
        refine LW.region ?_
        refine X.u (LU.moveS Is.rfl') rfl ?_
        refine X.u (LU.moveS Is.rfl') rfl ?_
        refine X.u (LU.moveR Is.rfl') rfl ?_
        refine X.u (LU.at Tryd.underlying26 ⟨Tryd.sizeOf35, Tryd.isAgg35⟩ Is.rfl' Is.rfl' (by omega) (vxs_at hv) (vx_ne v)) rfl ?_
        refine X.u (LU.weak (LU.load ⟨Tryd.sizeOf35, Tryd.isAgg35⟩ Is.rfl' (by assumption) (Part.whole (by assumption))) (Is.of (y := .agg (vxL v)) (rfl))) rfl ?_
        refine X.u (LU.call (place_calls S .unk v (by omega)) Tryd.func63 rfl rfl (Opds.cons Is.rfl' (Opds.cons Is.rfl' Opds.nil))) rfl ?_
        refine X.u (LU.lss Is.rfl' Is.rfl') rfl ?_
        refine LL.nil (after_code ?_)
        refine X.cond rfl (fun h7 => ?_) (fun h7 => ?_)
        · have h7 : v ∉ S := fun c => by have h0 := of_decide_eq_true h7; have := placeG_nn c; omega
          have hin : ids.any (fun v => !decide (v ∈ S)) = true := any_rest hv (by rw [decide_eq_false h7]; rfl)
          rw [if_pos hin] at hE
          refine LW.seq ?_
          refine LW.region ?_
          refine X.u (LU.loadO 1 rfl ⟨Tryd.sizeOf59, Tryd.isAgg59⟩ Is.rfl' (Part.whole (by (simp; done)))) rfl ?_
          refine X.act (X.store 0 rfl Tryd.sizeOf59 Is.rfl' Is.rfl' (by exact Cells.agg) (by (simp; done)) (by (simp; done)) ?_)
          refine X.u (LU.assignR Is.rfl') rfl ?_
          refine LL.nil (after_code ?_)
          refine LW.ret (ret_blk (ret_code (ret_rnd (ret_blk (ret_code (after_end ?_))))))
          refine X.ret (H' := []) (by exact Res.cell2 0 rfl rfl ⟨Tryd.sizeOf59, Tryd.isAgg59⟩ (Part.whole (by rfl)) (by exact IsA rfl) (by exact IsR rfl)) (by repeat (first | exact HSub.refl _ | refine HSub.drop ?_)) ?_
          exact ⟨by rw [hG (by rw [hE]; decide), hE]; rfl, rfl⟩
        · have h7 : v ∈ S := Classical.byContradiction fun c => of_decide_eq_false h7 (by have := placeG_neg.2 c; omega)
          have hz0 : (0 : Nat) = 0 := rfl
          refine LW.skip (after_blk (after_code ?_))
          refine LW.region ?_
          refine X.u (LU.moveR Is.rfl') rfl ?_
          refine X.u (LU.addN Is.rfl' Is.rfl' (wrap_i64 (by omega) (by omega))) rfl ?_
          refine X.u (LU.assignR Is.rfl') rfl ?_
          refine LL.nil (after_rnd ?_)
          refine X.next (i + 1) rfl (EnvLe.cons (by rfl) (EnvLe.nil)) (Keeps.cons (by exact Eq.trans (b := .sl _ _ _) rfl rfl) (Keeps.cons (by exact Eq.trans (b := .raw _) rfl rfl) (Keeps.cons (by exact Eq.trans (b := .raw _) rfl rfl) (Keeps.cons (by exact Eq.trans (b := .sl _ _ _) rfl rfl) (Keeps.nil))))) (by repeat (exact HSub.refl _)) ?_ ?_
          · exact ⟨by omega, by rw [take_snoc hv, List.any_append, hany, List.any_cons, List.any_nil, Bool.or_false, Bool.false_or, decide_eq_true h7]; rfl⟩
          · omega
      · try have h5 := of_decide_eq_false h5
        refine LW.exit (exit_code (exit_rnd (exit_blk (after_code ?_))))
        refine LW.seq ?_
        rw [List.take_of_length_le (by omega)] at hany
        rw [if_neg (by rw [hany]; decide)] at hE
        refine LW.region ?_
        refine X.u (LU.assign (Is.nil 68)) rfl ?_
        refine LL.nil (after_code ?_)
        refine LW.seq ?_
        refine LW.seq ?_
        refine LW.region ?_
        refine X.u (LU.assignR Is.rfl') rfl ?_
        refine LL.nil (after_code ?_)
        refine LW.block ?_
        refine X.wweak (t := 8) (v := .sl 68 (ads []) (.tok 0 0 0)) (Is.full_tok 0 0) ?_
        refine X.wghost (HSub.tail0 0 0 0 (Nat.le_refl _) _) ?_
        refine X.loopK (α := Nat × List Ad × Nat × Nat × Nat) (fun ⟨i, Lf, b, o, c⟩ => [(9, i64 i), (8, .sl 68 (ads Lf) (.tok b o c))]) [1, 2, 4] (fun ⟨i, Lf, b, o, c⟩ => .tail b o c :: .cells b4 59 [.raw (.slice none 0 0), .raw (.slice none 0 0)] :: .cells b2 59 (rgL r) :: Rf) (fun ⟨i, Lf, b, o, c⟩ => i ≤ r.L.length ∧ Lf = (r.L.take i).filter (fun a => !goneB ids a) ∧ (r.L.take i).any (rbadB ids) = false) (fun ⟨i, Lf, b, o, c⟩ => r.L.length - i) ((0, [], 0, 0, 0)) (EnvLe.cons (by rfl) (EnvLe.cons (by rfl) (EnvLe.nil))) (by repeat (exact HSub.refl _)) ?_ ?_
        · exact ⟨Nat.zero_le _, by simp, by simp⟩
        · rintro ⟨i, Lf, b, o, c⟩ hI
          obtain ⟨hi3, hLf, hba⟩ := hI
          have hLl : Lf.length ≤ i := by
            rw [hLf]
            refine Nat.le_trans (List.length_filter_le _ _) ?_
            rw [List.length_take]; omega
          refine LW.seq ?_
          refine LW.seq ?_
          refine LW.region ?_
          refine X.u (LU.moveR Is.rfl') rfl ?_
          refine X.u (LU.fieldO Tryd.underlying59 rfl Tryd.sizeOf56 (by decide) Is.rfl') rfl ?_
          refine X.u (LU.loadO 2 rfl ⟨Tryd.sizeOf56, Tryd.isAgg56⟩ Is.rfl' (Part.one rfl)) rfl ?_
          refine X.u (LU.lenN Tryd.underlying56 Is.rfl' (by (simp only [Option.getD_some, Option.getD_none, byteEls_length, intEls_length, List.length_append, List.length_cons, List.length_nil, List.length_map, List.length_drop, List.length_take, Int.toNat_natCast]; rfl))) rfl ?_
          refine X.u (LU.lss Is.rfl' Is.rfl') rfl ?_
          refine LL.nil (after_code ?_)
          refine X.cond rfl (fun h11 => ?_) (fun h11 => ?_)
          · try have h11 := of_decide_eq_true h11
            refine LW.skip (after_code ?_)
            refine LW.seq ?_
            refine LW.block ?_
            refine LW.seq ?_
            obtain ⟨a, ha⟩ := at_lt (show i < r.L.length by omega)
            have hal := ad_len a
            have hau := a.up.p.2
            have had := a.down.p.2
            have hail := hidl a (List.mem_of_getElem? ha)
            have hsz : a.up.p.val.length + (a.down.p.val.length + 3 + 1) = 68 := by omega
            refine LW.region ?_
            refine X.u (LU.fieldO Tryd.underlying59 rfl Tryd.sizeOf56 (by decide) Is.rfl') rfl ?_
            refine X.u (LU.loadO 2 rfl ⟨Tryd.sizeOf56, Tryd.isAgg56⟩ Is.rfl' (Part.one rfl)) rfl ?_
            refine X.u (LU.moveR Is.rfl') rfl ?_
            refine X.u (LU.at Tryd.underlying56 ⟨Tryd.sizeOf104, Tryd.isAgg104⟩ Is.rfl' Is.rfl' (by omega) (ads_at ha) (ad_ne a)) rfl ?_
            refine X.u (LU.weak (LU.load ⟨Tryd.sizeOf104, Tryd.isAgg104⟩ Is.rfl' (by assumption) (Part.whole (by assumption))) (Is.of (y := .agg (adL a)) (rfl))) rfl ?_
            refine X.act (X.alloc rfl Tryd.zeroValue104 (by exact Cells.rawagg (by decide)) (fun b10 => ?_))
            refine X.act (X.store 0 rfl Tryd.sizeOf104 Is.rfl' Is.rfl' (by exact Cells.agg) (by assumption) (by exact Nat.le_of_ble_eq_true rfl) ?_)
            refine LL.nil (after_code ?_)
            refine LW.seq ?_
            refine X.wcells (ys := adL a) (putAt_all (by rw [hal]; rfl)) ?_
            refine LW.region ?_
            refine X.u (LU.assignR Is.rfl') rfl ?_
            refine LL.nil (after_code ?_)
            refine LW.seq ?_
            refine LW.seq ?_
            refine LW.region ?_
            refine X.u (LU.assignR Is.rfl') rfl ?_
            refine LL.nil (after_code ?_)
            refine LW.block ?_
            refine X.loopK (α := Nat × Nat) (fun ⟨k, n⟩ => [(12, i64 k), (11, i64 n)]) [1, 2, 4, 8, 9, 10] (fun ⟨k, n⟩ => .tail b o c :: .cells b10 104 (adL a) :: .cells b4 59 [.raw (.slice none 0 0), .raw (.slice none 0 0)] :: .cells b2 59 (rgL r) :: Rf) (fun ⟨k, n⟩ => k ≤ a.ids.length ∧ n = (a.ids.take k).countP (fun v => decide (v ∈ ids)) ∧ n ≤ k) (fun ⟨k, n⟩ => a.ids.length - k) ((0, 0)) (EnvLe.cons (by rfl) (EnvLe.cons (by rfl) (EnvLe.nil))) (by repeat (first | exact HSub.refl _ | refine HSub.pick 1 rfl ?_)) ?_ ?_
            · exact ⟨Nat.zero_le _, by simp, Nat.le_refl _⟩
            · rintro ⟨k, n⟩ hI
              obtain ⟨hk, hn, hnk⟩ := hI
              refine LW.seq ?_
              refine LW.seq ?_
              refine LW.region ?_
              refine X.u (LU.moveR Is.rfl') rfl ?_
              refine X.u (LU.fieldO Tryd.underlying104 rfl Tryd.sizeOf26 (by decide) Is.rfl') rfl ?_
              refine X.u (LU.loadO 1 rfl ⟨Tryd.sizeOf26, Tryd.isAgg26⟩ Is.rfl' (Part.one (ad_ids2 a))) rfl ?_
              refine X.u (LU.lenN Tryd.underlying26 Is.rfl' (by (simp only [Option.getD_some, Option.getD_none, byteEls_length, intEls_length, List.length_append, List.length_cons, List.length_nil, List.length_map, List.length_drop, List.length_take, Int.toNat_natCast]; rfl))) rfl ?_
              refine X.u (LU.lss Is.rfl' Is.rfl') rfl ?_
              refine LL.nil (after_code ?_)
              refine X.cond rfl (fun h16 => ?_) (fun h16 => ?_)
              · try have h16 := of_decide_eq_true h16
                refine LW.skip (after_code ?_)
                refine LW.seq ?_
                refine LW.block ?_
                refine LW.seq ?_
                obtain ⟨v, hv⟩ := at_lt (show k < a.ids.length by omega)
                have hvl := vxL_len v
                have hv32 : v.p.1.length = 32 := v.p.2
                refine LW.region ?_
                refine X.u (LU.moveS Is.rfl') rfl ?_
                refine X.u (LU.fieldO Tryd.underlying104 rfl Tryd.sizeOf26 (by decide) Is.rfl') rfl ?_
                refine X.u (LU.loadO 1 rfl ⟨Tryd.sizeOf26, Tryd.isAgg26⟩ Is.rfl' (Part.one (ad_ids2 a))) rfl ?_
                refine X.u (LU.moveR Is.rfl') rfl ?_
                refine X.u (LU.at Tryd.underlying26 ⟨Tryd.sizeOf35, Tryd.isAgg35⟩ Is.rfl' Is.rfl' (by omega) (vxs_at hv) (vx_ne v)) rfl ?_
                refine X.u (LU.weak (LU.load ⟨Tryd.sizeOf35, Tryd.isAgg35⟩ Is.rfl' (by assumption) (Part.whole (by assumption))) (Is.of (y := .agg (vxL v)) (rfl))) rfl ?_
                refine X.u (LU.call (place_calls ids .unk v (by omega)) Tryd.func63 rfl rfl (Opds.cons Is.rfl' (Opds.cons Is.rfl' Opds.nil))) rfl ?_
                refine X.u (LU.geq Is.rfl' Is.rfl') rfl ?_
                refine LL.nil (after_code ?_)
                refine X.cond rfl (fun h18 => ?_) (fun h18 => ?_)
                · have h18 : v ∈ ids := Classical.byContradiction fun c => by have h0 := of_decide_eq_true h18; have := placeG_neg.2 c; omega
                  have hz0 : (0 : Nat) = 0 := rfl
                  refine LW.region ?_
                  refine X.u (LU.moveR Is.rfl') rfl ?_
                  refine X.u (LU.addN Is.rfl' Is.rfl' (wrap_i64 (by omega) (by omega))) rfl ?_
                  refine X.u (LU.assignR Is.rfl') rfl ?_
                  refine LL.nil (after_blk (after_code ?_))
                  refine LW.region ?_
                  refine X.u (LU.moveR Is.rfl') rfl ?_
                  refine X.u (LU.addN Is.rfl' Is.rfl' (wrap_i64 (by omega) (by omega))) rfl ?_
                  refine X.u (LU.assignR Is.rfl') rfl ?_
                  refine LL.nil (after_rnd ?_)
                  refine X.next ((k + 1, n + 1)) rfl (EnvLe.cons (by rfl) (EnvLe.cons (by rfl) (EnvLe.nil))) (Keeps.cons (by exact Eq.trans (b := .sl _ _ _) rfl rfl) (Keeps.cons (by exact Eq.trans (b := .raw _) rfl rfl) (Keeps.cons (by exact Eq.trans (b := .raw _) rfl rfl) (Keeps.cons (by exact Eq.trans (b := .sl _ _ _) rfl rfl) (Keeps.cons (by exact Eq.trans (b := .raw _) rfl rfl) (Keeps.cons (by exact Eq.trans (b := .raw _) rfl rfl) (Keeps.nil))))))) (by repeat (exact HSub.refl _)) ?_ ?_
                  · exact ⟨by omega, by rw [take_snoc hv, List.countP_append, ← hn, List.countP_cons_of_pos (by exact decide_eq_true h18)]; rfl, by omega⟩
                  · (simp; omega)
                · have h18 : v ∉ ids := fun c => of_decide_eq_false h18 (placeG_nn c)
                  have hz0 : (0 : Nat) = 0 := rfl
                  refine LW.skip (after_blk (after_code ?_))
                  refine LW.region ?_
                  refine X.u (LU.moveR Is.rfl') rfl ?_
                  refine X.u (LU.addN Is.rfl' Is.rfl' (wrap_i64 (by omega) (by omega))) rfl ?_
                  refine X.u (LU.assignR Is.rfl') rfl ?_
                  refine LL.nil (after_rnd ?_)
                  refine X.next ((k + 1, n)) rfl (EnvLe.cons (by rfl) (EnvLe.cons (by rfl) (EnvLe.nil))) (Keeps.cons (by exact Eq.trans (b := .sl _ _ _) rfl rfl) (Keeps.cons (by exact Eq.trans (b := .raw _) rfl rfl) (Keeps.cons (by exact Eq.trans (b := .raw _) rfl rfl) (Keeps.cons (by exact Eq.trans (b := .sl _ _ _) rfl rfl) (Keeps.cons (by exact Eq.trans (b := .raw _) rfl rfl) (Keeps.cons (by exact Eq.trans (b := .raw _) rfl rfl) (Keeps.nil))))))) (by repeat (exact HSub.refl _)) ?_ ?_
                  · exact ⟨by omega, by rw [take_snoc hv, List.countP_append, ← hn, List.countP_cons_of_neg (by simpa using h18)]; rfl, by omega⟩
                  · (simp; omega)
              · try have h16 := of_decide_eq_false h16
                refine LW.exit (exit_code (exit_rnd (exit_blk (after_code ?_))))
                refine LW.seq ?_
                refine LW.seq ?_
                have hnn : n = nOf ids a := by rw [hn, List.take_of_length_le (by omega)]; rfl
                refine LW.region ?_
                refine X.u (LU.moveR Is.rfl') rfl ?_
                refine X.u (LU.fieldO Tryd.underlying104 rfl Tryd.sizeOf26 (by decide) Is.rfl') rfl ?_
                refine X.u (LU.loadO 1 rfl ⟨Tryd.sizeOf26, Tryd.isAgg26⟩ Is.rfl' (Part.one (ad_ids2 a))) rfl ?_
                refine X.u (LU.lenN Tryd.underlying26 Is.rfl' (by (simp only [Option.getD_some, Option.getD_none, byteEls_length, intEls_length, List.length_append, List.length_cons, List.length_nil, List.length_map, List.length_drop, List.length_take, Int.toNat_natCast]; rfl))) rfl ?_
                refine X.u (LU.eql Is.rfl' Is.rfl') rfl ?_
                refine LL.nil (after_code ?_)
                refine X.cond rfl (fun h20 => ?_) (fun h20 => ?_)
                · have h20 : n = a.ids.length := by have := of_decide_eq_true h20; omega
                  have hgo : goneB ids a = true := decide_eq_true (by rw [← hnn]; exact h20)
                  have hrb : rbadB ids a = false := by unfold rbadB; rw [hgo]; rfl
                  refine LW.exit (exit_code (exit_blk (after_code ?_)))
                  refine LW.region ?_
                  refine X.u (LU.moveR Is.rfl') rfl ?_
                  refine X.u (LU.addN Is.rfl' Is.rfl' (wrap_i64 (by omega) (by omega))) rfl ?_
                  refine X.u (LU.assignR Is.rfl') rfl ?_
                  refine LL.nil (after_rnd ?_)
                  refine X.next ((i + 1, Lf, b, o, c)) rfl (EnvLe.cons (by rfl) (EnvLe.cons (by rfl) (EnvLe.nil))) (Keeps.cons (by exact Eq.trans (b := .sl _ _ _) rfl rfl) (Keeps.cons (by exact Eq.trans (b := .raw _) rfl rfl) (Keeps.cons (by exact Eq.trans (b := .raw _) rfl rfl) (Keeps.nil)))) (by repeat (first | exact HSub.refl _ | refine HSub.pick 0 rfl ?_ | refine HSub.pick 1 rfl ?_ | refine HSub.drop ?_)) ?_ ?_
                  · exact ⟨by omega, by rw [take_snoc ha, List.filter_append, ← hLf, List.filter_cons, hgo]; simp, by rw [take_snoc ha, List.any_append, hba, List.any_cons, List.any_nil, hrb]; rfl⟩
                  · (simp; omega)
                · have h20 : ¬ n = a.ids.length := by have := of_decide_eq_false h20; omega
                  have hgo : goneB ids a = false := decide_eq_false (by rw [← hnn]; exact h20)
                  refine LW.skip (after_code ?_)
                  refine LW.seq ?_
                  refine LW.seq ?_
                  refine LW.region ?_
                  refine X.u (LU.moveR Is.rfl') rfl ?_
                  refine X.u (LU.gtr Is.rfl' Is.rfl') rfl ?_
                  refine X.u (LU.moveR Is.rfl') rfl ?_
                  refine X.gF rfl rfl (fun hg => LU.moveS (by exact Is.rfl')) rfl ?_
                  refine X.gF rfl rfl (fun hg => LU.fieldO Tryd.underlying104 rfl Tryd.sizeOf35 (by decide) (by exact Is.rfl')) rfl ?_
                  refine X.gF rfl rfl (fun hg => LU.weak (LU.loadO 1 rfl ⟨Tryd.sizeOf35, Tryd.isAgg35⟩ (by exact Is.whenN hg) (Part.sub (by (simp; omega)))) (Is.of (y := .agg (vxL a.up)) (congrArg LV.agg (ad_up a)))) rfl ?_
                  refine X.gF rfl rfl (fun hg => LU.call (place_calls ids .unk a.up (by omega)) Tryd.func63 rfl rfl (Opds.cons (by exact Is.whenN hg) (Opds.cons (by exact Is.whenN hg) Opds.nil))) rfl ?_
                  refine X.gF rfl rfl (fun hg => LU.geq (by exact Is.whenN hg) (by exact Is.rfl')) rfl ?_
                  refine X.u (LU.pickOr Is.rfl' Is.rfl' (fun hq => (by exact Is.whenN hq))) rfl ?_
                  refine X.u (LU.moveR Is.rfl') rfl ?_
                  refine X.gF rfl rfl (fun hg => LU.moveS (by exact Is.rfl')) rfl ?_
                  refine X.gF rfl rfl (fun hg => LU.fieldO Tryd.underlying104 rfl Tryd.sizeOf35 (by decide) (by exact Is.rfl')) rfl ?_
                  refine X.gF rfl rfl (fun hg => LU.weak (LU.loadO 1 rfl ⟨Tryd.sizeOf35, Tryd.isAgg35⟩ (by exact Is.whenN hg) (Part.sub (by (simp; omega)))) (Is.of (y := .agg (vxL a.down)) (congrArg LV.agg (ad_down a)))) rfl ?_
                  refine X.gF rfl rfl (fun hg => LU.call (place_calls ids .unk a.down (by omega)) Tryd.func63 rfl rfl (Opds.cons (by exact Is.whenN hg) (Opds.cons (by exact Is.whenN hg) Opds.nil))) rfl ?_
                  refine X.gF rfl rfl (fun hg => LU.geq (by exact Is.whenN hg) (by exact Is.rfl')) rfl ?_
                  refine X.u (LU.pickOr Is.rfl' Is.rfl' (fun hq => (by exact Is.whenN hq))) rfl ?_
                  refine LL.nil (after_code ?_)
                  refine X.cond rfl (fun h21 => ?_) (fun h21 => ?_)
                  · have h21 : (0 < n ∨ 0 ≤ placeG ids a.up) ∨ 0 ≤ placeG ids a.down := by simpa using h21
                    have hpu : 0 ≤ placeG ids a.up → a.up ∈ ids := fun e => Classical.byContradiction fun c => by have := placeG_neg.2 c; omega
                    have hpd : 0 ≤ placeG ids a.down → a.down ∈ ids := fun e => Classical.byContradiction fun c => by have := placeG_neg.2 c; omega
                    have hrb : rbadB ids a = true := by
                      unfold rbadB
                      rw [hgo]
                      simp only [Bool.not_false, Bool.true_and, Bool.or_eq_true, decide_eq_true_eq]
                      rcases h21 with (e | e) | e
                      · exact .inl (.inl (by rw [← hnn]; exact e))
                      · exact .inl (.inr (hpu e))
                      · exact .inr (hpd e)
                    rw [if_pos (any_rest ha hrb)] at hE
                    refine LW.seq ?_
                    refine LW.region ?_
                    refine X.u (LU.loadO 3 rfl ⟨Tryd.sizeOf59, Tryd.isAgg59⟩ Is.rfl' (Part.whole (by (simp; done)))) rfl ?_
                    refine X.act (X.store 2 rfl Tryd.sizeOf59 Is.rfl' Is.rfl' (by exact Cells.agg) (by (simp; done)) (by (simp; done)) ?_)
                    refine X.u (LU.assignR Is.rfl') rfl ?_
                    refine LL.nil (after_code ?_)
                    refine LW.ret (ret_code (ret_blk (ret_code (ret_rnd (ret_blk (ret_code (after_end ?_)))))))
                    refine X.ret (H' := []) (by exact Res.cell2 0 rfl rfl ⟨Tryd.sizeOf59, Tryd.isAgg59⟩ (Part.whole (by rfl)) (by exact IsA rfl) (by exact IsR rfl)) (by repeat (first | exact HSub.refl _ | refine HSub.drop ?_)) ?_
                    exact ⟨by rw [hG (by rw [hE]; decide), hE]; rfl, rfl⟩
                  · have h21 : ¬ ((0 < n ∨ 0 ≤ placeG ids a.up) ∨ 0 ≤ placeG ids a.down) := by simpa using h21
                    have hrb : rbadB ids a = false := by
                      unfold rbadB
                      rw [hgo, ← hnn]
                      have e1 : a.up ∉ ids := fun c => h21 (.inl (.inr (placeG_nn c)))
                      have e2 : a.down ∉ ids := fun c => h21 (.inr (placeG_nn c))
                      have e3 : ¬ 0 < n := fun c => h21 (.inl (.inl c))
                      rw [decide_eq_false e1, decide_eq_false e2, decide_eq_false e3]; rfl
                    refine LW.skip (after_code ?_)
                    refine LW.region ?_
                    refine X.u (LU.moveS Is.rfl') rfl ?_
                    refine X.u (LU.loadO 1 rfl ⟨Tryd.sizeOf104, Tryd.isAgg104⟩ Is.rfl' (Part.whole (by assumption))) rfl ?_
                    refine X.u (LU.lits Tryd.underlying56 Tryd.sizeOf104 Tryd.zeroValue104 (ones rfl) rfl (by decide) (by decide) (Elems.cons Is.rfl' (by exact Cells.agg) Elems.nil) (by (simp; assumption)) rfl) rfl ?_
                    refine X.act (X.append 0 rfl rfl Tryd.underlying56 (El.of (P := Tryd.prog) (z := (.agg #[(.int .u8 0), (.int .u8 0), (.int .u8 0), (.int .u8 0), (.int .u8 0), (.int .u8 0), (.int .u8 0), (.int .u8 0), (.int .u8 0), (.int .u8 0), (.int .u8 0), (.int .u8 0), (.int .u8 0), (.int .u8 0), (.int .u8 0), (.int .u8 0), (.int .u8 0), (.int .u8 0), (.int .u8 0), (.int .u8 0), (.int .u8 0), (.int .u8 0), (.int .u8 0), (.int .u8 0), (.int .u8 0), (.int .u8 0), (.int .u8 0), (.int .u8 0), (.int .u8 0), (.int .u8 0), (.int .u8 0), (.int .u8 0), (.int .i64 0), (.int .u8 0), (.int .u8 0), (.int .u8 0), (.int .u8 0), (.int .u8 0), (.int .u8 0), (.int .u8 0), (.int .u8 0), (.int .u8 0), (.int .u8 0), (.int .u8 0), (.int .u8 0), (.int .u8 0), (.int .u8 0), (.int .u8 0), (.int .u8 0), (.int .u8 0), (.int .u8 0), (.int .u8 0), (.int .u8 0), (.int .u8 0), (.int .u8 0), (.int .u8 0), (.int .u8 0), (.int .u8 0), (.int .u8 0), (.int .u8 0), (.int .u8 0), (.int .u8 0), (.int .u8 0), (.int .u8 0), (.int .u8 0), (.int .i64 0), (.slice none 0 0), (.slice none 0 0)])) (size := 68) (bytes := 128) rfl rfl rfl) Is.rfl' Is.rfl' (SrcL.slice Tryd.underlying56 (by decide) (by intro e he; rw [List.mem_singleton.1 he]; exact hal)) (by simp only [Option.getD_some, Option.getD_none, byteEls_length, intEls_length, List.length_append, List.length_cons, List.length_nil, List.length_map, List.length_drop, List.length_take, Int.toNat_natCast]; omega) (by simp only [Option.getD_some, Option.getD_none, byteEls_length, intEls_length, List.length_append, List.length_cons, List.length_nil, List.length_map, List.length_drop, List.length_take, Int.toNat_natCast]; omega) (fun b88 o88 c88 => X.weak (t := 88) (Is.of (y := .sl 68 (ads (Lf ++ [a])) (.tok b88 o88 c88)) (congrArg (fun z => LV.sl 68 z (.tok b88 o88 c88)) (ads_app Lf [a]))) ?_))
                    refine X.u (LU.assignS Is.rfl') rfl ?_
                    refine LL.nil (after_blk (after_code ?_))
                    refine LW.region ?_
                    refine X.u (LU.moveR Is.rfl') rfl ?_
                    refine X.u (LU.addN Is.rfl' Is.rfl' (wrap_i64 (by omega) (by omega))) rfl ?_
                    refine X.u (LU.assignR Is.rfl') rfl ?_
                    refine LL.nil (after_rnd ?_)
                    refine X.next ((i + 1, Lf ++ [a], b88, o88, c88)) rfl (EnvLe.cons (by rfl) (EnvLe.cons (by rfl) (EnvLe.nil))) (Keeps.cons (by exact Eq.trans (b := .sl _ _ _) rfl rfl) (Keeps.cons (by exact Eq.trans (b := .raw _) rfl rfl) (Keeps.cons (by exact Eq.trans (b := .raw _) rfl rfl) (Keeps.nil)))) (by repeat (first | exact HSub.refl _ | refine HSub.pick 0 rfl ?_ | refine HSub.pick 1 rfl ?_ | refine HSub.drop ?_)) ?_ ?_
                    · exact ⟨by omega, by rw [take_snoc ha, List.filter_append, ← hLf, List.filter_cons, hgo]; rfl, by rw [take_snoc ha, List.any_append, hba, List.any_cons, List.any_nil, hrb]; rfl⟩
                    · (simp; omega)
          · try have h11 := of_decide_eq_false h11
            refine LW.exit (exit_code (exit_rnd (exit_blk (after_code ?_))))
            refine LW.seq ?_
            have hiL : i = r.L.length := by omega
            rw [hiL, List.take_length] at hLf hba
            rw [if_neg (by rw [hba]; decide)] at hE
            refine X.wweak (t := 8) (v := .sl 68 (ads Lf) .unk) Is.unk ?_
            refine LW.region ?_
            refine X.u (LU.assign (Is.nil 65)) rfl ?_
            refine LL.nil (after_code ?_)
            refine LW.seq ?_
            refine LW.seq ?_
            refine LW.region ?_
            refine X.u (LU.assignR Is.rfl') rfl ?_
            refine LL.nil (after_code ?_)
            refine LW.block ?_
            refine X.wweak (t := 13) (v := .sl 65 (des []) (.tok 0 0 0)) (Is.full_tok 0 0) ?_
            refine X.wghost (HSub.tail0 0 0 0 (Nat.le_refl _) _) ?_
            refine X.loopK (α := Nat × List De × Nat × Nat × Nat) (fun ⟨j, Df, e1, e2, e3⟩ => [(14, i64 j), (13, .sl 65 (des Df) (.tok e1 e2 e3))]) [1, 2, 4, 8] (fun ⟨j, Df, e1, e2, e3⟩ => .tail e1 e2 e3 :: .cells b4 59 [.raw (.slice none 0 0), .raw (.slice none 0 0)] :: .cells b2 59 (rgL r) :: Rf) (fun ⟨j, Df, e1, e2, e3⟩ => j ≤ r.D.length ∧ Df = (r.D.take j).filter (fun d => !decide (d.v ∈ ids))) (fun ⟨j, Df, e1, e2, e3⟩ => r.D.length - j) ((0, [], 0, 0, 0)) (EnvLe.cons (by rfl) (EnvLe.cons (by rfl) (EnvLe.nil))) (by repeat (first | exact HSub.refl _ | refine HSub.pick 0 rfl ?_ | refine HSub.pick 1 rfl ?_ | refine HSub.drop ?_)) ?_ ?_
            · exact ⟨Nat.zero_le _, by simp⟩
            · rintro ⟨j, Df, e1, e2, e3⟩ hI
              obtain ⟨hj, hDf⟩ := hI
              have hDl : Df.length ≤ j := by
                rw [hDf]
                refine Nat.le_trans (List.length_filter_le _ _) ?_
                rw [List.length_take]; omega
              refine LW.seq ?_
              refine LW.seq ?_
              refine LW.region ?_
              refine X.u (LU.moveR Is.rfl') rfl ?_
              refine X.u (LU.fieldO Tryd.underlying59 rfl Tryd.sizeOf57 (by decide) Is.rfl') rfl ?_
              refine X.u (LU.loadO 2 rfl ⟨Tryd.sizeOf57, Tryd.isAgg57⟩ Is.rfl' (Part.one rfl)) rfl ?_
              refine X.u (LU.lenN Tryd.underlying57 Is.rfl' (by (simp only [Option.getD_some, Option.getD_none, byteEls_length, intEls_length, List.length_append, List.length_cons, List.length_nil, List.length_map, List.length_drop, List.length_take, Int.toNat_natCast]; rfl))) rfl ?_
              refine X.u (LU.lss Is.rfl' Is.rfl') rfl ?_
              refine LL.nil (after_code ?_)
              refine X.cond rfl (fun h26 => ?_) (fun h26 => ?_)
              · try have h26 := of_decide_eq_true h26
                refine LW.skip (after_code ?_)
                refine LW.seq ?_
                refine LW.block ?_
                refine LW.seq ?_
                obtain ⟨d_, hd⟩ := at_lt (show j < r.D.length by omega)
                have hdl := de_len d_
                have hd1 : d_.v.p.1.length = 32 := d_.v.p.2
                have hd2 : d_.by_.1.length = 32 := d_.by_.2
                have hsz : d_.v.p.val.length + (d_.by_.val.length + 1) = 65 := by omega
                refine LW.region ?_
                refine X.u (LU.moveS Is.rfl') rfl ?_
                refine X.u (LU.fieldO Tryd.underlying59 rfl Tryd.sizeOf57 (by decide) Is.rfl') rfl ?_
                refine X.u (LU.loadO 2 rfl ⟨Tryd.sizeOf57, Tryd.isAgg57⟩ Is.rfl' (Part.one rfl)) rfl ?_
                refine X.u (LU.moveR Is.rfl') rfl ?_
                refine X.u (LU.at Tryd.underlying57 ⟨Tryd.sizeOf106, Tryd.isAgg106⟩ Is.rfl' Is.rfl' (by omega) (des_at hd) (de_ne d_)) rfl ?_
                refine X.u (LU.fieldP Tryd.underlying106 rfl ⟨Tryd.sizeOf35, Tryd.isAgg35⟩ (by decide) Is.rfl' (by (simp; omega))) rfl ?_
                refine X.u (LU.weak (LU.load ⟨Tryd.sizeOf35, Tryd.isAgg35⟩ Is.rfl' (by (simp; omega)) (Part.whole (by (simp; omega)))) (Is.of (y := .agg (vxL d_.v)) (congrArg LV.agg (de_v d_)))) rfl ?_
                refine X.u (LU.call (place_calls ids .unk d_.v (by omega)) Tryd.func63 rfl rfl (Opds.cons Is.rfl' (Opds.cons Is.rfl' Opds.nil))) rfl ?_
                refine X.u (LU.lss Is.rfl' Is.rfl') rfl ?_
                refine LL.nil (after_code ?_)
                refine X.cond rfl (fun h28 => ?_) (fun h28 => ?_)
                · have h28 : d_.v ∉ ids := fun c => by have h0 := of_decide_eq_true h28; have := placeG_nn c; omega
                  have hz0 : (0 : Nat) = 0 := rfl
                  refine LW.region ?_
                  refine X.u (LU.moveS Is.rfl') rfl ?_
                  refine X.u (LU.fieldO Tryd.underlying59 rfl Tryd.sizeOf57 (by decide) Is.rfl') rfl ?_
                  refine X.u (LU.loadO 2 rfl ⟨Tryd.sizeOf57, Tryd.isAgg57⟩ Is.rfl' (Part.one rfl)) rfl ?_
                  refine X.u (LU.moveR Is.rfl') rfl ?_
                  refine X.u (LU.at Tryd.underlying57 ⟨Tryd.sizeOf106, Tryd.isAgg106⟩ Is.rfl' Is.rfl' (by omega) (des_at hd) (de_ne d_)) rfl ?_
                  refine X.u (LU.weak (LU.load ⟨Tryd.sizeOf106, Tryd.isAgg106⟩ Is.rfl' (by assumption) (Part.whole (by assumption))) (Is.of (y := .agg (deL d_)) (rfl))) rfl ?_
                  refine X.u (LU.lits Tryd.underlying57 Tryd.sizeOf106 Tryd.zeroValue106 (ones rfl) rfl (by decide) (by decide) (Elems.cons Is.rfl' (by exact Cells.agg) Elems.nil) (by (simp; assumption)) rfl) rfl ?_
                  refine X.act (X.append 0 rfl rfl Tryd.underlying57 (El.of (P := Tryd.prog) (z := (.agg #[(.int .u8 0), (.int .u8 0), (.int .u8 0), (.int .u8 0), (.int .u8 0), (.int .u8 0), (.int .u8 0), (.int .u8 0), (.int .u8 0), (.int .u8 0), (.int .u8 0), (.int .u8 0), (.int .u8 0), (.int .u8 0), (.int .u8 0), (.int .u8 0), (.int .u8 0), (.int .u8 0), (.int .u8 0), (.int .u8 0), (.int .u8 0), (.int .u8 0), (.int .u8 0), (.int .u8 0), (.int .u8 0), (.int .u8 0), (.int .u8 0), (.int .u8 0), (.int .u8 0), (.int .u8 0), (.int .u8 0), (.int .u8 0), (.int .i64 0), (.int .u8 0), (.int .u8 0), (.int .u8 0), (.int .u8 0), (.int .u8 0), (.int .u8 0), (.int .u8 0), (.int .u8 0), (.int .u8 0), (.int .u8 0), (.int .u8 0), (.int .u8 0), (.int .u8 0), (.int .u8 0), (.int .u8 0), (.int .u8 0), (.int .u8 0), (.int .u8 0), (.int .u8 0), (.int .u8 0), (.int .u8 0), (.int .u8 0), (.int .u8 0), (.int .u8 0), (.int .u8 0), (.int .u8 0), (.int .u8 0), (.int .u8 0), (.int .u8 0), (.int .u8 0), (.int .u8 0), (.int .u8 0)])) (size := 65) (bytes := 72) rfl rfl rfl) Is.rfl' Is.rfl' (SrcL.slice Tryd.underlying57 (by decide) (by intro e he; rw [List.mem_singleton.1 he]; exact hdl)) (by simp only [Option.getD_some, Option.getD_none, byteEls_length, intEls_length, List.length_append, List.length_cons, List.length_nil, List.length_map, List.length_drop, List.length_take, Int.toNat_natCast]; omega) (by simp only [Option.getD_some, Option.getD_none, byteEls_length, intEls_length, List.length_append, List.length_cons, List.length_nil, List.length_map, List.length_drop, List.length_take, Int.toNat_natCast]; omega) (fun b112 o112 c112 => X.weak (t := 112) (Is.of (y := .sl 65 (des (Df ++ [d_])) (.tok b112 o112 c112)) (congrArg (fun z => LV.sl 65 z (.tok b112 o112 c112)) (des_app Df [d_]))) ?_))
                  refine X.u (LU.assignS Is.rfl') rfl ?_
                  refine LL.nil (after_blk (after_code ?_))
                  refine LW.region ?_
                  refine X.u (LU.moveR Is.rfl') rfl ?_
                  refine X.u (LU.addN Is.rfl' Is.rfl' (wrap_i64 (by omega) (by omega))) rfl ?_
                  refine X.u (LU.assignR Is.rfl') rfl ?_
                  refine LL.nil (after_rnd ?_)
                  refine X.next ((j + 1, Df ++ [d_], b112, o112, c112)) rfl (EnvLe.cons (by rfl) (EnvLe.cons (by rfl) (EnvLe.nil))) (Keeps.cons (by exact Eq.trans (b := .sl _ _ _) rfl rfl) (Keeps.cons (by exact Eq.trans (b := .raw _) rfl rfl) (Keeps.cons (by exact Eq.trans (b := .raw _) rfl rfl) (Keeps.cons (by exact Eq.trans (b := .sl _ _ _) rfl rfl) (Keeps.nil))))) (by repeat (exact HSub.refl _)) ?_ ?_
                  · exact ⟨by omega, by rw [take_snoc hd, List.filter_append, ← hDf, List.filter_cons, decide_eq_false h28]; rfl⟩
                  · (simp; omega)
                · have h28 : d_.v ∈ ids := Classical.byContradiction fun c => of_decide_eq_false h28 (by have := placeG_neg.2 c; omega)
                  have hz0 : (0 : Nat) = 0 := rfl
                  refine LW.skip (after_blk (after_code ?_))
                  refine LW.region ?_
                  refine X.u (LU.moveR Is.rfl') rfl ?_
                  refine X.u (LU.addN Is.rfl' Is.rfl' (wrap_i64 (by omega) (by omega))) rfl ?_
                  refine X.u (LU.assignR Is.rfl') rfl ?_
                  refine LL.nil (after_rnd ?_)
                  refine X.next ((j + 1, Df, e1, e2, e3)) rfl (EnvLe.cons (by rfl) (EnvLe.cons (by rfl) (EnvLe.nil))) (Keeps.cons (by exact Eq.trans (b := .sl _ _ _) rfl rfl) (Keeps.cons (by exact Eq.trans (b := .raw _) rfl rfl) (Keeps.cons (by exact Eq.trans (b := .raw _) rfl rfl) (Keeps.cons (by exact Eq.trans (b := .sl _ _ _) rfl rfl) (Keeps.nil))))) (by repeat (exact HSub.refl _)) ?_ ?_
                  · exact ⟨by omega, by rw [take_snoc hd, List.filter_append, ← hDf, List.filter_cons, decide_eq_true h28]; simp⟩
                  · (simp; omega)
              · try have h26 := of_decide_eq_false h26
                refine LW.exit (exit_code (exit_rnd (exit_blk (after_code ?_))))
                refine LW.seq ?_
                have hjD : j = r.D.length := by omega
                rw [hjD, List.take_length] at hDf
                refine X.wweak (t := 13) (v := .sl 65 (des Df) .unk) Is.unk ?_
                refine LW.region ?_
                refine X.u (LU.moveS Is.rfl') rfl ?_
                refine X.u (LU.moveS Is.rfl') rfl ?_
                refine X.u (LU.build (places := #[(0, 1), (1, 1)]) Tryd.underlying59 Tryd.zeroValue59 (ones rfl) (by intro w; simp [Tryd.sizeOf56, Tryd.sizeOf57]) (Parts.cons Is.rfl' (by exact Cells.sl) (Parts.cons Is.rfl' (by exact Cells.sl) Parts.nil)) rfl) rfl ?_
                refine X.act (X.store 1 rfl Tryd.sizeOf59 Is.rfl' Is.rfl' (by exact Cells.agg) (by rfl) (by (simp; done)) ?_)
                refine X.u (LU.assignR Is.rfl') rfl ?_
                refine LL.nil (after_code ?_)
                refine LW.ret (after_end ?_)
                refine X.ret (H' := []) (by exact Res.cell2 0 rfl rfl ⟨Tryd.sizeOf59, Tryd.isAgg59⟩ (Part.whole (by rfl)) (by exact IsA rfl) (by exact IsR rfl)) (by repeat (first | exact HSub.refl _ | refine HSub.drop ?_)) ?_
                exact ⟨by rw [hG0 hE, hE, ← hLf, ← hDf]; rfl, rfl⟩
end Go.Proofs.YtolpkeajokjbjaaDoor
