/- Lines: the laws' acts. -/
import Derived.Test.YtolpkeajokjbjaaDoorLpM
set_option linter.unusedVariables false
set_option linter.unusedSimpArgs false
namespace Go.Proofs.YtolpkeajokjbjaaDoor
open Go.RowKit Go.L Go.Lib
attribute [local irreducible] LL LW LO
structure Ac where
  kind : Int
  up : Vx
  down : Vx
  ids : List Vx
  texts : List (List UInt8)
  by_ : Hs
abbrev acL (a : Ac) : List LV := i64 a.kind :: (vxL a.up ++ (vxL a.down ++ ([Vxs a.ids .unk, .sl 1 (strsL a.texts) .unk] ++ hsL a.by_)))
abbrev acs (l : List Ac) : List (List LV) := l.map acL
abbrev Acs (l : List Ac) (k : Cap) : LV := .sl 101 (acs l) k
theorem ac_len (a : Ac) : (acL a).length = 101 := by simp [a.up.p.2, a.down.p.2, a.by_.2]
theorem ac_ne (a : Ac) : acL a ≠ [] := fun c => by cases c
theorem acs_at {l : List Ac} {i : Nat} {x : Ac} (h : l[i]? = some x) : (acs l)[(i : Int).toNat]? = some (acL x) := by
  rw [Int.toNat_natCast, List.getElem?_map, h]; rfl
theorem ac_kind (a : Ac) : (acL a)[0]? = some (i64 a.kind) := rfl
theorem ac_up (a : Ac) : ((acL a).drop 1).take 33 = vxL a.up := by
  rw [show (acL a).drop 1 = vxL a.up ++ _ from rfl, List.take_left' (vxL_len a.up)]
theorem ac_down (a : Ac) : ((acL a).drop 34).take 33 = vxL a.down := by
  rw [show (34 : Nat) = 1 + 33 from rfl, ← List.drop_drop, show (acL a).drop 1 = vxL a.up ++ _ from rfl, List.drop_left' (vxL_len a.up), List.take_left' (vxL_len a.down)]
theorem ac_d67 (a : Ac) : (acL a).drop 67 = [Vxs a.ids .unk, .sl 1 (strsL a.texts) .unk] ++ hsL a.by_ := by
  rw [show (67 : Nat) = 1 + 33 + 33 from rfl, ← List.drop_drop, ← List.drop_drop, show (acL a).drop 1 = vxL a.up ++ _ from rfl, List.drop_left' (vxL_len a.up), List.drop_left' (vxL_len a.down)]
theorem ac_ids (a : Ac) : (acL a)[67]? = some (Vxs a.ids .unk) := by
  have h := congrArg (fun l => l[0]?) (ac_d67 a)
  simp only [List.getElem?_drop] at h
  exact h
theorem ac_texts (a : Ac) : (acL a)[68]? = some (.sl 1 (strsL a.texts) .unk) := by
  have h := congrArg (fun l => l[1]?) (ac_d67 a)
  simp only [List.getElem?_drop] at h
  exact h
theorem ac_by (a : Ac) : ((acL a).drop 69).take 32 = hsL a.by_ := by
  rw [show (69 : Nat) = 67 + 2 from rfl, ← List.drop_drop, ac_d67]
  exact List.take_of_length_le (by rw [show (([Vxs a.ids .unk, .sl 1 (strsL a.texts) .unk] ++ hsL a.by_).drop 2) = hsL a.by_ from rfl, hsL_len]; exact Nat.le_refl _)
def acW (a : Ac) : Nat := 1 + a.ids.length + a.texts.length
def sumW (l : List Ac) : Nat := (l.map acW).sum
def fewB (l : List Ac) : Bool := decide (sumW l ≤ 120)
theorem sumW_snoc (l : List Ac) (a : Ac) : sumW (l ++ [a]) = sumW l + acW a := by unfold sumW; simp
theorem sumW_take_le (l : List Ac) (i : Nat) : sumW (l.take i) ≤ sumW l := by
  unfold sumW
  rw [List.map_take]
  conv => rhs; rw [← List.take_append_drop i (l.map acW), List.sum_append]
  omega
theorem sumW_at {l : List Ac} {i : Nat} {a : Ac} (h : l[i]? = some a) : sumW (l.take i) + acW a ≤ sumW l := by
  have := sumW_take_le l (i + 1)
  rw [take_snoc h, sumW_snoc] at this
  exact this
/-- The lists are no longer than memory allows. -/
abbrev Fit (l : List Ac) : Prop := ∀ a ∈ l, a.ids.length < 140737488355328 ∧ a.texts.length < 140737488355328
set_option maxHeartbeats 1000000 in
set_option maxRecDepth 100000 in
theorem few_calls (l : List Ac) (k : Cap) (hl : l.length < 140737488355328) (hf : Fit l) : LCalls Tryd.prog 16 [Acs l k] [] (fun r H' => r = bl (fewB l) ∧ H' = []) := by
  refine LCalls.of Tryd.func16 rfl Tryd.ntmps16 Tryd.results16 rfl (fun Rf => ?_)
  refine LW.seq ?_
  refine LW.region ?_
  refine X.u (LU.assignR Is.rfl') rfl ?_
  refine LL.nil (after_code ?_)
  refine LW.seq ?_
  refine LW.region ?_
  refine X.u (LU.assignR Is.rfl') rfl ?_
  refine LL.nil (after_code ?_)
  refine LW.seq ?_
  refine LW.seq ?_
  refine LW.region ?_
  refine X.u (LU.moveS Is.rfl') rfl ?_
  refine X.u (LU.lenN Tryd.underlying42 Is.rfl' (by (simp only [Option.getD_some, Option.getD_none, byteEls_length, intEls_length, List.length_append, List.length_cons, List.length_nil, List.length_map, List.length_drop, List.length_take, Int.toNat_natCast]; rfl))) rfl ?_
  refine X.u (LU.moveR Is.rfl') rfl ?_
  refine LL.nil (after_code ?_)
  refine LW.block ?_
  refine X.loopK (α := Nat × Nat) (fun ⟨i, n⟩ => [(8, i64 i), (3, i64 n)]) [6, 7] (fun ⟨i, n⟩ => Rf) (fun ⟨i, n⟩ => i ≤ l.length ∧ n = sumW (l.take i) ∧ n ≤ 120) (fun ⟨i, n⟩ => l.length - i) ((0, 0)) (EnvLe.cons (by rfl) (EnvLe.cons (by rfl) (EnvLe.nil))) (by repeat (exact HSub.refl _)) ?_ ?_
  · exact ⟨Nat.zero_le _, by simp [sumW], by decide⟩
  · rintro ⟨i, n⟩ hI
    obtain ⟨hi, hn, hn2⟩ := hI
    refine LW.seq ?_
    refine LW.region ?_
    refine X.u (LU.lss Is.rfl' Is.rfl') rfl ?_
    refine LL.nil (after_code ?_)
    refine LW.seq ?_
    refine X.cond rfl (fun h3 => ?_) (fun h3 => ?_)
    · try have h3 := of_decide_eq_true h3
      refine LW.skip (after_code ?_)
      refine LW.seq ?_
      refine LW.block ?_
      refine LW.seq ?_
      obtain ⟨x, hx⟩ := at_lt (show i < l.length by omega)
      have hxl := ac_len x
      have hxu := x.up.p.2
      have hxd := x.down.p.2
      have hxb := x.by_.2
      obtain ⟨hf1, hf2⟩ := hf x (List.mem_of_getElem? hx)
      have hws := sumW_at hx
      have hw0 : acW x = 1 + x.ids.length + x.texts.length := rfl
      refine LW.region ?_
      refine X.u (LU.at Tryd.underlying42 ⟨Tryd.sizeOf52, Tryd.isAgg52⟩ Is.rfl' Is.rfl' (by omega) (acs_at hx) (ac_ne x)) rfl ?_
      refine X.u (LU.weak (LU.load ⟨Tryd.sizeOf52, Tryd.isAgg52⟩ Is.rfl' (by assumption) (Part.whole (by assumption))) (Is.of (y := .agg (acL x)) (rfl))) rfl ?_
      refine X.act (X.alloc rfl Tryd.zeroValue52 (by exact Cells.rawagg (by decide)) (fun b5 => ?_))
      refine X.act (X.store 0 rfl Tryd.sizeOf52 Is.rfl' Is.rfl' (by exact Cells.agg) (by assumption) (by exact Nat.le_of_ble_eq_true rfl) ?_)
      refine LL.nil (after_code ?_)
      refine LW.seq ?_
      refine X.wcells (ys := acL x) (putAt_all (by rw [hxl]; rfl)) ?_
      refine LW.region ?_
      refine X.u (LU.moveR Is.rfl') rfl ?_
      refine X.u (LU.fieldO Tryd.underlying52 rfl Tryd.sizeOf26 (by decide) Is.rfl') rfl ?_
      refine X.u (LU.loadO 0 rfl ⟨Tryd.sizeOf26, Tryd.isAgg26⟩ Is.rfl' (Part.one (ac_ids x))) rfl ?_
      refine X.u (LU.weak (LU.lenN Tryd.underlying26 Is.rfl' (by (simp only [Option.getD_some, Option.getD_none, byteEls_length, intEls_length, List.length_append, List.length_cons, List.length_nil, List.length_map, List.length_drop, List.length_take, Int.toNat_natCast]; rfl))) (Is.of (y := i64 (x.ids.length : Nat)) (congrArg i64 (by rfl)))) rfl ?_
      refine X.u (LU.addN Is.rfl' Is.rfl' (wrap_i64 (by omega) (by omega))) rfl ?_
      refine X.u (LU.fieldO Tryd.underlying52 rfl Tryd.sizeOf25 (by decide) Is.rfl') rfl ?_
      refine X.u (LU.loadO 0 rfl ⟨Tryd.sizeOf25, Tryd.isAgg25⟩ Is.rfl' (Part.one (ac_texts x))) rfl ?_
      refine X.u (LU.weak (LU.lenN Tryd.underlying25 Is.rfl' (by (simp only [Option.getD_some, Option.getD_none, byteEls_length, intEls_length, List.length_append, List.length_cons, List.length_nil, List.length_map, List.length_drop, List.length_take, Int.toNat_natCast]; rfl))) (Is.of (y := i64 (x.texts.length : Nat)) (congrArg i64 (by rfl)))) rfl ?_
      refine X.u (LU.addN Is.rfl' Is.rfl' (wrap_i64 (by omega) (by omega))) rfl ?_
      refine X.u (LU.weak (LU.addN Is.rfl' Is.rfl' (wrap_i64 (by omega) (by omega))) (Is.of (y := i64 ((n + acW x : Nat) : Int)) (congrArg i64 (by rw [hw0]; omega)))) rfl ?_
      refine X.u (LU.assignR Is.rfl') rfl ?_
      refine LL.nil (after_code ?_)
      refine LW.seq ?_
      refine LW.region ?_
      refine X.u (LU.moveR Is.rfl') rfl ?_
      refine X.u (LU.gtr Is.rfl' Is.rfl') rfl ?_
      refine LL.nil (after_code ?_)
      refine X.cond rfl (fun h6 => ?_) (fun h6 => ?_)
      · have h6 : 120 < n + acW x := by have := of_decide_eq_true h6; omega
        have hz0 : (0 : Nat) = 0 := rfl
        refine LW.seq ?_
        refine LW.region ?_
        refine X.u (LU.assignR Is.rfl') rfl ?_
        refine LL.nil (after_code ?_)
        refine LW.ret (ret_blk (ret_code (ret_rnd (ret_blk (ret_code (after_end ?_))))))
        refine X.ret (H' := []) (Res.one (by exact IsR rfl)) (by repeat (first | exact HSub.refl _ | refine HSub.drop ?_)) ?_
        exact ⟨by unfold fewB; rw [decide_eq_false (by omega)], rfl⟩
      · have h6 : ¬ 120 < n + acW x := by have := of_decide_eq_false h6; omega
        have hz0 : (0 : Nat) = 0 := rfl
        refine LW.skip (after_blk (after_code ?_))
        refine LW.region ?_
        refine X.u (LU.addN Is.rfl' Is.rfl' (wrap_i64 (by omega) (by omega))) rfl ?_
        refine X.u (LU.moveR Is.rfl') rfl ?_
        refine LL.nil (after_rnd ?_)
        refine X.next ((i + 1, n + acW x)) rfl (EnvLe.cons (by rfl) (EnvLe.cons (by rfl) (EnvLe.nil))) (Keeps.cons (by exact Eq.trans (b := .sl _ _ _) rfl rfl) (Keeps.cons (by exact Eq.trans (b := .raw _) rfl rfl) (Keeps.nil))) (by repeat (first | exact HSub.refl _ | refine HSub.drop ?_)) ?_ ?_
        · exact ⟨by omega, by rw [take_snoc hx, sumW_snoc, hn], by omega⟩
        · (simp; omega)
    · try have h3 := of_decide_eq_false h3
      refine LW.exit (exit_code (exit_rnd (exit_blk (after_code ?_))))
      refine LW.seq ?_
      refine LW.region ?_
      refine X.u (LU.assignR Is.rfl') rfl ?_
      refine LL.nil (after_code ?_)
      refine LW.ret (after_end ?_)
      refine X.ret (H' := []) (Res.one (by exact IsR rfl)) (by repeat (exact HSub.refl _)) ?_
      have hil : i = l.length := by omega
      rw [hil, List.take_length] at hn
      exact ⟨by unfold fewB; rw [decide_eq_true (by omega)], rfl⟩
set_option maxRecDepth 100000 in
theorem texts_calls (a b : List (List UInt8)) (k1 k2 : Cap) (ha : a.length < 140737488355328) (hb : b.length < 140737488355328) : LCalls Tryd.prog 12 [.sl 1 (strsL a) k1, .sl 1 (strsL b) k2] [] (fun r H' => r = bl (decide (a = b)) ∧ H' = []) := by
  refine LCalls.of Tryd.func12 rfl Tryd.ntmps12 Tryd.results12 rfl (fun Rf => ?_)
  refine LW.seq ?_
  refine LW.region ?_
  refine X.u (LU.assignR Is.rfl') rfl ?_
  refine LL.nil (after_code ?_)
  refine LW.seq ?_
  refine LW.seq ?_
  refine LW.region ?_
  refine X.u (LU.moveS Is.rfl') rfl ?_
  refine X.u (LU.lenN Tryd.underlying25 Is.rfl' (by (simp only [Option.getD_some, Option.getD_none, byteEls_length, intEls_length, List.length_append, List.length_cons, List.length_nil, List.length_map, List.length_drop, List.length_take, Int.toNat_natCast]; rfl))) rfl ?_
  refine X.u (LU.moveS Is.rfl') rfl ?_
  refine X.u (LU.lenN Tryd.underlying25 Is.rfl' (by (simp only [Option.getD_some, Option.getD_none, byteEls_length, intEls_length, List.length_append, List.length_cons, List.length_nil, List.length_map, List.length_drop, List.length_take, Int.toNat_natCast]; rfl))) rfl ?_
  refine X.u (LU.neq Is.rfl' Is.rfl') rfl ?_
  refine LL.nil (after_code ?_)
  refine X.cond rfl (fun h1 => ?_) (fun h1 => ?_)
  · have h1 : a.length ≠ b.length := by have := h1; simp at this; omega
    have hz0 : (0 : Nat) = 0 := rfl
    refine LW.seq ?_
    refine LW.region ?_
    refine X.u (LU.assignR Is.rfl') rfl ?_
    refine LL.nil (after_code ?_)
    refine LW.ret (ret_code (after_end ?_))
    refine X.ret (H' := []) (Res.one (by exact IsR rfl)) (by repeat (exact HSub.refl _)) ?_
    exact ⟨by rw [decide_eq_false fun e => h1 (congrArg List.length e)], rfl⟩
  · have h1 : a.length = b.length := by have := h1; simp at this; omega
    have hz0 : (0 : Nat) = 0 := rfl
    refine LW.skip (after_code ?_)
    refine LW.seq ?_
    refine LW.seq ?_
    refine LW.region ?_
    refine X.u (LU.assignR Is.rfl') rfl ?_
    refine LL.nil (after_code ?_)
    refine LW.block ?_
    refine X.loopK (α := Nat) (fun i => [(5, i64 i)]) [0, 1] (fun i => Rf) (fun i => i ≤ a.length ∧ a.take i = b.take i) (fun i => a.length - i) (0) (EnvLe.cons (by rfl) (EnvLe.nil)) (by repeat (exact HSub.refl _)) ?_ ?_
    · exact ⟨Nat.zero_le _, by simp⟩
    · rintro i hI
      obtain ⟨hi, he⟩ := hI
      refine LW.seq ?_
      refine LW.seq ?_
      refine LW.region ?_
      refine X.u (LU.moveR Is.rfl') rfl ?_
      refine X.u (LU.moveS Is.rfl') rfl ?_
      refine X.u (LU.lenN Tryd.underlying25 Is.rfl' (by (simp only [Option.getD_some, Option.getD_none, byteEls_length, intEls_length, List.length_append, List.length_cons, List.length_nil, List.length_map, List.length_drop, List.length_take, Int.toNat_natCast]; rfl))) rfl ?_
      refine X.u (LU.lss Is.rfl' Is.rfl') rfl ?_
      refine LL.nil (after_code ?_)
      refine X.cond rfl (fun h4 => ?_) (fun h4 => ?_)
      · try have h4 := of_decide_eq_true h4
        refine LW.skip (after_code ?_)
        refine LW.seq ?_
        refine LW.block ?_
        refine LW.seq ?_
        obtain ⟨x, hx⟩ := at_lt (show i < a.length by omega)
        obtain ⟨y, hy⟩ := at_lt (show i < b.length by omega)
        refine X.drawM 9 rfl (by kernel_rfl) rfl ?_
        refine QD.u (LU.moveS Is.rfl') rfl ?_
        refine QD.u (LU.moveR Is.rfl') rfl ?_
        refine QD.u (LU.at Tryd.underlying25 ⟨Tryd.sizeOf9, Tryd.isAgg9⟩ Is.rfl' Is.rfl' (by omega) (strsL_at hx) (by simp)) rfl ?_
        refine QD.u (LU.load ⟨Tryd.sizeOf9, Tryd.isAgg9⟩ Is.rfl' (by (simp; done)) (Part.one rfl)) rfl ?_
        refine QD.u (LU.moveS Is.rfl') rfl ?_
        refine QD.u (LU.moveR Is.rfl') rfl ?_
        refine QD.u (LU.at Tryd.underlying25 ⟨Tryd.sizeOf9, Tryd.isAgg9⟩ Is.rfl' Is.rfl' (by omega) (strsL_at hy) (by simp)) rfl ?_
        refine QD.u (LU.load ⟨Tryd.sizeOf9, Tryd.isAgg9⟩ Is.rfl' (by (simp; done)) (Part.one rfl)) rfl ?_
        refine QD.u (LU.strneN Is.rfl' Is.rfl') rfl ?_
        refine QD.nil ?_
        refine LL.nil (after_code ?_)
        refine X.cond rfl (fun h6 => ?_) (fun h6 => ?_)
        · have h6 : x ≠ y := by simpa using h6
          have hz0 : (0 : Nat) = 0 := rfl
          refine LW.seq ?_
          refine LW.region ?_
          refine X.u (LU.assignR Is.rfl') rfl ?_
          refine LL.nil (after_code ?_)
          refine LW.ret (ret_blk (ret_code (ret_rnd (ret_blk (ret_code (after_end ?_))))))
          refine X.ret (H' := []) (Res.one (by exact IsR rfl)) (by repeat (exact HSub.refl _)) ?_
          exact ⟨by rw [decide_eq_false fun e => h6 (by rw [e, hy] at hx; exact (Option.some.inj hx).symm)], rfl⟩
        · have h6 : x = y := by simpa using h6
          have hz0 : (0 : Nat) = 0 := rfl
          refine LW.skip (after_blk (after_code ?_))
          refine LW.region ?_
          refine X.u (LU.moveR Is.rfl') rfl ?_
          refine X.u (LU.addN Is.rfl' Is.rfl' (wrap_i64 (by omega) (by omega))) rfl ?_
          refine X.u (LU.assignR Is.rfl') rfl ?_
          refine LL.nil (after_rnd ?_)
          refine X.next (i + 1) rfl (EnvLe.cons (by rfl) (EnvLe.nil)) (Keeps.cons (by exact Eq.trans (b := .sl _ _ _) rfl rfl) (Keeps.cons (by exact Eq.trans (b := .sl _ _ _) rfl rfl) (Keeps.nil))) (by repeat (exact HSub.refl _)) ?_ ?_
          · exact ⟨by omega, by rw [take_snoc hx, take_snoc hy, he, h6]⟩
          · omega
      · try have h4 := of_decide_eq_false h4
        refine LW.exit (exit_code (exit_rnd (exit_blk (after_code ?_))))
        refine LW.seq ?_
        refine LW.region ?_
        refine X.u (LU.assignR Is.rfl') rfl ?_
        refine LL.nil (after_code ?_)
        refine LW.ret (after_end ?_)
        refine X.ret (H' := []) (Res.one (by exact IsR rfl)) (by repeat (exact HSub.refl _)) ?_
        rw [List.take_of_length_le (by omega), List.take_of_length_le (by omega)] at he
        exact ⟨by rw [decide_eq_true he], rfl⟩
end Go.Proofs.YtolpkeajokjbjaaDoor
