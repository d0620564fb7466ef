/- What LinesPlays needs, part 6. -/
import Derived.Below
import Derived.WalkKit
import Derived.OwnWalk
import Derived.Deep.LoopGhost
import Derived.RangeFuncIn
import Derived.RangeFuncLeaves
import Derived.TacticsIn
import Derived.OrdersIn
import Derived.LoopIn
import Derived.LoopNIn
import Derived.Laws.Entries
import Derived.Laws.Slices
import Derived.Laws.Cells
import Derived.Deep.AppendSrc
import Derived.Deep.MidRow
import Derived.Laws.AppendOwn
import Derived.Laws.MakeOwn
import Derived.Laws.IdiomCopy
import Derived.Lib.ConvBytes
import Derived.Lib.SlBytesConst
import Derived.Laws.BytesArg
import Derived.Deep.Upon
import Derived.Laws.StructEq
import Derived.Laws.Small
import Derived.SizedLaws
import Derived.ChangeSlices
import Derived.Lib.SmallJoins
import Derived.MakeChecks
import Derived.ChangeBears2
import Derived.Laws.CopyRow
import Derived.RangeFuncRecord
import Derived.Laws.Externs
import Derived.Lib.Bytealg
import Derived.Lib.IndexLaws
import Derived.DefersIn
import Derived.Lib.SliceRun
import Derived.OpenShut
import Derived.WideShapes
import Derived.Maps.RangeRun
import Derived.Sort.Row
import Derived.Lib.BytesEntry
import Derived.Lib.SlFresh
import Derived.Test.YtolpkeajokjbjaaDoorProg
import Derived.Test.YtolpkeajokjbjaaDoorRows
import Derived.LaidMore
import Derived.LaidHandle
import Derived.ChangeSame
import Derived.Test.YtolpkeajokjbjaaDoorBLinesPlays5
set_option linter.unusedVariables false
set_option linter.unusedSimpArgs false
namespace Go.Proofs.YtolpkeajokjbjaaDoor
open Go.RowKit Go.L Go.Lib
attribute [local irreducible] LL LW LO
def cntR (f : Vx → Nat) : List Vx → Nat
  | [] => 0
  | v :: l => f v + cntR f l
theorem cntR_snoc (f : Vx → Nat) : ∀ (l : List Vx) (v : Vx), cntR f (l ++ [v]) = cntR f l + f v
  | [], v => by simp [cntR]
  | u :: l, v => by rw [List.cons_append, cntR, cntR, cntR_snoc f l v, Nat.add_assoc]
theorem cntR_perm {f : Vx → Nat} {k l : List Vx} (h : k.Perm l) : cntR f k = cntR f l := by
  induction h with
  | nil => rfl
  | cons x _ ih => rw [cntR, cntR, ih]
  | swap x y l => simp only [cntR]; omega
  | trans _ _ h1 h2 => exact h1.trans h2
theorem cntR_congr {f g : Vx → Nat} : ∀ {l : List Vx}, (∀ v ∈ l, f v = g v) → cntR f l = cntR g l
  | [], _ => rfl
  | v :: l, h => by rw [cntR, cntR, h v List.mem_cons_self, cntR_congr fun w hw => h w (List.mem_cons_of_mem _ hw)]
theorem cntR_succ {f g : Vx → Nat} : ∀ {l : List Vx}, (∀ v ∈ l, f v = g v + 1) → cntR f l = cntR g l + l.length
  | [], _ => rfl
  | v :: l, h => by
    have h1 := h v List.mem_cons_self
    have h2 := cntR_succ fun w hw => h w (List.mem_cons_of_mem _ hw)
    rw [cntR, cntR, List.length_cons]
    omega
abbrev offF (ah : Vx → Vx → Bool) (l : List Vx) (v : Vx) : Nat := (l.filter fun w => decide (w ≠ v) && !ah v w).length
def pairC (ah : Vx → Vx → Bool) (l : List Vx) : Nat := cntR (offF ah l) l
theorem pairC_perm {ah : Vx → Vx → Bool} {k l : List Vx} (h : k.Perm l) : pairC ah k = pairC ah l := by
  unfold pairC
  rw [cntR_perm h]
  exact cntR_congr fun v _ => (h.filter _).length_eq
theorem pairC_ord {ah : Vx → Vx → Bool} : ∀ {l : List Vx}, l.Nodup → l.Pairwise (fun a b => ah b a = false) → 2 * pairC ah l + l.length = 2 * conF ah l + l.length * l.length
  | [], _, _ => rfl
  | v :: l, hn, hp => by
    obtain ⟨n1, n2⟩ := List.nodup_cons.1 hn
    obtain ⟨p1, p2⟩ := List.pairwise_cons.1 hp
    have ih := pairC_ord n2 p2
    have e1 : offF ah (v :: l) v = (l.filter fun w => !ah v w).length := by
      unfold offF
      rw [List.filter_cons, if_neg (by simp)]
      congr 1
      exact List.filter_congr fun w hw => by
        have : w ≠ v := fun e => n1 (e ▸ hw)
        rw [decide_eq_true this]; rfl
    have e2 : ∀ u ∈ l, offF ah (v :: l) u = offF ah l u + 1 := fun u hu => by
      have : v ≠ u := fun e => n1 (e ▸ hu)
      unfold offF
      rw [List.filter_cons, if_pos (by rw [decide_eq_true this, p1 u hu]; rfl), List.length_cons]
    have e3 := cntR_succ e2
    have e4 : pairC ah (v :: l) = offF ah (v :: l) v + cntR (offF ah (v :: l)) l := rfl
    have e5 : pairC ah l = cntR (offF ah l) l := rfl
    rw [e4, e1, e3, ← e5, conF, List.length_cons]
    have e6 : (l.length + 1) * (l.length + 1) = l.length * l.length + 2 * l.length + 1 := by
      rw [Nat.add_mul, Nat.mul_add]; omega
    omega
abbrev livV (r : Rg) : List Vx := (idsG r.L).filter fun v => decide (killsG r v = 0)
theorem order_pairwise {r : Rg} (ho : Ok r) : (orderG r).Pairwise (fun a b => aheadG r b a = false) := by
  have hrun := orderG_ord r
  rw [List.pairwise_iff_getElem]
  intro i j hi hj hij
  refine Bool.eq_false_iff.2 fun c => ?_
  have hR := (ho.ahead _ _).1 c
  have hm := hrun.before ho (hrun.1.mem _ (List.getElem_mem hj)) hR (i := i) (List.getElem?_eq_getElem hi)
  obtain ⟨k, hk⟩ := List.getElem?_of_mem hm
  have hki : k < i := by
    have := (List.getElem?_eq_some_iff.1 hk).1
    rw [List.length_take] at this; omega
  rw [List.getElem?_take_of_lt hki] at hk
  have hkj : k = j := by
    obtain ⟨hk1, hk2⟩ := List.getElem?_eq_some_iff.1 hk
    exact (List.getElem_inj hrun.1.nodup).1 hk2
  omega
theorem live_eq (r : Rg) : liveG r = (orderG r).filter fun v => decide (killsG r v = 0) := by
  unfold liveG livF shownG
  rw [List.filter_map, List.map_map]
  have : (Sh.v ∘ shG r) = id := funext fun v => rfl
  rw [this, List.map_id]
  exact List.filter_congr fun v _ => by
    show decide ((killsOf r.D v).length = 0) = _
    rw [killsG_of]
theorem confl_law {r : Rg} (ho : Ok r) : 2 * pairC (aheadG r) (livV r) + (livV r).length = 2 * conflG r + (livV r).length * (livV r).length := by
  have hp : (liveG r).Perm (livV r) := by
    rw [live_eq]
    exact ((orderG_ord r).perm ho).filter _
  have hn : (orderG r).Nodup := (orderG_ord r).1.nodup
  have h := pairC_ord (ah := aheadG r) (l := liveG r) (by rw [live_eq]; exact List.filter_sublist.nodup hn) (by rw [live_eq]; exact (order_pairwise ho).sublist List.filter_sublist)
  rw [pairC_perm hp, hp.length_eq] at h
  exact h
theorem tri_int (n : Nat) : (n : Int) * ((n : Int) - 1) = ((n * (n - 1) : Nat) : Int) := by
  cases n with
  | zero => rfl
  | succ k =>
    rw [show (((k + 1 : Nat) : Int) - 1) = (k : Int) by omega, Nat.add_sub_cancel]
    exact (Int.natCast_mul _ _).symm
set_option maxHeartbeats 8000000 in
set_option maxRecDepth 100000 in
theorem rconfl_calls (r : Rg) (ho : Ok r) (hD : r.D.length < 900000) : LCalls Tryd.prog 46 [.agg (rgL r)] [] (fun x H' => x = i64 (conflG r : Nat) ∧ H' = []) := by
  have hszs := ho.sizes
  have hlen := ho.len
  have hidl : ∀ a ∈ r.L, a.ids.length ≤ 512 := fun a ha => by
    have := nodup_len (ho.idsOf ha) (l := idsG r.L) fun x hx => ids_mem.2 ⟨_, ha, hx⟩
    omega
  have hne2 : ∀ a ∈ r.L, a.ids ≠ [] ∧ a.ids.length < 1000000 := fun a ha => ⟨(ho.ne a ha).1, by have := hidl a ha; omega⟩
  have hT : (allT r).length < 400000 := by
    have h2 : ∀ l : List Ad, (l.flatMap fun a => a.ids ++ [a.down]).length = (idsG l).length + l.length := fun l => by
      induction l with
      | nil => rfl
      | cons a l ih =>
        unfold idsG at ih ⊢
        rw [List.flatMap_cons, List.flatMap_cons, List.length_append, List.length_append, List.length_append, ih]
        simp only [List.length_cons, List.length_nil]
        omega
    unfold allT
    rw [List.length_cons, h2]
    omega
  have hbh := fun v => behind_calls r v (by omega) hne2 hT
  have hbl := fun v => behind_len r v fun a ha => (ho.ne a ha).1
  have hkc := fun v => rkills_calls r v (by omega)
  have hkb : ∀ v, killsG r v ≤ r.D.length := fun v => List.length_filter_le _ _
  have hlaw := confl_law ho
  obtain ⟨C, hC⟩ : ∃ C, C = conflG r := ⟨_, rfl⟩
  rw [← hC] at hlaw ⊢
  obtain ⟨S, hS⟩ : ∃ S, S = idsG r.L := ⟨_, rfl⟩
  have hidc : LCalls Tryd.prog 61 [.agg (rgL r)] [] (fun x H' => x = Vxs S .unk ∧ H' = []) := by rw [hS]; exact ids_calls r (by omega) (by omega)
  have hSl : S.length ≤ 512 := by rw [hS]; exact hlen
  have hnd : S.Nodup := by rw [hS]; exact ho.nd
  obtain ⟨bh, hbhd⟩ : ∃ bh : Vx → Vx → Bool, bh = fun v w => decide (w ∈ behindG r v) := ⟨_, rfl⟩
  have hpe : pairC (aheadG r) (livV r) = pairC bh (livV r) := by
    unfold pairC
    refine cntR_congr fun v hv => ?_
    unfold offF
    congr 1
    refine List.filter_congr fun w _ => ?_
    have hvs : v ∈ idsG r.L := (List.mem_filter.1 hv).1
    have hh : hasG r v = true := hasG_iff.2 (.inr (.inr hvs))
    show (decide (w ≠ v) && !(hasG r v && decide (w ∈ behindG r v))) = _
    rw [hh, Bool.true_and, hbhd]
  rw [hpe] at hlaw
  have hVS : livV r = S.filter fun v => decide (killsG r v = 0) := by rw [hS]
  rw [hVS] at hlaw
  refine LCalls.of Tryd.func46 rfl Tryd.ntmps46 Tryd.results46 rfl (fun Rf => ?_)
  refine LW.seq ?_
  refine LW.region ?_
  refine X.act (X.box rfl Is.rfl' (by exact Cells.agg) (fun b1 => ?_))
  refine X.u (LU.assignR Is.rfl') rfl ?_
  refine LL.nil (after_code ?_)
  refine LW.seq ?_
  refine LW.region ?_
  refine X.u (LU.assign (Is.nil 33)) rfl ?_
  refine LL.nil (after_code ?_)
  refine LW.seq ?_
  refine LW.region ?_
  refine X.u (LU.loadO 0 rfl ⟨Tryd.sizeOf59, Tryd.isAgg59⟩ Is.rfl' (Part.whole (by (simp; done)))) rfl ?_
  refine X.u (LU.call (hidc) Tryd.func61 rfl rfl (Opds.cons Is.rfl' Opds.nil)) rfl ?_
  refine X.u (LU.assignS Is.rfl') rfl ?_
  refine LL.nil (after_code ?_)
  refine LW.seq ?_
  refine LW.seq ?_
  refine LW.region ?_
  refine X.u (LU.assignR Is.rfl') rfl ?_
  refine LL.nil (after_code ?_)
  refine LW.block ?_
  refine X.wweak (t := 3) (v := Vxs [] (.tok 0 0 0)) (Is.full_tok 0 0) ?_
  refine X.wghost (HSub.tail0 0 0 0 (Nat.le_refl _) _) ?_
  refine X.loopK (α := Nat × List Vx × Nat × Nat × Nat) (fun ⟨i, V, b, o, c⟩ => [(5, i64 i), (3, Vxs V (.tok b o c))]) [1, 2, 4] (fun ⟨i, V, b, o, c⟩ => .tail b o c :: .cells b1 59 (rgL r) :: Rf) (fun ⟨i, V, b, o, c⟩ => i ≤ S.length ∧ V = (S.take i).filter (fun v => decide (killsG r v = 0))) (fun ⟨i, V, b, o, c⟩ => S.length - i) ((0, [], 0, 0, 0)) (EnvLe.cons (by rfl) (EnvLe.cons (by rfl) (EnvLe.nil))) (by repeat (exact HSub.refl _)) ?_ ?_
  · exact ⟨Nat.zero_le _, by simp⟩
  · rintro ⟨i, V, b, o, c⟩ hI
    obtain ⟨hi, hV⟩ := hI
    have hVl : V.length ≤ i := by
      rw [hV]
      refine Nat.le_trans (List.length_filter_le _ _) ?_
      rw [List.length_take]; omega
    refine LW.seq ?_
    refine LW.seq ?_
    refine LW.region ?_
    refine X.u (LU.moveR Is.rfl') rfl ?_
    refine X.u (LU.moveS Is.rfl') rfl ?_
    refine X.u (LU.lenN Tryd.underlying26 Is.rfl' (by (simp only [Option.getD_some, Option.getD_none, byteEls_length, intEls_length, List.length_append, List.length_cons, List.length_nil, List.length_map, List.length_drop, List.length_take, Int.toNat_natCast]; rfl))) rfl ?_
    refine X.u (LU.lss Is.rfl' Is.rfl') rfl ?_
    refine LL.nil (after_code ?_)
    refine X.cond rfl (fun h4 => ?_) (fun h4 => ?_)
    · try have h4 := of_decide_eq_true h4
      refine LW.skip (after_code ?_)
      refine LW.seq ?_
      refine LW.block ?_
      refine LW.seq ?_
      obtain ⟨v, hv⟩ := at_lt (show i < S.length by omega)
      have hvl := vxL_len v
      have hv32 : v.p.1.length = 32 := v.p.2
      refine X.drawM 7 rfl (by kernel_rfl) rfl ?_
      refine QD.u (LU.loadO 1 rfl ⟨Tryd.sizeOf59, Tryd.isAgg59⟩ Is.rfl' (Part.whole (by (simp; done)))) rfl ?_
      refine QD.u (LU.moveS Is.rfl') rfl ?_
      refine QD.u (LU.moveR Is.rfl') rfl ?_
      refine QD.u (LU.at Tryd.underlying26 ⟨Tryd.sizeOf35, Tryd.isAgg35⟩ Is.rfl' Is.rfl' (by omega) (vxs_at hv) (vx_ne v)) rfl ?_
      refine QD.u (LU.weak (LU.load ⟨Tryd.sizeOf35, Tryd.isAgg35⟩ Is.rfl' (by assumption) (Part.whole (by assumption))) (Is.of (y := .agg (vxL v)) (rfl))) rfl ?_
      refine QD.u (LU.call (hkc v) Tryd.func60 rfl rfl (Opds.cons Is.rfl' (Opds.cons Is.rfl' Opds.nil))) rfl ?_
      refine QD.u (LU.eql Is.rfl' Is.rfl') rfl ?_
      refine QD.nil ?_
      refine LL.nil (after_code ?_)
      refine X.cond rfl (fun h6 => ?_) (fun h6 => ?_)
      · have h6 : killsG r v = 0 := by simp at h6; omega
        have hz0 : (0 : Nat) = 0 := rfl
        refine LW.region ?_
        refine X.u (LU.moveS Is.rfl') rfl ?_
        refine X.u (LU.moveS Is.rfl') rfl ?_
        refine X.u (LU.moveR Is.rfl') rfl ?_
        refine X.u (LU.at Tryd.underlying26 ⟨Tryd.sizeOf35, Tryd.isAgg35⟩ Is.rfl' Is.rfl' (by omega) (vxs_at hv) (vx_ne v)) rfl ?_
        refine X.u (LU.weak (LU.load ⟨Tryd.sizeOf35, Tryd.isAgg35⟩ Is.rfl' (by assumption) (Part.whole (by assumption))) (Is.of (y := .agg (vxL v)) (rfl))) rfl ?_
        refine X.u (LU.lits Tryd.underlying26 Tryd.sizeOf35 Tryd.zeroValue35 (ones rfl) rfl (by decide) (by decide) (Elems.cons Is.rfl' (by exact Cells.agg) Elems.nil) (by (simp; assumption)) rfl) rfl ?_
        refine X.act (X.append 0 rfl rfl Tryd.underlying26 (El.of (P := Tryd.prog) (z := (.agg #[(.int .u8 0), (.int .u8 0), (.int .u8 0), (.int .u8 0), (.int .u8 0), (.int .u8 0), (.int .u8 0), (.int .u8 0), (.int .u8 0), (.int .u8 0), (.int .u8 0), (.int .u8 0), (.int .u8 0), (.int .u8 0), (.int .u8 0), (.int .u8 0), (.int .u8 0), (.int .u8 0), (.int .u8 0), (.int .u8 0), (.int .u8 0), (.int .u8 0), (.int .u8 0), (.int .u8 0), (.int .u8 0), (.int .u8 0), (.int .u8 0), (.int .u8 0), (.int .u8 0), (.int .u8 0), (.int .u8 0), (.int .u8 0), (.int .i64 0)])) (size := 33) (bytes := 40) rfl rfl rfl) Is.rfl' Is.rfl' (SrcL.slice Tryd.underlying26 (by decide) (by intro e he; rw [List.mem_singleton.1 he]; exact hvl)) (by simp only [Option.getD_some, Option.getD_none, byteEls_length, intEls_length, List.length_append, List.length_cons, List.length_nil, List.length_map, List.length_drop, List.length_take, Int.toNat_natCast]; omega) (by simp only [Option.getD_some, Option.getD_none, byteEls_length, intEls_length, List.length_append, List.length_cons, List.length_nil, List.length_map, List.length_drop, List.length_take, Int.toNat_natCast]; omega) (fun b31 o31 c31 => X.weak (t := 31) (Is.of (y := Vxs (V ++ [v]) (.tok b31 o31 c31)) (congrArg (fun z => LV.sl 33 z (.tok b31 o31 c31)) (vxs_app V [v]))) ?_))
        refine X.u (LU.assignS Is.rfl') rfl ?_
        refine LL.nil (after_blk (after_code ?_))
        refine LW.region ?_
        refine X.u (LU.moveR Is.rfl') rfl ?_
        refine X.u (LU.addN Is.rfl' Is.rfl' (wrap_i64 (by omega) (by omega))) rfl ?_
        refine X.u (LU.assignR Is.rfl') rfl ?_
        refine LL.nil (after_rnd ?_)
        refine X.next ((i + 1, V ++ [v], b31, o31, c31)) rfl (EnvLe.cons (by rfl) (EnvLe.cons (by rfl) (EnvLe.nil))) (Keeps.cons (by exact Eq.trans (b := .raw _) rfl rfl) (Keeps.cons (by exact Eq.trans (b := .raw _) rfl rfl) (Keeps.cons (by exact Eq.trans (b := .sl _ _ _) rfl rfl) (Keeps.nil)))) (by repeat (exact HSub.refl _)) ?_ ?_
        · exact ⟨by omega, by rw [take_snoc hv, List.filter_append, ← hV, List.filter_cons, if_pos (decide_eq_true h6)]; rfl⟩
        · (simp; omega)
      · have h6 : ¬ killsG r v = 0 := by simp at h6; omega
        have hz0 : (0 : Nat) = 0 := rfl
        refine LW.skip (after_blk (after_code ?_))
        refine LW.region ?_
        refine X.u (LU.moveR Is.rfl') rfl ?_
        refine X.u (LU.addN Is.rfl' Is.rfl' (wrap_i64 (by omega) (by omega))) rfl ?_
        refine X.u (LU.assignR Is.rfl') rfl ?_
        refine LL.nil (after_rnd ?_)
        refine X.next ((i + 1, V, b, o, c)) rfl (EnvLe.cons (by rfl) (EnvLe.cons (by rfl) (EnvLe.nil))) (Keeps.cons (by exact Eq.trans (b := .raw _) rfl rfl) (Keeps.cons (by exact Eq.trans (b := .raw _) rfl rfl) (Keeps.cons (by exact Eq.trans (b := .sl _ _ _) rfl rfl) (Keeps.nil)))) (by repeat (exact HSub.refl _)) ?_ ?_
        · exact ⟨by omega, by rw [take_snoc hv, List.filter_append, ← hV, List.filter_cons, if_neg (by simpa using h6)]; simp⟩
        · (simp; omega)
    · try have h4 := of_decide_eq_false h4
      refine LW.exit (exit_code (exit_rnd (exit_blk (after_code ?_))))
      refine LW.seq ?_
      have hiS : i = S.length := by omega
      rw [hiS, List.take_length] at hV
      rw [← hV] at hlaw
      have hVn : V.Nodup := by rw [hV]; exact List.filter_sublist.nodup hnd
      obtain ⟨T, hTd⟩ : ∃ T : Nat, T = V.length * (V.length - 1) := ⟨_, rfl⟩
      have hTi : (V.length : Int) * ((V.length : Int) - 1) = (T : Int) := by rw [tri_int, hTd]
      have hTb : T ≤ 512 * 512 := by rw [hTd]; exact Nat.mul_le_mul (by omega) (by omega)
      have hTT : T + V.length = V.length * V.length := by
        rw [hTd]
        cases hq : V.length with
        | zero => rfl
        | succ k => rw [Nat.add_sub_cancel, ← Nat.mul_succ]
      refine X.wweak (t := 3) (v := Vxs V .unk) Is.unk ?_
      refine LW.region ?_
      refine X.u (LU.assignR Is.rfl') rfl ?_
      refine LL.nil (after_code ?_)
      refine LW.seq ?_
      refine LW.seq ?_
      refine LW.region ?_
      refine X.u (LU.assignR Is.rfl') rfl ?_
      refine LL.nil (after_code ?_)
      refine LW.block ?_
      refine X.loopK (α := Nat × Nat) (fun ⟨i2, n⟩ => [(7, i64 i2), (6, i64 n)]) [1, 2, 3] (fun ⟨i2, n⟩ => .cells b1 59 (rgL r) :: Rf) (fun ⟨i2, n⟩ => i2 ≤ V.length ∧ n = cntR (offF bh V) (V.take i2) ∧ n ≤ i2 * 512) (fun ⟨i2, n⟩ => V.length - i2) ((0, 0)) (EnvLe.cons (by rfl) (EnvLe.cons (by rfl) (EnvLe.nil))) (by repeat (first | exact HSub.refl _ | refine HSub.pick 1 rfl ?_ | refine HSub.drop ?_)) ?_ ?_
      · exact ⟨Nat.zero_le _, by simp [cntR], by omega⟩
      · rintro ⟨i2, n⟩ hI
        obtain ⟨hi3, hn, hnb⟩ := hI
        refine LW.seq ?_
        refine LW.seq ?_
        refine LW.region ?_
        refine X.u (LU.moveR Is.rfl') rfl ?_
        refine X.u (LU.moveS Is.rfl') rfl ?_
        refine X.u (LU.lenN Tryd.underlying26 Is.rfl' (by (simp only [Option.getD_some, Option.getD_none, byteEls_length, intEls_length, List.length_append, List.length_cons, List.length_nil, List.length_map, List.length_drop, List.length_take, Int.toNat_natCast]; rfl))) rfl ?_
        refine X.u (LU.lss Is.rfl' Is.rfl') rfl ?_
        refine LL.nil (after_code ?_)
        refine X.cond rfl (fun h10 => ?_) (fun h10 => ?_)
        · try have h10 := of_decide_eq_true h10
          refine LW.skip (after_code ?_)
          refine LW.seq ?_
          refine LW.block ?_
          refine LW.seq ?_
          obtain ⟨v2, hv2⟩ := at_lt (show i2 < V.length by omega)
          have hvl2 := vxL_len v2
          have hv232 : v2.p.1.length = 32 := v2.p.2
          have hbul : (behindG r v2).length < 9223372036854775807 := by have := hbl v2; omega
          refine X.drawM 7 rfl (by kernel_rfl) rfl ?_
          refine QD.u (LU.loadO 0 rfl ⟨Tryd.sizeOf59, Tryd.isAgg59⟩ Is.rfl' (Part.whole (by (simp; done)))) rfl ?_
          refine QD.u (LU.moveS Is.rfl') rfl ?_
          refine QD.u (LU.moveR Is.rfl') rfl ?_
          refine QD.u (LU.at Tryd.underlying26 ⟨Tryd.sizeOf35, Tryd.isAgg35⟩ Is.rfl' Is.rfl' (by omega) (vxs_at hv2) (vx_ne v2)) rfl ?_
          refine QD.u (LU.weak (LU.load ⟨Tryd.sizeOf35, Tryd.isAgg35⟩ Is.rfl' (by assumption) (Part.whole (by assumption))) (Is.of (y := .agg (vxL v2)) (rfl))) rfl ?_
          refine QD.u (LU.call (hbh v2) Tryd.func62 rfl rfl (Opds.cons Is.rfl' (Opds.cons Is.rfl' Opds.nil))) rfl ?_
          refine QD.u (LU.assignS Is.rfl') rfl ?_
          refine QD.nil ?_
          refine LL.nil (after_code ?_)
          refine LW.seq ?_
          refine LW.region ?_
          refine X.u (LU.assignR Is.rfl') rfl ?_
          refine LL.nil (after_code ?_)
          refine LW.block ?_
          refine X.loopK (α := Nat × Nat) (fun ⟨k, n2⟩ => [(9, i64 k), (6, i64 n2)]) [1, 2, 3, 7, 8] (fun ⟨k, n2⟩ => .cells b1 59 (rgL r) :: Rf) (fun ⟨k, n2⟩ => k ≤ V.length ∧ n2 = n + ((V.take k).filter (fun w => decide (w ≠ v2) && !bh v2 w)).length ∧ n2 ≤ n + k) (fun ⟨k, n2⟩ => V.length - k) ((0, n)) (EnvLe.cons (by rfl) (EnvLe.cons (by rfl) (EnvLe.nil))) (by repeat (exact HSub.refl _)) ?_ ?_
          · exact ⟨Nat.zero_le _, by simp, by omega⟩
          · rintro ⟨k, n2⟩ hI
            obtain ⟨hk, hn2, hn2b⟩ := hI
            refine LW.seq ?_
            refine LW.seq ?_
            refine LW.region ?_
            refine X.u (LU.moveR Is.rfl') rfl ?_
            refine X.u (LU.moveS Is.rfl') rfl ?_
            refine X.u (LU.lenN Tryd.underlying26 Is.rfl' (by (simp only [Option.getD_some, Option.getD_none, byteEls_length, intEls_length, List.length_append, List.length_cons, List.length_nil, List.length_map, List.length_drop, List.length_take, Int.toNat_natCast]; rfl))) rfl ?_
            refine X.u (LU.lss Is.rfl' Is.rfl') rfl ?_
            refine LL.nil (after_code ?_)
            refine X.cond rfl (fun h14 => ?_) (fun h14 => ?_)
            · try have h14 := of_decide_eq_true h14
              refine LW.skip (after_code ?_)
              refine LW.seq ?_
              refine LW.block ?_
              refine LW.seq ?_
              obtain ⟨w, hw⟩ := at_lt (show k < V.length by omega)
              have hwl := vxL_len w
              have hw32 : w.p.1.length = 32 := w.p.2
              have hki : k = i2 ↔ w = v2 := by
                obtain ⟨a1, a2⟩ := List.getElem?_eq_some_iff.1 hw
                obtain ⟨c1, c2⟩ := List.getElem?_eq_some_iff.1 hv2
                exact ⟨fun e => by subst e; rw [← a2, ← c2], fun e => by rw [← a2, ← c2] at e; exact (List.getElem_inj hVn).1 e⟩
              refine LW.region ?_
              refine X.u (LU.moveR Is.rfl') rfl ?_
              refine X.u (LU.moveR Is.rfl') rfl ?_
              refine X.u (LU.neq Is.rfl' Is.rfl') rfl ?_
              refine X.u (LU.moveR Is.rfl') rfl ?_
              refine X.gT rfl rfl (fun hg => LU.moveS (by exact Is.rfl')) rfl ?_
              refine X.gT rfl rfl (fun hg => LU.moveS (by exact Is.rfl')) rfl ?_
              refine X.gT rfl rfl (fun hg => LU.moveR (by exact Is.rfl')) rfl ?_
              refine X.gT rfl rfl (fun hg => LU.at Tryd.underlying26 ⟨Tryd.sizeOf35, Tryd.isAgg35⟩ (by exact Is.whenE hg) (by exact Is.whenE hg) (by omega) (vxs_at hw) (vx_ne w)) rfl ?_
              refine X.gT rfl rfl (fun hg => LU.weak (LU.load ⟨Tryd.sizeOf35, Tryd.isAgg35⟩ (by exact Is.whenE hg) (by assumption) (Part.whole (by assumption))) (Is.of (y := .agg (vxL w)) (rfl))) rfl ?_
              refine X.gT rfl rfl (fun hg => LU.call (place_calls (behindG r v2) .unk w hbul) Tryd.func63 rfl rfl (Opds.cons (by exact Is.whenE hg) (Opds.cons (by exact Is.whenE hg) Opds.nil))) rfl ?_
              refine X.gT rfl rfl (fun hg => LU.lss (by exact Is.whenE hg) (by exact Is.rfl')) rfl ?_
              refine X.u (LU.pickAnd Is.rfl' (fun hq => (by exact Is.whenE hq)) Is.rfl') rfl ?_
              refine LL.nil (after_code ?_)
              refine X.cond rfl (fun h16 => ?_) (fun h16 => ?_)
              · have h16 : k ≠ i2 ∧ placeG (behindG r v2) w < 0 := by simp at h16; exact ⟨by omega, h16.2⟩
                have hff : (decide (w ≠ v2) && !bh v2 w) = true := by
                  rw [decide_eq_true (show w ≠ v2 from fun e => h16.1 (hki.2 e)), hbhd]
                  show (true && !decide (w ∈ behindG r v2)) = true
                  rw [decide_eq_false (placeG_neg.1 h16.2)]; rfl
                refine LW.region ?_
                refine X.u (LU.moveR Is.rfl') rfl ?_
                refine X.u (LU.addN Is.rfl' Is.rfl' (wrap_i64 (by omega) (by omega))) rfl ?_
                refine X.u (LU.assignR Is.rfl') rfl ?_
                refine LL.nil (after_blk (after_code ?_))
                refine LW.region ?_
                refine X.u (LU.moveR Is.rfl') rfl ?_
                refine X.u (LU.addN Is.rfl' Is.rfl' (wrap_i64 (by omega) (by omega))) rfl ?_
                refine X.u (LU.assignR Is.rfl') rfl ?_
                refine LL.nil (after_rnd ?_)
                refine X.next ((k + 1, n2 + 1)) rfl (EnvLe.cons (by rfl) (EnvLe.cons (by rfl) (EnvLe.nil))) (Keeps.cons (by exact Eq.trans (b := .raw _) rfl rfl) (Keeps.cons (by exact Eq.trans (b := .raw _) rfl rfl) (Keeps.cons (by exact Eq.trans (b := .sl _ _ _) rfl rfl) (Keeps.cons (by exact Eq.trans (b := .raw _) rfl rfl) (Keeps.cons (by exact Eq.trans (b := .sl _ _ _) rfl rfl) (Keeps.nil)))))) (by repeat (exact HSub.refl _)) ?_ ?_
                · exact ⟨by omega, by rw [take_snoc hw, List.filter_append, List.filter_cons, if_pos hff, List.filter_nil, List.length_append]; show n2 + 1 = n + (((V.take k).filter (fun w => decide (w ≠ v2) && !bh v2 w)).length + 1); omega, by omega⟩
                · (simp; omega)
              · have h16 : ¬ (k ≠ i2 ∧ placeG (behindG r v2) w < 0) := by simp at h16; rintro ⟨a, b⟩; have := h16 (by omega); omega
                have hff : (decide (w ≠ v2) && !bh v2 w) = false := by
                  by_cases c : w = v2
                  · rw [decide_eq_false (fun d => d c)]; rfl
                  · rw [hbhd]
                    show (decide (w ≠ v2) && !decide (w ∈ behindG r v2)) = false
                    rw [decide_eq_true (Classical.byContradiction fun d => h16 ⟨fun e => c (hki.1 e), placeG_neg.2 d⟩ : w ∈ behindG r v2)]
                    simp
                refine LW.skip (after_blk (after_code ?_))
                refine LW.region ?_
                refine X.u (LU.moveR Is.rfl') rfl ?_
                refine X.u (LU.addN Is.rfl' Is.rfl' (wrap_i64 (by omega) (by omega))) rfl ?_
                refine X.u (LU.assignR Is.rfl') rfl ?_
                refine LL.nil (after_rnd ?_)
                refine X.next ((k + 1, n2)) rfl (EnvLe.cons (by rfl) (EnvLe.cons (by rfl) (EnvLe.nil))) (Keeps.cons (by exact Eq.trans (b := .raw _) rfl rfl) (Keeps.cons (by exact Eq.trans (b := .raw _) rfl rfl) (Keeps.cons (by exact Eq.trans (b := .sl _ _ _) rfl rfl) (Keeps.cons (by exact Eq.trans (b := .raw _) rfl rfl) (Keeps.cons (by exact Eq.trans (b := .sl _ _ _) rfl rfl) (Keeps.nil)))))) (by repeat (exact HSub.refl _)) ?_ ?_
                · exact ⟨by omega, by rw [take_snoc hw, List.filter_append, List.filter_cons, if_neg (by rw [hff]; decide), List.filter_nil, List.append_nil]; exact hn2, by omega⟩
                · (simp; omega)
            · try have h14 := of_decide_eq_false h14
              refine LW.exit (exit_code (exit_rnd (exit_blk (after_blk (after_code ?_)))))
              refine LW.region ?_
              refine X.u (LU.moveR Is.rfl') rfl ?_
              refine X.u (LU.addN Is.rfl' Is.rfl' (wrap_i64 (by omega) (by omega))) rfl ?_
              refine X.u (LU.assignR Is.rfl') rfl ?_
              refine LL.nil (after_rnd ?_)
              refine X.next ((i2 + 1, n2)) rfl (EnvLe.cons (by rfl) (EnvLe.cons (by rfl) (EnvLe.nil))) (Keeps.cons (by exact Eq.trans (b := .raw _) rfl rfl) (Keeps.cons (by exact Eq.trans (b := .raw _) rfl rfl) (Keeps.cons (by exact Eq.trans (b := .sl _ _ _) rfl rfl) (Keeps.nil)))) (by repeat (exact HSub.refl _)) ?_ ?_
              · rw [List.take_of_length_le (by omega)] at hn2
                refine ⟨by omega, ?_, ?_⟩
                · rw [take_snoc hv2, cntR_snoc, ← hn]; exact hn2
                · have := List.length_filter_le (fun w => decide (w ≠ v2) && !bh v2 w) V
                  omega
              · (simp; omega)
        · try have h10 := of_decide_eq_false h10
          refine LW.exit (exit_code (exit_rnd (exit_blk (after_code ?_))))
          refine LW.seq ?_
          have hi2V : i2 = V.length := by omega
          rw [hi2V, List.take_length] at hn
          have hnp : n = pairC bh V := hn
          rw [← hnp, ← hTT] at hlaw
          refine LW.region ?_
          refine X.u (LU.moveR Is.rfl') rfl ?_
          refine X.u (LU.moveS Is.rfl') rfl ?_
          refine X.u (LU.lenN Tryd.underlying26 Is.rfl' (by (simp only [Option.getD_some, Option.getD_none, byteEls_length, intEls_length, List.length_append, List.length_cons, List.length_nil, List.length_map, List.length_drop, List.length_take, Int.toNat_natCast]; rfl))) rfl ?_
          refine X.u (LU.moveS Is.rfl') rfl ?_
          refine X.u (LU.lenN Tryd.underlying26 Is.rfl' (by (simp only [Option.getD_some, Option.getD_none, byteEls_length, intEls_length, List.length_append, List.length_cons, List.length_nil, List.length_map, List.length_drop, List.length_take, Int.toNat_natCast]; rfl))) rfl ?_
          refine X.u (LU.subN Is.rfl' Is.rfl' (wrap_i64 (by omega) (by omega))) rfl ?_
          refine X.u (LU.weak (LU.mulN Is.rfl' Is.rfl' (wrap_i64 (by omega) (by omega))) (Is.of (y := i64 (T : Nat)) (congrArg i64 hTi))) rfl ?_
          refine X.u (LU.quoN Is.rfl' Is.rfl' (by omega) (tdiv_i64 (by omega) (by omega) (by omega))) rfl ?_
          refine X.u (LU.sub Is.rfl' Is.rfl') rfl ?_
          refine X.u (LU.assignR Is.rfl') rfl ?_
          refine LL.nil (after_code ?_)
          refine LW.ret (after_end ?_)
          refine X.ret (H' := []) (Res.one (by exact IsR rfl)) (by repeat (first | exact HSub.refl _ | refine HSub.drop ?_)) ?_
          have e1 : (n : Int) - (T : Int).tdiv 2 = C := by rw [Int.tdiv_eq_ediv_of_nonneg (by omega)]; omega
          have e2 : IntKind.i64.wrap ((n : Int) - (T : Int).tdiv 2) = (C : Int) := by rw [e1]; exact wrap_i64 (by omega) (by omega)
          exact ⟨by rw [e2], rfl⟩
end Go.Proofs.YtolpkeajokjbjaaDoor
namespace Go.Proofs.YtolpkeajokjbjaaDoor
open Go.RowKit Go.L Go.Lib
attribute [local irreducible] LL LW LO
set_option maxHeartbeats 4000000 in
set_option maxRecDepth 100000 in
theorem model_calls (r : Rg) (ho : Ok r) (hD : r.D.length < 900000) (a : Ac) (hi : a.ids.length < 100000) (hts : a.texts.length < 100000) : LCalls Tryd.prog 28 [.agg (rgL r), .agg (acL a)] [] (fun x H' => x = .tup [.agg (rgL (acG r a)), i64 (acE r a : Nat)] ∧ H' = []) := by
  have hal := ac_len a
  have hau := a.up.p.2
  have had := a.down.p.2
  have hab := a.by_.2
  have hszs := ho.sizes
  have hlen := ho.len
  have hadd := radd_calls r ho a.up a.down a.ids a.texts hi hts
  have hdrop := rdrop_calls r ho hD a.ids hi
  have hkill := rkill_calls r a.up a.by_ (by omega) (by omega) (by omega)
  have hunk := runkill_calls r a.up a.by_ (by omega)
  refine LCalls.of Tryd.func28 rfl Tryd.ntmps28 Tryd.results28 rfl (fun Rf => ?_)
  refine LW.seq ?_
  refine LW.region ?_
  refine X.act (X.box rfl Is.rfl' (by exact Cells.agg) (fun b2 => ?_))
  refine X.act (X.box rfl Is.rfl' (by exact Cells.agg) (fun b3 => ?_))
  refine X.act (X.alloc rfl Tryd.zeroValue59 (by exact Cells.rawagg (by decide)) (fun b4 => ?_))
  refine X.u (LU.assignR Is.rfl') rfl ?_
  refine LL.nil (after_code ?_)
  refine LW.seq ?_
  refine LW.seq ?_
  refine LW.region ?_
  refine X.u (LU.fieldO Tryd.underlying52 rfl Tryd.sizeOf3 (by decide) Is.rfl') rfl ?_
  refine X.u (LU.loadO 1 rfl ⟨Tryd.sizeOf3, Tryd.isAgg3⟩ Is.rfl' (Part.one (ac_kind a))) rfl ?_
  refine LL.nil (after_code ?_)
  refine LW.block ?_
  refine LW.seq ?_
  refine LW.region ?_
  refine X.u (LU.eql Is.rfl' Is.rfl') rfl ?_
  refine X.u (LU.assignR Is.rfl') rfl ?_
  refine LL.nil (after_code ?_)
  refine X.cond rfl (fun h2 => ?_) (fun h2 => ?_)
  · have h2 : a.kind = 0 := by simpa using h2
    have hz0 : (0 : Nat) = 0 := rfl
    refine LW.seq ?_
    refine LW.region ?_
    refine X.u (LU.loadO 2 rfl ⟨Tryd.sizeOf59, Tryd.isAgg59⟩ Is.rfl' (Part.whole (by (simp; done)))) rfl ?_
    refine X.u (LU.fieldO Tryd.underlying52 rfl Tryd.sizeOf35 (by decide) Is.rfl') rfl ?_
    refine X.u (LU.weak (LU.loadO 1 rfl ⟨Tryd.sizeOf35, Tryd.isAgg35⟩ Is.rfl' (Part.sub (by (simp; omega)))) (Is.of (y := .agg (vxL a.up)) (congrArg LV.agg (ac_up a)))) rfl ?_
    refine X.u (LU.fieldO Tryd.underlying52 rfl Tryd.sizeOf35 (by decide) Is.rfl') rfl ?_
    refine X.u (LU.weak (LU.loadO 1 rfl ⟨Tryd.sizeOf35, Tryd.isAgg35⟩ Is.rfl' (Part.sub (by (simp; omega)))) (Is.of (y := .agg (vxL a.down)) (congrArg LV.agg (ac_down a)))) rfl ?_
    refine X.u (LU.fieldO Tryd.underlying52 rfl Tryd.sizeOf26 (by decide) Is.rfl') rfl ?_
    refine X.u (LU.loadO 1 rfl ⟨Tryd.sizeOf26, Tryd.isAgg26⟩ Is.rfl' (Part.one (ac_ids a))) rfl ?_
    refine X.u (LU.fieldO Tryd.underlying52 rfl Tryd.sizeOf25 (by decide) Is.rfl') rfl ?_
    refine X.u (LU.loadO 1 rfl ⟨Tryd.sizeOf25, Tryd.isAgg25⟩ Is.rfl' (Part.one (ac_texts a))) rfl ?_
    refine X.u (LU.call (hadd) Tryd.func49 rfl rfl (Opds.cons Is.rfl' (Opds.cons Is.rfl' (Opds.cons Is.rfl' (Opds.cons Is.rfl' (Opds.cons Is.rfl' Opds.nil)))))) rfl ?_
    refine X.u (LU.extract Is.rfl' rfl) rfl ?_
    refine X.u (LU.extract Is.rfl' rfl) rfl ?_
    refine X.act (X.store 0 rfl Tryd.sizeOf59 Is.rfl' Is.rfl' (by exact Cells.agg) (by (simp; done)) (by exact Nat.le_of_ble_eq_true rfl) ?_)
    refine X.u (LU.assignR Is.rfl') rfl ?_
    refine LL.nil (after_code ?_)
    refine LW.ret (ret_blk (ret_code (after_end ?_)))
    refine X.ret (H' := []) (by exact Res.cell2 0 rfl rfl ⟨Tryd.sizeOf59, Tryd.isAgg59⟩ (Part.whole (by rfl)) (by exact IsA rfl) (by exact IsR rfl)) (by repeat (first | exact HSub.refl _ | refine HSub.drop ?_)) ?_
    exact ⟨by unfold acE acG; rw [if_pos h2, if_pos h2]; rfl, rfl⟩
  · have h2 : a.kind ≠ 0 := by simpa using h2
    have hz0 : (0 : Nat) = 0 := rfl
    refine LW.seq ?_
    refine LW.region ?_
    refine X.u (LU.eql Is.rfl' Is.rfl') rfl ?_
    refine X.u (LU.assignR Is.rfl') rfl ?_
    refine LL.nil (after_code ?_)
    refine X.cond rfl (fun h4 => ?_) (fun h4 => ?_)
    · have h4 : a.kind = 1 := by simpa using h4
      have hz0 : (0 : Nat) = 0 := rfl
      refine LW.seq ?_
      refine LW.region ?_
      refine X.u (LU.loadO 2 rfl ⟨Tryd.sizeOf59, Tryd.isAgg59⟩ Is.rfl' (Part.whole (by (simp; done)))) rfl ?_
      refine X.u (LU.fieldO Tryd.underlying52 rfl Tryd.sizeOf26 (by decide) Is.rfl') rfl ?_
      refine X.u (LU.loadO 1 rfl ⟨Tryd.sizeOf26, Tryd.isAgg26⟩ Is.rfl' (Part.one (ac_ids a))) rfl ?_
      refine X.u (LU.call (hdrop) Tryd.func50 rfl rfl (Opds.cons Is.rfl' (Opds.cons Is.rfl' Opds.nil))) rfl ?_
      refine X.u (LU.extract Is.rfl' rfl) rfl ?_
      refine X.u (LU.extract Is.rfl' rfl) rfl ?_
      refine X.act (X.store 0 rfl Tryd.sizeOf59 Is.rfl' Is.rfl' (by exact Cells.agg) (by (simp; done)) (by exact Nat.le_of_ble_eq_true rfl) ?_)
      refine X.u (LU.assignR Is.rfl') rfl ?_
      refine LL.nil (after_code ?_)
      refine LW.ret (ret_blk (ret_code (after_end ?_)))
      refine X.ret (H' := []) (by exact Res.cell2 0 rfl rfl ⟨Tryd.sizeOf59, Tryd.isAgg59⟩ (Part.whole (by rfl)) (by exact IsA rfl) (by exact IsR rfl)) (by repeat (first | exact HSub.refl _ | refine HSub.drop ?_)) ?_
      exact ⟨by unfold acE acG; rw [if_neg h2, if_pos h4, if_neg h2, if_pos h4]; rfl, rfl⟩
    · have h4 : a.kind ≠ 1 := by simpa using h4
      have hz0 : (0 : Nat) = 0 := rfl
      refine LW.seq ?_
      refine LW.region ?_
      refine X.u (LU.eql Is.rfl' Is.rfl') rfl ?_
      refine X.u (LU.assignR Is.rfl') rfl ?_
      refine LL.nil (after_code ?_)
      refine X.cond rfl (fun h6 => ?_) (fun h6 => ?_)
      · have h6 : a.kind = 2 := by simpa using h6
        have hz0 : (0 : Nat) = 0 := rfl
        refine LW.seq ?_
        refine LW.region ?_
        refine X.u (LU.loadO 2 rfl ⟨Tryd.sizeOf59, Tryd.isAgg59⟩ Is.rfl' (Part.whole (by (simp; done)))) rfl ?_
        refine X.u (LU.fieldO Tryd.underlying52 rfl Tryd.sizeOf35 (by decide) Is.rfl') rfl ?_
        refine X.u (LU.weak (LU.loadO 1 rfl ⟨Tryd.sizeOf35, Tryd.isAgg35⟩ Is.rfl' (Part.sub (by (simp; omega)))) (Is.of (y := .agg (vxL a.up)) (congrArg LV.agg (ac_up a)))) rfl ?_
        refine X.u (LU.fieldO Tryd.underlying52 rfl Tryd.sizeOf31 (by decide) Is.rfl') rfl ?_
        refine X.u (LU.weak (LU.loadO 1 rfl ⟨Tryd.sizeOf31, Tryd.isAgg31⟩ Is.rfl' (Part.sub (by (simp; omega)))) (Is.of (y := .agg (hsL a.by_)) (congrArg LV.agg (ac_by a)))) rfl ?_
        refine X.u (LU.call (hkill) Tryd.func51 rfl rfl (Opds.cons Is.rfl' (Opds.cons Is.rfl' (Opds.cons Is.rfl' Opds.nil)))) rfl ?_
        refine X.u (LU.extract Is.rfl' rfl) rfl ?_
        refine X.u (LU.extract Is.rfl' rfl) rfl ?_
        refine X.act (X.store 0 rfl Tryd.sizeOf59 Is.rfl' Is.rfl' (by exact Cells.agg) (by (simp; done)) (by exact Nat.le_of_ble_eq_true rfl) ?_)
        refine X.u (LU.assignR Is.rfl') rfl ?_
        refine LL.nil (after_code ?_)
        refine LW.ret (ret_blk (ret_code (after_end ?_)))
        refine X.ret (H' := []) (by exact Res.cell2 0 rfl rfl ⟨Tryd.sizeOf59, Tryd.isAgg59⟩ (Part.whole (by rfl)) (by exact IsA rfl) (by exact IsR rfl)) (by repeat (first | exact HSub.refl _ | refine HSub.drop ?_)) ?_
        exact ⟨by unfold acE acG; rw [if_neg h2, if_neg h4, if_pos h6, if_neg h2, if_neg h4, if_pos h6]; rfl, rfl⟩
      · have h6 : a.kind ≠ 2 := by simpa using h6
        have hz0 : (0 : Nat) = 0 := rfl
        refine LW.skip (after_blk (after_code ?_))
        refine LW.seq ?_
        refine LW.region ?_
        refine X.u (LU.loadO 2 rfl ⟨Tryd.sizeOf59, Tryd.isAgg59⟩ Is.rfl' (Part.whole (by (simp; done)))) rfl ?_
        refine X.u (LU.fieldO Tryd.underlying52 rfl Tryd.sizeOf35 (by decide) Is.rfl') rfl ?_
        refine X.u (LU.weak (LU.loadO 1 rfl ⟨Tryd.sizeOf35, Tryd.isAgg35⟩ Is.rfl' (Part.sub (by (simp; omega)))) (Is.of (y := .agg (vxL a.up)) (congrArg LV.agg (ac_up a)))) rfl ?_
        refine X.u (LU.fieldO Tryd.underlying52 rfl Tryd.sizeOf31 (by decide) Is.rfl') rfl ?_
        refine X.u (LU.weak (LU.loadO 1 rfl ⟨Tryd.sizeOf31, Tryd.isAgg31⟩ Is.rfl' (Part.sub (by (simp; omega)))) (Is.of (y := .agg (hsL a.by_)) (congrArg LV.agg (ac_by a)))) rfl ?_
        refine X.u (LU.call (hunk) Tryd.func52 rfl rfl (Opds.cons Is.rfl' (Opds.cons Is.rfl' (Opds.cons Is.rfl' Opds.nil)))) rfl ?_
        refine X.u (LU.extract Is.rfl' rfl) rfl ?_
        refine X.u (LU.extract Is.rfl' rfl) rfl ?_
        refine X.act (X.store 0 rfl Tryd.sizeOf59 Is.rfl' Is.rfl' (by exact Cells.agg) (by (simp; done)) (by exact Nat.le_of_ble_eq_true rfl) ?_)
        refine X.u (LU.assignR Is.rfl') rfl ?_
        refine LL.nil (after_code ?_)
        refine LW.ret (after_end ?_)
        refine X.ret (H' := []) (by exact Res.cell2 0 rfl rfl ⟨Tryd.sizeOf59, Tryd.isAgg59⟩ (Part.whole (by rfl)) (by exact IsA rfl) (by exact IsR rfl)) (by repeat (first | exact HSub.refl _ | refine HSub.drop ?_)) ?_
        exact ⟨by unfold acE acG; rw [if_neg h2, if_neg h4, if_neg h6, if_neg h2, if_neg h4, if_neg h6]; rfl, rfl⟩
theorem shown_ids {r : Rg} (ho : Ok r) : (shownG r).length = (idsG r.L).length := by
  unfold shownG
  rw [List.length_map]
  exact ((orderG_ord r).perm ho).length_eq
set_option maxHeartbeats 8000000 in
set_option maxRecDepth 100000 in
theorem stands_calls (g : Nat) (s : St) (r : Rg) (c : Nat) (hs : StR s r c) (hc : c < 900000) (a b : Vx) : LCalls Tryd.prog 26 [pt g, .agg (rgL r), .agg (vxL a), .agg (vxL b)] [gC g s.ma s.mb s.n, gA s.ma s.m, kb] (fun x H' => x = bl true ∧ H' = [gC g s.ma s.mb s.n, gA s.ma s.m, kb]) := by
  have hal := vxL_len a
  have hbl := vxL_len b
  have ha32 : a.p.1.length = 32 := a.p.2
  have hb32 : b.p.1.length = 32 := b.p.2
  have ho := hs.ok
  have hD : r.D.length < 900000 := by have := hs.dc; omega
  have hszs := ho.sizes
  have hlen := ho.len
  have hidl : ∀ a ∈ r.L, a.ids.length ≤ 512 := fun a ha => by
    have := nodup_len (ho.idsOf ha) (l := idsG r.L) fun x hx => ids_mem.2 ⟨_, ha, hx⟩
    omega
  have hne2 : ∀ a ∈ r.L, a.ids ≠ [] ∧ a.ids.length < 1000000 := fun a ha => ⟨(ho.ne a ha).1, by have := hidl a ha; omega⟩
  have hT : (allT r).length < 400000 := by
    have h2 : ∀ l : List Ad, (l.flatMap fun a => a.ids ++ [a.down]).length = (idsG l).length + l.length := fun l => by
      induction l with
      | nil => rfl
      | cons a l ih =>
        unfold idsG at ih ⊢
        rw [List.flatMap_cons, List.flatMap_cons, List.length_append, List.length_append, List.length_append, ih]
        simp only [List.length_cons, List.length_nil]
        omega
    unfold allT
    rw [List.length_cons, h2]
    omega
  have hsc := shown_calls g s.ma s.mb s.n s.m s.q r hs.rel ho hD
  have htc := text_calls g s.ma s.mb s.n s.m s.q r hs.rel ho hD
  have hcc := conflicts_calls g s.ma s.mb s.n s.m s.q r hs.rel ho hD
  have hlc := len_r g hs
  have hhc := has_r g hs a
  have ha1 := ahead_r g hs a b
  have ha2 := ahead_r g hs b a
  have hrs := rshown_calls r ho hD
  have hrc := rconfl_calls r ho hD
  have hrh := rhas_calls r a (by omega) (by omega)
  have hr1 := rahead_calls r a b (by omega) (by omega) hne2 hT
  have hr2 := rahead_calls r b a (by omega) (by omega) hne2 hT
  have hol := shown_len ho
  have hsi := shown_ids ho
  rw [← hsi] at hlc
  obtain ⟨W, hW⟩ : ∃ W, W = shownG r := ⟨_, rfl⟩
  have htx : textsG r = (livF W).map (·.text) := by unfold textsG; rw [hW]
  rw [← hW] at hsc hrs hol hlc
  rw [htx] at htc
  obtain ⟨Tx, hX⟩ : ∃ Tx, Tx = (livF W).map (·.text) := ⟨_, rfl⟩
  have hXl : Tx.length ≤ 512 := by rw [hX, List.length_map]; exact Nat.le_trans (livF_len _) hol
  have hlv := living_calls W .unk (by omega)
  rw [← hX] at htc hlv
  obtain ⟨C, hC⟩ : ∃ C, C = conflG r := ⟨_, rfl⟩
  rw [← hC] at hcc hrc
  obtain ⟨x1, hx1⟩ : ∃ x, x = hasG r a := ⟨_, rfl⟩
  rw [← hx1] at hhc hrh
  obtain ⟨x2, hx2⟩ : ∃ x, x = aheadG r a b := ⟨_, rfl⟩
  rw [← hx2] at ha1 hr1
  obtain ⟨x3, hx3⟩ : ∃ x, x = aheadG r b a := ⟨_, rfl⟩
  rw [← hx3] at ha2 hr2
  refine LCalls.of Tryd.func26 rfl Tryd.ntmps26 Tryd.results26 rfl (fun Rf => ?_)
  refine LW.seq ?_
  refine LW.region ?_
  refine X.act (X.box rfl Is.rfl' (by exact Cells.agg) (fun b5 => ?_))
  refine X.act (X.box rfl Is.rfl' (by exact Cells.agg) (fun b6 => ?_))
  refine X.act (X.box rfl Is.rfl' (by exact Cells.agg) (fun b7 => ?_))
  refine X.u (LU.assignR Is.rfl') rfl ?_
  refine LL.nil (after_code ?_)
  refine LW.seq ?_
  refine LW.region ?_
  refine X.u (LU.loadO 2 rfl ⟨Tryd.sizeOf59, Tryd.isAgg59⟩ Is.rfl' (Part.whole (by (simp; done)))) rfl ?_
  refine X.u (LU.call (hrs) Tryd.func44 rfl rfl (Opds.cons Is.rfl' Opds.nil)) rfl ?_
  refine X.u (LU.assignS Is.rfl') rfl ?_
  refine LL.nil (after_code ?_)
  refine LW.seq ?_
  refine X.wghost (H' := gC g s.ma s.mb s.n :: gA s.ma s.m :: kb :: .cells b7 35 (vxL b) :: .cells b6 35 (vxL a) :: .cells b5 59 (rgL r) :: Rf) (by repeat (first | exact HSub.refl _ | refine HSub.pick 3 rfl ?_)) ?_
  refine X.drawM 57 rfl (by kernel_rfl) rfl ?_
  refine QD.u (LU.moveR Is.rfl') rfl ?_
  refine QD.u (LU.callP (List.Perm.refl _) (hsc) Tryd.func18 rfl rfl (Opds.cons Is.rfl' Opds.nil)) rfl ?_
  refine QD.u (LU.moveS Is.rfl') rfl ?_
  refine QD.u (LU.weak (LU.call (same_calls W W .unk .unk (by omega) (by omega)) Tryd.func23 rfl rfl (Opds.cons Is.rfl' (Opds.cons Is.rfl' Opds.nil))) (Is.of (y := bl true) (congrArg bl (decide_eq_true rfl)))) rfl ?_
  refine QD.u (LU.moveR Is.rfl') rfl ?_
  refine QD.doT rfl rfl (LU.moveR (by exact Is.rfl')) rfl ?_
  refine QD.doT rfl rfl (LU.callP (List.Perm.refl _) (htc) Tryd.func13 rfl rfl (Opds.cons (by exact Is.rfl') Opds.nil)) rfl ?_
  refine QD.doT rfl rfl (LU.moveS (by exact Is.rfl')) rfl ?_
  refine QD.doT rfl rfl (LU.call (hlv) Tryd.func45 rfl rfl (Opds.cons (by exact Is.rfl') Opds.nil)) rfl ?_
  refine QD.doT rfl rfl (LU.weak (LU.call (texts_calls Tx Tx .unk .unk (by omega) (by omega)) Tryd.func12 rfl rfl (Opds.cons (by exact Is.rfl') (Opds.cons (by exact Is.rfl') Opds.nil))) (Is.of (y := bl true) (congrArg bl (decide_eq_true rfl)))) rfl ?_
  refine QD.u (LU.pickT Is.rfl' (by exact Is.rfl')) rfl ?_
  refine QD.u (LU.moveR Is.rfl') rfl ?_
  refine QD.doT rfl rfl (LU.moveR (by exact Is.rfl')) rfl ?_
  refine QD.doT rfl rfl (LU.callP (List.Perm.refl _) (hlc) Tryd.func19 rfl rfl (Opds.cons (by exact Is.rfl') Opds.nil)) rfl ?_
  refine QD.doT rfl rfl (LU.moveS (by exact Is.rfl')) rfl ?_
  refine QD.doT rfl rfl (LU.lenN Tryd.underlying45 (by exact Is.rfl') (by (simp only [Option.getD_some, Option.getD_none, byteEls_length, intEls_length, List.length_append, List.length_cons, List.length_nil, List.length_map, List.length_drop, List.length_take, Int.toNat_natCast]; rfl))) rfl ?_
  refine QD.doT rfl rfl (LU.weak (LU.eql (by exact Is.rfl') (by exact Is.rfl')) (asB (c := true) rfl (by simp))) rfl ?_
  refine QD.u (LU.pickT Is.rfl' (by exact Is.rfl')) rfl ?_
  refine QD.u (LU.moveR Is.rfl') rfl ?_
  refine QD.doT rfl rfl (LU.moveR (by exact Is.rfl')) rfl ?_
  refine QD.doT rfl rfl (LU.callP (List.Perm.refl _) (hcc) Tryd.func14 rfl rfl (Opds.cons (by exact Is.rfl') Opds.nil)) rfl ?_
  refine QD.doT rfl rfl (LU.loadO 5 rfl ⟨Tryd.sizeOf59, Tryd.isAgg59⟩ (by exact Is.rfl') (Part.whole (by (simp; done)))) rfl ?_
  refine QD.doT rfl rfl (LU.call (hrc) Tryd.func46 rfl rfl (Opds.cons (by exact Is.rfl') Opds.nil)) rfl ?_
  refine QD.doT rfl rfl (LU.weak (LU.eql (by exact Is.rfl') (by exact Is.rfl')) (asB (c := true) rfl (by simp))) rfl ?_
  refine QD.u (LU.pickT Is.rfl' (by exact Is.rfl')) rfl ?_
  refine QD.u (LU.moveR Is.rfl') rfl ?_
  refine QD.doT rfl rfl (LU.moveR (by exact Is.rfl')) rfl ?_
  refine QD.doT rfl rfl (LU.loadO 4 rfl ⟨Tryd.sizeOf35, Tryd.isAgg35⟩ (by exact Is.rfl') (Part.whole (by assumption))) rfl ?_
  refine QD.doT rfl rfl (LU.callP (List.Perm.refl _) (hhc) Tryd.func20 rfl rfl (Opds.cons (by exact Is.rfl') (Opds.cons (by exact Is.rfl') Opds.nil))) rfl ?_
  refine QD.doT rfl rfl (LU.loadO 5 rfl ⟨Tryd.sizeOf59, Tryd.isAgg59⟩ (by exact Is.rfl') (Part.whole (by (simp; done)))) rfl ?_
  refine QD.doT rfl rfl (LU.loadO 4 rfl ⟨Tryd.sizeOf35, Tryd.isAgg35⟩ (by exact Is.rfl') (Part.whole (by assumption))) rfl ?_
  refine QD.doT rfl rfl (LU.call (hrh) Tryd.func47 rfl rfl (Opds.cons (by exact Is.rfl') (Opds.cons (by exact Is.rfl') Opds.nil))) rfl ?_
  refine QD.doT rfl rfl (LU.weak (LU.booleq Tryd.underlying4 (by exact Is.rfl') (by exact Is.rfl')) (asB (c := true) rfl (by simp))) rfl ?_
  refine QD.u (LU.pickT Is.rfl' (by exact Is.rfl')) rfl ?_
  refine QD.u (LU.moveR Is.rfl') rfl ?_
  refine QD.doT rfl rfl (LU.moveR (by exact Is.rfl')) rfl ?_
  refine QD.doT rfl rfl (LU.loadO 4 rfl ⟨Tryd.sizeOf35, Tryd.isAgg35⟩ (by exact Is.rfl') (Part.whole (by assumption))) rfl ?_
  refine QD.doT rfl rfl (LU.loadO 3 rfl ⟨Tryd.sizeOf35, Tryd.isAgg35⟩ (by exact Is.rfl') (Part.whole (by assumption))) rfl ?_
  refine QD.doT rfl rfl (LU.callP (List.Perm.refl _) (ha1) Tryd.func21 rfl rfl (Opds.cons (by exact Is.rfl') (Opds.cons (by exact Is.rfl') (Opds.cons (by exact Is.rfl') Opds.nil)))) rfl ?_
  refine QD.doT rfl rfl (LU.loadO 5 rfl ⟨Tryd.sizeOf59, Tryd.isAgg59⟩ (by exact Is.rfl') (Part.whole (by (simp; done)))) rfl ?_
  refine QD.doT rfl rfl (LU.loadO 4 rfl ⟨Tryd.sizeOf35, Tryd.isAgg35⟩ (by exact Is.rfl') (Part.whole (by assumption))) rfl ?_
  refine QD.doT rfl rfl (LU.loadO 3 rfl ⟨Tryd.sizeOf35, Tryd.isAgg35⟩ (by exact Is.rfl') (Part.whole (by assumption))) rfl ?_
  refine QD.doT rfl rfl (LU.call (hr1) Tryd.func48 rfl rfl (Opds.cons (by exact Is.rfl') (Opds.cons (by exact Is.rfl') (Opds.cons (by exact Is.rfl') Opds.nil)))) rfl ?_
  refine QD.doT rfl rfl (LU.weak (LU.booleq Tryd.underlying4 (by exact Is.rfl') (by exact Is.rfl')) (asB (c := true) rfl (by simp))) rfl ?_
  refine QD.u (LU.pickT Is.rfl' (by exact Is.rfl')) rfl ?_
  refine QD.u (LU.moveR Is.rfl') rfl ?_
  refine QD.doT rfl rfl (LU.moveR (by exact Is.rfl')) rfl ?_
  refine QD.doT rfl rfl (LU.loadO 3 rfl ⟨Tryd.sizeOf35, Tryd.isAgg35⟩ (by exact Is.rfl') (Part.whole (by assumption))) rfl ?_
  refine QD.doT rfl rfl (LU.loadO 4 rfl ⟨Tryd.sizeOf35, Tryd.isAgg35⟩ (by exact Is.rfl') (Part.whole (by assumption))) rfl ?_
  refine QD.doT rfl rfl (LU.callP (List.Perm.refl _) (ha2) Tryd.func21 rfl rfl (Opds.cons (by exact Is.rfl') (Opds.cons (by exact Is.rfl') (Opds.cons (by exact Is.rfl') Opds.nil)))) rfl ?_
  refine QD.doT rfl rfl (LU.loadO 5 rfl ⟨Tryd.sizeOf59, Tryd.isAgg59⟩ (by exact Is.rfl') (Part.whole (by (simp; done)))) rfl ?_
  refine QD.doT rfl rfl (LU.loadO 3 rfl ⟨Tryd.sizeOf35, Tryd.isAgg35⟩ (by exact Is.rfl') (Part.whole (by assumption))) rfl ?_
  refine QD.doT rfl rfl (LU.loadO 4 rfl ⟨Tryd.sizeOf35, Tryd.isAgg35⟩ (by exact Is.rfl') (Part.whole (by assumption))) rfl ?_
  refine QD.doT rfl rfl (LU.call (hr2) Tryd.func48 rfl rfl (Opds.cons (by exact Is.rfl') (Opds.cons (by exact Is.rfl') (Opds.cons (by exact Is.rfl') Opds.nil)))) rfl ?_
  refine QD.doT rfl rfl (LU.weak (LU.booleq Tryd.underlying4 (by exact Is.rfl') (by exact Is.rfl')) (asB (c := true) rfl (by simp))) rfl ?_
  refine QD.u (LU.pickT Is.rfl' (by exact Is.rfl')) rfl ?_
  refine QD.u (LU.assignR Is.rfl') rfl ?_
  refine QD.nil ?_
  refine LL.nil (after_code ?_)
  refine LW.ret (after_end ?_)
  refine X.ret (H' := [gC g s.ma s.mb s.n, gA s.ma s.m, kb]) (Res.one (by exact IsR rfl)) (by repeat (first | exact HSub.refl _ | refine HSub.pick 0 rfl ?_ | refine HSub.drop ?_)) ?_
  exact ⟨rfl, rfl⟩
end Go.Proofs.YtolpkeajokjbjaaDoor
namespace Go.Proofs.YtolpkeajokjbjaaDoor
open Go.RowKit Go.L Go.Lib
attribute [local irreducible] LL LW LO LP LA
abbrev G0 : Type := { p : Nat × St // StR p.2 ⟨[], []⟩ 0 }
abbrev atW (p : G0) : List Atom := [gC p.1.1 p.1.2.ma p.1.2.mb p.1.2.n, gA p.1.2.ma p.1.2.m, gP p.1.2.mb p.1.2.q]
set_option maxHeartbeats 8000000 in
set_option maxRecDepth 100000 in
theorem plays_law (l : List Ac) (k : Cap) (hl : l.length < 140737488355328) (hf : Fit l) : LCalls Tryd.prog 6 [Acs l k] [kb] (fun r H' => r = .raw (.bool true) ∧ H' = [kb]) := by
  refine LCalls.of Tryd.func6 rfl Tryd.ntmps6 Tryd.results6 rfl (fun Rf => ?_)
  refine LW.seq ?_
  refine LW.region ?_
  refine X.u (LU.assignR Is.rfl') rfl ?_
  refine LL.nil (after_code ?_)
  refine LW.seq ?_
  refine LW.seq ?_
  refine LW.region ?_
  refine X.u (LU.moveS Is.rfl') rfl ?_
  refine X.u (LU.call (few_calls l k hl hf) Tryd.func16 rfl rfl (Opds.cons Is.rfl' Opds.nil)) rfl ?_
  refine X.u (LU.not Is.rfl') rfl ?_
  refine LL.nil (after_code ?_)
  refine X.cond rfl (fun h1 => ?_) (fun h1 => ?_)
  · try have h1 := of_decide_eq_true h1
    have hz0 : (0 : Nat) = 0 := rfl
    refine LW.seq ?_
    refine LW.region ?_
    refine X.u (LU.call1 0 rfl (lives_calls) Tryd.func15 rfl rfl Opds.nil) rfl ?_
    refine X.u (LU.assignR Is.rfl') rfl ?_
    refine LL.nil (after_code ?_)
    refine LW.ret (ret_code (after_end ?_))
    refine X.ret (H' := [kb]) (Res.one (by exact IsR rfl)) (by repeat (exact HSub.refl _)) ?_
    exact ⟨rfl, rfl⟩
  · have hw : sumW l ≤ 120 := by unfold fewB at h1; simpa using h1
    have hll : l.length ≤ sumW l := by
      have key : ∀ l : List Ac, l.length ≤ sumW l := fun l => by
        induction l with
        | nil => exact Nat.zero_le _
        | cons a l ih =>
          have : sumW (a :: l) = acW a + sumW l := by unfold sumW; simp
          have h0 : acW a = 1 + a.ids.length + a.texts.length := rfl
          rw [List.length_cons]; omega
      exact key l
    refine LW.skip (after_code ?_)
    refine LW.seq ?_
    refine LW.region ?_
    refine X.act (X.call (new_r) Tryd.func9 rfl rfl rfl (by (refine HSub.pick 0 rfl ?_); exact HSub.refl _) Opds.nil ?_)
    rintro r H' ⟨g, s0, rfl, rfl, hs0⟩
    refine X.u (LU.weak (LU.build (places := #[(0, 1), (1, 1)]) Tryd.underlying59 Tryd.zeroValue59 (ones rfl) (by intro w; simp [Tryd.sizeOf56, Tryd.sizeOf57]) Parts.nil rfl) (Is.of (y := .agg [.raw (.slice none 0 0), .raw (.slice none 0 0)]) (rfl))) rfl ?_
    refine X.act (X.alloc rfl Tryd.zeroValue59 (by exact Cells.rawagg (by decide)) (fun b4 => ?_))
    refine X.u (LU.assignR Is.rfl') rfl ?_
    refine X.act (X.store 0 rfl Tryd.sizeOf59 Is.rfl' Is.rfl' (by exact Cells.agg) (by (simp; done)) (by exact Nat.le_of_ble_eq_true rfl) ?_)
    refine LL.nil (after_code ?_)
    refine LW.seq ?_
    refine X.wghost (H' := .cells b4 59 (rgL ⟨[], []⟩) :: gC g s0.ma s0.mb s0.n :: gA s0.ma s0.m :: gP s0.mb s0.q :: kb :: Rf) (HSub.trans (B := .cells b4 59 [.raw (.slice none 0 0), .raw (.slice none 0 0)] :: gC g s0.ma s0.mb s0.n :: gA s0.ma s0.m :: gP s0.mb s0.q :: kb :: Rf) (by repeat (exact HSub.refl _)) (HSub.trans (HSub.cell 0 rfl ((Is.nil 68).trans Is.unk)) (HSub.cell 1 rfl ((Is.nil 65).trans Is.unk)))) ?_
    refine X.wghost (H' := gC g s0.ma s0.mb s0.n :: gA s0.ma s0.m :: gP s0.mb s0.q :: kb :: .cells b4 59 (rgL ⟨[], []⟩) :: Rf) (by repeat (first | exact HSub.refl _ | refine HSub.pick 1 rfl ?_)) ?_
    refine LW.invM (m := 5) (γ := G0 × Nat × G0) [(0, 17), (1, 18), (2, 19), (3, 6), (4, 5)] (fun g_ d => match g_ with | ⟨p, b_, z⟩ => match d with | 17 => pt g | 18 => pt p.1.1 | 19 => .agg (rgL ⟨[], []⟩) | 6 => pt b_ | 5 => pt z.1.1 | _ => .any) (fun g_ f => match g_ with | ⟨p, b_, z⟩ => .cells b4 59 (rgL ⟨[], []⟩) :: cond (f 3) (.cells b_ 59 [.raw (.slice none 0 0), .raw (.slice none 0 0)]) (.tail 0 0 0) :: (cond (f 1) (atW (cond (f 4) z p)) [] ++ (gC g s0.ma s0.mb s0.n :: gA s0.ma s0.m :: gP s0.mb s0.q :: kb :: Rf))) (⟨(0, s0), hs0⟩, 0, ⟨(0, s0), hs0⟩) rfl (by kernel_rfl) rfl rfl ((HSub.trans (HSub.tail0 0 0 0 (Nat.le_refl _) _) (by repeat (first | exact HSub.refl _ | refine HSub.pick 5 rfl ?_)))) ?_ ?_
    · intro i hi f g_ hfi hdir hdown
      obtain ⟨p, b_, z⟩ := g_
      have hc : i = 0 ∨ i = 1 ∨ i = 2 ∨ i = 3 ∨ i = 4 := by omega
      rcases hc with rfl | rfl | rfl | rfl | rfl
      · refine ⟨_, rfl, ?_⟩
        refine A.u (LU.moveR Is.rfl') rfl ?_
        refine ⟨⟨p, b_, z⟩, Weaker.mk' ?_ (HSub.refl _)⟩
        refine env_back0 (envS_hit (sl := [(0, 17), (1, 18), (2, 19), (3, 6), (4, 5)]) (j := 0) (d := 17) rfl (fun _ _ h => h))  (envS_next ?_)
        · intro p hp hne; simp only [List.mem_cons, List.not_mem_nil, or_false] at hp; rcases hp with rfl | rfl | rfl | rfl | rfl <;> first | exact absurd rfl hne | exact ⟨rfl, rfl⟩
      · have d0 := hdir 0 (List.mem_of_elem_eq_true (by kernel_rfl))
        refine ⟨_, rfl, ?_⟩
        have k4 : f 4 = false := Bool.eq_false_iff.2 (fun h => by rw [hdown 4 (by omega) h 1 (List.mem_of_elem_eq_true (by kernel_rfl))] at hfi; cases hfi)
        refine LP.ghost (H' := gC g s0.ma s0.mb s0.n :: gA s0.ma s0.m :: gP s0.mb s0.q :: cond (f 3) (.cells b_ 59 [.raw (.slice none 0 0), .raw (.slice none 0 0)]) (.tail 0 0 0) :: kb :: .cells b4 59 (rgL ⟨[], []⟩) :: Rf) (by show L.HSub (_ :: _ :: (cond (f 1) _ _ ++ _)) _; rw [hfi]; exact (by repeat (first | exact HSub.refl _ | refine HSub.pick 1 rfl ?_ | refine HSub.pick 2 rfl ?_))) ?_
        refine LP.weak (t := 17) (v := pt g) (envS_is (j := 0) rfl d0) ?_
        refine A.act (X.call (clone_r g hs0) Tryd.func25 rfl rfl rfl (HSub.refl _) (Opds.cons Is.rfl' Opds.nil) ?_)
        rintro r H' ⟨g2, s2, rfl, rfl, hs2⟩
        refine ⟨(⟨(g2, s2), hs2⟩, b_, z), Weaker.mk' ?_ (by show L.HSub _ (_ :: cond (f 3) _ _ :: (cond true (atW (cond (f 4) z ⟨(g2, s2), hs2⟩)) _ ++ _)); rw [k4]; exact (by repeat (first | exact HSub.refl _ | refine HSub.pick 3 rfl ?_ | refine HSub.pick 6 rfl ?_ | refine HSub.pick 8 rfl ?_)))⟩
        refine env_back1 (envS_hit (sl := [(0, 17), (1, 18), (2, 19), (3, 6), (4, 5)]) (j := 1) (d := 18) rfl (fun _ _ h => h)) (envS_hit (sl := [(0, 17), (1, 18), (2, 19), (3, 6), (4, 5)]) (j := 0) (d := 17) rfl (fun _ _ h => h)) (envS_next ?_)
        · intro p hp hne; simp only [List.mem_cons, List.not_mem_nil, or_false] at hp; rcases hp with rfl | rfl | rfl | rfl | rfl <;> first | exact absurd rfl hne | exact ⟨rfl, rfl⟩
      · refine ⟨_, rfl, ?_⟩
        refine A.u (LU.loadO 0 rfl ⟨Tryd.sizeOf59, Tryd.isAgg59⟩ Is.rfl' (Part.whole (by (simp; done)))) rfl ?_
        refine ⟨⟨p, b_, z⟩, Weaker.mk' ?_ (HSub.refl _)⟩
        refine env_back0 (envS_hit (sl := [(0, 17), (1, 18), (2, 19), (3, 6), (4, 5)]) (j := 2) (d := 19) rfl (fun _ _ h => h))  (envS_next ?_)
        · intro p hp hne; simp only [List.mem_cons, List.not_mem_nil, or_false] at hp; rcases hp with rfl | rfl | rfl | rfl | rfl <;> first | exact absurd rfl hne | exact ⟨rfl, rfl⟩
      · refine ⟨_, rfl, ?_⟩
        refine LP.ghost (H' := .cells b4 59 (rgL ⟨[], []⟩) :: (cond (f 1) (atW (cond (f 4) z p)) [] ++ (gC g s0.ma s0.mb s0.n :: gA s0.ma s0.m :: gP s0.mb s0.q :: kb :: Rf))) (by show L.HSub (_ :: cond (f 3) _ _ :: _) _; rw [hfi]; exact HSub.cons (HSub.drop (HSub.refl _))) ?_
        refine A.act (X.alloc rfl Tryd.zeroValue59 (by exact Cells.rawagg (by decide)) (fun b6 => ?_))
        refine ⟨(p, b6, z), Weaker.mk' ?_ (by show L.HSub _ (_ :: cond true _ _ :: _); exact HSub.pick 1 rfl (HSub.refl _))⟩
        refine env_back0 (envS_hit (sl := [(0, 17), (1, 18), (2, 19), (3, 6), (4, 5)]) (j := 3) (d := 6) rfl (fun _ _ h => h))  (envS_next ?_)
        · intro p hp hne; simp only [List.mem_cons, List.not_mem_nil, or_false] at hp; rcases hp with rfl | rfl | rfl | rfl | rfl <;> first | exact absurd rfl hne | exact ⟨rfl, rfl⟩
      · have d0 := hdir 0 (List.mem_of_elem_eq_true (by kernel_rfl))
        have d1 := hdir 1 (List.mem_of_elem_eq_true (by kernel_rfl))
        have d3 := hdir 3 (List.mem_of_elem_eq_true (by kernel_rfl))
        refine ⟨_, rfl, ?_⟩
        refine LP.weak (t := 18) (v := pt p.1.1) (envS_is (j := 1) rfl d1) ?_
        refine A.u (LU.assignR Is.rfl') rfl ?_
        refine ⟨(p, b_, p), Weaker.mk' ?_ (by show L.HSub (_ :: _ :: (cond (f 1) (atW (cond (f 4) z p)) [] ++ _)) (_ :: _ :: (cond (f 1) (atW (cond true p p)) [] ++ _)); rw [hfi]; exact HSub.refl _)⟩
        refine env_back1 (envS_hit (sl := [(0, 17), (1, 18), (2, 19), (3, 6), (4, 5)]) (j := 4) (d := 5) rfl (fun _ _ h => h)) (envS_hit (sl := [(0, 17), (1, 18), (2, 19), (3, 6), (4, 5)]) (j := 1) (d := 18) rfl (fun _ _ h => h)) (envS_next ?_)
        · intro p hp hne; simp only [List.mem_cons, List.not_mem_nil, or_false] at hp; rcases hp with rfl | rfl | rfl | rfl | rfl <;> first | exact absurd rfl hne | exact ⟨rfl, rfl⟩
    · intro g_ f hf_
      obtain ⟨p, b_, z⟩ := g_
      refine X.ghost (H' := .cells b_ 59 [.raw (.slice none 0 0), .raw (.slice none 0 0)] :: gC z.1.1 z.1.2.ma z.1.2.mb z.1.2.n :: gA z.1.2.ma z.1.2.m :: gP z.1.2.mb z.1.2.q :: gC g s0.ma s0.mb s0.n :: gA s0.ma s0.m :: gP s0.mb s0.q :: kb :: .cells b4 59 (rgL ⟨[], []⟩) :: Rf) (by show L.HSub (_ :: cond (f 3) _ _ :: (cond (f 1) (atW (cond (f 4) z p)) _ ++ _)) _; rw [hf_ 3 (by omega), hf_ 1 (by omega), hf_ 4 (by omega)]; exact (by repeat (first | exact HSub.refl _ | refine HSub.pick 1 rfl ?_))) ?_
      refine X.act (X.store 0 rfl Tryd.sizeOf59 Is.rfl' Is.rfl' (by exact Cells.agg) (by (simp; done)) (by (simp; done)) ?_)
      refine LL.nil (after_code ?_)
      refine LW.seq ?_
      refine LW.seq ?_
      refine LW.region ?_
      refine X.u (LU.moveR Is.rfl') rfl ?_
      refine X.u (LU.nilEqS Tryd.underlying23 Is.rfl' Is.rfl') rfl ?_
      refine X.u (LU.moveR Is.rfl') rfl ?_
      refine X.doF rfl rfl (LU.moveR (by exact Is.rfl')) rfl ?_
      refine X.doF rfl rfl (LU.nilEqS Tryd.underlying23 (by exact Is.rfl') (by exact Is.rfl')) rfl ?_
      refine X.u (LU.pickF Is.rfl' (by exact Is.rfl')) rfl ?_
      refine LL.nil (after_code ?_)
      refine X.condF rfl ?_ ?_
      · rfl
      refine LW.skip (after_code ?_)
      refine LW.seq ?_
      refine LW.seq ?_
      refine X.wghost (H' := gC g s0.ma s0.mb s0.n :: gA s0.ma s0.m :: gP s0.mb s0.q :: kb :: .cells b4 59 (rgL ⟨[], []⟩) :: gC z.1.1 z.1.2.ma z.1.2.mb z.1.2.n :: gA z.1.2.ma z.1.2.m :: gP z.1.2.mb z.1.2.q :: .cells b_ 59 (rgL ⟨[], []⟩) :: Rf) (by repeat (first | exact HSub.refl _ | refine HSub.pick 1 rfl ?_ | refine HSub.pick 4 rfl ?_)) ?_
      refine LW.region ?_
      refine X.u (LU.moveS Is.rfl') rfl ?_
      refine X.u (LU.lenN Tryd.underlying42 Is.rfl' (by (simp only [Option.getD_some, Option.getD_none, byteEls_length, intEls_length, List.length_append, List.length_cons, List.length_nil, List.length_map, List.length_drop, List.length_take, Int.toNat_natCast]; rfl))) rfl ?_
      refine X.u (LU.moveR Is.rfl') rfl ?_
      refine LL.nil (after_code ?_)
      refine LW.block ?_
      refine X.loopK (α := Nat × Nat × St × Rg × Nat × St × Rg) (fun ⟨i, h, s, r, h2, t, w⟩ => [(28, i64 i), (3, pt h), (5, pt h2)]) [4, 6, 26, 27] (fun ⟨i, h, s, r, h2, t, w⟩ => gC h s.ma s.mb s.n :: gA s.ma s.m :: gP s.mb s.q :: gC h2 t.ma t.mb t.n :: gA t.ma t.m :: gP t.mb t.q :: kb :: .cells b4 59 (rgL r) :: .cells b_ 59 (rgL w) :: Rf) (fun ⟨i, h, s, r, h2, t, w⟩ => i ≤ l.length ∧ StR s r i ∧ StR t w i) (fun ⟨i, h, s, r, h2, t, w⟩ => l.length - i) ((0, g, s0, ⟨[], []⟩, z.1.1, z.1.2, ⟨[], []⟩)) (EnvLe.cons (by rfl) (EnvLe.cons (by rfl) (EnvLe.cons (by rfl) (EnvLe.nil)))) (by repeat (first | exact HSub.refl _ | refine HSub.pick 0 rfl ?_ | refine HSub.pick 2 rfl ?_)) ?_ ?_
      · exact ⟨Nat.zero_le _, hs0, z.2⟩
      · rintro ⟨i, h, s, r, h2, t, w⟩ hI
        obtain ⟨hi, hs, ht⟩ := hI
        refine LW.seq ?_
        refine LW.region ?_
        refine X.u (LU.lss Is.rfl' Is.rfl') rfl ?_
        refine LL.nil (after_code ?_)
        refine LW.seq ?_
        refine X.cond rfl (fun h8 => ?_) (fun h8 => ?_)
        · try have h8 := of_decide_eq_true h8
          refine LW.skip (after_code ?_)
          refine LW.seq ?_
          refine LW.block ?_
          refine LW.seq ?_
          obtain ⟨a, ha⟩ := at_lt (show i < l.length by omega)
          have hal := ac_len a
          have hau := a.up.p.2
          have had := a.down.p.2
          have hab := a.by_.2
          have hws := sumW_at ha
          have hw0 : acW a = 1 + a.ids.length + a.texts.length := rfl
          have hdo := do_calls h s _ i a hs (by omega) (by omega) (by omega)
          have hmo := model_calls r hs.ok (by have := hs.dc; omega) a (by omega) (by omega)
          have hst := stands_calls h2 t w i ht (by omega) a.up a.down
          refine LW.region ?_
          refine X.u (LU.at Tryd.underlying42 ⟨Tryd.sizeOf52, Tryd.isAgg52⟩ Is.rfl' Is.rfl' (by omega) (acs_at ha) (ac_ne a)) rfl ?_
          refine X.u (LU.weak (LU.load ⟨Tryd.sizeOf52, Tryd.isAgg52⟩ Is.rfl' (by assumption) (Part.whole (by assumption))) (Is.of (y := .agg (acL a)) (rfl))) rfl ?_
          refine X.act (X.alloc rfl Tryd.zeroValue52 (by exact Cells.rawagg (by decide)) (fun b8 => ?_))
          refine X.act (X.store 0 rfl Tryd.sizeOf52 Is.rfl' Is.rfl' (by exact Cells.agg) (by assumption) (by exact Nat.le_of_ble_eq_true rfl) ?_)
          refine LL.nil (after_code ?_)
          refine LW.seq ?_
          refine LW.seq ?_
          refine X.wcells (ys := acL a) (putAt_all (by rw [hal]; rfl)) ?_
          refine X.wghost (H' := gC h s.ma s.mb s.n :: gA s.ma s.m :: gP s.mb s.q :: gC h2 t.ma t.mb t.n :: gA t.ma t.m :: gP t.mb t.q :: kb :: .cells b4 59 (rgL r) :: .cells b_ 59 (rgL w) :: .cells b8 52 (acL a) :: Rf) (by repeat (first | exact HSub.refl _ | refine HSub.pick 1 rfl ?_)) ?_
          refine LW.region ?_
          refine X.u (LU.fieldO Tryd.underlying52 rfl Tryd.sizeOf3 (by decide) Is.rfl') rfl ?_
          refine X.u (LU.loadO 9 rfl ⟨Tryd.sizeOf3, Tryd.isAgg3⟩ Is.rfl' (Part.one (ac_kind a))) rfl ?_
          refine X.u (LU.eql Is.rfl' Is.rfl') rfl ?_
          refine LL.nil (after_code ?_)
          refine X.cond rfl (fun h10 => ?_) (fun h10 => ?_)
          · have h10 : a.kind = 4 := by simpa using h10
            have hz0 : (0 : Nat) = 0 := rfl
            refine LW.seq ?_
            refine LW.seq ?_
            refine LW.region ?_
            refine X.u (LU.moveR Is.rfl') rfl ?_
            refine X.u (LU.loadO 8 rfl ⟨Tryd.sizeOf59, Tryd.isAgg59⟩ Is.rfl' (Part.whole (by (simp; done)))) rfl ?_
            refine X.u (LU.fieldO Tryd.underlying52 rfl Tryd.sizeOf35 (by decide) Is.rfl') rfl ?_
            refine X.u (LU.weak (LU.loadO 9 rfl ⟨Tryd.sizeOf35, Tryd.isAgg35⟩ Is.rfl' (Part.sub (by (simp; omega)))) (Is.of (y := .agg (vxL a.up)) (congrArg LV.agg (ac_up a)))) rfl ?_
            refine X.u (LU.fieldO Tryd.underlying52 rfl Tryd.sizeOf35 (by decide) Is.rfl') rfl ?_
            refine X.u (LU.weak (LU.loadO 9 rfl ⟨Tryd.sizeOf35, Tryd.isAgg35⟩ Is.rfl' (Part.sub (by (simp; omega)))) (Is.of (y := .agg (vxL a.down)) (congrArg LV.agg (ac_down a)))) rfl ?_
            refine X.u (LU.callP (show List.Perm _ ([gC h2 t.ma t.mb t.n, gA t.ma t.m, kb] ++ (gC h s.ma s.mb s.n :: gA s.ma s.m :: gP s.mb s.q :: gP t.mb t.q :: .cells b4 59 (rgL r) :: .cells b_ 59 (rgL w) :: .cells b8 52 (acL a) :: Rf)) from perm_of fun x => (by simp only [List.count_append, List.count_cons, List.count_nil]; omega)) (hst) Tryd.func26 rfl rfl (Opds.cons Is.rfl' (Opds.cons Is.rfl' (Opds.cons Is.rfl' (Opds.cons Is.rfl' Opds.nil))))) rfl ?_
            refine X.u (LU.not Is.rfl') rfl ?_
            refine LL.nil (after_code ?_)
            refine X.condF rfl ?_ ?_
            · rfl
            refine LW.skip (after_code ?_)
            refine LW.seq ?_
            refine X.drawM 3 rfl (by kernel_rfl) rfl ?_
            refine QD.u (LU.moveR Is.rfl') rfl ?_
            refine QD.u (LU.loadO 7 rfl ⟨Tryd.sizeOf59, Tryd.isAgg59⟩ Is.rfl' (Part.whole (by (simp; done)))) rfl ?_
            refine QD.u (LU.assignR Is.rfl') rfl ?_
            refine QD.nil ?_
            refine X.act (X.store 8 rfl Tryd.sizeOf59 Is.rfl' Is.rfl' (by exact Cells.agg) (by (simp; done)) (by (simp; done)) ?_)
            refine LL.nil (after_code ?_)
            refine LW.seq ?_
            refine X.wghost (H' := gC h s.ma s.mb s.n :: gA s.ma s.m :: gP s.mb s.q :: gC h2 t.ma t.mb t.n :: gA t.ma t.m :: gP t.mb t.q :: kb :: .cells b4 59 (rgL r) :: .cells b_ 59 (rgL r) :: Rf) (by repeat (first | exact HSub.refl _ | refine HSub.pick 0 rfl ?_ | refine HSub.pick 1 rfl ?_ | refine HSub.drop ?_)) ?_
            refine LW.region ?_
            refine X.u (LU.moveR Is.rfl') rfl ?_
            refine X.act (X.call (clone_r h hs) Tryd.func25 rfl rfl rfl (HSub.refl _) (Opds.cons Is.rfl' Opds.nil) ?_)
            rintro r H' ⟨h3, s3, rfl, rfl, hs3⟩
            refine X.u (LU.assignR Is.rfl') rfl ?_
            refine LL.nil (after_code ?_)
            refine LW.exit (exit_code (exit_blk (after_code ?_)))
            refine LW.region ?_
            refine X.u (LU.addN Is.rfl' Is.rfl' (wrap_i64 (by omega) (by omega))) rfl ?_
            refine X.u (LU.moveR Is.rfl') rfl ?_
            refine LL.nil (after_rnd ?_)
            refine X.next ((i + 1, h3, s3, r, h, s, r)) rfl (EnvLe.cons (by rfl) (EnvLe.cons (by rfl) (EnvLe.cons (by rfl) (EnvLe.nil)))) (Keeps.cons (by exact Eq.trans (b := .raw _) rfl rfl) (Keeps.cons (by exact Eq.trans (b := .raw _) rfl rfl) (Keeps.cons (by exact Eq.trans (b := .sl _ _ _) rfl rfl) (Keeps.cons (by exact Eq.trans (b := .raw _) rfl rfl) (Keeps.nil))))) (by repeat (first | exact HSub.refl _ | refine HSub.pick 0 rfl ?_ | refine HSub.pick 3 rfl ?_ | refine HSub.drop ?_)) ?_ ?_
            · exact ⟨by omega, hs3.mono (by omega), hs.mono (by omega)⟩
            · (simp; omega)
          · have h10 : a.kind ≠ 4 := by simpa using h10
            refine X.wghost (H' := gC h s.ma s.mb s.n :: gA s.ma s.m :: gP s.mb s.q :: kb :: gC h2 t.ma t.mb t.n :: gA t.ma t.m :: gP t.mb t.q :: .cells b4 59 (rgL r) :: .cells b_ 59 (rgL w) :: .cells b8 52 (acL a) :: Rf) (by repeat (first | exact HSub.refl _ | refine HSub.pick 0 rfl ?_ | refine HSub.pick 3 rfl ?_)) ?_
            refine LW.skip (after_code ?_)
            refine LW.seq ?_
            refine LW.region ?_
            refine X.u (LU.assignR Is.rfl') rfl ?_
            refine LL.nil (after_code ?_)
            refine LW.seq ?_
            refine LW.region ?_
            refine X.u (LU.moveR Is.rfl') rfl ?_
            refine X.u (LU.weak (LU.loadO 9 rfl ⟨Tryd.sizeOf52, Tryd.isAgg52⟩ Is.rfl' (Part.whole (by assumption))) (Is.of (y := .agg (acL a)) (rfl))) rfl ?_
            refine X.act (X.call (hdo) Tryd.func27 rfl rfl rfl (by (refine HSub.pick 0 rfl ?_); (refine HSub.pick 0 rfl ?_); (refine HSub.pick 0 rfl ?_); (refine HSub.pick 0 rfl ?_); exact HSub.refl _) (Opds.cons Is.rfl' (Opds.cons Is.rfl' Opds.nil)) ?_)
            rintro r H' ⟨rfl, s', rfl, hs'⟩
            refine X.u (LU.assignR Is.rfl') rfl ?_
            refine LL.nil (after_code ?_)
            refine LW.seq ?_
            refine LW.region ?_
            refine X.u (LU.loadO 7 rfl ⟨Tryd.sizeOf59, Tryd.isAgg59⟩ Is.rfl' (Part.whole (by (simp; done)))) rfl ?_
            refine X.u (LU.loadO 9 rfl ⟨Tryd.sizeOf52, Tryd.isAgg52⟩ Is.rfl' (Part.whole (by assumption))) rfl ?_
            refine X.u (LU.call (hmo) Tryd.func28 rfl rfl (Opds.cons Is.rfl' (Opds.cons Is.rfl' Opds.nil))) rfl ?_
            refine X.u (LU.moveT Is.rfl') rfl ?_
            refine X.u (LU.extract Is.rfl' rfl) rfl ?_
            refine X.u (LU.extract Is.rfl' rfl) rfl ?_
            refine X.act (X.store 7 rfl Tryd.sizeOf59 Is.rfl' Is.rfl' (by exact Cells.agg) (by (simp; done)) (by (simp; done)) ?_)
            refine X.u (LU.assignR Is.rfl') rfl ?_
            refine LL.nil (after_code ?_)
            refine LW.seq ?_
            have hst2 := stands_calls h s' (acG r a) (i + 1) hs' (by omega) a.up a.down
            refine X.wghost (H' := gC h s'.ma s'.mb s'.n :: gA s'.ma s'.m :: kb :: gP s'.mb s'.q :: gC h2 t.ma t.mb t.n :: gA t.ma t.m :: gP t.mb t.q :: .cells b4 59 (rgL (acG r a)) :: .cells b_ 59 (rgL w) :: .cells b8 52 (acL a) :: Rf) (by repeat (first | exact HSub.refl _ | refine HSub.pick 1 rfl ?_ | refine HSub.pick 2 rfl ?_)) ?_
            refine LW.region ?_
            refine X.u (LU.moveR Is.rfl') rfl ?_
            refine X.u (LU.moveR Is.rfl') rfl ?_
            refine X.u (LU.weak (LU.neq Is.rfl' Is.rfl') (asB (c := false) rfl (by simp))) rfl ?_
            refine X.u (LU.moveR Is.rfl') rfl ?_
            refine X.doF rfl rfl (LU.moveR (by exact Is.rfl')) rfl ?_
            refine X.doF rfl rfl (LU.loadO 7 rfl ⟨Tryd.sizeOf59, Tryd.isAgg59⟩ (by exact Is.rfl') (Part.whole (by (simp; done)))) rfl ?_
            refine X.doF rfl rfl (LU.fieldO Tryd.underlying52 rfl Tryd.sizeOf35 (by decide) (by exact Is.rfl')) rfl ?_
            refine X.doF rfl rfl (LU.weak (LU.loadO 9 rfl ⟨Tryd.sizeOf35, Tryd.isAgg35⟩ (by exact Is.rfl') (Part.sub (by (simp; omega)))) (Is.of (y := .agg (vxL a.up)) (congrArg LV.agg (ac_up a)))) rfl ?_
            refine X.doF rfl rfl (LU.fieldO Tryd.underlying52 rfl Tryd.sizeOf35 (by decide) (by exact Is.rfl')) rfl ?_
            refine X.doF rfl rfl (LU.weak (LU.loadO 9 rfl ⟨Tryd.sizeOf35, Tryd.isAgg35⟩ (by exact Is.rfl') (Part.sub (by (simp; omega)))) (Is.of (y := .agg (vxL a.down)) (congrArg LV.agg (ac_down a)))) rfl ?_
            refine X.doF rfl rfl (LU.callP (List.Perm.refl _) (hst2) Tryd.func26 rfl rfl (Opds.cons (by exact Is.rfl') (Opds.cons (by exact Is.rfl') (Opds.cons (by exact Is.rfl') (Opds.cons (by exact Is.rfl') Opds.nil))))) rfl ?_
            refine X.doF rfl rfl (LU.not (by exact Is.rfl')) rfl ?_
            refine X.u (LU.pickF Is.rfl' (by exact Is.rfl')) rfl ?_
            refine LL.nil (after_code ?_)
            refine X.condF rfl ?_ ?_
            · rfl
            refine LW.skip (after_blk (after_code ?_))
            refine LW.region ?_
            refine X.u (LU.addN Is.rfl' Is.rfl' (wrap_i64 (by omega) (by omega))) rfl ?_
            refine X.u (LU.moveR Is.rfl') rfl ?_
            refine LL.nil (after_rnd ?_)
            refine X.next ((i + 1, h, s', acG r a, h2, t, w)) rfl (EnvLe.cons (by rfl) (EnvLe.cons (by rfl) (EnvLe.cons (by rfl) (EnvLe.nil)))) (Keeps.cons (by exact Eq.trans (b := .raw _) rfl rfl) (Keeps.cons (by exact Eq.trans (b := .raw _) rfl rfl) (Keeps.cons (by exact Eq.trans (b := .sl _ _ _) rfl rfl) (Keeps.cons (by exact Eq.trans (b := .raw _) rfl rfl) (Keeps.nil))))) (by repeat (first | exact HSub.refl _ | refine HSub.pick 0 rfl ?_ | refine HSub.pick 1 rfl ?_ | refine HSub.drop ?_)) ?_ ?_
            · exact ⟨by omega, hs', ht.mono (by omega)⟩
            · (simp; omega)
        · try have h8 := of_decide_eq_false h8
          refine LW.exit (exit_code (exit_rnd (exit_blk (after_code ?_))))
          refine LW.seq ?_
          have hst := stands_calls h2 t w i ht (by omega) topV botV
          refine X.wghost (H' := gC h2 t.ma t.mb t.n :: gA t.ma t.m :: kb :: gP t.mb t.q :: gC h s.ma s.mb s.n :: gA s.ma s.m :: gP s.mb s.q :: .cells b4 59 (rgL r) :: .cells b_ 59 (rgL w) :: Rf) (by repeat (first | exact HSub.refl _ | refine HSub.pick 3 rfl ?_ | refine HSub.pick 4 rfl ?_)) ?_
          refine LW.region ?_
          refine X.u (LU.moveR Is.rfl') rfl ?_
          refine X.u (LU.loadO 8 rfl ⟨Tryd.sizeOf59, Tryd.isAgg59⟩ Is.rfl' (Part.whole (by (simp; done)))) rfl ?_
          refine X.u (LU.weak (LU.build (places := #[(0, 32), (32, 1)]) Tryd.underlying35 Tryd.zeroValue35 (ones rfl) (by intro w; simp [Tryd.sizeOf3, Tryd.sizeOf31]) Parts.nil rfl) (Is.of (y := .agg (vxL topV)) (rfl))) rfl ?_
          refine X.u (LU.weak (LU.build (places := #[(0, 32), (32, 1)]) Tryd.underlying35 Tryd.zeroValue35 (ones rfl) (by intro w; simp [Tryd.sizeOf3, Tryd.sizeOf31]) (Parts.cons Is.rfl' (by exact Cells.raw rfl) Parts.nil) rfl) (Is.of (y := .agg (vxL botV)) (rfl))) rfl ?_
          refine X.u (LU.callP (List.Perm.refl _) (hst) Tryd.func26 rfl rfl (Opds.cons Is.rfl' (Opds.cons Is.rfl' (Opds.cons Is.rfl' (Opds.cons Is.rfl' Opds.nil))))) rfl ?_
          refine X.u (LU.moveR Is.rfl') rfl ?_
          refine X.doT rfl rfl (LU.call1 2 rfl (lives_calls) Tryd.func15 rfl rfl Opds.nil) rfl ?_
          refine X.u (LU.pickT Is.rfl' (by exact Is.rfl')) rfl ?_
          refine X.u (LU.assignR Is.rfl') rfl ?_
          refine LL.nil (after_code ?_)
          refine LW.ret (after_end ?_)
          refine X.ret (H' := [kb]) (Res.one (by exact IsR rfl)) (by repeat (first | exact HSub.refl _ | refine HSub.pick 2 rfl ?_ | refine HSub.drop ?_)) ?_
          exact ⟨rfl, rfl⟩
theorem LinesPlays_row (x0 : List (List LV)) (h0 : ∀ c ∈ x0, QAct c) (h1 : x0.length * 168 ≤ reachBytes) : LCalls Tryd.prog 6 [.sl 101 x0 .unk] [kb] (fun r H' => r = .raw (.bool true) ∧ H' = [kb]) := by
  obtain ⟨l, rfl, hl⟩ := acs_of h0
  have := reach_lt
  rw [List.length_map] at h1
  exact plays_law l .unk (by omega) hl
end Go.Proofs.YtolpkeajokjbjaaDoor
